import Derived.Test.YtgjbdcalmodhpaaCu8
namespace Go.Proofs.Ytgjbdcalmodhpaa
set_option linter.unusedSimpArgs false
set_option linter.unusedVariables false
open Go.RowKit

set_option maxRecDepth 100000 in
set_option maxHeartbeats 600000 in
theorem c_passage (b : Nat) (A : Option Addr) (cs : List Int) (cap : Nat) (m : Int) (z : Int) (w : World) (hcu : CurS w b A cs cap m) (hby : Bytes cs) (hm : 0 ≤ m ∧ m ≤ 800000000) (hl : cs.length ≤ 1000000000) (hz : 0 ≤ z ∧ z ≤ 200) :
    Calls Try.prog 78 #[.pointer (some ⟨b, 0, none⟩), .int .i64 z] w fun e w' => (∃ (pi : Int) (pd : Bool) (pa pb : Int), e = .returned (.agg #[.int .i64 pi, .bool pd, .int .i64 pa, .int .i64 pb])) ∧ CurS w' b A cs cap (m + 6) ∧ w.grownBy w' (some b) := by
  have hlt0 := hcu.lt
  go_enter Try.func78, Try.ntmps78
  go_wp2_with (fail)
  refine (c_pick b A cs cap (m) (60) _ (by repeat' (first | exact CurS.mono hcu (by omega) | refine CurS.setc ?_ ?_ | refine CurS.allo ?_ | refine CurS.drw ?_ | (simp; done) | (simp at *; omega) | omega)) hby (by omega) hl (by omega)).mono ?_
  rintro e W1 ⟨x1, rfl, hx1a, hx1b, hcu1, hg1⟩
  have hc1 := cellRow hg1
  have hf1 := frozRow hg1
  have hz1 := hg1.size
  have hlt1 := hcu1.lt
  try simp at hz1
  go_wp2_with (fail)
  refine (c_one b A cs cap (m + 1) 2 _ (by repeat' (first | exact CurS.mono hcu1 (by omega) | refine CurS.setc ?_ ?_ | refine CurS.allo ?_ | refine CurS.drw ?_ | (simp; done) | (simp at *; omega) | omega)) hby (by omega) hl (by omega)).mono ?_
  rintro e W2 ⟨y2, rfl,  hcu2, hg2⟩
  have hc2 := cellRow hg2
  have hf2 := frozRow hg2
  have hz2 := hg2.size
  have hlt2 := hcu2.lt
  try simp at hz2
  go_wp2_with (fail)
  refine (c_among b A cs cap (m + 2) _ ([1, 5, 10, 20] : List Int) _ (1) (20) _ (by repeat' (first | exact CurS.mono hcu2 (by omega) | refine CurS.setc ?_ ?_ | refine CurS.allo ?_ | refine CurS.drw ?_ | (simp; done) | (simp at *; omega) | omega)) hby (by omega) hl (Rds.of_lit (by simp) (by intro i x h; rcases i with _ | _ | _ | _ | i <;> simp at h ⊢ <;> first | exact h | omega)) (by simp) (by intro a ha; cases ha; simp; omega) (fun k hk => (show ∀ x ∈ ([1, 5, 10, 20] : List Int), 1 ≤ x ∧ x ≤ 20 by intro x hx; simp at hx; omega) _ (List.getElem_mem hk))).mono ?_
  rintro e W3 ⟨x3, rfl, hx3a, hx3b, hcu3, hg3⟩
  have hc3 := cellRow hg3
  have hf3 := frozRow hg3
  have hz3 := hg3.size
  have hlt3 := hcu3.lt
  try simp at hz3
  go_wp2_with (fail)
  refine (c_pick b A cs cap (m + 3) (24) _ (by repeat' (first | exact CurS.mono hcu3 (by omega) | refine CurS.setc ?_ ?_ | refine CurS.allo ?_ | refine CurS.drw ?_ | (simp; done) | (simp at *; omega) | omega)) hby (by omega) hl (by omega)).mono ?_
  rintro e W4 ⟨x4, rfl, hx4a, hx4b, hcu4, hg4⟩
  have hc4 := cellRow hg4
  have hf4 := frozRow hg4
  have hz4 := hg4.size
  have hlt4 := hcu4.lt
  try simp at hz4
  by_cases h0 : x4 = 0
  · subst h0
    go_wp2_with (fail)
    refine (c_among b A cs cap (m + 4) _ ([x1, 9999, 10000] : List Int) _ (0) (10000) _ (by repeat' (first | exact CurS.mono hcu4 (by omega) | refine CurS.setc ?_ ?_ | refine CurS.allo ?_ | refine CurS.drw ?_ | (simp; done) | (simp at *; omega) | omega)) hby (by omega) hl (Rds.of_lit (by simp) (by intro i x h; rcases i with _ | _ | _ | i <;> simp at h ⊢ <;> first | exact h | omega)) (by simp) (by intro a ha; cases ha; simp; omega) (fun k hk => (show ∀ x ∈ ([x1, 9999, 10000] : List Int), 0 ≤ x ∧ x ≤ 10000 by intro x hx; simp at hx; omega) _ (List.getElem_mem hk))).mono ?_
    rintro e W5 ⟨x5, rfl, hx5a, hx5b, hcu5, hg5⟩
    have hc5 := cellRow hg5
    have hf5 := frozRow hg5
    have hz5 := hg5.size
    have hlt5 := hcu5.lt
    try simp at hz5
    go_wp2_with (fail)
    refine post_named ?_
    intro WF hWF
    have hcuF : CurS WF b A cs cap (m + 6) := by rw [hWF]; exact (by repeat' (first | with_reducible refine CurS.setc ?_ ?_ | with_reducible refine CurS.allo ?_ | with_reducible refine CurS.drw ?_ | with_reducible exact CurS.mono hcu5 (by omega) | (dsimp only; omega) | (simp; done) | omega))
    have hgF : w.grownBy WF (some b) := by rw [hWF]; (repeat' (first | with_reducible exact World.grownBy.refl _ _ | with_reducible assumption | with_reducible refine grownA ?_ | with_reducible refine grownS ?_ ?_ | with_reducible refine grown_drew ?_ | with_reducible refine grownT (by assumption) ?_ | (dsimp only; omega) | (simp; done) | omega))
    have r0 : WF.cell? ⟨w.heap.size, 0, none⟩ = some (.int .i64 z) := by rw [hWF]; first | (simp [go_sem, ↓IntWalk.iteOmega, *]; done) | (simp [go_sem, ↓IntWalk.iteOmega, *]; intros; omega)
    have r1 : WF.cell? ⟨w.heap.size, 1, none⟩ = some (.bool y2) := by rw [hWF]; first | (simp [go_sem, ↓IntWalk.iteOmega, *]; done) | (simp [go_sem, ↓IntWalk.iteOmega, *]; intros; omega)
    have r2 : WF.cell? ⟨w.heap.size, 2, none⟩ = some (.int .i64 x1) := by rw [hWF]; first | (simp [go_sem, ↓IntWalk.iteOmega, *]; done) | (simp [go_sem, ↓IntWalk.iteOmega, *]; intros; omega)
    have r3 : WF.cell? ⟨w.heap.size, 3, none⟩ = some (.int .i64 x5) := by rw [hWF]; first | (simp [go_sem, ↓IntWalk.iteOmega, *]; done) | (simp [go_sem, ↓IntWalk.iteOmega, *]; intros; omega)
    clear hWF
    refine bodyPost_ret (v := .agg #[.int .i64 z, .bool y2, .int .i64 x1, .int .i64 x5]) ?_ rfl ⟨⟨z, y2, x1, x5, rfl⟩, hcuF, hgF⟩
    simp [results, Try.results78, go_sem, r0, r1, r2, r3]
  by_cases h1 : x4 = 1
  · subst h1
    go_wp2_with (fail)
    refine (c_among b A cs cap (m + 4) _ ([-1, x1 + x3 - 1, x1 + x3] : List Int) _ (-1) (80) _ (by repeat' (first | exact CurS.mono hcu4 (by omega) | refine CurS.setc ?_ ?_ | refine CurS.allo ?_ | refine CurS.drw ?_ | (simp; done) | (simp at *; omega) | omega)) hby (by omega) hl (Rds.of_lit (by simp) (by intro i x h; rcases i with _ | _ | _ | i <;> simp at h ⊢ <;> first | exact h | omega)) (by simp) (by intro a ha; cases ha; simp; omega) (fun k hk => (show ∀ x ∈ ([-1, x1 + x3 - 1, x1 + x3] : List Int), -1 ≤ x ∧ x ≤ 80 by intro x hx; simp at hx; omega) _ (List.getElem_mem hk))).mono ?_
    rintro e W5 ⟨x5, rfl, hx5a, hx5b, hcu5, hg5⟩
    have hc5 := cellRow hg5
    have hf5 := frozRow hg5
    have hz5 := hg5.size
    have hlt5 := hcu5.lt
    try simp at hz5
    go_wp2_with (fail)
    refine post_named ?_
    intro WF hWF
    have hcuF : CurS WF b A cs cap (m + 6) := by rw [hWF]; exact (by repeat' (first | with_reducible refine CurS.setc ?_ ?_ | with_reducible refine CurS.allo ?_ | with_reducible refine CurS.drw ?_ | with_reducible exact CurS.mono hcu5 (by omega) | (dsimp only; omega) | (simp; done) | omega))
    have hgF : w.grownBy WF (some b) := by rw [hWF]; (repeat' (first | with_reducible exact World.grownBy.refl _ _ | with_reducible assumption | with_reducible refine grownA ?_ | with_reducible refine grownS ?_ ?_ | with_reducible refine grown_drew ?_ | with_reducible refine grownT (by assumption) ?_ | (dsimp only; omega) | (simp; done) | omega))
    have r0 : WF.cell? ⟨w.heap.size, 0, none⟩ = some (.int .i64 z) := by rw [hWF]; first | (simp [go_sem, ↓IntWalk.iteOmega, *]; done) | (simp [go_sem, ↓IntWalk.iteOmega, *]; intros; omega)
    have r1 : WF.cell? ⟨w.heap.size, 1, none⟩ = some (.bool y2) := by rw [hWF]; first | (simp [go_sem, ↓IntWalk.iteOmega, *]; done) | (simp [go_sem, ↓IntWalk.iteOmega, *]; intros; omega)
    have r2 : WF.cell? ⟨w.heap.size, 2, none⟩ = some (.int .i64 x5) := by rw [hWF]; first | (simp [go_sem, ↓IntWalk.iteOmega, *]; done) | (simp [go_sem, ↓IntWalk.iteOmega, *]; intros; omega)
    have r3 : WF.cell? ⟨w.heap.size, 3, none⟩ = some (.int .i64 (x1 + x3)) := by rw [hWF]; first | (simp [go_sem, ↓IntWalk.iteOmega, *]; done) | (simp [go_sem, ↓IntWalk.iteOmega, *]; intros; omega)
    clear hWF
    refine bodyPost_ret (v := .agg #[.int .i64 z, .bool y2, .int .i64 x5, .int .i64 (x1 + x3)]) ?_ rfl ⟨⟨z, y2, x5, (x1 + x3), rfl⟩, hcuF, hgF⟩
    simp [results, Try.results78, go_sem, r0, r1, r2, r3]
  by_cases h2 : x4 = 2
  · subst h2
    go_wp2_with (fail)
    refine (c_among b A cs cap (m + 4) _ ([0, 99, 100] : List Int) _ (0) (100) _ (by repeat' (first | exact CurS.mono hcu4 (by omega) | refine CurS.setc ?_ ?_ | refine CurS.allo ?_ | refine CurS.drw ?_ | (simp; done) | (simp at *; omega) | omega)) hby (by omega) hl (Rds.of_lit (by simp) (by intro i x h; rcases i with _ | _ | _ | i <;> simp at h ⊢ <;> first | exact h | omega)) (by simp) (by intro a ha; cases ha; simp; omega) (fun k hk => (show ∀ x ∈ ([0, 99, 100] : List Int), 0 ≤ x ∧ x ≤ 100 by intro x hx; simp at hx; omega) _ (List.getElem_mem hk))).mono ?_
    rintro e W5 ⟨x5, rfl, hx5a, hx5b, hcu5, hg5⟩
    have hc5 := cellRow hg5
    have hf5 := frozRow hg5
    have hz5 := hg5.size
    have hlt5 := hcu5.lt
    try simp at hz5
    go_wp2_with (fail)
    refine post_named ?_
    intro WF hWF
    have hcuF : CurS WF b A cs cap (m + 6) := by rw [hWF]; exact (by repeat' (first | with_reducible refine CurS.setc ?_ ?_ | with_reducible refine CurS.allo ?_ | with_reducible refine CurS.drw ?_ | with_reducible exact CurS.mono hcu5 (by omega) | (dsimp only; omega) | (simp; done) | omega))
    have hgF : w.grownBy WF (some b) := by rw [hWF]; (repeat' (first | with_reducible exact World.grownBy.refl _ _ | with_reducible assumption | with_reducible refine grownA ?_ | with_reducible refine grownS ?_ ?_ | with_reducible refine grown_drew ?_ | with_reducible refine grownT (by assumption) ?_ | (dsimp only; omega) | (simp; done) | omega))
    have r0 : WF.cell? ⟨w.heap.size, 0, none⟩ = some (.int .i64 x5) := by rw [hWF]; first | (simp [go_sem, ↓IntWalk.iteOmega, *]; done) | (simp [go_sem, ↓IntWalk.iteOmega, *]; intros; omega)
    have r1 : WF.cell? ⟨w.heap.size, 1, none⟩ = some (.bool y2) := by rw [hWF]; first | (simp [go_sem, ↓IntWalk.iteOmega, *]; done) | (simp [go_sem, ↓IntWalk.iteOmega, *]; intros; omega)
    have r2 : WF.cell? ⟨w.heap.size, 2, none⟩ = some (.int .i64 x1) := by rw [hWF]; first | (simp [go_sem, ↓IntWalk.iteOmega, *]; done) | (simp [go_sem, ↓IntWalk.iteOmega, *]; intros; omega)
    have r3 : WF.cell? ⟨w.heap.size, 3, none⟩ = some (.int .i64 (x1 + x3)) := by rw [hWF]; first | (simp [go_sem, ↓IntWalk.iteOmega, *]; done) | (simp [go_sem, ↓IntWalk.iteOmega, *]; intros; omega)
    clear hWF
    refine bodyPost_ret (v := .agg #[.int .i64 x5, .bool y2, .int .i64 x1, .int .i64 (x1 + x3)]) ?_ rfl ⟨⟨x5, y2, x1, (x1 + x3), rfl⟩, hcuF, hgF⟩
    simp [results, Try.results78, go_sem, r0, r1, r2, r3]
  · go_wp2_with (fail)
    refine post_named ?_
    intro WF hWF
    have hcuF : CurS WF b A cs cap (m + 6) := by rw [hWF]; exact (by repeat' (first | with_reducible refine CurS.setc ?_ ?_ | with_reducible refine CurS.allo ?_ | with_reducible refine CurS.drw ?_ | with_reducible exact CurS.mono hcu4 (by omega) | (dsimp only; omega) | (simp; done) | omega))
    have hgF : w.grownBy WF (some b) := by rw [hWF]; (repeat' (first | with_reducible exact World.grownBy.refl _ _ | with_reducible assumption | with_reducible refine grownA ?_ | with_reducible refine grownS ?_ ?_ | with_reducible refine grown_drew ?_ | with_reducible refine grownT (by assumption) ?_ | (dsimp only; omega) | (simp; done) | omega))
    have r0 : WF.cell? ⟨w.heap.size, 0, none⟩ = some (.int .i64 z) := by rw [hWF]; first | (simp [go_sem, ↓IntWalk.iteOmega, *]; done) | (simp [go_sem, ↓IntWalk.iteOmega, *]; intros; omega)
    have r1 : WF.cell? ⟨w.heap.size, 1, none⟩ = some (.bool y2) := by rw [hWF]; first | (simp [go_sem, ↓IntWalk.iteOmega, *]; done) | (simp [go_sem, ↓IntWalk.iteOmega, *]; intros; omega)
    have r2 : WF.cell? ⟨w.heap.size, 2, none⟩ = some (.int .i64 x1) := by rw [hWF]; first | (simp [go_sem, ↓IntWalk.iteOmega, *]; done) | (simp [go_sem, ↓IntWalk.iteOmega, *]; intros; omega)
    have r3 : WF.cell? ⟨w.heap.size, 3, none⟩ = some (.int .i64 (x1 + x3)) := by rw [hWF]; first | (simp [go_sem, ↓IntWalk.iteOmega, *]; done) | (simp [go_sem, ↓IntWalk.iteOmega, *]; intros; omega)
    clear hWF
    refine bodyPost_ret (v := .agg #[.int .i64 z, .bool y2, .int .i64 x1, .int .i64 (x1 + x3)]) ?_ rfl ⟨⟨z, y2, x1, (x1 + x3), rfl⟩, hcuF, hgF⟩
    simp [results, Try.results78, go_sem, r0, r1, r2, r3]

end Go.Proofs.Ytgjbdcalmodhpaa
