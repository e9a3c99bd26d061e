import Derived.Test.YthlmeofjjmfpnaaCu9
import Derived.Test.YthlmeofjjmfpnaaDr0
import Derived.Test.YthlmeofjjmfpnaaS12
import Derived.Test.YthlmeofjjmfpnaaVoL
import Derived.Deep.RegionHeld3
namespace Go.Proofs.Ythlmeofjjmfpnaa
set_option linter.unusedSimpArgs false
set_option linter.unusedVariables false
open Go.RowKit

theorem FreshA.set_high {α : Type} {cf : α → List Value} {sz : Nat} {T : TypeId} {B cap n : Nat} {w : World} {A : Option Addr} {xs : List α} (h : FreshA cf sz T B w A cap xs) (hh : Hi n A) {p : Addr} (hp : n ≤ p.block) (u : Value) : FreshA cf sz T B (w.setCell p u) A cap xs := by
  rcases h with h | ⟨g, rfl, hB, h⟩
  · exact .inl h
  · exact .inr ⟨g, rfl, hB, h.block (Below.heap_setCell w p u g (by have := hh _ rfl; dsimp only at this; omega))⟩
set_option maxRecDepth 100000 in
set_option maxHeartbeats 4000000 in
theorem c_spec_DrawNarrowVoyage (A : Option Addr) (cs : List Int) (cap : Nat) (w : World) (hr : Rds cB 1 w A cs) (hby : Bytes cs) (hl : cs.length ≤ 1000000000) :
    Calls Try.prog 53 #[.slice A cs.length cap] w fun e w' => ∃ (a b : Int) (A' : Option Addr) (cp : Nat) (xs : List (Int × Int)) (c d : Int), e = .returned (.tuple #[.agg #[.int .i64 a, .int .i64 b], .slice A' xs.length cp, .agg #[.int .i64 c, .int .i64 d]]) ∧ (-1 ≤ a ∧ a ≤ 10000) ∧ (-2 ≤ b ∧ b ≤ 10060) ∧ FreshA cLeg 2 39 w.heap.size w' A' cp xs ∧ xs.length ≤ 14 ∧ (-2 ≤ c ∧ c ≤ 20000) ∧ (-2 ≤ d ∧ d ≤ 20000) ∧ Below w.heap.size w w' := by
  go_enter Try.func53, Try.ntmps53
  go_wp2_with (fail)
  refine (c_interval (w.heap.size + 1 + 1) A cs cap 0 _ (CurS.new hr (by (repeat' (first | exact Below.refl _ _ | assumption | refine Below.setCell ?_ ?_ _ | refine Below.drew ?_ | refine Below.alloc ?_ ?_ _ | refine Below.trans ?_ (Below.mono (by assumption) ?_) | (simp; done) | (simp; omega) | omega))) (by simp)) hby (by omega) hl).mono ?_
  rintro e W1 ⟨f1, t1, rfl, hx1a, hx1b, hcu1, hg1⟩
  have hc1 := cellRow hg1; have hf1 := frozRow hg1; have hz1 := hg1.size; have hlt1 := hcu1.lt; (try simp at hz1)
  go_wp2_with (fail)
  refine (c_legs (w.heap.size + 1 + 1) A cs cap (0 + 5) _ hcu1 hby (by omega) hl).mono ?_
  rintro e W2 ⟨A2, cp2, xs, rfl, hF2, hxl, hcu2, hg2⟩
  have hc2 := cellRow hg2; have hf2 := frozRow hg2; have hz2 := hg2.size; have hlt2 := hcu2.lt; (try simp at hz2)
  have HHI := hid hF2.hi; have HF2 := hid hF2; clear hF2
  go_wp2_with (fail)
  refine (c_interval (w.heap.size + 1 + 1) A cs cap (0 + 5 + 40) _ (by repeat' (first | with_reducible refine CurS.setc ?_ ?_ | with_reducible refine CurS.allo ?_ | with_reducible refine CurS.drw ?_ | with_reducible exact CurS.mono hcu2 (by omega) | (dsimp only; omega) | (simp; done) | omega)) hby (by omega) hl).mono ?_
  rintro e W3 ⟨f3, t3, rfl, hx3a, hx3b, hcu3, hg3⟩
  have hc3 := cellRow hg3; have hf3 := frozRow hg3; have hz3 := hg3.size; have hlt3 := hcu3.lt; (try simp at hz3)
  go_wp2_with (fail)
  have hF3 := FreshA.rowb (FreshA.below HF2.out (by (repeat' (first | exact Below.refl _ _ | assumption | refine Below.setCell ?_ ?_ _ | refine Below.drew ?_ | refine Below.alloc ?_ ?_ _ | refine Below.trans ?_ (Below.mono (by assumption) ?_) | (simp; done) | (simp; omega) | omega)))) hg3 (by omega)
  have hr3 := hF3.rds
  have HF3 := hid (hF3.mono (B' := w.heap.size + 3) (by omega))
  clear hF3 HF2
  obtain ⟨al, told, hA⟩ : ∃ al told, alongV f1 t1 xs = (al, told) := ⟨_, _, rfl⟩
  have hall := alongV_len f1 t1 xs
  rw [hA] at hall
  simp only at hall
  have HA := hid hA
  clear hA
  refine (c_spec_AlongVoyage _ _ _ _ _ _ (by first | exact hr3 | exact Rds.below hr3 (by (repeat' (first | exact Below.refl _ _ | assumption | refine Below.setCell ?_ ?_ _ | refine Below.drew ?_ | refine Below.alloc ?_ ?_ _ | refine Below.trans ?_ (Below.mono (by assumption) ?_) | (simp; done) | (simp; omega) | omega)))) (by omega)).mono ?_
  rintro e W4 ⟨A4, cp4, rfl, hF4, hb4⟩
  simp only [HA.out] at hF4 ⊢
  have hc4 := cellOf hb4; have hf4 := frozOf hb4; have hz4 := sizeOf hb4; (try simp at hz4)
  have hr4 := hF4.rds
  have hlo4 := hF4.lo
  have hhi4 := hF4.hi
  clear hF4
  have hcu4 : CurS W4 (w.heap.size + 1 + 1) A cs cap (0 + 5 + 40 + 5) := CurS.below (by repeat' (first | with_reducible refine CurS.setc ?_ ?_ | with_reducible refine CurS.allo ?_ | with_reducible refine CurS.drw ?_ | with_reducible exact CurS.mono hcu3 (by omega) | (dsimp only; omega) | (simp; done) | omega)) hb4
  cases told
  · go_wp2_with (fail)
    refine wp_named ?_
    intro W8 hW8
    have p0 : W8.cell? ⟨W2.heap.size, 0, none⟩ = some (.int .i64 f1) := by rw [hW8]; first | (simp [go_sem, ↓IntWalk.iteOmega, *]; done) | (simp [go_sem, ↓IntWalk.iteOmega, *]; intros; omega)
    have p1 : W8.cell? ⟨W2.heap.size, 1, none⟩ = some (.int .i64 t1) := by rw [hW8]; first | (simp [go_sem, ↓IntWalk.iteOmega, *]; done) | (simp [go_sem, ↓IntWalk.iteOmega, *]; intros; omega)
    have p2 : W8.cell? ⟨W3.heap.size, 0, none⟩ = some (.int .i64 (f3)) := by rw [hW8]; first | (simp [go_sem, ↓IntWalk.iteOmega, *]; done) | (simp [go_sem, ↓IntWalk.iteOmega, *]; intros; omega)
    have p3 : W8.cell? ⟨W3.heap.size, 1, none⟩ = some (.int .i64 (t3)) := by rw [hW8]; first | (simp [go_sem, ↓IntWalk.iteOmega, *]; done) | (simp [go_sem, ↓IntWalk.iteOmega, *]; intros; omega)
    have z4 : W8.frozen? ⟨w.heap.size, 0, none⟩ = false := by rw [hW8]; first | (simp [go_sem, ↓IntWalk.iteOmega, *]; done) | (simp [go_sem, ↓IntWalk.iteOmega, *]; intros; omega)
    have y5 : W8.cell? ⟨w.heap.size, 0, none⟩ = some (.int .i64 0) := by rw [hW8]; first | (simp [go_sem, ↓IntWalk.iteOmega, *]; done) | (simp [go_sem, ↓IntWalk.iteOmega, *]; intros; omega)
    have z6 : W8.frozen? ⟨w.heap.size, 1, none⟩ = false := by rw [hW8]; first | (simp [go_sem, ↓IntWalk.iteOmega, *]; done) | (simp [go_sem, ↓IntWalk.iteOmega, *]; intros; omega)
    have y7 : W8.cell? ⟨w.heap.size, 1, none⟩ = some (.int .i64 0) := by rw [hW8]; first | (simp [go_sem, ↓IntWalk.iteOmega, *]; done) | (simp [go_sem, ↓IntWalk.iteOmega, *]; intros; omega)
    have z8 : W8.frozen? ⟨w.heap.size + 1, 0, none⟩ = false := by rw [hW8]; first | (simp [go_sem, ↓IntWalk.iteOmega, *]; done) | (simp [go_sem, ↓IntWalk.iteOmega, *]; intros; omega)
    have y9 : W8.cell? ⟨w.heap.size + 1, 0, none⟩ = some (.int .i64 0) := by rw [hW8]; first | (simp [go_sem, ↓IntWalk.iteOmega, *]; done) | (simp [go_sem, ↓IntWalk.iteOmega, *]; intros; omega)
    have z10 : W8.frozen? ⟨w.heap.size + 1, 1, none⟩ = false := by rw [hW8]; first | (simp [go_sem, ↓IntWalk.iteOmega, *]; done) | (simp [go_sem, ↓IntWalk.iteOmega, *]; intros; omega)
    have y11 : W8.cell? ⟨w.heap.size + 1, 1, none⟩ = some (.int .i64 0) := by rw [hW8]; first | (simp [go_sem, ↓IntWalk.iteOmega, *]; done) | (simp [go_sem, ↓IntWalk.iteOmega, *]; intros; omega)
    have q0 : W2.heap.size ≠ w.heap.size := by omega
    have q1 : W2.heap.size ≠ w.heap.size + 1 := by omega
    have q2 : W3.heap.size ≠ w.heap.size := by omega
    have q3 : W3.heap.size ≠ w.heap.size + 1 := by omega
    have q4 : w.heap.size ≠ w.heap.size + 1 := by omega
    have q5 : W2.heap.size ≠ W3.heap.size := by omega
    have hF8 : FreshA cLeg 2 39 (w.heap.size + 3) W8 A2 cp2 xs := by rw [hW8]; exact FreshA.below HF3.out (by (repeat' (first | exact Below.refl _ _ | assumption | refine Below.setCell ?_ ?_ _ | refine Below.drew ?_ | refine Below.alloc ?_ ?_ _ | refine Below.trans ?_ (Below.mono (by assumption) ?_) | (simp; done) | (simp; omega) | omega)))
    have hb8 : Below w.heap.size w W8 := by rw [hW8]; (repeat' (first | with_reducible exact Below.refl _ _ | with_reducible assumption | with_reducible refine Below.setCell ?_ ?_ _ | with_reducible refine Below.drew ?_ | with_reducible refine Below.alloc ?_ ?_ _ | with_reducible refine below_row ?_ (by assumption) ?_ ?_ | with_reducible refine Below.trans ?_ (Below.mono (by assumption) ?_) | (dsimp only; omega) | (simp; done) | (simp; omega) | omega))
    have HF8 := hid hF8
    clear hF8 hW8
    go_region
    all_goals go_wp2_with (fail)
    all_goals
      refine bodyPost_ret (v := .tuple #[.agg #[.int .i64 f1, .int .i64 t1], .slice A2 xs.length cp2, .agg #[.int .i64 (f3), .int .i64 (t3)]]) ?_ rfl ⟨f1, t1, A2, cp2, xs, f3, t3, rfl, hx1a, hx1b, ?_, hxl, by omega, by omega, ?_⟩
      · simp [results, Try.results53, go_sem, ↓IntWalk.iteOmega, *]
      · refine FreshA.mono (B := w.heap.size + 3) ?_ (by omega)
        repeat' (first | with_reducible exact HF8.out | with_reducible refine FreshA.set_low ?_ ?_ _ | with_reducible refine FreshA.below ?_ (Below.drew (Below.refl _ _)) | (dsimp only; omega))
      · repeat' (first | with_reducible exact hb8 | with_reducible refine Below.setCell ?_ ?_ _ | with_reducible refine Below.drew ?_ | (dsimp only; omega))

  by_cases hn0 : al.length = 0
  · go_wp2_with (fail)
    refine wp_named ?_
    intro W8 hW8
    have p0 : W8.cell? ⟨W2.heap.size, 0, none⟩ = some (.int .i64 f1) := by rw [hW8]; first | (simp [go_sem, ↓IntWalk.iteOmega, *]; done) | (simp [go_sem, ↓IntWalk.iteOmega, *]; intros; omega)
    have p1 : W8.cell? ⟨W2.heap.size, 1, none⟩ = some (.int .i64 t1) := by rw [hW8]; first | (simp [go_sem, ↓IntWalk.iteOmega, *]; done) | (simp [go_sem, ↓IntWalk.iteOmega, *]; intros; omega)
    have p2 : W8.cell? ⟨W3.heap.size, 0, none⟩ = some (.int .i64 (f3)) := by rw [hW8]; first | (simp [go_sem, ↓IntWalk.iteOmega, *]; done) | (simp [go_sem, ↓IntWalk.iteOmega, *]; intros; omega)
    have p3 : W8.cell? ⟨W3.heap.size, 1, none⟩ = some (.int .i64 (t3)) := by rw [hW8]; first | (simp [go_sem, ↓IntWalk.iteOmega, *]; done) | (simp [go_sem, ↓IntWalk.iteOmega, *]; intros; omega)
    have z4 : W8.frozen? ⟨w.heap.size, 0, none⟩ = false := by rw [hW8]; first | (simp [go_sem, ↓IntWalk.iteOmega, *]; done) | (simp [go_sem, ↓IntWalk.iteOmega, *]; intros; omega)
    have y5 : W8.cell? ⟨w.heap.size, 0, none⟩ = some (.int .i64 0) := by rw [hW8]; first | (simp [go_sem, ↓IntWalk.iteOmega, *]; done) | (simp [go_sem, ↓IntWalk.iteOmega, *]; intros; omega)
    have z6 : W8.frozen? ⟨w.heap.size, 1, none⟩ = false := by rw [hW8]; first | (simp [go_sem, ↓IntWalk.iteOmega, *]; done) | (simp [go_sem, ↓IntWalk.iteOmega, *]; intros; omega)
    have y7 : W8.cell? ⟨w.heap.size, 1, none⟩ = some (.int .i64 0) := by rw [hW8]; first | (simp [go_sem, ↓IntWalk.iteOmega, *]; done) | (simp [go_sem, ↓IntWalk.iteOmega, *]; intros; omega)
    have z8 : W8.frozen? ⟨w.heap.size + 1, 0, none⟩ = false := by rw [hW8]; first | (simp [go_sem, ↓IntWalk.iteOmega, *]; done) | (simp [go_sem, ↓IntWalk.iteOmega, *]; intros; omega)
    have y9 : W8.cell? ⟨w.heap.size + 1, 0, none⟩ = some (.int .i64 0) := by rw [hW8]; first | (simp [go_sem, ↓IntWalk.iteOmega, *]; done) | (simp [go_sem, ↓IntWalk.iteOmega, *]; intros; omega)
    have z10 : W8.frozen? ⟨w.heap.size + 1, 1, none⟩ = false := by rw [hW8]; first | (simp [go_sem, ↓IntWalk.iteOmega, *]; done) | (simp [go_sem, ↓IntWalk.iteOmega, *]; intros; omega)
    have y11 : W8.cell? ⟨w.heap.size + 1, 1, none⟩ = some (.int .i64 0) := by rw [hW8]; first | (simp [go_sem, ↓IntWalk.iteOmega, *]; done) | (simp [go_sem, ↓IntWalk.iteOmega, *]; intros; omega)
    have q0 : W2.heap.size ≠ w.heap.size := by omega
    have q1 : W2.heap.size ≠ w.heap.size + 1 := by omega
    have q2 : W3.heap.size ≠ w.heap.size := by omega
    have q3 : W3.heap.size ≠ w.heap.size + 1 := by omega
    have q4 : w.heap.size ≠ w.heap.size + 1 := by omega
    have q5 : W2.heap.size ≠ W3.heap.size := by omega
    have hF8 : FreshA cLeg 2 39 (w.heap.size + 3) W8 A2 cp2 xs := by rw [hW8]; exact FreshA.below HF3.out (by (repeat' (first | exact Below.refl _ _ | assumption | refine Below.setCell ?_ ?_ _ | refine Below.drew ?_ | refine Below.alloc ?_ ?_ _ | refine Below.trans ?_ (Below.mono (by assumption) ?_) | (simp; done) | (simp; omega) | omega)))
    have hb8 : Below w.heap.size w W8 := by rw [hW8]; (repeat' (first | with_reducible exact Below.refl _ _ | with_reducible assumption | with_reducible refine Below.setCell ?_ ?_ _ | with_reducible refine Below.drew ?_ | with_reducible refine Below.alloc ?_ ?_ _ | with_reducible refine below_row ?_ (by assumption) ?_ ?_ | with_reducible refine Below.trans ?_ (Below.mono (by assumption) ?_) | (dsimp only; omega) | (simp; done) | (simp; omega) | omega))
    have HF8 := hid hF8
    clear hF8 hW8
    go_region
    all_goals go_wp2_with (fail)
    all_goals
      refine bodyPost_ret (v := .tuple #[.agg #[.int .i64 f1, .int .i64 t1], .slice A2 xs.length cp2, .agg #[.int .i64 (f3), .int .i64 (t3)]]) ?_ rfl ⟨f1, t1, A2, cp2, xs, f3, t3, rfl, hx1a, hx1b, ?_, hxl, by omega, by omega, ?_⟩
      · simp [results, Try.results53, go_sem, ↓IntWalk.iteOmega, *]
      · refine FreshA.mono (B := w.heap.size + 3) ?_ (by omega)
        repeat' (first | with_reducible exact HF8.out | with_reducible refine FreshA.set_low ?_ ?_ _ | with_reducible refine FreshA.below ?_ (Below.drew (Below.refl _ _)) | (dsimp only; omega))
      · repeat' (first | with_reducible exact hb8 | with_reducible refine Below.setCell ?_ ?_ _ | with_reducible refine Below.drew ?_ | (dsimp only; omega))

  go_wp2_with (fail)
  refine (c_one (w.heap.size + 1 + 1) A cs cap (0 + 5 + 40 + 5) 3 _ (by repeat' (first | with_reducible refine CurS.setc ?_ ?_ | with_reducible refine CurS.allo ?_ | with_reducible refine CurS.drw ?_ | with_reducible exact CurS.mono hcu4 (by omega) | (dsimp only; omega) | (simp; done) | omega)) hby (by omega) hl (by omega)).mono ?_
  rintro e W5 ⟨y5, rfl, hcu5, hg5⟩
  have hc5 := cellRow hg5; have hf5 := frozRow hg5; have hz5 := hg5.size; have hlt5 := hcu5.lt; (try simp at hz5)
  cases y5
  rotate_left
  · go_wp2_with (fail)
    refine wp_named ?_
    intro W8 hW8
    have p0 : W8.cell? ⟨W2.heap.size, 0, none⟩ = some (.int .i64 f1) := by rw [hW8]; first | (simp [go_sem, ↓IntWalk.iteOmega, *]; done) | (simp [go_sem, ↓IntWalk.iteOmega, *]; intros; omega)
    have p1 : W8.cell? ⟨W2.heap.size, 1, none⟩ = some (.int .i64 t1) := by rw [hW8]; first | (simp [go_sem, ↓IntWalk.iteOmega, *]; done) | (simp [go_sem, ↓IntWalk.iteOmega, *]; intros; omega)
    have p2 : W8.cell? ⟨W3.heap.size, 0, none⟩ = some (.int .i64 (f3)) := by rw [hW8]; first | (simp [go_sem, ↓IntWalk.iteOmega, *]; done) | (simp [go_sem, ↓IntWalk.iteOmega, *]; intros; omega)
    have p3 : W8.cell? ⟨W3.heap.size, 1, none⟩ = some (.int .i64 (t3)) := by rw [hW8]; first | (simp [go_sem, ↓IntWalk.iteOmega, *]; done) | (simp [go_sem, ↓IntWalk.iteOmega, *]; intros; omega)
    have z4 : W8.frozen? ⟨w.heap.size, 0, none⟩ = false := by rw [hW8]; first | (simp [go_sem, ↓IntWalk.iteOmega, *]; done) | (simp [go_sem, ↓IntWalk.iteOmega, *]; intros; omega)
    have y5 : W8.cell? ⟨w.heap.size, 0, none⟩ = some (.int .i64 0) := by rw [hW8]; first | (simp [go_sem, ↓IntWalk.iteOmega, *]; done) | (simp [go_sem, ↓IntWalk.iteOmega, *]; intros; omega)
    have z6 : W8.frozen? ⟨w.heap.size, 1, none⟩ = false := by rw [hW8]; first | (simp [go_sem, ↓IntWalk.iteOmega, *]; done) | (simp [go_sem, ↓IntWalk.iteOmega, *]; intros; omega)
    have y7 : W8.cell? ⟨w.heap.size, 1, none⟩ = some (.int .i64 0) := by rw [hW8]; first | (simp [go_sem, ↓IntWalk.iteOmega, *]; done) | (simp [go_sem, ↓IntWalk.iteOmega, *]; intros; omega)
    have z8 : W8.frozen? ⟨w.heap.size + 1, 0, none⟩ = false := by rw [hW8]; first | (simp [go_sem, ↓IntWalk.iteOmega, *]; done) | (simp [go_sem, ↓IntWalk.iteOmega, *]; intros; omega)
    have y9 : W8.cell? ⟨w.heap.size + 1, 0, none⟩ = some (.int .i64 0) := by rw [hW8]; first | (simp [go_sem, ↓IntWalk.iteOmega, *]; done) | (simp [go_sem, ↓IntWalk.iteOmega, *]; intros; omega)
    have z10 : W8.frozen? ⟨w.heap.size + 1, 1, none⟩ = false := by rw [hW8]; first | (simp [go_sem, ↓IntWalk.iteOmega, *]; done) | (simp [go_sem, ↓IntWalk.iteOmega, *]; intros; omega)
    have y11 : W8.cell? ⟨w.heap.size + 1, 1, none⟩ = some (.int .i64 0) := by rw [hW8]; first | (simp [go_sem, ↓IntWalk.iteOmega, *]; done) | (simp [go_sem, ↓IntWalk.iteOmega, *]; intros; omega)
    have q0 : W2.heap.size ≠ w.heap.size := by omega
    have q1 : W2.heap.size ≠ w.heap.size + 1 := by omega
    have q2 : W3.heap.size ≠ w.heap.size := by omega
    have q3 : W3.heap.size ≠ w.heap.size + 1 := by omega
    have q4 : w.heap.size ≠ w.heap.size + 1 := by omega
    have q5 : W2.heap.size ≠ W3.heap.size := by omega
    have hF8 : FreshA cLeg 2 39 (w.heap.size + 3) W8 A2 cp2 xs := by rw [hW8]; exact FreshA.below (FreshA.rowb (FreshA.below HF3.out (by (repeat' (first | exact Below.refl _ _ | assumption | refine Below.setCell ?_ ?_ _ | refine Below.drew ?_ | refine Below.alloc ?_ ?_ _ | refine Below.trans ?_ (Below.mono (by assumption) ?_) | (simp; done) | (simp; omega) | omega)))) hg5 (by omega)) (by (repeat' (first | exact Below.refl _ _ | assumption | refine Below.setCell ?_ ?_ _ | refine Below.drew ?_ | refine Below.alloc ?_ ?_ _ | refine Below.trans ?_ (Below.mono (by assumption) ?_) | (simp; done) | (simp; omega) | omega)))
    have hb8 : Below w.heap.size w W8 := by rw [hW8]; (repeat' (first | with_reducible exact Below.refl _ _ | with_reducible assumption | with_reducible refine Below.setCell ?_ ?_ _ | with_reducible refine Below.drew ?_ | with_reducible refine Below.alloc ?_ ?_ _ | with_reducible refine below_row ?_ (by assumption) ?_ ?_ | with_reducible refine Below.trans ?_ (Below.mono (by assumption) ?_) | (dsimp only; omega) | (simp; done) | (simp; omega) | omega))
    have HF8 := hid hF8
    clear hF8 hW8
    go_region
    all_goals go_wp2_with (fail)
    all_goals
      refine bodyPost_ret (v := .tuple #[.agg #[.int .i64 f1, .int .i64 t1], .slice A2 xs.length cp2, .agg #[.int .i64 (f3), .int .i64 (t3)]]) ?_ rfl ⟨f1, t1, A2, cp2, xs, f3, t3, rfl, hx1a, hx1b, ?_, hxl, by omega, by omega, ?_⟩
      · simp [results, Try.results53, go_sem, ↓IntWalk.iteOmega, *]
      · refine FreshA.mono (B := w.heap.size + 3) ?_ (by omega)
        repeat' (first | with_reducible exact HF8.out | with_reducible refine FreshA.set_low ?_ ?_ _ | with_reducible refine FreshA.below ?_ (Below.drew (Below.refl _ _)) | (dsimp only; omega))
      · repeat' (first | with_reducible exact hb8 | with_reducible refine Below.setCell ?_ ?_ _ | with_reducible refine Below.drew ?_ | (dsimp only; omega))

  obtain ⟨bx, ox, hAX, hbx, hcx⟩ := hr4 (al.length - 1) _ (List.getElem?_eq_getElem (by omega))
  subst hAX
  have hbl := hlo4 _ rfl
  simp at hbl
  have hx0 := hcx 0 _ rfl
  have hx1 := hcx 1 _ rfl
  simp only [Nat.add_zero] at hx0
  clear hcx hr4 hlo4 hhi4
  have hgd := along_good HA.out (al.length - 1) (by omega)
  generalize al[al.length - 1].1 = p at *
  generalize al[al.length - 1].2 = q at *
  have hx0f : far W4 bx (ox + (al.length - 1) * 2) = some (.int .i64 p) := hx0
  have hx1f : far W4 bx (ox + (al.length - 1) * 2 + 1) = some (.int .i64 q) := hx1
  go_wp2_with (fail)
  refine wp_named ?_
  intro W6 hW6
  have p0 : W6.cell? ⟨W2.heap.size, 0, none⟩ = some (.int .i64 f1) := by rw [hW6]; first | (simp [go_sem, ↓IntWalk.iteOmega, *]; done) | (simp [go_sem, ↓IntWalk.iteOmega, *]; intros; omega)
  have p1 : W6.cell? ⟨W2.heap.size, 1, none⟩ = some (.int .i64 t1) := by rw [hW6]; first | (simp [go_sem, ↓IntWalk.iteOmega, *]; done) | (simp [go_sem, ↓IntWalk.iteOmega, *]; intros; omega)
  have p2 : W6.cell? ⟨W3.heap.size, 0, none⟩ = some (.int .i64 f3) := by rw [hW6]; first | (simp [go_sem, ↓IntWalk.iteOmega, *]; done) | (simp [go_sem, ↓IntWalk.iteOmega, *]; intros; omega)
  have p3 : W6.cell? ⟨W3.heap.size, 1, none⟩ = some (.int .i64 t3) := by rw [hW6]; first | (simp [go_sem, ↓IntWalk.iteOmega, *]; done) | (simp [go_sem, ↓IntWalk.iteOmega, *]; intros; omega)
  have h60 : W6.cell? ⟨W5.heap.size, 0, none⟩ = some (.int .i64 p) := by rw [hW6]; first | (simp [go_sem, ↓IntWalk.iteOmega, *]; done) | (simp [go_sem, ↓IntWalk.iteOmega, *]; intros; omega)
  have ff : ∀ o, W6.frozen? ⟨W3.heap.size, o, none⟩ = false := by rw [hW6]; (try intro o); first | (simp [go_sem, ↓IntWalk.iteOmega, *]; done) | (simp [go_sem, ↓IntWalk.iteOmega, *]; intros; omega)
  have z6 : W6.frozen? ⟨w.heap.size, 0, none⟩ = false := by rw [hW6]; first | (simp [go_sem, ↓IntWalk.iteOmega, *]; done) | (simp [go_sem, ↓IntWalk.iteOmega, *]; intros; omega)
  have y7 : W6.cell? ⟨w.heap.size, 0, none⟩ = some (.int .i64 0) := by rw [hW6]; first | (simp [go_sem, ↓IntWalk.iteOmega, *]; done) | (simp [go_sem, ↓IntWalk.iteOmega, *]; intros; omega)
  have z8 : W6.frozen? ⟨w.heap.size, 1, none⟩ = false := by rw [hW6]; first | (simp [go_sem, ↓IntWalk.iteOmega, *]; done) | (simp [go_sem, ↓IntWalk.iteOmega, *]; intros; omega)
  have y9 : W6.cell? ⟨w.heap.size, 1, none⟩ = some (.int .i64 0) := by rw [hW6]; first | (simp [go_sem, ↓IntWalk.iteOmega, *]; done) | (simp [go_sem, ↓IntWalk.iteOmega, *]; intros; omega)
  have z10 : W6.frozen? ⟨w.heap.size + 1, 0, none⟩ = false := by rw [hW6]; first | (simp [go_sem, ↓IntWalk.iteOmega, *]; done) | (simp [go_sem, ↓IntWalk.iteOmega, *]; intros; omega)
  have y11 : W6.cell? ⟨w.heap.size + 1, 0, none⟩ = some (.int .i64 0) := by rw [hW6]; first | (simp [go_sem, ↓IntWalk.iteOmega, *]; done) | (simp [go_sem, ↓IntWalk.iteOmega, *]; intros; omega)
  have z12 : W6.frozen? ⟨w.heap.size + 1, 1, none⟩ = false := by rw [hW6]; first | (simp [go_sem, ↓IntWalk.iteOmega, *]; done) | (simp [go_sem, ↓IntWalk.iteOmega, *]; intros; omega)
  have y13 : W6.cell? ⟨w.heap.size + 1, 1, none⟩ = some (.int .i64 0) := by rw [hW6]; first | (simp [go_sem, ↓IntWalk.iteOmega, *]; done) | (simp [go_sem, ↓IntWalk.iteOmega, *]; intros; omega)
  have hcu6 : CurS W6 (w.heap.size + 1 + 1) A cs cap (0 + 5 + 40 + 5 + 1) := by rw [hW6]; exact (by repeat' (first | with_reducible refine CurS.setc ?_ ?_ | with_reducible refine CurS.allo ?_ | with_reducible refine CurS.drw ?_ | with_reducible exact CurS.mono hcu5 (by omega) | (dsimp only; omega) | (simp; done) | omega))
  have hF6 : FreshA cLeg 2 39 (w.heap.size + 3) W6 A2 cp2 xs := by rw [hW6]; exact FreshA.below (FreshA.rowb (FreshA.below HF3.out (by (repeat' (first | exact Below.refl _ _ | assumption | refine Below.setCell ?_ ?_ _ | refine Below.drew ?_ | refine Below.alloc ?_ ?_ _ | refine Below.trans ?_ (Below.mono (by assumption) ?_) | (simp; done) | (simp; omega) | omega)))) hg5 (by omega)) (by (repeat' (first | exact Below.refl _ _ | assumption | refine Below.setCell ?_ ?_ _ | refine Below.drew ?_ | refine Below.alloc ?_ ?_ _ | refine Below.trans ?_ (Below.mono (by assumption) ?_) | (simp; done) | (simp; omega) | omega)))
  have hs6 : W5.heap.size + 1 ≤ W6.heap.size := by rw [hW6]; simp
  have hb6 : Below w.heap.size w W6 := by rw [hW6]; (repeat' (first | with_reducible exact Below.refl _ _ | with_reducible assumption | with_reducible refine Below.setCell ?_ ?_ _ | with_reducible refine Below.drew ?_ | with_reducible refine Below.alloc ?_ ?_ _ | with_reducible refine below_row ?_ (by assumption) ?_ ?_ | with_reducible refine Below.trans ?_ (Below.mono (by assumption) ?_) | (dsimp only; omega) | (simp; done) | (simp; omega) | omega))
  have HF6 := hid hF6
  have hb6' := hid hb6
  clear hF6 hb6 hW6 HF3 hg1 hg2 hg3 hg5 hb4 hc1 hf1 hc2 hf2 hc3 hf3 hc4 hf4 hc5 hf5 hcu1 hcu2 hcu3 hcu4 hcu5 hx0 hx1 hx0f hx1f hr3
  have HKQ : Hid (∀ w', W6.grownBy w' (some (w.heap.size + 1 + 1)) → w'.cell? ⟨W5.heap.size, 0, none⟩ = some (.int .i64 p)) := fun w' hg => (cellRow hg _ _).trans (by rw [if_pos ⟨by omega, by omega⟩]; exact h60)
  have hwp : IntKind.i64.wrap (p + 6) = p + 6 := by rw [IntKind.wrap_i64]; omega
  clear hlt2 hlt3 hlt5
  have hlt6 := hcu6.lt
  go_region_held3 (fun w' => w'.cell? ⟨W5.heap.size, 0, none⟩ = some (.int .i64 p)) (first | assumption | (rw [cellSet, if_neg (by omega), cellSet, if_neg (by omega)]; exact HKQ.out _ (by repeat' (first | with_reducible exact World.grownBy.refl _ _ | with_reducible exact grownT hg9 (grownT hg7 (grown_drew (World.grownBy.refl _ _))) | with_reducible exact grownT hg7 (grown_drew (World.grownBy.refl _ _)) | with_reducible exact grown_drew (World.grownBy.refl _ _) | with_reducible refine grownT hg9 ?_ | with_reducible refine grownT hg7 ?_ | with_reducible refine grown_drew ?_))) | exact HKQ.out _ (by repeat' (first | with_reducible exact World.grownBy.refl _ _ | with_reducible exact grownT hg9 (grownT hg7 (grown_drew (World.grownBy.refl _ _))) | with_reducible exact grownT hg7 (grown_drew (World.grownBy.refl _ _)) | with_reducible exact grown_drew (World.grownBy.refl _ _) | with_reducible refine grownT hg9 ?_ | with_reducible refine grownT hg7 ?_ | with_reducible refine grown_drew ?_))) (first | (go_at_call 78; with_reducible (show Calls _ _ #[_, .int .i64 30] _ _); refine (c_pick (w.heap.size + 1 + 1) A cs cap (0 + 5 + 40 + 5 + 1 + 1) 30 _ (by repeat' (first | with_reducible refine CurS.setc ?_ ?_ | with_reducible refine CurS.allo ?_ | with_reducible refine CurS.drw ?_ | with_reducible exact CurS.mono hcu7 (by omega) | (dsimp only; omega) | (simp; done) | omega)) hby (by omega) hl (by omega)).mono ?_; rintro e W9 ⟨x9, rfl, hx9a, hx9b, hcu9, hg9⟩; have hc9 := cellRow hg9; have hf9 := frozRow hg9; have hz9 := hg9.size; (try simp at hz9); have hw9 : IntKind.i64.wrap (p + 6 + x9) = p + 6 + x9 := (by rw [IntKind.wrap_i64]; omega)) | (go_at_call 78; with_reducible (show Calls _ _ #[_, .int .i64 7] _ _); refine (c_pick (w.heap.size + 1 + 1) A cs cap (0 + 5 + 40 + 5 + 1) 7 _ (by repeat' (first | with_reducible refine CurS.setc ?_ ?_ | with_reducible refine CurS.allo ?_ | with_reducible refine CurS.drw ?_ | with_reducible exact CurS.mono hcu6 (by omega) | (dsimp only; omega) | (simp; done) | omega)) hby (by omega) hl (by omega)).mono ?_; rintro e W7 ⟨x7, rfl, hx7a, hx7b, hcu7, hg7⟩; have hc7 := cellRow hg7; have hf7 := frozRow hg7; have hz7 := hg7.size; (try simp at hz7); have hw7 : IntKind.i64.wrap (p + x7) = p + x7 := (by rw [IntKind.wrap_i64]; omega)))
  have HH : Hi W3.heap.size A2 := HHI.out.mono (by omega)
  have hb6 := hb6'.out
  go_wp2_with (fail)
  refine wp_named ?_
  intro W8 hW8
  have p0 : W8.cell? ⟨W2.heap.size, 0, none⟩ = some (.int .i64 f1) := by rw [hW8]; first | (simp [go_sem, ↓IntWalk.iteOmega, *]; done) | (simp [go_sem, ↓IntWalk.iteOmega, *]; intros; omega)
  have p1 : W8.cell? ⟨W2.heap.size, 1, none⟩ = some (.int .i64 t1) := by rw [hW8]; first | (simp [go_sem, ↓IntWalk.iteOmega, *]; done) | (simp [go_sem, ↓IntWalk.iteOmega, *]; intros; omega)
  have p2 : W8.cell? ⟨W3.heap.size, 0, none⟩ = some (.int .i64 (p + x7)) := by rw [hW8]; first | (simp [go_sem, ↓IntWalk.iteOmega, *]; done) | (simp [go_sem, ↓IntWalk.iteOmega, *]; intros; omega)
  have p3 : W8.cell? ⟨W3.heap.size, 1, none⟩ = some (.int .i64 (p + 6 + x9)) := by rw [hW8]; first | (simp [go_sem, ↓IntWalk.iteOmega, *]; done) | (simp [go_sem, ↓IntWalk.iteOmega, *]; intros; omega)
  have z4 : W8.frozen? ⟨w.heap.size, 0, none⟩ = false := by rw [hW8]; first | (simp [go_sem, ↓IntWalk.iteOmega, *]; done) | (simp [go_sem, ↓IntWalk.iteOmega, *]; intros; omega)
  have y5 : W8.cell? ⟨w.heap.size, 0, none⟩ = some (.int .i64 0) := by rw [hW8]; first | (simp [go_sem, ↓IntWalk.iteOmega, *]; done) | (simp [go_sem, ↓IntWalk.iteOmega, *]; intros; omega)
  have z6 : W8.frozen? ⟨w.heap.size, 1, none⟩ = false := by rw [hW8]; first | (simp [go_sem, ↓IntWalk.iteOmega, *]; done) | (simp [go_sem, ↓IntWalk.iteOmega, *]; intros; omega)
  have y7 : W8.cell? ⟨w.heap.size, 1, none⟩ = some (.int .i64 0) := by rw [hW8]; first | (simp [go_sem, ↓IntWalk.iteOmega, *]; done) | (simp [go_sem, ↓IntWalk.iteOmega, *]; intros; omega)
  have z8 : W8.frozen? ⟨w.heap.size + 1, 0, none⟩ = false := by rw [hW8]; first | (simp [go_sem, ↓IntWalk.iteOmega, *]; done) | (simp [go_sem, ↓IntWalk.iteOmega, *]; intros; omega)
  have y9 : W8.cell? ⟨w.heap.size + 1, 0, none⟩ = some (.int .i64 0) := by rw [hW8]; first | (simp [go_sem, ↓IntWalk.iteOmega, *]; done) | (simp [go_sem, ↓IntWalk.iteOmega, *]; intros; omega)
  have z10 : W8.frozen? ⟨w.heap.size + 1, 1, none⟩ = false := by rw [hW8]; first | (simp [go_sem, ↓IntWalk.iteOmega, *]; done) | (simp [go_sem, ↓IntWalk.iteOmega, *]; intros; omega)
  have y11 : W8.cell? ⟨w.heap.size + 1, 1, none⟩ = some (.int .i64 0) := by rw [hW8]; first | (simp [go_sem, ↓IntWalk.iteOmega, *]; done) | (simp [go_sem, ↓IntWalk.iteOmega, *]; intros; omega)
  have q0 : W2.heap.size ≠ w.heap.size := by omega
  have q1 : W2.heap.size ≠ w.heap.size + 1 := by omega
  have q2 : W3.heap.size ≠ w.heap.size := by omega
  have q3 : W3.heap.size ≠ w.heap.size + 1 := by omega
  have q4 : w.heap.size ≠ w.heap.size + 1 := by omega
  have q5 : W2.heap.size ≠ W3.heap.size := by omega
  have hF8 : FreshA cLeg 2 39 (w.heap.size + 3) W8 A2 cp2 xs := by rw [hW8]; refine FreshA.set_high ?_ HH (by dsimp only; omega) _; refine FreshA.set_high ?_ HH (by dsimp only; omega) _; exact FreshA.rowb (FreshA.rowb (FreshA.below HF6.out (Below.drew (Below.refl _ _))) hg7 (by omega)) hg9 (by omega)
  have hb8 : Below w.heap.size w W8 := by rw [hW8]; exact Below.setCell (Below.setCell (below_row (below_row (Below.drew hb6) hg7 (by omega) (by exact hb6.size)) hg9 (by omega) (by have := hb6.size; have := hg7.size; simp at this; omega)) (by first | omega | (show w.heap.size ≤ W3.heap.size; omega)) _) (by first | omega | (show w.heap.size ≤ W3.heap.size; omega)) _
  have HF8 := hid hF8
  clear hF8 hW8
  go_region
  all_goals go_wp2_with (fail)
  all_goals
    refine bodyPost_ret (v := .tuple #[.agg #[.int .i64 f1, .int .i64 t1], .slice A2 xs.length cp2, .agg #[.int .i64 (p + x7), .int .i64 (p + 6 + x9)]]) ?_ rfl ⟨f1, t1, A2, cp2, xs, p + x7, p + 6 + x9, rfl, hx1a, hx1b, ?_, hxl, by omega, by omega, ?_⟩
    · simp [results, Try.results53, go_sem, ↓IntWalk.iteOmega, *]
    · refine FreshA.mono (B := w.heap.size + 3) ?_ (by omega)
      repeat' (first | with_reducible exact HF8.out | with_reducible refine FreshA.set_low ?_ ?_ _ | with_reducible refine FreshA.below ?_ (Below.drew (Below.refl _ _)) | (dsimp only; omega))
    · repeat' (first | with_reducible exact hb8 | with_reducible refine Below.setCell ?_ ?_ _ | with_reducible refine Below.drew ?_ | (dsimp only; omega))

end Go.Proofs.Ythlmeofjjmfpnaa
