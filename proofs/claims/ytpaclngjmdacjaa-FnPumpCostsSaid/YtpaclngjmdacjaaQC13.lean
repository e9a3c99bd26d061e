import Derived.Test.YtpaclngjmdacjaaQC05
import Derived.Test.YtpaclngjmdacjaaQC09
import Derived.Test.YtpaclngjmdacjaaQC10
import Derived.Test.YtpaclngjmdacjaaQC03
import Derived.Test.YtpaclngjmdacjaaQC11
import Derived.Test.YtpaclngjmdacjaaQC08
import Derived.Test.YtpaclngjmdacjaaQC12
namespace Go.Proofs.Ytpaclngjmdacjaa
set_option linter.unusedSimpArgs false
set_option linter.unusedVariables false
open Go.RowKit

set_option maxRecDepth 100000 in
set_option maxHeartbeats 16000000 in
theorem c_laws_FnPumpCosts (A : Option Addr) (cs : List Int) (cap : Nat) (w : World) (hr : Rds cB 1 w A cs) (hby : Bytes cs) (hn : cs.length ≤ 9223372036854775807) :
    Calls Try.prog 11 #[.slice A cs.length cap] w fun e w' => e = .returned (.bool true) ∧ Below w.heap.size w w' := by
  by_cases hbig : 65536 < cs.length
  · go_enter Try.func11, Try.ntmps11
    go_wp2_with (fail)
    refine (c_laws_rBig _ _ _ _ (by omega)).mono ?_
    rintro e W1 ⟨rfl, hb1⟩
    simp only [show decide (65536 < cs.length) = true by simp; omega]
    go_wp2_with (fail)
    go_ret
    exact ⟨rfl, by (repeat' (first | exact Below.refl _ _ | assumption | refine Below.setCell ?_ ?_ _ | refine Below.drew ?_ | refine Below.alloc ?_ ?_ _ | refine Below.trans ?_ (Below.mono (by assumption) ?_) | (simp; done) | (simp; omega) | omega))⟩
  go_enter Try.func11, Try.ntmps11
  go_wp2_with (fail)
  refine (c_laws_rBig _ _ _ _ (by omega)).mono ?_
  rintro e W1 ⟨rfl, hw⟩
  simp only [show decide (65536 < cs.length) = false by simp; omega]
  have hwz := hw.size
  go_wp2_with (fail)
  refine calls_named ?_
  intro V1 hV
  have hk : Below W1.heap.size W1 V1 := by rw [hV]; (repeat' (first | with_reducible exact Below.refl _ _ | with_reducible assumption | with_reducible refine Below.setCell ?_ ?_ _ | with_reducible refine Below.drew ?_ | with_reducible refine Below.alloc ?_ ?_ _ | with_reducible refine Below.trans ?_ (Below.mono (by assumption) ?_) | (dsimp only; omega) | (simp; done) | (simp; omega) | omega))
  have hkz1 := hk.size
  have hw1 : Below w.heap.size w V1 := Below.trans hw (Below.mono hk (by have := hw.size; omega))
  clear hw hk
  have hw := hw1
  clear hw1
  have hwz := hw.size
  clear hV
  refine (c_spec_DrawPlanCost A cs cap _ (Rds.below hr hw) hby (by omega)).mono ?_
  rintro e W2 ⟨l, u, v, Af, cf, fs, Aq, cq, ps, Ap, cp, pl, rfl, hFf, hFq, hFp, hfl, hpl, hpl3, hb⟩
  have hk : Below V1.heap.size V1 W2 := hb
  have hkz2 := hk.size
  have hw2 : Below w.heap.size w W2 := Below.trans hw (Below.mono hk (by have := hw.size; omega))
  clear hw hk
  have hw := hw2
  clear hw2
  have hwz := hw.size
  clear hb
  have S2_0 : Hid (FreshA cIn 1 3 V1.heap.size W2 Af cf fs) := hid (hFf)
  have loS2_0 := S2_0.out.lo
  have hiS2_0 := S2_0.out.hi
  have S2_1 : Hid (FreshA cPu 3 71 V1.heap.size W2 Aq cq ps) := hid (hFq)
  have loS2_1 := S2_1.out.lo
  have hiS2_1 := S2_1.out.hi
  have S2_2 : Hid (FreshA cIn 1 3 V1.heap.size W2 Ap cp pl) := hid (hFp)
  have loS2_2 := S2_2.out.lo
  have hiS2_2 := S2_2.out.hi
  clear hFf hFq hFp
  obtain ⟨pay, pb, hPay⟩ : ∃ pay pb, payV l u v fs ps pl = (pay, pb) := ⟨_, _, rfl⟩
  obtain ⟨stt, sb, hSt⟩ : ∃ stt sb, startV l u v fs ps pl = (stt, sb) := ⟨_, _, rfl⟩
  obtain ⟨best, least, told, hCh⟩ : ∃ best least told, cheapV l u v fs ps = (best, least, told) := ⟨_, _, _, rfl⟩
  obtain ⟨sf, sk, hSa⟩ : ∃ sf sk, safeV l u v fs ps pl = (sf, sk) := ⟨_, _, rfl⟩
  obtain ⟨hL1, hL2, hL3⟩ := costs_law hPay hSt hCh hSa
  subst hL1
  have HL2 := hid hL2; have HL3 := hid hL3; clear hL2 hL3
  have hbl := cheapV_len l u v fs ps
  rw [hCh] at hbl
  simp only at hbl
  have HP := hid hPay; have HS := hid hSt; have HC := hid hCh; have HF := hid hSa; clear hPay hSt hCh hSa
  go_wp2_with (fail)
  refine calls_named ?_
  intro V3 hV
  have hk : Below W2.heap.size W2 V3 := by rw [hV]; (repeat' (first | with_reducible exact Below.refl _ _ | with_reducible assumption | with_reducible refine Below.setCell ?_ ?_ _ | with_reducible refine Below.drew ?_ | with_reducible refine Below.alloc ?_ ?_ _ | with_reducible refine Below.trans ?_ (Below.mono (by assumption) ?_) | (dsimp only; omega) | (simp; done) | (simp; omega) | omega))
  have hkz3 := hk.size
  have R3_0 := hid (FreshA.below (cf := cIn) (sz := 1) (T := 3) (B := V1.heap.size) S2_0.out hk)
  have R3_1 := hid (FreshA.below (cf := cPu) (sz := 3) (T := 71) (B := V1.heap.size) S2_1.out hk)
  have R3_2 := hid (FreshA.below (cf := cIn) (sz := 1) (T := 3) (B := V1.heap.size) S2_2.out hk)
  have hw3 : Below w.heap.size w V3 := Below.trans hw (Below.mono hk (by have := hw.size; omega))
  clear hw hk
  have hw := hw3
  clear hw3
  have hwz := hw.size
  clear S2_0 S2_1 S2_2
  have d3_0 : V3.cell? ⟨W2.heap.size, 0, none⟩ = some (.int .i64 l) := by rw [hV]; first | (simp [go_sem, ↓IntWalk.iteOmega, *]; done) | (simp [go_sem, ↓IntWalk.iteOmega, *]; intros; omega)
  have d3_1 : V3.cell? ⟨W2.heap.size, 1, none⟩ = some (.int .i64 u) := by rw [hV]; first | (simp [go_sem, ↓IntWalk.iteOmega, *]; done) | (simp [go_sem, ↓IntWalk.iteOmega, *]; intros; omega)
  have d3_2 : V3.cell? ⟨W2.heap.size, 2, none⟩ = some (.int .i64 v) := by rw [hV]; first | (simp [go_sem, ↓IntWalk.iteOmega, *]; done) | (simp [go_sem, ↓IntWalk.iteOmega, *]; intros; omega)
  have d3_3 : V3.cell? ⟨W2.heap.size, 3, none⟩ = some (.slice Af fs.length cf) := by rw [hV]; first | (simp [go_sem, ↓IntWalk.iteOmega, *]; done) | (simp [go_sem, ↓IntWalk.iteOmega, *]; intros; omega)
  have d3_4 : V3.cell? ⟨W2.heap.size, 4, none⟩ = some (.slice Aq ps.length cq) := by rw [hV]; first | (simp [go_sem, ↓IntWalk.iteOmega, *]; done) | (simp [go_sem, ↓IntWalk.iteOmega, *]; intros; omega)
  have e3_0 : W2.heap.size < V3.heap.size := by rw [hV]; first | (simp; done) | (simp; omega)
  clear hV
  refine (c_impl_PlanCost l u v Af fs cf Aq ps cq Ap pl cp _ R3_0.out.rds (by omega) R3_1.out.rds (by omega) R3_2.out.rds (by omega)).mono ?_
  simp only [HP.out]
  rintro e W4 ⟨rfl, hb⟩
  have hk : Below V3.heap.size V3 W4 := hb
  have hkz4 := hk.size
  have c4_0 : W4.cell? ⟨W2.heap.size, 0, none⟩ = some (.int .i64 l) := (hb.cell (p := ⟨W2.heap.size, 0, none⟩) (by show W2.heap.size < _; omega)).trans d3_0
  have c4_1 : W4.cell? ⟨W2.heap.size, 1, none⟩ = some (.int .i64 u) := (hb.cell (p := ⟨W2.heap.size, 1, none⟩) (by show W2.heap.size < _; omega)).trans d3_1
  have c4_2 : W4.cell? ⟨W2.heap.size, 2, none⟩ = some (.int .i64 v) := (hb.cell (p := ⟨W2.heap.size, 2, none⟩) (by show W2.heap.size < _; omega)).trans d3_2
  have c4_3 : W4.cell? ⟨W2.heap.size, 3, none⟩ = some (.slice Af fs.length cf) := (hb.cell (p := ⟨W2.heap.size, 3, none⟩) (by show W2.heap.size < _; omega)).trans d3_3
  have c4_4 : W4.cell? ⟨W2.heap.size, 4, none⟩ = some (.slice Aq ps.length cq) := (hb.cell (p := ⟨W2.heap.size, 4, none⟩) (by show W2.heap.size < _; omega)).trans d3_4
  have b4_0 : W2.heap.size < W4.heap.size := by omega
  have R4_0 := hid (FreshA.below (cf := cIn) (sz := 1) (T := 3) (B := V1.heap.size) R3_0.out hk)
  have R4_1 := hid (FreshA.below (cf := cPu) (sz := 3) (T := 71) (B := V1.heap.size) R3_1.out hk)
  have R4_2 := hid (FreshA.below (cf := cIn) (sz := 1) (T := 3) (B := V1.heap.size) R3_2.out hk)
  have hw4 : Below w.heap.size w W4 := Below.trans hw (Below.mono hk (by have := hw.size; omega))
  clear hw hk
  have hw := hw4
  clear hw4
  have hwz := hw.size
  clear d3_0 d3_1 d3_2 d3_3 d3_4 R3_0 R3_1 R3_2
  clear hb
  go_wp2_with (fail)
  refine calls_named ?_
  intro V5 hV
  have hk : Below W4.heap.size W4 V5 := by rw [hV]; (repeat' (first | with_reducible exact Below.refl _ _ | with_reducible assumption | with_reducible refine Below.setCell ?_ ?_ _ | with_reducible refine Below.drew ?_ | with_reducible refine Below.alloc ?_ ?_ _ | with_reducible refine Below.trans ?_ (Below.mono (by assumption) ?_) | (dsimp only; omega) | (simp; done) | (simp; omega) | omega))
  have hkz5 := hk.size
  have c5_0 : V5.cell? ⟨W2.heap.size, 0, none⟩ = some (.int .i64 l) := by rw [hV]; first | ((repeat' (first | with_reducible exact c4_0 | with_reducible refine cellK_drew ?_ | with_reducible refine cellK_alloc ?_ | with_reducible refine cellK_set ?_ (by dsimp only; omega))); done) | (first | (simp [go_sem, ↓IntWalk.iteOmega, *]; done) | (simp [go_sem, ↓IntWalk.iteOmega, *]; intros; omega))
  have c5_1 : V5.cell? ⟨W2.heap.size, 1, none⟩ = some (.int .i64 u) := by rw [hV]; first | ((repeat' (first | with_reducible exact c4_1 | with_reducible refine cellK_drew ?_ | with_reducible refine cellK_alloc ?_ | with_reducible refine cellK_set ?_ (by dsimp only; omega))); done) | (first | (simp [go_sem, ↓IntWalk.iteOmega, *]; done) | (simp [go_sem, ↓IntWalk.iteOmega, *]; intros; omega))
  have c5_2 : V5.cell? ⟨W2.heap.size, 2, none⟩ = some (.int .i64 v) := by rw [hV]; first | ((repeat' (first | with_reducible exact c4_2 | with_reducible refine cellK_drew ?_ | with_reducible refine cellK_alloc ?_ | with_reducible refine cellK_set ?_ (by dsimp only; omega))); done) | (first | (simp [go_sem, ↓IntWalk.iteOmega, *]; done) | (simp [go_sem, ↓IntWalk.iteOmega, *]; intros; omega))
  have c5_3 : V5.cell? ⟨W2.heap.size, 3, none⟩ = some (.slice Af fs.length cf) := by rw [hV]; first | ((repeat' (first | with_reducible exact c4_3 | with_reducible refine cellK_drew ?_ | with_reducible refine cellK_alloc ?_ | with_reducible refine cellK_set ?_ (by dsimp only; omega))); done) | (first | (simp [go_sem, ↓IntWalk.iteOmega, *]; done) | (simp [go_sem, ↓IntWalk.iteOmega, *]; intros; omega))
  have c5_4 : V5.cell? ⟨W2.heap.size, 4, none⟩ = some (.slice Aq ps.length cq) := by rw [hV]; first | ((repeat' (first | with_reducible exact c4_4 | with_reducible refine cellK_drew ?_ | with_reducible refine cellK_alloc ?_ | with_reducible refine cellK_set ?_ (by dsimp only; omega))); done) | (first | (simp [go_sem, ↓IntWalk.iteOmega, *]; done) | (simp [go_sem, ↓IntWalk.iteOmega, *]; intros; omega))
  have b5_0 : W2.heap.size < V5.heap.size := by omega
  have R5_0 := hid (FreshA.below (cf := cIn) (sz := 1) (T := 3) (B := V1.heap.size) R4_0.out hk)
  have R5_1 := hid (FreshA.below (cf := cPu) (sz := 3) (T := 71) (B := V1.heap.size) R4_1.out hk)
  have R5_2 := hid (FreshA.below (cf := cIn) (sz := 1) (T := 3) (B := V1.heap.size) R4_2.out hk)
  have hw5 : Below w.heap.size w V5 := Below.trans hw (Below.mono hk (by have := hw.size; omega))
  clear hw hk
  have hw := hw5
  clear hw5
  have hwz := hw.size
  clear c4_0 c4_1 c4_2 c4_3 c4_4 R4_0 R4_1 R4_2
  clear hV
  refine (c_spec_PlanCost l u v Af fs cf Aq ps cq Ap pl cp _ R5_0.out.rds (by omega) R5_1.out.rds (by omega) R5_2.out.rds (by omega)).mono ?_
  simp only [HP.out]
  rintro e W6 ⟨rfl, hb⟩
  have hk : Below V5.heap.size V5 W6 := hb
  have hkz6 := hk.size
  have c6_0 : W6.cell? ⟨W2.heap.size, 0, none⟩ = some (.int .i64 l) := (hb.cell (p := ⟨W2.heap.size, 0, none⟩) (by show W2.heap.size < _; omega)).trans c5_0
  have c6_1 : W6.cell? ⟨W2.heap.size, 1, none⟩ = some (.int .i64 u) := (hb.cell (p := ⟨W2.heap.size, 1, none⟩) (by show W2.heap.size < _; omega)).trans c5_1
  have c6_2 : W6.cell? ⟨W2.heap.size, 2, none⟩ = some (.int .i64 v) := (hb.cell (p := ⟨W2.heap.size, 2, none⟩) (by show W2.heap.size < _; omega)).trans c5_2
  have c6_3 : W6.cell? ⟨W2.heap.size, 3, none⟩ = some (.slice Af fs.length cf) := (hb.cell (p := ⟨W2.heap.size, 3, none⟩) (by show W2.heap.size < _; omega)).trans c5_3
  have c6_4 : W6.cell? ⟨W2.heap.size, 4, none⟩ = some (.slice Aq ps.length cq) := (hb.cell (p := ⟨W2.heap.size, 4, none⟩) (by show W2.heap.size < _; omega)).trans c5_4
  have b6_0 : W2.heap.size < W6.heap.size := by omega
  have R6_0 := hid (FreshA.below (cf := cIn) (sz := 1) (T := 3) (B := V1.heap.size) R5_0.out hk)
  have R6_1 := hid (FreshA.below (cf := cPu) (sz := 3) (T := 71) (B := V1.heap.size) R5_1.out hk)
  have R6_2 := hid (FreshA.below (cf := cIn) (sz := 1) (T := 3) (B := V1.heap.size) R5_2.out hk)
  have hw6 : Below w.heap.size w W6 := Below.trans hw (Below.mono hk (by have := hw.size; omega))
  clear hw hk
  have hw := hw6
  clear hw6
  have hwz := hw.size
  clear c5_0 c5_1 c5_2 c5_3 c5_4 R5_0 R5_1 R5_2
  clear hb
  go_wp2_with (fail)
  refine calls_named ?_
  intro V7 hV
  have hk : Below W6.heap.size W6 V7 := by rw [hV]; (repeat' (first | with_reducible exact Below.refl _ _ | with_reducible assumption | with_reducible refine Below.setCell ?_ ?_ _ | with_reducible refine Below.drew ?_ | with_reducible refine Below.alloc ?_ ?_ _ | with_reducible refine Below.trans ?_ (Below.mono (by assumption) ?_) | (dsimp only; omega) | (simp; done) | (simp; omega) | omega))
  have hkz7 := hk.size
  have c7_0 : V7.cell? ⟨W2.heap.size, 0, none⟩ = some (.int .i64 l) := by rw [hV]; first | ((repeat' (first | with_reducible exact c6_0 | with_reducible refine cellK_drew ?_ | with_reducible refine cellK_alloc ?_ | with_reducible refine cellK_set ?_ (by dsimp only; omega))); done) | (first | (simp [go_sem, ↓IntWalk.iteOmega, *]; done) | (simp [go_sem, ↓IntWalk.iteOmega, *]; intros; omega))
  have c7_1 : V7.cell? ⟨W2.heap.size, 1, none⟩ = some (.int .i64 u) := by rw [hV]; first | ((repeat' (first | with_reducible exact c6_1 | with_reducible refine cellK_drew ?_ | with_reducible refine cellK_alloc ?_ | with_reducible refine cellK_set ?_ (by dsimp only; omega))); done) | (first | (simp [go_sem, ↓IntWalk.iteOmega, *]; done) | (simp [go_sem, ↓IntWalk.iteOmega, *]; intros; omega))
  have c7_2 : V7.cell? ⟨W2.heap.size, 2, none⟩ = some (.int .i64 v) := by rw [hV]; first | ((repeat' (first | with_reducible exact c6_2 | with_reducible refine cellK_drew ?_ | with_reducible refine cellK_alloc ?_ | with_reducible refine cellK_set ?_ (by dsimp only; omega))); done) | (first | (simp [go_sem, ↓IntWalk.iteOmega, *]; done) | (simp [go_sem, ↓IntWalk.iteOmega, *]; intros; omega))
  have c7_3 : V7.cell? ⟨W2.heap.size, 3, none⟩ = some (.slice Af fs.length cf) := by rw [hV]; first | ((repeat' (first | with_reducible exact c6_3 | with_reducible refine cellK_drew ?_ | with_reducible refine cellK_alloc ?_ | with_reducible refine cellK_set ?_ (by dsimp only; omega))); done) | (first | (simp [go_sem, ↓IntWalk.iteOmega, *]; done) | (simp [go_sem, ↓IntWalk.iteOmega, *]; intros; omega))
  have c7_4 : V7.cell? ⟨W2.heap.size, 4, none⟩ = some (.slice Aq ps.length cq) := by rw [hV]; first | ((repeat' (first | with_reducible exact c6_4 | with_reducible refine cellK_drew ?_ | with_reducible refine cellK_alloc ?_ | with_reducible refine cellK_set ?_ (by dsimp only; omega))); done) | (first | (simp [go_sem, ↓IntWalk.iteOmega, *]; done) | (simp [go_sem, ↓IntWalk.iteOmega, *]; intros; omega))
  have b7_0 : W2.heap.size < V7.heap.size := by omega
  have R7_0 := hid (FreshA.below (cf := cIn) (sz := 1) (T := 3) (B := V1.heap.size) R6_0.out hk)
  have R7_1 := hid (FreshA.below (cf := cPu) (sz := 3) (T := 71) (B := V1.heap.size) R6_1.out hk)
  have R7_2 := hid (FreshA.below (cf := cIn) (sz := 1) (T := 3) (B := V1.heap.size) R6_2.out hk)
  have hw7 : Below w.heap.size w V7 := Below.trans hw (Below.mono hk (by have := hw.size; omega))
  clear hw hk
  have hw := hw7
  clear hw7
  have hwz := hw.size
  clear c6_0 c6_1 c6_2 c6_3 c6_4 R6_0 R6_1 R6_2
  clear hV
  refine (c_impl_CountStarts l u v Af fs cf Aq ps cq Ap pl cp _ R7_0.out.rds (by omega) R7_1.out.rds (by omega) R7_2.out.rds (by omega)).mono ?_
  simp only [HS.out]
  rintro e W8 ⟨rfl, hb⟩
  have hk : Below V7.heap.size V7 W8 := hb
  have hkz8 := hk.size
  have c8_0 : W8.cell? ⟨W2.heap.size, 0, none⟩ = some (.int .i64 l) := (hb.cell (p := ⟨W2.heap.size, 0, none⟩) (by show W2.heap.size < _; omega)).trans c7_0
  have c8_1 : W8.cell? ⟨W2.heap.size, 1, none⟩ = some (.int .i64 u) := (hb.cell (p := ⟨W2.heap.size, 1, none⟩) (by show W2.heap.size < _; omega)).trans c7_1
  have c8_2 : W8.cell? ⟨W2.heap.size, 2, none⟩ = some (.int .i64 v) := (hb.cell (p := ⟨W2.heap.size, 2, none⟩) (by show W2.heap.size < _; omega)).trans c7_2
  have c8_3 : W8.cell? ⟨W2.heap.size, 3, none⟩ = some (.slice Af fs.length cf) := (hb.cell (p := ⟨W2.heap.size, 3, none⟩) (by show W2.heap.size < _; omega)).trans c7_3
  have c8_4 : W8.cell? ⟨W2.heap.size, 4, none⟩ = some (.slice Aq ps.length cq) := (hb.cell (p := ⟨W2.heap.size, 4, none⟩) (by show W2.heap.size < _; omega)).trans c7_4
  have b8_0 : W2.heap.size < W8.heap.size := by omega
  have R8_0 := hid (FreshA.below (cf := cIn) (sz := 1) (T := 3) (B := V1.heap.size) R7_0.out hk)
  have R8_1 := hid (FreshA.below (cf := cPu) (sz := 3) (T := 71) (B := V1.heap.size) R7_1.out hk)
  have R8_2 := hid (FreshA.below (cf := cIn) (sz := 1) (T := 3) (B := V1.heap.size) R7_2.out hk)
  have hw8 : Below w.heap.size w W8 := Below.trans hw (Below.mono hk (by have := hw.size; omega))
  clear hw hk
  have hw := hw8
  clear hw8
  have hwz := hw.size
  clear c7_0 c7_1 c7_2 c7_3 c7_4 R7_0 R7_1 R7_2
  clear hb
  go_wp2_with (fail)
  refine calls_named ?_
  intro V9 hV
  have hk : Below W8.heap.size W8 V9 := by rw [hV]; (repeat' (first | with_reducible exact Below.refl _ _ | with_reducible assumption | with_reducible refine Below.setCell ?_ ?_ _ | with_reducible refine Below.drew ?_ | with_reducible refine Below.alloc ?_ ?_ _ | with_reducible refine Below.trans ?_ (Below.mono (by assumption) ?_) | (dsimp only; omega) | (simp; done) | (simp; omega) | omega))
  have hkz9 := hk.size
  have c9_0 : V9.cell? ⟨W2.heap.size, 0, none⟩ = some (.int .i64 l) := by rw [hV]; first | ((repeat' (first | with_reducible exact c8_0 | with_reducible refine cellK_drew ?_ | with_reducible refine cellK_alloc ?_ | with_reducible refine cellK_set ?_ (by dsimp only; omega))); done) | (first | (simp [go_sem, ↓IntWalk.iteOmega, *]; done) | (simp [go_sem, ↓IntWalk.iteOmega, *]; intros; omega))
  have c9_1 : V9.cell? ⟨W2.heap.size, 1, none⟩ = some (.int .i64 u) := by rw [hV]; first | ((repeat' (first | with_reducible exact c8_1 | with_reducible refine cellK_drew ?_ | with_reducible refine cellK_alloc ?_ | with_reducible refine cellK_set ?_ (by dsimp only; omega))); done) | (first | (simp [go_sem, ↓IntWalk.iteOmega, *]; done) | (simp [go_sem, ↓IntWalk.iteOmega, *]; intros; omega))
  have c9_2 : V9.cell? ⟨W2.heap.size, 2, none⟩ = some (.int .i64 v) := by rw [hV]; first | ((repeat' (first | with_reducible exact c8_2 | with_reducible refine cellK_drew ?_ | with_reducible refine cellK_alloc ?_ | with_reducible refine cellK_set ?_ (by dsimp only; omega))); done) | (first | (simp [go_sem, ↓IntWalk.iteOmega, *]; done) | (simp [go_sem, ↓IntWalk.iteOmega, *]; intros; omega))
  have c9_3 : V9.cell? ⟨W2.heap.size, 3, none⟩ = some (.slice Af fs.length cf) := by rw [hV]; first | ((repeat' (first | with_reducible exact c8_3 | with_reducible refine cellK_drew ?_ | with_reducible refine cellK_alloc ?_ | with_reducible refine cellK_set ?_ (by dsimp only; omega))); done) | (first | (simp [go_sem, ↓IntWalk.iteOmega, *]; done) | (simp [go_sem, ↓IntWalk.iteOmega, *]; intros; omega))
  have c9_4 : V9.cell? ⟨W2.heap.size, 4, none⟩ = some (.slice Aq ps.length cq) := by rw [hV]; first | ((repeat' (first | with_reducible exact c8_4 | with_reducible refine cellK_drew ?_ | with_reducible refine cellK_alloc ?_ | with_reducible refine cellK_set ?_ (by dsimp only; omega))); done) | (first | (simp [go_sem, ↓IntWalk.iteOmega, *]; done) | (simp [go_sem, ↓IntWalk.iteOmega, *]; intros; omega))
  have b9_0 : W2.heap.size < V9.heap.size := by omega
  have R9_0 := hid (FreshA.below (cf := cIn) (sz := 1) (T := 3) (B := V1.heap.size) R8_0.out hk)
  have R9_1 := hid (FreshA.below (cf := cPu) (sz := 3) (T := 71) (B := V1.heap.size) R8_1.out hk)
  have R9_2 := hid (FreshA.below (cf := cIn) (sz := 1) (T := 3) (B := V1.heap.size) R8_2.out hk)
  have hw9 : Below w.heap.size w V9 := Below.trans hw (Below.mono hk (by have := hw.size; omega))
  clear hw hk
  have hw := hw9
  clear hw9
  have hwz := hw.size
  clear c8_0 c8_1 c8_2 c8_3 c8_4 R8_0 R8_1 R8_2
  clear hV
  refine (c_spec_CountStarts l u v Af fs cf Aq ps cq Ap pl cp _ R9_0.out.rds (by omega) R9_1.out.rds (by omega) R9_2.out.rds (by omega)).mono ?_
  simp only [HS.out]
  rintro e W10 ⟨rfl, hb⟩
  have hk : Below V9.heap.size V9 W10 := hb
  have hkz10 := hk.size
  have c10_0 : W10.cell? ⟨W2.heap.size, 0, none⟩ = some (.int .i64 l) := (hb.cell (p := ⟨W2.heap.size, 0, none⟩) (by show W2.heap.size < _; omega)).trans c9_0
  have c10_1 : W10.cell? ⟨W2.heap.size, 1, none⟩ = some (.int .i64 u) := (hb.cell (p := ⟨W2.heap.size, 1, none⟩) (by show W2.heap.size < _; omega)).trans c9_1
  have c10_2 : W10.cell? ⟨W2.heap.size, 2, none⟩ = some (.int .i64 v) := (hb.cell (p := ⟨W2.heap.size, 2, none⟩) (by show W2.heap.size < _; omega)).trans c9_2
  have c10_3 : W10.cell? ⟨W2.heap.size, 3, none⟩ = some (.slice Af fs.length cf) := (hb.cell (p := ⟨W2.heap.size, 3, none⟩) (by show W2.heap.size < _; omega)).trans c9_3
  have c10_4 : W10.cell? ⟨W2.heap.size, 4, none⟩ = some (.slice Aq ps.length cq) := (hb.cell (p := ⟨W2.heap.size, 4, none⟩) (by show W2.heap.size < _; omega)).trans c9_4
  have b10_0 : W2.heap.size < W10.heap.size := by omega
  have R10_0 := hid (FreshA.below (cf := cIn) (sz := 1) (T := 3) (B := V1.heap.size) R9_0.out hk)
  have R10_1 := hid (FreshA.below (cf := cPu) (sz := 3) (T := 71) (B := V1.heap.size) R9_1.out hk)
  have R10_2 := hid (FreshA.below (cf := cIn) (sz := 1) (T := 3) (B := V1.heap.size) R9_2.out hk)
  have hw10 : Below w.heap.size w W10 := Below.trans hw (Below.mono hk (by have := hw.size; omega))
  clear hw hk
  have hw := hw10
  clear hw10
  have hwz := hw.size
  clear c9_0 c9_1 c9_2 c9_3 c9_4 R9_0 R9_1 R9_2
  clear hb
  go_wp2_with (fail)
  refine calls_named ?_
  intro V11 hV
  have hk : Below W10.heap.size W10 V11 := by rw [hV]; (repeat' (first | with_reducible exact Below.refl _ _ | with_reducible assumption | with_reducible refine Below.setCell ?_ ?_ _ | with_reducible refine Below.drew ?_ | with_reducible refine Below.alloc ?_ ?_ _ | with_reducible refine Below.trans ?_ (Below.mono (by assumption) ?_) | (dsimp only; omega) | (simp; done) | (simp; omega) | omega))
  have hkz11 := hk.size
  have c11_0 : V11.cell? ⟨W2.heap.size, 0, none⟩ = some (.int .i64 l) := by rw [hV]; first | ((repeat' (first | with_reducible exact c10_0 | with_reducible refine cellK_drew ?_ | with_reducible refine cellK_alloc ?_ | with_reducible refine cellK_set ?_ (by dsimp only; omega))); done) | (first | (simp [go_sem, ↓IntWalk.iteOmega, *]; done) | (simp [go_sem, ↓IntWalk.iteOmega, *]; intros; omega))
  have c11_1 : V11.cell? ⟨W2.heap.size, 1, none⟩ = some (.int .i64 u) := by rw [hV]; first | ((repeat' (first | with_reducible exact c10_1 | with_reducible refine cellK_drew ?_ | with_reducible refine cellK_alloc ?_ | with_reducible refine cellK_set ?_ (by dsimp only; omega))); done) | (first | (simp [go_sem, ↓IntWalk.iteOmega, *]; done) | (simp [go_sem, ↓IntWalk.iteOmega, *]; intros; omega))
  have c11_2 : V11.cell? ⟨W2.heap.size, 2, none⟩ = some (.int .i64 v) := by rw [hV]; first | ((repeat' (first | with_reducible exact c10_2 | with_reducible refine cellK_drew ?_ | with_reducible refine cellK_alloc ?_ | with_reducible refine cellK_set ?_ (by dsimp only; omega))); done) | (first | (simp [go_sem, ↓IntWalk.iteOmega, *]; done) | (simp [go_sem, ↓IntWalk.iteOmega, *]; intros; omega))
  have c11_3 : V11.cell? ⟨W2.heap.size, 3, none⟩ = some (.slice Af fs.length cf) := by rw [hV]; first | ((repeat' (first | with_reducible exact c10_3 | with_reducible refine cellK_drew ?_ | with_reducible refine cellK_alloc ?_ | with_reducible refine cellK_set ?_ (by dsimp only; omega))); done) | (first | (simp [go_sem, ↓IntWalk.iteOmega, *]; done) | (simp [go_sem, ↓IntWalk.iteOmega, *]; intros; omega))
  have c11_4 : V11.cell? ⟨W2.heap.size, 4, none⟩ = some (.slice Aq ps.length cq) := by rw [hV]; first | ((repeat' (first | with_reducible exact c10_4 | with_reducible refine cellK_drew ?_ | with_reducible refine cellK_alloc ?_ | with_reducible refine cellK_set ?_ (by dsimp only; omega))); done) | (first | (simp [go_sem, ↓IntWalk.iteOmega, *]; done) | (simp [go_sem, ↓IntWalk.iteOmega, *]; intros; omega))
  have b11_0 : W2.heap.size < V11.heap.size := by omega
  have R11_0 := hid (FreshA.below (cf := cIn) (sz := 1) (T := 3) (B := V1.heap.size) R10_0.out hk)
  have R11_1 := hid (FreshA.below (cf := cPu) (sz := 3) (T := 71) (B := V1.heap.size) R10_1.out hk)
  have R11_2 := hid (FreshA.below (cf := cIn) (sz := 1) (T := 3) (B := V1.heap.size) R10_2.out hk)
  have hw11 : Below w.heap.size w V11 := Below.trans hw (Below.mono hk (by have := hw.size; omega))
  clear hw hk
  have hw := hw11
  clear hw11
  have hwz := hw.size
  clear c10_0 c10_1 c10_2 c10_3 c10_4 R10_0 R10_1 R10_2
  clear hV
  refine (c_impl_CheapestPlan l u v Af fs cf Aq ps cq _ R11_0.out.rds (by omega) R11_1.out.rds (by omega)).mono ?_
  simp only [HC.out]
  rintro e W12 ⟨Ab0, cb0, rfl, hFb, hb⟩
  have hk : Below V11.heap.size V11 W12 := hb
  have hkz12 := hk.size
  have c12_0 : W12.cell? ⟨W2.heap.size, 0, none⟩ = some (.int .i64 l) := (hb.cell (p := ⟨W2.heap.size, 0, none⟩) (by show W2.heap.size < _; omega)).trans c11_0
  have c12_1 : W12.cell? ⟨W2.heap.size, 1, none⟩ = some (.int .i64 u) := (hb.cell (p := ⟨W2.heap.size, 1, none⟩) (by show W2.heap.size < _; omega)).trans c11_1
  have c12_2 : W12.cell? ⟨W2.heap.size, 2, none⟩ = some (.int .i64 v) := (hb.cell (p := ⟨W2.heap.size, 2, none⟩) (by show W2.heap.size < _; omega)).trans c11_2
  have c12_3 : W12.cell? ⟨W2.heap.size, 3, none⟩ = some (.slice Af fs.length cf) := (hb.cell (p := ⟨W2.heap.size, 3, none⟩) (by show W2.heap.size < _; omega)).trans c11_3
  have c12_4 : W12.cell? ⟨W2.heap.size, 4, none⟩ = some (.slice Aq ps.length cq) := (hb.cell (p := ⟨W2.heap.size, 4, none⟩) (by show W2.heap.size < _; omega)).trans c11_4
  have b12_0 : W2.heap.size < W12.heap.size := by omega
  have R12_0 := hid (FreshA.below (cf := cIn) (sz := 1) (T := 3) (B := V1.heap.size) R11_0.out hk)
  have R12_1 := hid (FreshA.below (cf := cPu) (sz := 3) (T := 71) (B := V1.heap.size) R11_1.out hk)
  have R12_2 := hid (FreshA.below (cf := cIn) (sz := 1) (T := 3) (B := V1.heap.size) R11_2.out hk)
  have hw12 : Below w.heap.size w W12 := Below.trans hw (Below.mono hk (by have := hw.size; omega))
  clear hw hk
  have hw := hw12
  clear hw12
  have hwz := hw.size
  clear c11_0 c11_1 c11_2 c11_3 c11_4 R11_0 R11_1 R11_2
  clear hb
  have S12_3 : Hid (FreshA cIn 1 3 V11.heap.size W12 Ab0 cb0 best) := hid (hFb)
  have loS12_3 := S12_3.out.lo
  have hiS12_3 := S12_3.out.hi
  clear hFb
  go_wp2_with (fail)
  refine calls_named ?_
  intro V13 hV
  have hk : Below W12.heap.size W12 V13 := by rw [hV]; (repeat' (first | with_reducible exact Below.refl _ _ | with_reducible assumption | with_reducible refine Below.setCell ?_ ?_ _ | with_reducible refine Below.drew ?_ | with_reducible refine Below.alloc ?_ ?_ _ | with_reducible refine Below.trans ?_ (Below.mono (by assumption) ?_) | (dsimp only; omega) | (simp; done) | (simp; omega) | omega))
  have hkz13 := hk.size
  have c13_0 : V13.cell? ⟨W2.heap.size, 0, none⟩ = some (.int .i64 l) := by rw [hV]; first | ((repeat' (first | with_reducible exact c12_0 | with_reducible refine cellK_drew ?_ | with_reducible refine cellK_alloc ?_ | with_reducible refine cellK_set ?_ (by dsimp only; omega))); done) | (first | (simp [go_sem, ↓IntWalk.iteOmega, *]; done) | (simp [go_sem, ↓IntWalk.iteOmega, *]; intros; omega))
  have c13_1 : V13.cell? ⟨W2.heap.size, 1, none⟩ = some (.int .i64 u) := by rw [hV]; first | ((repeat' (first | with_reducible exact c12_1 | with_reducible refine cellK_drew ?_ | with_reducible refine cellK_alloc ?_ | with_reducible refine cellK_set ?_ (by dsimp only; omega))); done) | (first | (simp [go_sem, ↓IntWalk.iteOmega, *]; done) | (simp [go_sem, ↓IntWalk.iteOmega, *]; intros; omega))
  have c13_2 : V13.cell? ⟨W2.heap.size, 2, none⟩ = some (.int .i64 v) := by rw [hV]; first | ((repeat' (first | with_reducible exact c12_2 | with_reducible refine cellK_drew ?_ | with_reducible refine cellK_alloc ?_ | with_reducible refine cellK_set ?_ (by dsimp only; omega))); done) | (first | (simp [go_sem, ↓IntWalk.iteOmega, *]; done) | (simp [go_sem, ↓IntWalk.iteOmega, *]; intros; omega))
  have c13_3 : V13.cell? ⟨W2.heap.size, 3, none⟩ = some (.slice Af fs.length cf) := by rw [hV]; first | ((repeat' (first | with_reducible exact c12_3 | with_reducible refine cellK_drew ?_ | with_reducible refine cellK_alloc ?_ | with_reducible refine cellK_set ?_ (by dsimp only; omega))); done) | (first | (simp [go_sem, ↓IntWalk.iteOmega, *]; done) | (simp [go_sem, ↓IntWalk.iteOmega, *]; intros; omega))
  have c13_4 : V13.cell? ⟨W2.heap.size, 4, none⟩ = some (.slice Aq ps.length cq) := by rw [hV]; first | ((repeat' (first | with_reducible exact c12_4 | with_reducible refine cellK_drew ?_ | with_reducible refine cellK_alloc ?_ | with_reducible refine cellK_set ?_ (by dsimp only; omega))); done) | (first | (simp [go_sem, ↓IntWalk.iteOmega, *]; done) | (simp [go_sem, ↓IntWalk.iteOmega, *]; intros; omega))
  have b13_0 : W2.heap.size < V13.heap.size := by omega
  have R13_0 := hid (FreshA.below (cf := cIn) (sz := 1) (T := 3) (B := V1.heap.size) R12_0.out hk)
  have R13_1 := hid (FreshA.below (cf := cPu) (sz := 3) (T := 71) (B := V1.heap.size) R12_1.out hk)
  have R13_2 := hid (FreshA.below (cf := cIn) (sz := 1) (T := 3) (B := V1.heap.size) R12_2.out hk)
  have R13_3 := hid (FreshA.below (cf := cIn) (sz := 1) (T := 3) (B := V11.heap.size) S12_3.out hk)
  have hw13 : Below w.heap.size w V13 := Below.trans hw (Below.mono hk (by have := hw.size; omega))
  clear hw hk
  have hw := hw13
  clear hw13
  have hwz := hw.size
  clear c12_0 c12_1 c12_2 c12_3 c12_4 R12_0 R12_1 R12_2 S12_3
  clear hV
  refine (c_spec_CheapestPlan l u v Af fs cf Aq ps cq _ R13_0.out.rds (by omega) R13_1.out.rds (by omega)).mono ?_
  simp only [HC.out]
  rintro e W14 ⟨Ab1, cb1, rfl, hFb, hb⟩
  have hk : Below V13.heap.size V13 W14 := hb
  have hkz14 := hk.size
  have c14_0 : W14.cell? ⟨W2.heap.size, 0, none⟩ = some (.int .i64 l) := (hb.cell (p := ⟨W2.heap.size, 0, none⟩) (by show W2.heap.size < _; omega)).trans c13_0
  have c14_1 : W14.cell? ⟨W2.heap.size, 1, none⟩ = some (.int .i64 u) := (hb.cell (p := ⟨W2.heap.size, 1, none⟩) (by show W2.heap.size < _; omega)).trans c13_1
  have c14_2 : W14.cell? ⟨W2.heap.size, 2, none⟩ = some (.int .i64 v) := (hb.cell (p := ⟨W2.heap.size, 2, none⟩) (by show W2.heap.size < _; omega)).trans c13_2
  have c14_3 : W14.cell? ⟨W2.heap.size, 3, none⟩ = some (.slice Af fs.length cf) := (hb.cell (p := ⟨W2.heap.size, 3, none⟩) (by show W2.heap.size < _; omega)).trans c13_3
  have c14_4 : W14.cell? ⟨W2.heap.size, 4, none⟩ = some (.slice Aq ps.length cq) := (hb.cell (p := ⟨W2.heap.size, 4, none⟩) (by show W2.heap.size < _; omega)).trans c13_4
  have b14_0 : W2.heap.size < W14.heap.size := by omega
  have R14_0 := hid (FreshA.below (cf := cIn) (sz := 1) (T := 3) (B := V1.heap.size) R13_0.out hk)
  have R14_1 := hid (FreshA.below (cf := cPu) (sz := 3) (T := 71) (B := V1.heap.size) R13_1.out hk)
  have R14_2 := hid (FreshA.below (cf := cIn) (sz := 1) (T := 3) (B := V1.heap.size) R13_2.out hk)
  have R14_3 := hid (FreshA.below (cf := cIn) (sz := 1) (T := 3) (B := V11.heap.size) R13_3.out hk)
  have hw14 : Below w.heap.size w W14 := Below.trans hw (Below.mono hk (by have := hw.size; omega))
  clear hw hk
  have hw := hw14
  clear hw14
  have hwz := hw.size
  clear c13_0 c13_1 c13_2 c13_3 c13_4 R13_0 R13_1 R13_2 R13_3
  clear hb
  have S14_4 : Hid (FreshA cIn 1 3 V13.heap.size W14 Ab1 cb1 best) := hid (hFb)
  have loS14_4 := S14_4.out.lo
  have hiS14_4 := S14_4.out.hi
  clear hFb
  go_wp2_with (fail)
  refine calls_named ?_
  intro V15 hV
  have hk : Below W14.heap.size W14 V15 := by rw [hV]; (repeat' (first | with_reducible exact Below.refl _ _ | with_reducible assumption | with_reducible refine Below.setCell ?_ ?_ _ | with_reducible refine Below.drew ?_ | with_reducible refine Below.alloc ?_ ?_ _ | with_reducible refine Below.trans ?_ (Below.mono (by assumption) ?_) | (dsimp only; omega) | (simp; done) | (simp; omega) | omega))
  have hkz15 := hk.size
  have c15_0 : V15.cell? ⟨W2.heap.size, 0, none⟩ = some (.int .i64 l) := by rw [hV]; first | ((repeat' (first | with_reducible exact c14_0 | with_reducible refine cellK_drew ?_ | with_reducible refine cellK_alloc ?_ | with_reducible refine cellK_set ?_ (by dsimp only; omega))); done) | (first | (simp [go_sem, ↓IntWalk.iteOmega, *]; done) | (simp [go_sem, ↓IntWalk.iteOmega, *]; intros; omega))
  have c15_1 : V15.cell? ⟨W2.heap.size, 1, none⟩ = some (.int .i64 u) := by rw [hV]; first | ((repeat' (first | with_reducible exact c14_1 | with_reducible refine cellK_drew ?_ | with_reducible refine cellK_alloc ?_ | with_reducible refine cellK_set ?_ (by dsimp only; omega))); done) | (first | (simp [go_sem, ↓IntWalk.iteOmega, *]; done) | (simp [go_sem, ↓IntWalk.iteOmega, *]; intros; omega))
  have c15_2 : V15.cell? ⟨W2.heap.size, 2, none⟩ = some (.int .i64 v) := by rw [hV]; first | ((repeat' (first | with_reducible exact c14_2 | with_reducible refine cellK_drew ?_ | with_reducible refine cellK_alloc ?_ | with_reducible refine cellK_set ?_ (by dsimp only; omega))); done) | (first | (simp [go_sem, ↓IntWalk.iteOmega, *]; done) | (simp [go_sem, ↓IntWalk.iteOmega, *]; intros; omega))
  have c15_3 : V15.cell? ⟨W2.heap.size, 3, none⟩ = some (.slice Af fs.length cf) := by rw [hV]; first | ((repeat' (first | with_reducible exact c14_3 | with_reducible refine cellK_drew ?_ | with_reducible refine cellK_alloc ?_ | with_reducible refine cellK_set ?_ (by dsimp only; omega))); done) | (first | (simp [go_sem, ↓IntWalk.iteOmega, *]; done) | (simp [go_sem, ↓IntWalk.iteOmega, *]; intros; omega))
  have c15_4 : V15.cell? ⟨W2.heap.size, 4, none⟩ = some (.slice Aq ps.length cq) := by rw [hV]; first | ((repeat' (first | with_reducible exact c14_4 | with_reducible refine cellK_drew ?_ | with_reducible refine cellK_alloc ?_ | with_reducible refine cellK_set ?_ (by dsimp only; omega))); done) | (first | (simp [go_sem, ↓IntWalk.iteOmega, *]; done) | (simp [go_sem, ↓IntWalk.iteOmega, *]; intros; omega))
  have b15_0 : W2.heap.size < V15.heap.size := by omega
  have R15_0 := hid (FreshA.below (cf := cIn) (sz := 1) (T := 3) (B := V1.heap.size) R14_0.out hk)
  have R15_1 := hid (FreshA.below (cf := cPu) (sz := 3) (T := 71) (B := V1.heap.size) R14_1.out hk)
  have R15_2 := hid (FreshA.below (cf := cIn) (sz := 1) (T := 3) (B := V1.heap.size) R14_2.out hk)
  have R15_3 := hid (FreshA.below (cf := cIn) (sz := 1) (T := 3) (B := V11.heap.size) R14_3.out hk)
  have R15_4 := hid (FreshA.below (cf := cIn) (sz := 1) (T := 3) (B := V13.heap.size) S14_4.out hk)
  have hw15 : Below w.heap.size w V15 := Below.trans hw (Below.mono hk (by have := hw.size; omega))
  clear hw hk
  have hw := hw15
  clear hw15
  have hwz := hw.size
  clear c14_0 c14_1 c14_2 c14_3 c14_4 R14_0 R14_1 R14_2 R14_3 S14_4
  clear hV
  refine (c_laws_rInts Ab0 Ab1 best cb0 cb1 _ R15_3.out.rds R15_4.out.rds (by omega)).mono ?_
  rintro e W16 ⟨rfl, hb⟩
  have hk : Below V15.heap.size V15 W16 := hb
  have hkz16 := hk.size
  have c16_0 : W16.cell? ⟨W2.heap.size, 0, none⟩ = some (.int .i64 l) := (hb.cell (p := ⟨W2.heap.size, 0, none⟩) (by show W2.heap.size < _; omega)).trans c15_0
  have c16_1 : W16.cell? ⟨W2.heap.size, 1, none⟩ = some (.int .i64 u) := (hb.cell (p := ⟨W2.heap.size, 1, none⟩) (by show W2.heap.size < _; omega)).trans c15_1
  have c16_2 : W16.cell? ⟨W2.heap.size, 2, none⟩ = some (.int .i64 v) := (hb.cell (p := ⟨W2.heap.size, 2, none⟩) (by show W2.heap.size < _; omega)).trans c15_2
  have c16_3 : W16.cell? ⟨W2.heap.size, 3, none⟩ = some (.slice Af fs.length cf) := (hb.cell (p := ⟨W2.heap.size, 3, none⟩) (by show W2.heap.size < _; omega)).trans c15_3
  have c16_4 : W16.cell? ⟨W2.heap.size, 4, none⟩ = some (.slice Aq ps.length cq) := (hb.cell (p := ⟨W2.heap.size, 4, none⟩) (by show W2.heap.size < _; omega)).trans c15_4
  have b16_0 : W2.heap.size < W16.heap.size := by omega
  have R16_0 := hid (FreshA.below (cf := cIn) (sz := 1) (T := 3) (B := V1.heap.size) R15_0.out hk)
  have R16_1 := hid (FreshA.below (cf := cPu) (sz := 3) (T := 71) (B := V1.heap.size) R15_1.out hk)
  have R16_2 := hid (FreshA.below (cf := cIn) (sz := 1) (T := 3) (B := V1.heap.size) R15_2.out hk)
  have R16_3 := hid (FreshA.below (cf := cIn) (sz := 1) (T := 3) (B := V11.heap.size) R15_3.out hk)
  have R16_4 := hid (FreshA.below (cf := cIn) (sz := 1) (T := 3) (B := V13.heap.size) R15_4.out hk)
  have hw16 : Below w.heap.size w W16 := Below.trans hw (Below.mono hk (by have := hw.size; omega))
  clear hw hk
  have hw := hw16
  clear hw16
  have hwz := hw.size
  clear c15_0 c15_1 c15_2 c15_3 c15_4 R15_0 R15_1 R15_2 R15_3 R15_4
  clear hb
  go_wp2_with (fail)
  refine calls_named ?_
  intro V17 hV
  have hk : Below W16.heap.size W16 V17 := by rw [hV]; (repeat' (first | with_reducible exact Below.refl _ _ | with_reducible assumption | with_reducible refine Below.setCell ?_ ?_ _ | with_reducible refine Below.drew ?_ | with_reducible refine Below.alloc ?_ ?_ _ | with_reducible refine Below.trans ?_ (Below.mono (by assumption) ?_) | (dsimp only; omega) | (simp; done) | (simp; omega) | omega))
  have hkz17 := hk.size
  have c17_0 : V17.cell? ⟨W2.heap.size, 0, none⟩ = some (.int .i64 l) := by rw [hV]; first | ((repeat' (first | with_reducible exact c16_0 | with_reducible refine cellK_drew ?_ | with_reducible refine cellK_alloc ?_ | with_reducible refine cellK_set ?_ (by dsimp only; omega))); done) | (first | (simp [go_sem, ↓IntWalk.iteOmega, *]; done) | (simp [go_sem, ↓IntWalk.iteOmega, *]; intros; omega))
  have c17_1 : V17.cell? ⟨W2.heap.size, 1, none⟩ = some (.int .i64 u) := by rw [hV]; first | ((repeat' (first | with_reducible exact c16_1 | with_reducible refine cellK_drew ?_ | with_reducible refine cellK_alloc ?_ | with_reducible refine cellK_set ?_ (by dsimp only; omega))); done) | (first | (simp [go_sem, ↓IntWalk.iteOmega, *]; done) | (simp [go_sem, ↓IntWalk.iteOmega, *]; intros; omega))
  have c17_2 : V17.cell? ⟨W2.heap.size, 2, none⟩ = some (.int .i64 v) := by rw [hV]; first | ((repeat' (first | with_reducible exact c16_2 | with_reducible refine cellK_drew ?_ | with_reducible refine cellK_alloc ?_ | with_reducible refine cellK_set ?_ (by dsimp only; omega))); done) | (first | (simp [go_sem, ↓IntWalk.iteOmega, *]; done) | (simp [go_sem, ↓IntWalk.iteOmega, *]; intros; omega))
  have c17_3 : V17.cell? ⟨W2.heap.size, 3, none⟩ = some (.slice Af fs.length cf) := by rw [hV]; first | ((repeat' (first | with_reducible exact c16_3 | with_reducible refine cellK_drew ?_ | with_reducible refine cellK_alloc ?_ | with_reducible refine cellK_set ?_ (by dsimp only; omega))); done) | (first | (simp [go_sem, ↓IntWalk.iteOmega, *]; done) | (simp [go_sem, ↓IntWalk.iteOmega, *]; intros; omega))
  have c17_4 : V17.cell? ⟨W2.heap.size, 4, none⟩ = some (.slice Aq ps.length cq) := by rw [hV]; first | ((repeat' (first | with_reducible exact c16_4 | with_reducible refine cellK_drew ?_ | with_reducible refine cellK_alloc ?_ | with_reducible refine cellK_set ?_ (by dsimp only; omega))); done) | (first | (simp [go_sem, ↓IntWalk.iteOmega, *]; done) | (simp [go_sem, ↓IntWalk.iteOmega, *]; intros; omega))
  have b17_0 : W2.heap.size < V17.heap.size := by omega
  have R17_0 := hid (FreshA.below (cf := cIn) (sz := 1) (T := 3) (B := V1.heap.size) R16_0.out hk)
  have R17_1 := hid (FreshA.below (cf := cPu) (sz := 3) (T := 71) (B := V1.heap.size) R16_1.out hk)
  have R17_2 := hid (FreshA.below (cf := cIn) (sz := 1) (T := 3) (B := V1.heap.size) R16_2.out hk)
  have R17_3 := hid (FreshA.below (cf := cIn) (sz := 1) (T := 3) (B := V11.heap.size) R16_3.out hk)
  have R17_4 := hid (FreshA.below (cf := cIn) (sz := 1) (T := 3) (B := V13.heap.size) R16_4.out hk)
  have hw17 : Below w.heap.size w V17 := Below.trans hw (Below.mono hk (by have := hw.size; omega))
  clear hw hk
  have hw := hw17
  clear hw17
  have hwz := hw.size
  clear c16_0 c16_1 c16_2 c16_3 c16_4 R16_0 R16_1 R16_2 R16_3 R16_4
  clear hV
  refine (c_impl_IsSafePlan l u v Af fs cf Aq ps cq Ap pl cp _ R17_0.out.rds (by omega) R17_1.out.rds (by omega) R17_2.out.rds (by omega)).mono ?_
  simp only [HF.out]
  rintro e W18 ⟨rfl, hb⟩
  have hk : Below V17.heap.size V17 W18 := hb
  have hkz18 := hk.size
  have c18_0 : W18.cell? ⟨W2.heap.size, 0, none⟩ = some (.int .i64 l) := (hb.cell (p := ⟨W2.heap.size, 0, none⟩) (by show W2.heap.size < _; omega)).trans c17_0
  have c18_1 : W18.cell? ⟨W2.heap.size, 1, none⟩ = some (.int .i64 u) := (hb.cell (p := ⟨W2.heap.size, 1, none⟩) (by show W2.heap.size < _; omega)).trans c17_1
  have c18_2 : W18.cell? ⟨W2.heap.size, 2, none⟩ = some (.int .i64 v) := (hb.cell (p := ⟨W2.heap.size, 2, none⟩) (by show W2.heap.size < _; omega)).trans c17_2
  have c18_3 : W18.cell? ⟨W2.heap.size, 3, none⟩ = some (.slice Af fs.length cf) := (hb.cell (p := ⟨W2.heap.size, 3, none⟩) (by show W2.heap.size < _; omega)).trans c17_3
  have c18_4 : W18.cell? ⟨W2.heap.size, 4, none⟩ = some (.slice Aq ps.length cq) := (hb.cell (p := ⟨W2.heap.size, 4, none⟩) (by show W2.heap.size < _; omega)).trans c17_4
  have b18_0 : W2.heap.size < W18.heap.size := by omega
  have R18_0 := hid (FreshA.below (cf := cIn) (sz := 1) (T := 3) (B := V1.heap.size) R17_0.out hk)
  have R18_1 := hid (FreshA.below (cf := cPu) (sz := 3) (T := 71) (B := V1.heap.size) R17_1.out hk)
  have R18_2 := hid (FreshA.below (cf := cIn) (sz := 1) (T := 3) (B := V1.heap.size) R17_2.out hk)
  have R18_3 := hid (FreshA.below (cf := cIn) (sz := 1) (T := 3) (B := V11.heap.size) R17_3.out hk)
  have R18_4 := hid (FreshA.below (cf := cIn) (sz := 1) (T := 3) (B := V13.heap.size) R17_4.out hk)
  have hw18 : Below w.heap.size w W18 := Below.trans hw (Below.mono hk (by have := hw.size; omega))
  clear hw hk
  have hw := hw18
  clear hw18
  have hwz := hw.size
  clear c17_0 c17_1 c17_2 c17_3 c17_4 R17_0 R17_1 R17_2 R17_3 R17_4
  clear hb
  clear R18_2
  clear R18_4
  have hcase : (sk && sf) = false ∨ (sk = true ∧ sf = true ∧ told = true ∧ ¬ pay < least) := by
    cases sk
    · exact .inl rfl
    · cases sf
      · exact .inl rfl
      · exact .inr ⟨rfl, rfl, (HL2.out rfl rfl).1, by have h9 := (HL2.out rfl rfl).2; omega⟩
  clear HL2
  rcases hcase with hk | ⟨rfl, rfl, rfl, hpl9⟩
  · cases sk
    · cases told
      · go_wp2_with (fail)
        go_ret
        exact ⟨by first | rfl | exact ret_bool (by simp), by first | exact hw | (repeat' (first | with_reducible exact Below.refl _ _ | with_reducible assumption | with_reducible refine Below.setCell ?_ ?_ _ | with_reducible refine Below.drew ?_ | with_reducible refine Below.alloc ?_ ?_ _ | with_reducible refine Below.trans ?_ (Below.mono (by assumption) ?_) | (dsimp only; omega) | (simp; done) | (simp; omega) | omega))⟩
      obtain ⟨hS2, hP2, hW⟩ := HL3.out rfl
      have HW := hid hW; clear hW
      go_wp2_with (fail)
      refine calls_named ?_
      intro V19 hV
      have hk : Below W18.heap.size W18 V19 := by rw [hV]; (repeat' (first | with_reducible exact Below.refl _ _ | with_reducible assumption | with_reducible refine Below.setCell ?_ ?_ _ | with_reducible refine Below.drew ?_ | with_reducible refine Below.alloc ?_ ?_ _ | with_reducible refine Below.trans ?_ (Below.mono (by assumption) ?_) | (dsimp only; omega) | (simp; done) | (simp; omega) | omega))
      have hkz19 := hk.size
      have c19_0 : V19.cell? ⟨W2.heap.size, 0, none⟩ = some (.int .i64 l) := by rw [hV]; first | ((repeat' (first | with_reducible exact c18_0 | with_reducible refine cellK_drew ?_ | with_reducible refine cellK_alloc ?_ | with_reducible refine cellK_set ?_ (by dsimp only; omega))); done) | (first | (simp [go_sem, ↓IntWalk.iteOmega, *]; done) | (simp [go_sem, ↓IntWalk.iteOmega, *]; intros; omega))
      have c19_1 : V19.cell? ⟨W2.heap.size, 1, none⟩ = some (.int .i64 u) := by rw [hV]; first | ((repeat' (first | with_reducible exact c18_1 | with_reducible refine cellK_drew ?_ | with_reducible refine cellK_alloc ?_ | with_reducible refine cellK_set ?_ (by dsimp only; omega))); done) | (first | (simp [go_sem, ↓IntWalk.iteOmega, *]; done) | (simp [go_sem, ↓IntWalk.iteOmega, *]; intros; omega))
      have c19_2 : V19.cell? ⟨W2.heap.size, 2, none⟩ = some (.int .i64 v) := by rw [hV]; first | ((repeat' (first | with_reducible exact c18_2 | with_reducible refine cellK_drew ?_ | with_reducible refine cellK_alloc ?_ | with_reducible refine cellK_set ?_ (by dsimp only; omega))); done) | (first | (simp [go_sem, ↓IntWalk.iteOmega, *]; done) | (simp [go_sem, ↓IntWalk.iteOmega, *]; intros; omega))
      have c19_3 : V19.cell? ⟨W2.heap.size, 3, none⟩ = some (.slice Af fs.length cf) := by rw [hV]; first | ((repeat' (first | with_reducible exact c18_3 | with_reducible refine cellK_drew ?_ | with_reducible refine cellK_alloc ?_ | with_reducible refine cellK_set ?_ (by dsimp only; omega))); done) | (first | (simp [go_sem, ↓IntWalk.iteOmega, *]; done) | (simp [go_sem, ↓IntWalk.iteOmega, *]; intros; omega))
      have c19_4 : V19.cell? ⟨W2.heap.size, 4, none⟩ = some (.slice Aq ps.length cq) := by rw [hV]; first | ((repeat' (first | with_reducible exact c18_4 | with_reducible refine cellK_drew ?_ | with_reducible refine cellK_alloc ?_ | with_reducible refine cellK_set ?_ (by dsimp only; omega))); done) | (first | (simp [go_sem, ↓IntWalk.iteOmega, *]; done) | (simp [go_sem, ↓IntWalk.iteOmega, *]; intros; omega))
      have b19_0 : W2.heap.size < V19.heap.size := by omega
      have R19_0 := hid (FreshA.below (cf := cIn) (sz := 1) (T := 3) (B := V1.heap.size) R18_0.out hk)
      have R19_1 := hid (FreshA.below (cf := cPu) (sz := 3) (T := 71) (B := V1.heap.size) R18_1.out hk)
      have R19_2 := hid (FreshA.below (cf := cIn) (sz := 1) (T := 3) (B := V11.heap.size) R18_3.out hk)
      have hw19 : Below w.heap.size w V19 := Below.trans hw (Below.mono hk (by have := hw.size; omega))
      clear hw hk
      have hw := hw19
      clear hw19
      have hwz := hw.size
      clear c18_0 c18_1 c18_2 c18_3 c18_4 R18_0 R18_1 R18_3
      clear hV
      refine (c_impl_IsSafePlan l u v Af fs cf Aq ps cq Ab0 best cb0 _ R19_0.out.rds (by omega) R19_1.out.rds (by omega) R19_2.out.rds (by omega)).mono ?_
      simp only [hS2]
      rintro e W20 ⟨rfl, hb⟩
      have hk : Below V19.heap.size V19 W20 := hb
      have hkz20 := hk.size
      have c20_0 : W20.cell? ⟨W2.heap.size, 0, none⟩ = some (.int .i64 l) := (hb.cell (p := ⟨W2.heap.size, 0, none⟩) (by show W2.heap.size < _; omega)).trans c19_0
      have c20_1 : W20.cell? ⟨W2.heap.size, 1, none⟩ = some (.int .i64 u) := (hb.cell (p := ⟨W2.heap.size, 1, none⟩) (by show W2.heap.size < _; omega)).trans c19_1
      have c20_2 : W20.cell? ⟨W2.heap.size, 2, none⟩ = some (.int .i64 v) := (hb.cell (p := ⟨W2.heap.size, 2, none⟩) (by show W2.heap.size < _; omega)).trans c19_2
      have c20_3 : W20.cell? ⟨W2.heap.size, 3, none⟩ = some (.slice Af fs.length cf) := (hb.cell (p := ⟨W2.heap.size, 3, none⟩) (by show W2.heap.size < _; omega)).trans c19_3
      have c20_4 : W20.cell? ⟨W2.heap.size, 4, none⟩ = some (.slice Aq ps.length cq) := (hb.cell (p := ⟨W2.heap.size, 4, none⟩) (by show W2.heap.size < _; omega)).trans c19_4
      have b20_0 : W2.heap.size < W20.heap.size := by omega
      have R20_0 := hid (FreshA.below (cf := cIn) (sz := 1) (T := 3) (B := V1.heap.size) R19_0.out hk)
      have R20_1 := hid (FreshA.below (cf := cPu) (sz := 3) (T := 71) (B := V1.heap.size) R19_1.out hk)
      have R20_2 := hid (FreshA.below (cf := cIn) (sz := 1) (T := 3) (B := V11.heap.size) R19_2.out hk)
      have hw20 : Below w.heap.size w W20 := Below.trans hw (Below.mono hk (by have := hw.size; omega))
      clear hw hk
      have hw := hw20
      clear hw20
      have hwz := hw.size
      clear c19_0 c19_1 c19_2 c19_3 c19_4 R19_0 R19_1 R19_2
      clear hb
      go_wp2_with (fail)
      refine calls_named ?_
      intro V21 hV
      have hk : Below W20.heap.size W20 V21 := by rw [hV]; (repeat' (first | with_reducible exact Below.refl _ _ | with_reducible assumption | with_reducible refine Below.setCell ?_ ?_ _ | with_reducible refine Below.drew ?_ | with_reducible refine Below.alloc ?_ ?_ _ | with_reducible refine Below.trans ?_ (Below.mono (by assumption) ?_) | (dsimp only; omega) | (simp; done) | (simp; omega) | omega))
      have hkz21 := hk.size
      have c21_0 : V21.cell? ⟨W2.heap.size, 0, none⟩ = some (.int .i64 l) := by rw [hV]; first | ((repeat' (first | with_reducible exact c20_0 | with_reducible refine cellK_drew ?_ | with_reducible refine cellK_alloc ?_ | with_reducible refine cellK_set ?_ (by dsimp only; omega))); done) | (first | (simp [go_sem, ↓IntWalk.iteOmega, *]; done) | (simp [go_sem, ↓IntWalk.iteOmega, *]; intros; omega))
      have c21_1 : V21.cell? ⟨W2.heap.size, 1, none⟩ = some (.int .i64 u) := by rw [hV]; first | ((repeat' (first | with_reducible exact c20_1 | with_reducible refine cellK_drew ?_ | with_reducible refine cellK_alloc ?_ | with_reducible refine cellK_set ?_ (by dsimp only; omega))); done) | (first | (simp [go_sem, ↓IntWalk.iteOmega, *]; done) | (simp [go_sem, ↓IntWalk.iteOmega, *]; intros; omega))
      have c21_2 : V21.cell? ⟨W2.heap.size, 2, none⟩ = some (.int .i64 v) := by rw [hV]; first | ((repeat' (first | with_reducible exact c20_2 | with_reducible refine cellK_drew ?_ | with_reducible refine cellK_alloc ?_ | with_reducible refine cellK_set ?_ (by dsimp only; omega))); done) | (first | (simp [go_sem, ↓IntWalk.iteOmega, *]; done) | (simp [go_sem, ↓IntWalk.iteOmega, *]; intros; omega))
      have c21_3 : V21.cell? ⟨W2.heap.size, 3, none⟩ = some (.slice Af fs.length cf) := by rw [hV]; first | ((repeat' (first | with_reducible exact c20_3 | with_reducible refine cellK_drew ?_ | with_reducible refine cellK_alloc ?_ | with_reducible refine cellK_set ?_ (by dsimp only; omega))); done) | (first | (simp [go_sem, ↓IntWalk.iteOmega, *]; done) | (simp [go_sem, ↓IntWalk.iteOmega, *]; intros; omega))
      have c21_4 : V21.cell? ⟨W2.heap.size, 4, none⟩ = some (.slice Aq ps.length cq) := by rw [hV]; first | ((repeat' (first | with_reducible exact c20_4 | with_reducible refine cellK_drew ?_ | with_reducible refine cellK_alloc ?_ | with_reducible refine cellK_set ?_ (by dsimp only; omega))); done) | (first | (simp [go_sem, ↓IntWalk.iteOmega, *]; done) | (simp [go_sem, ↓IntWalk.iteOmega, *]; intros; omega))
      have b21_0 : W2.heap.size < V21.heap.size := by omega
      have R21_0 := hid (FreshA.below (cf := cIn) (sz := 1) (T := 3) (B := V1.heap.size) R20_0.out hk)
      have R21_1 := hid (FreshA.below (cf := cPu) (sz := 3) (T := 71) (B := V1.heap.size) R20_1.out hk)
      have R21_2 := hid (FreshA.below (cf := cIn) (sz := 1) (T := 3) (B := V11.heap.size) R20_2.out hk)
      have hw21 : Below w.heap.size w V21 := Below.trans hw (Below.mono hk (by have := hw.size; omega))
      clear hw hk
      have hw := hw21
      clear hw21
      have hwz := hw.size
      clear c20_0 c20_1 c20_2 c20_3 c20_4 R20_0 R20_1 R20_2
      clear hV
      refine (c_impl_PlanCost l u v Af fs cf Aq ps cq Ab0 best cb0 _ R21_0.out.rds (by omega) R21_1.out.rds (by omega) R21_2.out.rds (by omega)).mono ?_
      simp only [hP2]
      rintro e W22 ⟨rfl, hb⟩
      have hk : Below V21.heap.size V21 W22 := hb
      have hkz22 := hk.size
      have c22_0 : W22.cell? ⟨W2.heap.size, 0, none⟩ = some (.int .i64 l) := (hb.cell (p := ⟨W2.heap.size, 0, none⟩) (by show W2.heap.size < _; omega)).trans c21_0
      have c22_1 : W22.cell? ⟨W2.heap.size, 1, none⟩ = some (.int .i64 u) := (hb.cell (p := ⟨W2.heap.size, 1, none⟩) (by show W2.heap.size < _; omega)).trans c21_1
      have c22_2 : W22.cell? ⟨W2.heap.size, 2, none⟩ = some (.int .i64 v) := (hb.cell (p := ⟨W2.heap.size, 2, none⟩) (by show W2.heap.size < _; omega)).trans c21_2
      have c22_3 : W22.cell? ⟨W2.heap.size, 3, none⟩ = some (.slice Af fs.length cf) := (hb.cell (p := ⟨W2.heap.size, 3, none⟩) (by show W2.heap.size < _; omega)).trans c21_3
      have c22_4 : W22.cell? ⟨W2.heap.size, 4, none⟩ = some (.slice Aq ps.length cq) := (hb.cell (p := ⟨W2.heap.size, 4, none⟩) (by show W2.heap.size < _; omega)).trans c21_4
      have b22_0 : W2.heap.size < W22.heap.size := by omega
      have R22_0 := hid (FreshA.below (cf := cIn) (sz := 1) (T := 3) (B := V1.heap.size) R21_0.out hk)
      have R22_1 := hid (FreshA.below (cf := cPu) (sz := 3) (T := 71) (B := V1.heap.size) R21_1.out hk)
      have R22_2 := hid (FreshA.below (cf := cIn) (sz := 1) (T := 3) (B := V11.heap.size) R21_2.out hk)
      have hw22 : Below w.heap.size w W22 := Below.trans hw (Below.mono hk (by have := hw.size; omega))
      clear hw hk
      have hw := hw22
      clear hw22
      have hwz := hw.size
      clear c21_0 c21_1 c21_2 c21_3 c21_4 R21_0 R21_1 R21_2
      clear hb
      clear hS2 hP2
      have hwl := woV_len l u v fs ps 0
      obtain ⟨l2, u2, v2, fs2, ps2, three, hWo⟩ : ∃ l2 u2 v2 fs2 ps2 three, woV l u v fs ps 0 = ((l2, u2, v2, fs2, ps2), three) := ⟨_, _, _, _, _, _, rfl⟩
      rw [hWo] at hwl
      simp only at hwl
      go_wp2_with (fail)
      refine calls_named ?_
      intro V23 hV
      have hk : Below W22.heap.size W22 V23 := by rw [hV]; (repeat' (first | with_reducible exact Below.refl _ _ | with_reducible assumption | with_reducible refine Below.setCell ?_ ?_ _ | with_reducible refine Below.drew ?_ | with_reducible refine Below.alloc ?_ ?_ _ | with_reducible refine Below.trans ?_ (Below.mono (by assumption) ?_) | (dsimp only; omega) | (simp; done) | (simp; omega) | omega))
      have hkz23 := hk.size
      have c23_0 : V23.cell? ⟨W2.heap.size, 0, none⟩ = some (.int .i64 l) := by rw [hV]; first | ((repeat' (first | with_reducible exact c22_0 | with_reducible refine cellK_drew ?_ | with_reducible refine cellK_alloc ?_ | with_reducible refine cellK_set ?_ (by dsimp only; omega))); done) | (first | (simp [go_sem, ↓IntWalk.iteOmega, *]; done) | (simp [go_sem, ↓IntWalk.iteOmega, *]; intros; omega))
      have c23_1 : V23.cell? ⟨W2.heap.size, 1, none⟩ = some (.int .i64 u) := by rw [hV]; first | ((repeat' (first | with_reducible exact c22_1 | with_reducible refine cellK_drew ?_ | with_reducible refine cellK_alloc ?_ | with_reducible refine cellK_set ?_ (by dsimp only; omega))); done) | (first | (simp [go_sem, ↓IntWalk.iteOmega, *]; done) | (simp [go_sem, ↓IntWalk.iteOmega, *]; intros; omega))
      have c23_2 : V23.cell? ⟨W2.heap.size, 2, none⟩ = some (.int .i64 v) := by rw [hV]; first | ((repeat' (first | with_reducible exact c22_2 | with_reducible refine cellK_drew ?_ | with_reducible refine cellK_alloc ?_ | with_reducible refine cellK_set ?_ (by dsimp only; omega))); done) | (first | (simp [go_sem, ↓IntWalk.iteOmega, *]; done) | (simp [go_sem, ↓IntWalk.iteOmega, *]; intros; omega))
      have c23_3 : V23.cell? ⟨W2.heap.size, 3, none⟩ = some (.slice Af fs.length cf) := by rw [hV]; first | ((repeat' (first | with_reducible exact c22_3 | with_reducible refine cellK_drew ?_ | with_reducible refine cellK_alloc ?_ | with_reducible refine cellK_set ?_ (by dsimp only; omega))); done) | (first | (simp [go_sem, ↓IntWalk.iteOmega, *]; done) | (simp [go_sem, ↓IntWalk.iteOmega, *]; intros; omega))
      have c23_4 : V23.cell? ⟨W2.heap.size, 4, none⟩ = some (.slice Aq ps.length cq) := by rw [hV]; first | ((repeat' (first | with_reducible exact c22_4 | with_reducible refine cellK_drew ?_ | with_reducible refine cellK_alloc ?_ | with_reducible refine cellK_set ?_ (by dsimp only; omega))); done) | (first | (simp [go_sem, ↓IntWalk.iteOmega, *]; done) | (simp [go_sem, ↓IntWalk.iteOmega, *]; intros; omega))
      have b23_0 : W2.heap.size < V23.heap.size := by omega
      have R23_0 := hid (FreshA.below (cf := cIn) (sz := 1) (T := 3) (B := V1.heap.size) R22_0.out hk)
      have R23_1 := hid (FreshA.below (cf := cPu) (sz := 3) (T := 71) (B := V1.heap.size) R22_1.out hk)
      have R23_2 := hid (FreshA.below (cf := cIn) (sz := 1) (T := 3) (B := V11.heap.size) R22_2.out hk)
      have hw23 : Below w.heap.size w V23 := Below.trans hw (Below.mono hk (by have := hw.size; omega))
      clear hw hk
      have hw := hw23
      clear hw23
      have hwz := hw.size
      clear c22_0 c22_1 c22_2 c22_3 c22_4 R22_0 R22_1 R22_2
      clear hV
      refine (c_impl_WithoutPump l u v Af fs cf Aq ps cq 0 _ R23_0.out.rds (by omega) R23_1.out.rds (by omega)).mono ?_
      simp only [hWo]
      rintro e W24 ⟨A8, c8, A9, c9, rfl, hF8, hF9, hb⟩
      have hk : Below V23.heap.size V23 W24 := hb
      have hkz24 := hk.size
      have c24_0 : W24.cell? ⟨W2.heap.size, 0, none⟩ = some (.int .i64 l) := (hb.cell (p := ⟨W2.heap.size, 0, none⟩) (by show W2.heap.size < _; omega)).trans c23_0
      have c24_1 : W24.cell? ⟨W2.heap.size, 1, none⟩ = some (.int .i64 u) := (hb.cell (p := ⟨W2.heap.size, 1, none⟩) (by show W2.heap.size < _; omega)).trans c23_1
      have c24_2 : W24.cell? ⟨W2.heap.size, 2, none⟩ = some (.int .i64 v) := (hb.cell (p := ⟨W2.heap.size, 2, none⟩) (by show W2.heap.size < _; omega)).trans c23_2
      have c24_3 : W24.cell? ⟨W2.heap.size, 3, none⟩ = some (.slice Af fs.length cf) := (hb.cell (p := ⟨W2.heap.size, 3, none⟩) (by show W2.heap.size < _; omega)).trans c23_3
      have c24_4 : W24.cell? ⟨W2.heap.size, 4, none⟩ = some (.slice Aq ps.length cq) := (hb.cell (p := ⟨W2.heap.size, 4, none⟩) (by show W2.heap.size < _; omega)).trans c23_4
      have b24_0 : W2.heap.size < W24.heap.size := by omega
      have R24_0 := hid (FreshA.below (cf := cIn) (sz := 1) (T := 3) (B := V1.heap.size) R23_0.out hk)
      have R24_1 := hid (FreshA.below (cf := cPu) (sz := 3) (T := 71) (B := V1.heap.size) R23_1.out hk)
      have R24_2 := hid (FreshA.below (cf := cIn) (sz := 1) (T := 3) (B := V11.heap.size) R23_2.out hk)
      have hw24 : Below w.heap.size w W24 := Below.trans hw (Below.mono hk (by have := hw.size; omega))
      clear hw hk
      have hw := hw24
      clear hw24
      have hwz := hw.size
      clear c23_0 c23_1 c23_2 c23_3 c23_4 R23_0 R23_1 R23_2
      clear hb
      have S24_3 : Hid (FreshA cIn 1 3 V23.heap.size W24 A8 c8 fs2) := hid (hF8)
      have loS24_3 := S24_3.out.lo
      have hiS24_3 := S24_3.out.hi
      have S24_4 : Hid (FreshA cPu 3 71 V23.heap.size W24 A9 c9 ps2) := hid (hF9)
      have loS24_4 := S24_4.out.lo
      have hiS24_4 := S24_4.out.hi
      clear hF8 hF9
      cases three
      · go_wp2_with (fail)
        go_ret
        exact ⟨by first | rfl | exact ret_bool (by simp), by first | exact hw | (repeat' (first | with_reducible exact Below.refl _ _ | with_reducible assumption | with_reducible refine Below.setCell ?_ ?_ _ | with_reducible refine Below.drew ?_ | with_reducible refine Below.alloc ?_ ?_ _ | with_reducible refine Below.trans ?_ (Below.mono (by assumption) ?_) | (dsimp only; omega) | (simp; done) | (simp; omega) | omega))⟩
      obtain ⟨q9, n9, four, hC2⟩ : ∃ q9 n9 four, cheapV l2 u2 v2 fs2 ps2 = (q9, n9, four) := ⟨_, _, _, rfl⟩
      have hlt9 := HW.out _ hWo
      simp only [hC2] at hlt9
      have HL9 := hid hlt9; clear hlt9 hWo
      go_wp2_with (fail)
      refine calls_named ?_
      intro V25 hV
      have hk : Below W24.heap.size W24 V25 := by rw [hV]; (repeat' (first | with_reducible exact Below.refl _ _ | with_reducible assumption | with_reducible refine Below.setCell ?_ ?_ _ | with_reducible refine Below.drew ?_ | with_reducible refine Below.alloc ?_ ?_ _ | with_reducible refine Below.trans ?_ (Below.mono (by assumption) ?_) | (dsimp only; omega) | (simp; done) | (simp; omega) | omega))
      have hkz25 := hk.size
      have c25_0 : V25.cell? ⟨W2.heap.size, 0, none⟩ = some (.int .i64 l) := by rw [hV]; first | ((repeat' (first | with_reducible exact c24_0 | with_reducible refine cellK_drew ?_ | with_reducible refine cellK_alloc ?_ | with_reducible refine cellK_set ?_ (by dsimp only; omega))); done) | (first | (simp [go_sem, ↓IntWalk.iteOmega, *]; done) | (simp [go_sem, ↓IntWalk.iteOmega, *]; intros; omega))
      have c25_1 : V25.cell? ⟨W2.heap.size, 1, none⟩ = some (.int .i64 u) := by rw [hV]; first | ((repeat' (first | with_reducible exact c24_1 | with_reducible refine cellK_drew ?_ | with_reducible refine cellK_alloc ?_ | with_reducible refine cellK_set ?_ (by dsimp only; omega))); done) | (first | (simp [go_sem, ↓IntWalk.iteOmega, *]; done) | (simp [go_sem, ↓IntWalk.iteOmega, *]; intros; omega))
      have c25_2 : V25.cell? ⟨W2.heap.size, 2, none⟩ = some (.int .i64 v) := by rw [hV]; first | ((repeat' (first | with_reducible exact c24_2 | with_reducible refine cellK_drew ?_ | with_reducible refine cellK_alloc ?_ | with_reducible refine cellK_set ?_ (by dsimp only; omega))); done) | (first | (simp [go_sem, ↓IntWalk.iteOmega, *]; done) | (simp [go_sem, ↓IntWalk.iteOmega, *]; intros; omega))
      have c25_3 : V25.cell? ⟨W2.heap.size, 3, none⟩ = some (.slice Af fs.length cf) := by rw [hV]; first | ((repeat' (first | with_reducible exact c24_3 | with_reducible refine cellK_drew ?_ | with_reducible refine cellK_alloc ?_ | with_reducible refine cellK_set ?_ (by dsimp only; omega))); done) | (first | (simp [go_sem, ↓IntWalk.iteOmega, *]; done) | (simp [go_sem, ↓IntWalk.iteOmega, *]; intros; omega))
      have c25_4 : V25.cell? ⟨W2.heap.size, 4, none⟩ = some (.slice Aq ps.length cq) := by rw [hV]; first | ((repeat' (first | with_reducible exact c24_4 | with_reducible refine cellK_drew ?_ | with_reducible refine cellK_alloc ?_ | with_reducible refine cellK_set ?_ (by dsimp only; omega))); done) | (first | (simp [go_sem, ↓IntWalk.iteOmega, *]; done) | (simp [go_sem, ↓IntWalk.iteOmega, *]; intros; omega))
      have b25_0 : W2.heap.size < V25.heap.size := by omega
      have R25_0 := hid (FreshA.below (cf := cIn) (sz := 1) (T := 3) (B := V1.heap.size) R24_0.out hk)
      have R25_1 := hid (FreshA.below (cf := cPu) (sz := 3) (T := 71) (B := V1.heap.size) R24_1.out hk)
      have R25_2 := hid (FreshA.below (cf := cIn) (sz := 1) (T := 3) (B := V11.heap.size) R24_2.out hk)
      have R25_3 := hid (FreshA.below (cf := cIn) (sz := 1) (T := 3) (B := V23.heap.size) S24_3.out hk)
      have R25_4 := hid (FreshA.below (cf := cPu) (sz := 3) (T := 71) (B := V23.heap.size) S24_4.out hk)
      have hw25 : Below w.heap.size w V25 := Below.trans hw (Below.mono hk (by have := hw.size; omega))
      clear hw hk
      have hw := hw25
      clear hw25
      have hwz := hw.size
      clear c24_0 c24_1 c24_2 c24_3 c24_4 R24_0 R24_1 R24_2 S24_3 S24_4
      clear hV
      refine (c_impl_CheapestPlan l2 u2 v2 A8 fs2 c8 A9 ps2 c9 _ R25_3.out.rds (by omega) R25_4.out.rds (by omega)).mono ?_
      simp only [hC2]
      rintro e W26 ⟨A7, c7, rfl, hF7, hb⟩
      have hk : Below V25.heap.size V25 W26 := hb
      have hkz26 := hk.size
      have c26_0 : W26.cell? ⟨W2.heap.size, 0, none⟩ = some (.int .i64 l) := (hb.cell (p := ⟨W2.heap.size, 0, none⟩) (by show W2.heap.size < _; omega)).trans c25_0
      have c26_1 : W26.cell? ⟨W2.heap.size, 1, none⟩ = some (.int .i64 u) := (hb.cell (p := ⟨W2.heap.size, 1, none⟩) (by show W2.heap.size < _; omega)).trans c25_1
      have c26_2 : W26.cell? ⟨W2.heap.size, 2, none⟩ = some (.int .i64 v) := (hb.cell (p := ⟨W2.heap.size, 2, none⟩) (by show W2.heap.size < _; omega)).trans c25_2
      have c26_3 : W26.cell? ⟨W2.heap.size, 3, none⟩ = some (.slice Af fs.length cf) := (hb.cell (p := ⟨W2.heap.size, 3, none⟩) (by show W2.heap.size < _; omega)).trans c25_3
      have c26_4 : W26.cell? ⟨W2.heap.size, 4, none⟩ = some (.slice Aq ps.length cq) := (hb.cell (p := ⟨W2.heap.size, 4, none⟩) (by show W2.heap.size < _; omega)).trans c25_4
      have b26_0 : W2.heap.size < W26.heap.size := by omega
      have R26_0 := hid (FreshA.below (cf := cIn) (sz := 1) (T := 3) (B := V1.heap.size) R25_0.out hk)
      have R26_1 := hid (FreshA.below (cf := cPu) (sz := 3) (T := 71) (B := V1.heap.size) R25_1.out hk)
      have R26_2 := hid (FreshA.below (cf := cIn) (sz := 1) (T := 3) (B := V11.heap.size) R25_2.out hk)
      have R26_3 := hid (FreshA.below (cf := cIn) (sz := 1) (T := 3) (B := V23.heap.size) R25_3.out hk)
      have R26_4 := hid (FreshA.below (cf := cPu) (sz := 3) (T := 71) (B := V23.heap.size) R25_4.out hk)
      have hw26 : Below w.heap.size w W26 := Below.trans hw (Below.mono hk (by have := hw.size; omega))
      clear hw hk
      have hw := hw26
      clear hw26
      have hwz := hw.size
      clear c25_0 c25_1 c25_2 c25_3 c25_4 R25_0 R25_1 R25_2 R25_3 R25_4
      clear hb
      clear hF7
      cases four
      · go_wp2_with (fail)
        go_ret
        exact ⟨by first | rfl | exact ret_bool (by simp), by first | exact hw | (repeat' (first | with_reducible exact Below.refl _ _ | with_reducible assumption | with_reducible refine Below.setCell ?_ ?_ _ | with_reducible refine Below.drew ?_ | with_reducible refine Below.alloc ?_ ?_ _ | with_reducible refine Below.trans ?_ (Below.mono (by assumption) ?_) | (dsimp only; omega) | (simp; done) | (simp; omega) | omega))⟩
      have hge : ¬ n9 < least := by have h9 := HL9.out rfl; omega
      go_wp2_with (fail)
      go_ret
      exact ⟨by first | rfl | exact ret_bool (by simp), by first | exact hw | (repeat' (first | with_reducible exact Below.refl _ _ | with_reducible assumption | with_reducible refine Below.setCell ?_ ?_ _ | with_reducible refine Below.drew ?_ | with_reducible refine Below.alloc ?_ ?_ _ | with_reducible refine Below.trans ?_ (Below.mono (by assumption) ?_) | (dsimp only; omega) | (simp; done) | (simp; omega) | omega))⟩
    cases sf
    · cases told
      · go_wp2_with (fail)
        go_ret
        exact ⟨by first | rfl | exact ret_bool (by simp), by first | exact hw | (repeat' (first | with_reducible exact Below.refl _ _ | with_reducible assumption | with_reducible refine Below.setCell ?_ ?_ _ | with_reducible refine Below.drew ?_ | with_reducible refine Below.alloc ?_ ?_ _ | with_reducible refine Below.trans ?_ (Below.mono (by assumption) ?_) | (dsimp only; omega) | (simp; done) | (simp; omega) | omega))⟩
      obtain ⟨hS2, hP2, hW⟩ := HL3.out rfl
      have HW := hid hW; clear hW
      go_wp2_with (fail)
      refine calls_named ?_
      intro V19 hV
      have hk : Below W18.heap.size W18 V19 := by rw [hV]; (repeat' (first | with_reducible exact Below.refl _ _ | with_reducible assumption | with_reducible refine Below.setCell ?_ ?_ _ | with_reducible refine Below.drew ?_ | with_reducible refine Below.alloc ?_ ?_ _ | with_reducible refine Below.trans ?_ (Below.mono (by assumption) ?_) | (dsimp only; omega) | (simp; done) | (simp; omega) | omega))
      have hkz19 := hk.size
      have c19_0 : V19.cell? ⟨W2.heap.size, 0, none⟩ = some (.int .i64 l) := by rw [hV]; first | ((repeat' (first | with_reducible exact c18_0 | with_reducible refine cellK_drew ?_ | with_reducible refine cellK_alloc ?_ | with_reducible refine cellK_set ?_ (by dsimp only; omega))); done) | (first | (simp [go_sem, ↓IntWalk.iteOmega, *]; done) | (simp [go_sem, ↓IntWalk.iteOmega, *]; intros; omega))
      have c19_1 : V19.cell? ⟨W2.heap.size, 1, none⟩ = some (.int .i64 u) := by rw [hV]; first | ((repeat' (first | with_reducible exact c18_1 | with_reducible refine cellK_drew ?_ | with_reducible refine cellK_alloc ?_ | with_reducible refine cellK_set ?_ (by dsimp only; omega))); done) | (first | (simp [go_sem, ↓IntWalk.iteOmega, *]; done) | (simp [go_sem, ↓IntWalk.iteOmega, *]; intros; omega))
      have c19_2 : V19.cell? ⟨W2.heap.size, 2, none⟩ = some (.int .i64 v) := by rw [hV]; first | ((repeat' (first | with_reducible exact c18_2 | with_reducible refine cellK_drew ?_ | with_reducible refine cellK_alloc ?_ | with_reducible refine cellK_set ?_ (by dsimp only; omega))); done) | (first | (simp [go_sem, ↓IntWalk.iteOmega, *]; done) | (simp [go_sem, ↓IntWalk.iteOmega, *]; intros; omega))
      have c19_3 : V19.cell? ⟨W2.heap.size, 3, none⟩ = some (.slice Af fs.length cf) := by rw [hV]; first | ((repeat' (first | with_reducible exact c18_3 | with_reducible refine cellK_drew ?_ | with_reducible refine cellK_alloc ?_ | with_reducible refine cellK_set ?_ (by dsimp only; omega))); done) | (first | (simp [go_sem, ↓IntWalk.iteOmega, *]; done) | (simp [go_sem, ↓IntWalk.iteOmega, *]; intros; omega))
      have c19_4 : V19.cell? ⟨W2.heap.size, 4, none⟩ = some (.slice Aq ps.length cq) := by rw [hV]; first | ((repeat' (first | with_reducible exact c18_4 | with_reducible refine cellK_drew ?_ | with_reducible refine cellK_alloc ?_ | with_reducible refine cellK_set ?_ (by dsimp only; omega))); done) | (first | (simp [go_sem, ↓IntWalk.iteOmega, *]; done) | (simp [go_sem, ↓IntWalk.iteOmega, *]; intros; omega))
      have b19_0 : W2.heap.size < V19.heap.size := by omega
      have R19_0 := hid (FreshA.below (cf := cIn) (sz := 1) (T := 3) (B := V1.heap.size) R18_0.out hk)
      have R19_1 := hid (FreshA.below (cf := cPu) (sz := 3) (T := 71) (B := V1.heap.size) R18_1.out hk)
      have R19_2 := hid (FreshA.below (cf := cIn) (sz := 1) (T := 3) (B := V11.heap.size) R18_3.out hk)
      have hw19 : Below w.heap.size w V19 := Below.trans hw (Below.mono hk (by have := hw.size; omega))
      clear hw hk
      have hw := hw19
      clear hw19
      have hwz := hw.size
      clear c18_0 c18_1 c18_2 c18_3 c18_4 R18_0 R18_1 R18_3
      clear hV
      refine (c_impl_IsSafePlan l u v Af fs cf Aq ps cq Ab0 best cb0 _ R19_0.out.rds (by omega) R19_1.out.rds (by omega) R19_2.out.rds (by omega)).mono ?_
      simp only [hS2]
      rintro e W20 ⟨rfl, hb⟩
      have hk : Below V19.heap.size V19 W20 := hb
      have hkz20 := hk.size
      have c20_0 : W20.cell? ⟨W2.heap.size, 0, none⟩ = some (.int .i64 l) := (hb.cell (p := ⟨W2.heap.size, 0, none⟩) (by show W2.heap.size < _; omega)).trans c19_0
      have c20_1 : W20.cell? ⟨W2.heap.size, 1, none⟩ = some (.int .i64 u) := (hb.cell (p := ⟨W2.heap.size, 1, none⟩) (by show W2.heap.size < _; omega)).trans c19_1
      have c20_2 : W20.cell? ⟨W2.heap.size, 2, none⟩ = some (.int .i64 v) := (hb.cell (p := ⟨W2.heap.size, 2, none⟩) (by show W2.heap.size < _; omega)).trans c19_2
      have c20_3 : W20.cell? ⟨W2.heap.size, 3, none⟩ = some (.slice Af fs.length cf) := (hb.cell (p := ⟨W2.heap.size, 3, none⟩) (by show W2.heap.size < _; omega)).trans c19_3
      have c20_4 : W20.cell? ⟨W2.heap.size, 4, none⟩ = some (.slice Aq ps.length cq) := (hb.cell (p := ⟨W2.heap.size, 4, none⟩) (by show W2.heap.size < _; omega)).trans c19_4
      have b20_0 : W2.heap.size < W20.heap.size := by omega
      have R20_0 := hid (FreshA.below (cf := cIn) (sz := 1) (T := 3) (B := V1.heap.size) R19_0.out hk)
      have R20_1 := hid (FreshA.below (cf := cPu) (sz := 3) (T := 71) (B := V1.heap.size) R19_1.out hk)
      have R20_2 := hid (FreshA.below (cf := cIn) (sz := 1) (T := 3) (B := V11.heap.size) R19_2.out hk)
      have hw20 : Below w.heap.size w W20 := Below.trans hw (Below.mono hk (by have := hw.size; omega))
      clear hw hk
      have hw := hw20
      clear hw20
      have hwz := hw.size
      clear c19_0 c19_1 c19_2 c19_3 c19_4 R19_0 R19_1 R19_2
      clear hb
      go_wp2_with (fail)
      refine calls_named ?_
      intro V21 hV
      have hk : Below W20.heap.size W20 V21 := by rw [hV]; (repeat' (first | with_reducible exact Below.refl _ _ | with_reducible assumption | with_reducible refine Below.setCell ?_ ?_ _ | with_reducible refine Below.drew ?_ | with_reducible refine Below.alloc ?_ ?_ _ | with_reducible refine Below.trans ?_ (Below.mono (by assumption) ?_) | (dsimp only; omega) | (simp; done) | (simp; omega) | omega))
      have hkz21 := hk.size
      have c21_0 : V21.cell? ⟨W2.heap.size, 0, none⟩ = some (.int .i64 l) := by rw [hV]; first | ((repeat' (first | with_reducible exact c20_0 | with_reducible refine cellK_drew ?_ | with_reducible refine cellK_alloc ?_ | with_reducible refine cellK_set ?_ (by dsimp only; omega))); done) | (first | (simp [go_sem, ↓IntWalk.iteOmega, *]; done) | (simp [go_sem, ↓IntWalk.iteOmega, *]; intros; omega))
      have c21_1 : V21.cell? ⟨W2.heap.size, 1, none⟩ = some (.int .i64 u) := by rw [hV]; first | ((repeat' (first | with_reducible exact c20_1 | with_reducible refine cellK_drew ?_ | with_reducible refine cellK_alloc ?_ | with_reducible refine cellK_set ?_ (by dsimp only; omega))); done) | (first | (simp [go_sem, ↓IntWalk.iteOmega, *]; done) | (simp [go_sem, ↓IntWalk.iteOmega, *]; intros; omega))
      have c21_2 : V21.cell? ⟨W2.heap.size, 2, none⟩ = some (.int .i64 v) := by rw [hV]; first | ((repeat' (first | with_reducible exact c20_2 | with_reducible refine cellK_drew ?_ | with_reducible refine cellK_alloc ?_ | with_reducible refine cellK_set ?_ (by dsimp only; omega))); done) | (first | (simp [go_sem, ↓IntWalk.iteOmega, *]; done) | (simp [go_sem, ↓IntWalk.iteOmega, *]; intros; omega))
      have c21_3 : V21.cell? ⟨W2.heap.size, 3, none⟩ = some (.slice Af fs.length cf) := by rw [hV]; first | ((repeat' (first | with_reducible exact c20_3 | with_reducible refine cellK_drew ?_ | with_reducible refine cellK_alloc ?_ | with_reducible refine cellK_set ?_ (by dsimp only; omega))); done) | (first | (simp [go_sem, ↓IntWalk.iteOmega, *]; done) | (simp [go_sem, ↓IntWalk.iteOmega, *]; intros; omega))
      have c21_4 : V21.cell? ⟨W2.heap.size, 4, none⟩ = some (.slice Aq ps.length cq) := by rw [hV]; first | ((repeat' (first | with_reducible exact c20_4 | with_reducible refine cellK_drew ?_ | with_reducible refine cellK_alloc ?_ | with_reducible refine cellK_set ?_ (by dsimp only; omega))); done) | (first | (simp [go_sem, ↓IntWalk.iteOmega, *]; done) | (simp [go_sem, ↓IntWalk.iteOmega, *]; intros; omega))
      have b21_0 : W2.heap.size < V21.heap.size := by omega
      have R21_0 := hid (FreshA.below (cf := cIn) (sz := 1) (T := 3) (B := V1.heap.size) R20_0.out hk)
      have R21_1 := hid (FreshA.below (cf := cPu) (sz := 3) (T := 71) (B := V1.heap.size) R20_1.out hk)
      have R21_2 := hid (FreshA.below (cf := cIn) (sz := 1) (T := 3) (B := V11.heap.size) R20_2.out hk)
      have hw21 : Below w.heap.size w V21 := Below.trans hw (Below.mono hk (by have := hw.size; omega))
      clear hw hk
      have hw := hw21
      clear hw21
      have hwz := hw.size
      clear c20_0 c20_1 c20_2 c20_3 c20_4 R20_0 R20_1 R20_2
      clear hV
      refine (c_impl_PlanCost l u v Af fs cf Aq ps cq Ab0 best cb0 _ R21_0.out.rds (by omega) R21_1.out.rds (by omega) R21_2.out.rds (by omega)).mono ?_
      simp only [hP2]
      rintro e W22 ⟨rfl, hb⟩
      have hk : Below V21.heap.size V21 W22 := hb
      have hkz22 := hk.size
      have c22_0 : W22.cell? ⟨W2.heap.size, 0, none⟩ = some (.int .i64 l) := (hb.cell (p := ⟨W2.heap.size, 0, none⟩) (by show W2.heap.size < _; omega)).trans c21_0
      have c22_1 : W22.cell? ⟨W2.heap.size, 1, none⟩ = some (.int .i64 u) := (hb.cell (p := ⟨W2.heap.size, 1, none⟩) (by show W2.heap.size < _; omega)).trans c21_1
      have c22_2 : W22.cell? ⟨W2.heap.size, 2, none⟩ = some (.int .i64 v) := (hb.cell (p := ⟨W2.heap.size, 2, none⟩) (by show W2.heap.size < _; omega)).trans c21_2
      have c22_3 : W22.cell? ⟨W2.heap.size, 3, none⟩ = some (.slice Af fs.length cf) := (hb.cell (p := ⟨W2.heap.size, 3, none⟩) (by show W2.heap.size < _; omega)).trans c21_3
      have c22_4 : W22.cell? ⟨W2.heap.size, 4, none⟩ = some (.slice Aq ps.length cq) := (hb.cell (p := ⟨W2.heap.size, 4, none⟩) (by show W2.heap.size < _; omega)).trans c21_4
      have b22_0 : W2.heap.size < W22.heap.size := by omega
      have R22_0 := hid (FreshA.below (cf := cIn) (sz := 1) (T := 3) (B := V1.heap.size) R21_0.out hk)
      have R22_1 := hid (FreshA.below (cf := cPu) (sz := 3) (T := 71) (B := V1.heap.size) R21_1.out hk)
      have R22_2 := hid (FreshA.below (cf := cIn) (sz := 1) (T := 3) (B := V11.heap.size) R21_2.out hk)
      have hw22 : Below w.heap.size w W22 := Below.trans hw (Below.mono hk (by have := hw.size; omega))
      clear hw hk
      have hw := hw22
      clear hw22
      have hwz := hw.size
      clear c21_0 c21_1 c21_2 c21_3 c21_4 R21_0 R21_1 R21_2
      clear hb
      clear hS2 hP2
      have hwl := woV_len l u v fs ps 0
      obtain ⟨l2, u2, v2, fs2, ps2, three, hWo⟩ : ∃ l2 u2 v2 fs2 ps2 three, woV l u v fs ps 0 = ((l2, u2, v2, fs2, ps2), three) := ⟨_, _, _, _, _, _, rfl⟩
      rw [hWo] at hwl
      simp only at hwl
      go_wp2_with (fail)
      refine calls_named ?_
      intro V23 hV
      have hk : Below W22.heap.size W22 V23 := by rw [hV]; (repeat' (first | with_reducible exact Below.refl _ _ | with_reducible assumption | with_reducible refine Below.setCell ?_ ?_ _ | with_reducible refine Below.drew ?_ | with_reducible refine Below.alloc ?_ ?_ _ | with_reducible refine Below.trans ?_ (Below.mono (by assumption) ?_) | (dsimp only; omega) | (simp; done) | (simp; omega) | omega))
      have hkz23 := hk.size
      have c23_0 : V23.cell? ⟨W2.heap.size, 0, none⟩ = some (.int .i64 l) := by rw [hV]; first | ((repeat' (first | with_reducible exact c22_0 | with_reducible refine cellK_drew ?_ | with_reducible refine cellK_alloc ?_ | with_reducible refine cellK_set ?_ (by dsimp only; omega))); done) | (first | (simp [go_sem, ↓IntWalk.iteOmega, *]; done) | (simp [go_sem, ↓IntWalk.iteOmega, *]; intros; omega))
      have c23_1 : V23.cell? ⟨W2.heap.size, 1, none⟩ = some (.int .i64 u) := by rw [hV]; first | ((repeat' (first | with_reducible exact c22_1 | with_reducible refine cellK_drew ?_ | with_reducible refine cellK_alloc ?_ | with_reducible refine cellK_set ?_ (by dsimp only; omega))); done) | (first | (simp [go_sem, ↓IntWalk.iteOmega, *]; done) | (simp [go_sem, ↓IntWalk.iteOmega, *]; intros; omega))
      have c23_2 : V23.cell? ⟨W2.heap.size, 2, none⟩ = some (.int .i64 v) := by rw [hV]; first | ((repeat' (first | with_reducible exact c22_2 | with_reducible refine cellK_drew ?_ | with_reducible refine cellK_alloc ?_ | with_reducible refine cellK_set ?_ (by dsimp only; omega))); done) | (first | (simp [go_sem, ↓IntWalk.iteOmega, *]; done) | (simp [go_sem, ↓IntWalk.iteOmega, *]; intros; omega))
      have c23_3 : V23.cell? ⟨W2.heap.size, 3, none⟩ = some (.slice Af fs.length cf) := by rw [hV]; first | ((repeat' (first | with_reducible exact c22_3 | with_reducible refine cellK_drew ?_ | with_reducible refine cellK_alloc ?_ | with_reducible refine cellK_set ?_ (by dsimp only; omega))); done) | (first | (simp [go_sem, ↓IntWalk.iteOmega, *]; done) | (simp [go_sem, ↓IntWalk.iteOmega, *]; intros; omega))
      have c23_4 : V23.cell? ⟨W2.heap.size, 4, none⟩ = some (.slice Aq ps.length cq) := by rw [hV]; first | ((repeat' (first | with_reducible exact c22_4 | with_reducible refine cellK_drew ?_ | with_reducible refine cellK_alloc ?_ | with_reducible refine cellK_set ?_ (by dsimp only; omega))); done) | (first | (simp [go_sem, ↓IntWalk.iteOmega, *]; done) | (simp [go_sem, ↓IntWalk.iteOmega, *]; intros; omega))
      have b23_0 : W2.heap.size < V23.heap.size := by omega
      have R23_0 := hid (FreshA.below (cf := cIn) (sz := 1) (T := 3) (B := V1.heap.size) R22_0.out hk)
      have R23_1 := hid (FreshA.below (cf := cPu) (sz := 3) (T := 71) (B := V1.heap.size) R22_1.out hk)
      have R23_2 := hid (FreshA.below (cf := cIn) (sz := 1) (T := 3) (B := V11.heap.size) R22_2.out hk)
      have hw23 : Below w.heap.size w V23 := Below.trans hw (Below.mono hk (by have := hw.size; omega))
      clear hw hk
      have hw := hw23
      clear hw23
      have hwz := hw.size
      clear c22_0 c22_1 c22_2 c22_3 c22_4 R22_0 R22_1 R22_2
      clear hV
      refine (c_impl_WithoutPump l u v Af fs cf Aq ps cq 0 _ R23_0.out.rds (by omega) R23_1.out.rds (by omega)).mono ?_
      simp only [hWo]
      rintro e W24 ⟨A8, c8, A9, c9, rfl, hF8, hF9, hb⟩
      have hk : Below V23.heap.size V23 W24 := hb
      have hkz24 := hk.size
      have c24_0 : W24.cell? ⟨W2.heap.size, 0, none⟩ = some (.int .i64 l) := (hb.cell (p := ⟨W2.heap.size, 0, none⟩) (by show W2.heap.size < _; omega)).trans c23_0
      have c24_1 : W24.cell? ⟨W2.heap.size, 1, none⟩ = some (.int .i64 u) := (hb.cell (p := ⟨W2.heap.size, 1, none⟩) (by show W2.heap.size < _; omega)).trans c23_1
      have c24_2 : W24.cell? ⟨W2.heap.size, 2, none⟩ = some (.int .i64 v) := (hb.cell (p := ⟨W2.heap.size, 2, none⟩) (by show W2.heap.size < _; omega)).trans c23_2
      have c24_3 : W24.cell? ⟨W2.heap.size, 3, none⟩ = some (.slice Af fs.length cf) := (hb.cell (p := ⟨W2.heap.size, 3, none⟩) (by show W2.heap.size < _; omega)).trans c23_3
      have c24_4 : W24.cell? ⟨W2.heap.size, 4, none⟩ = some (.slice Aq ps.length cq) := (hb.cell (p := ⟨W2.heap.size, 4, none⟩) (by show W2.heap.size < _; omega)).trans c23_4
      have b24_0 : W2.heap.size < W24.heap.size := by omega
      have R24_0 := hid (FreshA.below (cf := cIn) (sz := 1) (T := 3) (B := V1.heap.size) R23_0.out hk)
      have R24_1 := hid (FreshA.below (cf := cPu) (sz := 3) (T := 71) (B := V1.heap.size) R23_1.out hk)
      have R24_2 := hid (FreshA.below (cf := cIn) (sz := 1) (T := 3) (B := V11.heap.size) R23_2.out hk)
      have hw24 : Below w.heap.size w W24 := Below.trans hw (Below.mono hk (by have := hw.size; omega))
      clear hw hk
      have hw := hw24
      clear hw24
      have hwz := hw.size
      clear c23_0 c23_1 c23_2 c23_3 c23_4 R23_0 R23_1 R23_2
      clear hb
      have S24_3 : Hid (FreshA cIn 1 3 V23.heap.size W24 A8 c8 fs2) := hid (hF8)
      have loS24_3 := S24_3.out.lo
      have hiS24_3 := S24_3.out.hi
      have S24_4 : Hid (FreshA cPu 3 71 V23.heap.size W24 A9 c9 ps2) := hid (hF9)
      have loS24_4 := S24_4.out.lo
      have hiS24_4 := S24_4.out.hi
      clear hF8 hF9
      cases three
      · go_wp2_with (fail)
        go_ret
        exact ⟨by first | rfl | exact ret_bool (by simp), by first | exact hw | (repeat' (first | with_reducible exact Below.refl _ _ | with_reducible assumption | with_reducible refine Below.setCell ?_ ?_ _ | with_reducible refine Below.drew ?_ | with_reducible refine Below.alloc ?_ ?_ _ | with_reducible refine Below.trans ?_ (Below.mono (by assumption) ?_) | (dsimp only; omega) | (simp; done) | (simp; omega) | omega))⟩
      obtain ⟨q9, n9, four, hC2⟩ : ∃ q9 n9 four, cheapV l2 u2 v2 fs2 ps2 = (q9, n9, four) := ⟨_, _, _, rfl⟩
      have hlt9 := HW.out _ hWo
      simp only [hC2] at hlt9
      have HL9 := hid hlt9; clear hlt9 hWo
      go_wp2_with (fail)
      refine calls_named ?_
      intro V25 hV
      have hk : Below W24.heap.size W24 V25 := by rw [hV]; (repeat' (first | with_reducible exact Below.refl _ _ | with_reducible assumption | with_reducible refine Below.setCell ?_ ?_ _ | with_reducible refine Below.drew ?_ | with_reducible refine Below.alloc ?_ ?_ _ | with_reducible refine Below.trans ?_ (Below.mono (by assumption) ?_) | (dsimp only; omega) | (simp; done) | (simp; omega) | omega))
      have hkz25 := hk.size
      have c25_0 : V25.cell? ⟨W2.heap.size, 0, none⟩ = some (.int .i64 l) := by rw [hV]; first | ((repeat' (first | with_reducible exact c24_0 | with_reducible refine cellK_drew ?_ | with_reducible refine cellK_alloc ?_ | with_reducible refine cellK_set ?_ (by dsimp only; omega))); done) | (first | (simp [go_sem, ↓IntWalk.iteOmega, *]; done) | (simp [go_sem, ↓IntWalk.iteOmega, *]; intros; omega))
      have c25_1 : V25.cell? ⟨W2.heap.size, 1, none⟩ = some (.int .i64 u) := by rw [hV]; first | ((repeat' (first | with_reducible exact c24_1 | with_reducible refine cellK_drew ?_ | with_reducible refine cellK_alloc ?_ | with_reducible refine cellK_set ?_ (by dsimp only; omega))); done) | (first | (simp [go_sem, ↓IntWalk.iteOmega, *]; done) | (simp [go_sem, ↓IntWalk.iteOmega, *]; intros; omega))
      have c25_2 : V25.cell? ⟨W2.heap.size, 2, none⟩ = some (.int .i64 v) := by rw [hV]; first | ((repeat' (first | with_reducible exact c24_2 | with_reducible refine cellK_drew ?_ | with_reducible refine cellK_alloc ?_ | with_reducible refine cellK_set ?_ (by dsimp only; omega))); done) | (first | (simp [go_sem, ↓IntWalk.iteOmega, *]; done) | (simp [go_sem, ↓IntWalk.iteOmega, *]; intros; omega))
      have c25_3 : V25.cell? ⟨W2.heap.size, 3, none⟩ = some (.slice Af fs.length cf) := by rw [hV]; first | ((repeat' (first | with_reducible exact c24_3 | with_reducible refine cellK_drew ?_ | with_reducible refine cellK_alloc ?_ | with_reducible refine cellK_set ?_ (by dsimp only; omega))); done) | (first | (simp [go_sem, ↓IntWalk.iteOmega, *]; done) | (simp [go_sem, ↓IntWalk.iteOmega, *]; intros; omega))
      have c25_4 : V25.cell? ⟨W2.heap.size, 4, none⟩ = some (.slice Aq ps.length cq) := by rw [hV]; first | ((repeat' (first | with_reducible exact c24_4 | with_reducible refine cellK_drew ?_ | with_reducible refine cellK_alloc ?_ | with_reducible refine cellK_set ?_ (by dsimp only; omega))); done) | (first | (simp [go_sem, ↓IntWalk.iteOmega, *]; done) | (simp [go_sem, ↓IntWalk.iteOmega, *]; intros; omega))
      have b25_0 : W2.heap.size < V25.heap.size := by omega
      have R25_0 := hid (FreshA.below (cf := cIn) (sz := 1) (T := 3) (B := V1.heap.size) R24_0.out hk)
      have R25_1 := hid (FreshA.below (cf := cPu) (sz := 3) (T := 71) (B := V1.heap.size) R24_1.out hk)
      have R25_2 := hid (FreshA.below (cf := cIn) (sz := 1) (T := 3) (B := V11.heap.size) R24_2.out hk)
      have R25_3 := hid (FreshA.below (cf := cIn) (sz := 1) (T := 3) (B := V23.heap.size) S24_3.out hk)
      have R25_4 := hid (FreshA.below (cf := cPu) (sz := 3) (T := 71) (B := V23.heap.size) S24_4.out hk)
      have hw25 : Below w.heap.size w V25 := Below.trans hw (Below.mono hk (by have := hw.size; omega))
      clear hw hk
      have hw := hw25
      clear hw25
      have hwz := hw.size
      clear c24_0 c24_1 c24_2 c24_3 c24_4 R24_0 R24_1 R24_2 S24_3 S24_4
      clear hV
      refine (c_impl_CheapestPlan l2 u2 v2 A8 fs2 c8 A9 ps2 c9 _ R25_3.out.rds (by omega) R25_4.out.rds (by omega)).mono ?_
      simp only [hC2]
      rintro e W26 ⟨A7, c7, rfl, hF7, hb⟩
      have hk : Below V25.heap.size V25 W26 := hb
      have hkz26 := hk.size
      have c26_0 : W26.cell? ⟨W2.heap.size, 0, none⟩ = some (.int .i64 l) := (hb.cell (p := ⟨W2.heap.size, 0, none⟩) (by show W2.heap.size < _; omega)).trans c25_0
      have c26_1 : W26.cell? ⟨W2.heap.size, 1, none⟩ = some (.int .i64 u) := (hb.cell (p := ⟨W2.heap.size, 1, none⟩) (by show W2.heap.size < _; omega)).trans c25_1
      have c26_2 : W26.cell? ⟨W2.heap.size, 2, none⟩ = some (.int .i64 v) := (hb.cell (p := ⟨W2.heap.size, 2, none⟩) (by show W2.heap.size < _; omega)).trans c25_2
      have c26_3 : W26.cell? ⟨W2.heap.size, 3, none⟩ = some (.slice Af fs.length cf) := (hb.cell (p := ⟨W2.heap.size, 3, none⟩) (by show W2.heap.size < _; omega)).trans c25_3
      have c26_4 : W26.cell? ⟨W2.heap.size, 4, none⟩ = some (.slice Aq ps.length cq) := (hb.cell (p := ⟨W2.heap.size, 4, none⟩) (by show W2.heap.size < _; omega)).trans c25_4
      have b26_0 : W2.heap.size < W26.heap.size := by omega
      have R26_0 := hid (FreshA.below (cf := cIn) (sz := 1) (T := 3) (B := V1.heap.size) R25_0.out hk)
      have R26_1 := hid (FreshA.below (cf := cPu) (sz := 3) (T := 71) (B := V1.heap.size) R25_1.out hk)
      have R26_2 := hid (FreshA.below (cf := cIn) (sz := 1) (T := 3) (B := V11.heap.size) R25_2.out hk)
      have R26_3 := hid (FreshA.below (cf := cIn) (sz := 1) (T := 3) (B := V23.heap.size) R25_3.out hk)
      have R26_4 := hid (FreshA.below (cf := cPu) (sz := 3) (T := 71) (B := V23.heap.size) R25_4.out hk)
      have hw26 : Below w.heap.size w W26 := Below.trans hw (Below.mono hk (by have := hw.size; omega))
      clear hw hk
      have hw := hw26
      clear hw26
      have hwz := hw.size
      clear c25_0 c25_1 c25_2 c25_3 c25_4 R25_0 R25_1 R25_2 R25_3 R25_4
      clear hb
      clear hF7
      cases four
      · go_wp2_with (fail)
        go_ret
        exact ⟨by first | rfl | exact ret_bool (by simp), by first | exact hw | (repeat' (first | with_reducible exact Below.refl _ _ | with_reducible assumption | with_reducible refine Below.setCell ?_ ?_ _ | with_reducible refine Below.drew ?_ | with_reducible refine Below.alloc ?_ ?_ _ | with_reducible refine Below.trans ?_ (Below.mono (by assumption) ?_) | (dsimp only; omega) | (simp; done) | (simp; omega) | omega))⟩
      have hge : ¬ n9 < least := by have h9 := HL9.out rfl; omega
      go_wp2_with (fail)
      go_ret
      exact ⟨by first | rfl | exact ret_bool (by simp), by first | exact hw | (repeat' (first | with_reducible exact Below.refl _ _ | with_reducible assumption | with_reducible refine Below.setCell ?_ ?_ _ | with_reducible refine Below.drew ?_ | with_reducible refine Below.alloc ?_ ?_ _ | with_reducible refine Below.trans ?_ (Below.mono (by assumption) ?_) | (dsimp only; omega) | (simp; done) | (simp; omega) | omega))⟩
    cases hk
  obtain ⟨hS2, hP2, hW⟩ := HL3.out rfl
  have HW := hid hW; clear hW
  go_wp2_with (fail)
  refine calls_named ?_
  intro V19 hV
  have hk : Below W18.heap.size W18 V19 := by rw [hV]; (repeat' (first | with_reducible exact Below.refl _ _ | with_reducible assumption | with_reducible refine Below.setCell ?_ ?_ _ | with_reducible refine Below.drew ?_ | with_reducible refine Below.alloc ?_ ?_ _ | with_reducible refine Below.trans ?_ (Below.mono (by assumption) ?_) | (dsimp only; omega) | (simp; done) | (simp; omega) | omega))
  have hkz19 := hk.size
  have c19_0 : V19.cell? ⟨W2.heap.size, 0, none⟩ = some (.int .i64 l) := by rw [hV]; first | ((repeat' (first | with_reducible exact c18_0 | with_reducible refine cellK_drew ?_ | with_reducible refine cellK_alloc ?_ | with_reducible refine cellK_set ?_ (by dsimp only; omega))); done) | (first | (simp [go_sem, ↓IntWalk.iteOmega, *]; done) | (simp [go_sem, ↓IntWalk.iteOmega, *]; intros; omega))
  have c19_1 : V19.cell? ⟨W2.heap.size, 1, none⟩ = some (.int .i64 u) := by rw [hV]; first | ((repeat' (first | with_reducible exact c18_1 | with_reducible refine cellK_drew ?_ | with_reducible refine cellK_alloc ?_ | with_reducible refine cellK_set ?_ (by dsimp only; omega))); done) | (first | (simp [go_sem, ↓IntWalk.iteOmega, *]; done) | (simp [go_sem, ↓IntWalk.iteOmega, *]; intros; omega))
  have c19_2 : V19.cell? ⟨W2.heap.size, 2, none⟩ = some (.int .i64 v) := by rw [hV]; first | ((repeat' (first | with_reducible exact c18_2 | with_reducible refine cellK_drew ?_ | with_reducible refine cellK_alloc ?_ | with_reducible refine cellK_set ?_ (by dsimp only; omega))); done) | (first | (simp [go_sem, ↓IntWalk.iteOmega, *]; done) | (simp [go_sem, ↓IntWalk.iteOmega, *]; intros; omega))
  have c19_3 : V19.cell? ⟨W2.heap.size, 3, none⟩ = some (.slice Af fs.length cf) := by rw [hV]; first | ((repeat' (first | with_reducible exact c18_3 | with_reducible refine cellK_drew ?_ | with_reducible refine cellK_alloc ?_ | with_reducible refine cellK_set ?_ (by dsimp only; omega))); done) | (first | (simp [go_sem, ↓IntWalk.iteOmega, *]; done) | (simp [go_sem, ↓IntWalk.iteOmega, *]; intros; omega))
  have c19_4 : V19.cell? ⟨W2.heap.size, 4, none⟩ = some (.slice Aq ps.length cq) := by rw [hV]; first | ((repeat' (first | with_reducible exact c18_4 | with_reducible refine cellK_drew ?_ | with_reducible refine cellK_alloc ?_ | with_reducible refine cellK_set ?_ (by dsimp only; omega))); done) | (first | (simp [go_sem, ↓IntWalk.iteOmega, *]; done) | (simp [go_sem, ↓IntWalk.iteOmega, *]; intros; omega))
  have b19_0 : W2.heap.size < V19.heap.size := by omega
  have R19_0 := hid (FreshA.below (cf := cIn) (sz := 1) (T := 3) (B := V1.heap.size) R18_0.out hk)
  have R19_1 := hid (FreshA.below (cf := cPu) (sz := 3) (T := 71) (B := V1.heap.size) R18_1.out hk)
  have R19_2 := hid (FreshA.below (cf := cIn) (sz := 1) (T := 3) (B := V11.heap.size) R18_3.out hk)
  have hw19 : Below w.heap.size w V19 := Below.trans hw (Below.mono hk (by have := hw.size; omega))
  clear hw hk
  have hw := hw19
  clear hw19
  have hwz := hw.size
  clear c18_0 c18_1 c18_2 c18_3 c18_4 R18_0 R18_1 R18_3
  clear hV
  refine (c_impl_IsSafePlan l u v Af fs cf Aq ps cq Ab0 best cb0 _ R19_0.out.rds (by omega) R19_1.out.rds (by omega) R19_2.out.rds (by omega)).mono ?_
  simp only [hS2]
  rintro e W20 ⟨rfl, hb⟩
  have hk : Below V19.heap.size V19 W20 := hb
  have hkz20 := hk.size
  have c20_0 : W20.cell? ⟨W2.heap.size, 0, none⟩ = some (.int .i64 l) := (hb.cell (p := ⟨W2.heap.size, 0, none⟩) (by show W2.heap.size < _; omega)).trans c19_0
  have c20_1 : W20.cell? ⟨W2.heap.size, 1, none⟩ = some (.int .i64 u) := (hb.cell (p := ⟨W2.heap.size, 1, none⟩) (by show W2.heap.size < _; omega)).trans c19_1
  have c20_2 : W20.cell? ⟨W2.heap.size, 2, none⟩ = some (.int .i64 v) := (hb.cell (p := ⟨W2.heap.size, 2, none⟩) (by show W2.heap.size < _; omega)).trans c19_2
  have c20_3 : W20.cell? ⟨W2.heap.size, 3, none⟩ = some (.slice Af fs.length cf) := (hb.cell (p := ⟨W2.heap.size, 3, none⟩) (by show W2.heap.size < _; omega)).trans c19_3
  have c20_4 : W20.cell? ⟨W2.heap.size, 4, none⟩ = some (.slice Aq ps.length cq) := (hb.cell (p := ⟨W2.heap.size, 4, none⟩) (by show W2.heap.size < _; omega)).trans c19_4
  have b20_0 : W2.heap.size < W20.heap.size := by omega
  have R20_0 := hid (FreshA.below (cf := cIn) (sz := 1) (T := 3) (B := V1.heap.size) R19_0.out hk)
  have R20_1 := hid (FreshA.below (cf := cPu) (sz := 3) (T := 71) (B := V1.heap.size) R19_1.out hk)
  have R20_2 := hid (FreshA.below (cf := cIn) (sz := 1) (T := 3) (B := V11.heap.size) R19_2.out hk)
  have hw20 : Below w.heap.size w W20 := Below.trans hw (Below.mono hk (by have := hw.size; omega))
  clear hw hk
  have hw := hw20
  clear hw20
  have hwz := hw.size
  clear c19_0 c19_1 c19_2 c19_3 c19_4 R19_0 R19_1 R19_2
  clear hb
  go_wp2_with (fail)
  refine calls_named ?_
  intro V21 hV
  have hk : Below W20.heap.size W20 V21 := by rw [hV]; (repeat' (first | with_reducible exact Below.refl _ _ | with_reducible assumption | with_reducible refine Below.setCell ?_ ?_ _ | with_reducible refine Below.drew ?_ | with_reducible refine Below.alloc ?_ ?_ _ | with_reducible refine Below.trans ?_ (Below.mono (by assumption) ?_) | (dsimp only; omega) | (simp; done) | (simp; omega) | omega))
  have hkz21 := hk.size
  have c21_0 : V21.cell? ⟨W2.heap.size, 0, none⟩ = some (.int .i64 l) := by rw [hV]; first | ((repeat' (first | with_reducible exact c20_0 | with_reducible refine cellK_drew ?_ | with_reducible refine cellK_alloc ?_ | with_reducible refine cellK_set ?_ (by dsimp only; omega))); done) | (first | (simp [go_sem, ↓IntWalk.iteOmega, *]; done) | (simp [go_sem, ↓IntWalk.iteOmega, *]; intros; omega))
  have c21_1 : V21.cell? ⟨W2.heap.size, 1, none⟩ = some (.int .i64 u) := by rw [hV]; first | ((repeat' (first | with_reducible exact c20_1 | with_reducible refine cellK_drew ?_ | with_reducible refine cellK_alloc ?_ | with_reducible refine cellK_set ?_ (by dsimp only; omega))); done) | (first | (simp [go_sem, ↓IntWalk.iteOmega, *]; done) | (simp [go_sem, ↓IntWalk.iteOmega, *]; intros; omega))
  have c21_2 : V21.cell? ⟨W2.heap.size, 2, none⟩ = some (.int .i64 v) := by rw [hV]; first | ((repeat' (first | with_reducible exact c20_2 | with_reducible refine cellK_drew ?_ | with_reducible refine cellK_alloc ?_ | with_reducible refine cellK_set ?_ (by dsimp only; omega))); done) | (first | (simp [go_sem, ↓IntWalk.iteOmega, *]; done) | (simp [go_sem, ↓IntWalk.iteOmega, *]; intros; omega))
  have c21_3 : V21.cell? ⟨W2.heap.size, 3, none⟩ = some (.slice Af fs.length cf) := by rw [hV]; first | ((repeat' (first | with_reducible exact c20_3 | with_reducible refine cellK_drew ?_ | with_reducible refine cellK_alloc ?_ | with_reducible refine cellK_set ?_ (by dsimp only; omega))); done) | (first | (simp [go_sem, ↓IntWalk.iteOmega, *]; done) | (simp [go_sem, ↓IntWalk.iteOmega, *]; intros; omega))
  have c21_4 : V21.cell? ⟨W2.heap.size, 4, none⟩ = some (.slice Aq ps.length cq) := by rw [hV]; first | ((repeat' (first | with_reducible exact c20_4 | with_reducible refine cellK_drew ?_ | with_reducible refine cellK_alloc ?_ | with_reducible refine cellK_set ?_ (by dsimp only; omega))); done) | (first | (simp [go_sem, ↓IntWalk.iteOmega, *]; done) | (simp [go_sem, ↓IntWalk.iteOmega, *]; intros; omega))
  have b21_0 : W2.heap.size < V21.heap.size := by omega
  have R21_0 := hid (FreshA.below (cf := cIn) (sz := 1) (T := 3) (B := V1.heap.size) R20_0.out hk)
  have R21_1 := hid (FreshA.below (cf := cPu) (sz := 3) (T := 71) (B := V1.heap.size) R20_1.out hk)
  have R21_2 := hid (FreshA.below (cf := cIn) (sz := 1) (T := 3) (B := V11.heap.size) R20_2.out hk)
  have hw21 : Below w.heap.size w V21 := Below.trans hw (Below.mono hk (by have := hw.size; omega))
  clear hw hk
  have hw := hw21
  clear hw21
  have hwz := hw.size
  clear c20_0 c20_1 c20_2 c20_3 c20_4 R20_0 R20_1 R20_2
  clear hV
  refine (c_impl_PlanCost l u v Af fs cf Aq ps cq Ab0 best cb0 _ R21_0.out.rds (by omega) R21_1.out.rds (by omega) R21_2.out.rds (by omega)).mono ?_
  simp only [hP2]
  rintro e W22 ⟨rfl, hb⟩
  have hk : Below V21.heap.size V21 W22 := hb
  have hkz22 := hk.size
  have c22_0 : W22.cell? ⟨W2.heap.size, 0, none⟩ = some (.int .i64 l) := (hb.cell (p := ⟨W2.heap.size, 0, none⟩) (by show W2.heap.size < _; omega)).trans c21_0
  have c22_1 : W22.cell? ⟨W2.heap.size, 1, none⟩ = some (.int .i64 u) := (hb.cell (p := ⟨W2.heap.size, 1, none⟩) (by show W2.heap.size < _; omega)).trans c21_1
  have c22_2 : W22.cell? ⟨W2.heap.size, 2, none⟩ = some (.int .i64 v) := (hb.cell (p := ⟨W2.heap.size, 2, none⟩) (by show W2.heap.size < _; omega)).trans c21_2
  have c22_3 : W22.cell? ⟨W2.heap.size, 3, none⟩ = some (.slice Af fs.length cf) := (hb.cell (p := ⟨W2.heap.size, 3, none⟩) (by show W2.heap.size < _; omega)).trans c21_3
  have c22_4 : W22.cell? ⟨W2.heap.size, 4, none⟩ = some (.slice Aq ps.length cq) := (hb.cell (p := ⟨W2.heap.size, 4, none⟩) (by show W2.heap.size < _; omega)).trans c21_4
  have b22_0 : W2.heap.size < W22.heap.size := by omega
  have R22_0 := hid (FreshA.below (cf := cIn) (sz := 1) (T := 3) (B := V1.heap.size) R21_0.out hk)
  have R22_1 := hid (FreshA.below (cf := cPu) (sz := 3) (T := 71) (B := V1.heap.size) R21_1.out hk)
  have R22_2 := hid (FreshA.below (cf := cIn) (sz := 1) (T := 3) (B := V11.heap.size) R21_2.out hk)
  have hw22 : Below w.heap.size w W22 := Below.trans hw (Below.mono hk (by have := hw.size; omega))
  clear hw hk
  have hw := hw22
  clear hw22
  have hwz := hw.size
  clear c21_0 c21_1 c21_2 c21_3 c21_4 R21_0 R21_1 R21_2
  clear hb
  clear hS2 hP2
  have hwl := woV_len l u v fs ps 0
  obtain ⟨l2, u2, v2, fs2, ps2, three, hWo⟩ : ∃ l2 u2 v2 fs2 ps2 three, woV l u v fs ps 0 = ((l2, u2, v2, fs2, ps2), three) := ⟨_, _, _, _, _, _, rfl⟩
  rw [hWo] at hwl
  simp only at hwl
  go_wp2_with (fail)
  refine calls_named ?_
  intro V23 hV
  have hk : Below W22.heap.size W22 V23 := by rw [hV]; (repeat' (first | with_reducible exact Below.refl _ _ | with_reducible assumption | with_reducible refine Below.setCell ?_ ?_ _ | with_reducible refine Below.drew ?_ | with_reducible refine Below.alloc ?_ ?_ _ | with_reducible refine Below.trans ?_ (Below.mono (by assumption) ?_) | (dsimp only; omega) | (simp; done) | (simp; omega) | omega))
  have hkz23 := hk.size
  have c23_0 : V23.cell? ⟨W2.heap.size, 0, none⟩ = some (.int .i64 l) := by rw [hV]; first | ((repeat' (first | with_reducible exact c22_0 | with_reducible refine cellK_drew ?_ | with_reducible refine cellK_alloc ?_ | with_reducible refine cellK_set ?_ (by dsimp only; omega))); done) | (first | (simp [go_sem, ↓IntWalk.iteOmega, *]; done) | (simp [go_sem, ↓IntWalk.iteOmega, *]; intros; omega))
  have c23_1 : V23.cell? ⟨W2.heap.size, 1, none⟩ = some (.int .i64 u) := by rw [hV]; first | ((repeat' (first | with_reducible exact c22_1 | with_reducible refine cellK_drew ?_ | with_reducible refine cellK_alloc ?_ | with_reducible refine cellK_set ?_ (by dsimp only; omega))); done) | (first | (simp [go_sem, ↓IntWalk.iteOmega, *]; done) | (simp [go_sem, ↓IntWalk.iteOmega, *]; intros; omega))
  have c23_2 : V23.cell? ⟨W2.heap.size, 2, none⟩ = some (.int .i64 v) := by rw [hV]; first | ((repeat' (first | with_reducible exact c22_2 | with_reducible refine cellK_drew ?_ | with_reducible refine cellK_alloc ?_ | with_reducible refine cellK_set ?_ (by dsimp only; omega))); done) | (first | (simp [go_sem, ↓IntWalk.iteOmega, *]; done) | (simp [go_sem, ↓IntWalk.iteOmega, *]; intros; omega))
  have c23_3 : V23.cell? ⟨W2.heap.size, 3, none⟩ = some (.slice Af fs.length cf) := by rw [hV]; first | ((repeat' (first | with_reducible exact c22_3 | with_reducible refine cellK_drew ?_ | with_reducible refine cellK_alloc ?_ | with_reducible refine cellK_set ?_ (by dsimp only; omega))); done) | (first | (simp [go_sem, ↓IntWalk.iteOmega, *]; done) | (simp [go_sem, ↓IntWalk.iteOmega, *]; intros; omega))
  have c23_4 : V23.cell? ⟨W2.heap.size, 4, none⟩ = some (.slice Aq ps.length cq) := by rw [hV]; first | ((repeat' (first | with_reducible exact c22_4 | with_reducible refine cellK_drew ?_ | with_reducible refine cellK_alloc ?_ | with_reducible refine cellK_set ?_ (by dsimp only; omega))); done) | (first | (simp [go_sem, ↓IntWalk.iteOmega, *]; done) | (simp [go_sem, ↓IntWalk.iteOmega, *]; intros; omega))
  have b23_0 : W2.heap.size < V23.heap.size := by omega
  have R23_0 := hid (FreshA.below (cf := cIn) (sz := 1) (T := 3) (B := V1.heap.size) R22_0.out hk)
  have R23_1 := hid (FreshA.below (cf := cPu) (sz := 3) (T := 71) (B := V1.heap.size) R22_1.out hk)
  have R23_2 := hid (FreshA.below (cf := cIn) (sz := 1) (T := 3) (B := V11.heap.size) R22_2.out hk)
  have hw23 : Below w.heap.size w V23 := Below.trans hw (Below.mono hk (by have := hw.size; omega))
  clear hw hk
  have hw := hw23
  clear hw23
  have hwz := hw.size
  clear c22_0 c22_1 c22_2 c22_3 c22_4 R22_0 R22_1 R22_2
  clear hV
  refine (c_impl_WithoutPump l u v Af fs cf Aq ps cq 0 _ R23_0.out.rds (by omega) R23_1.out.rds (by omega)).mono ?_
  simp only [hWo]
  rintro e W24 ⟨A8, c8, A9, c9, rfl, hF8, hF9, hb⟩
  have hk : Below V23.heap.size V23 W24 := hb
  have hkz24 := hk.size
  have c24_0 : W24.cell? ⟨W2.heap.size, 0, none⟩ = some (.int .i64 l) := (hb.cell (p := ⟨W2.heap.size, 0, none⟩) (by show W2.heap.size < _; omega)).trans c23_0
  have c24_1 : W24.cell? ⟨W2.heap.size, 1, none⟩ = some (.int .i64 u) := (hb.cell (p := ⟨W2.heap.size, 1, none⟩) (by show W2.heap.size < _; omega)).trans c23_1
  have c24_2 : W24.cell? ⟨W2.heap.size, 2, none⟩ = some (.int .i64 v) := (hb.cell (p := ⟨W2.heap.size, 2, none⟩) (by show W2.heap.size < _; omega)).trans c23_2
  have c24_3 : W24.cell? ⟨W2.heap.size, 3, none⟩ = some (.slice Af fs.length cf) := (hb.cell (p := ⟨W2.heap.size, 3, none⟩) (by show W2.heap.size < _; omega)).trans c23_3
  have c24_4 : W24.cell? ⟨W2.heap.size, 4, none⟩ = some (.slice Aq ps.length cq) := (hb.cell (p := ⟨W2.heap.size, 4, none⟩) (by show W2.heap.size < _; omega)).trans c23_4
  have b24_0 : W2.heap.size < W24.heap.size := by omega
  have R24_0 := hid (FreshA.below (cf := cIn) (sz := 1) (T := 3) (B := V1.heap.size) R23_0.out hk)
  have R24_1 := hid (FreshA.below (cf := cPu) (sz := 3) (T := 71) (B := V1.heap.size) R23_1.out hk)
  have R24_2 := hid (FreshA.below (cf := cIn) (sz := 1) (T := 3) (B := V11.heap.size) R23_2.out hk)
  have hw24 : Below w.heap.size w W24 := Below.trans hw (Below.mono hk (by have := hw.size; omega))
  clear hw hk
  have hw := hw24
  clear hw24
  have hwz := hw.size
  clear c23_0 c23_1 c23_2 c23_3 c23_4 R23_0 R23_1 R23_2
  clear hb
  have S24_3 : Hid (FreshA cIn 1 3 V23.heap.size W24 A8 c8 fs2) := hid (hF8)
  have loS24_3 := S24_3.out.lo
  have hiS24_3 := S24_3.out.hi
  have S24_4 : Hid (FreshA cPu 3 71 V23.heap.size W24 A9 c9 ps2) := hid (hF9)
  have loS24_4 := S24_4.out.lo
  have hiS24_4 := S24_4.out.hi
  clear hF8 hF9
  cases three
  · go_wp2_with (fail)
    go_ret
    exact ⟨by first | rfl | exact ret_bool (by simp), by first | exact hw | (repeat' (first | with_reducible exact Below.refl _ _ | with_reducible assumption | with_reducible refine Below.setCell ?_ ?_ _ | with_reducible refine Below.drew ?_ | with_reducible refine Below.alloc ?_ ?_ _ | with_reducible refine Below.trans ?_ (Below.mono (by assumption) ?_) | (dsimp only; omega) | (simp; done) | (simp; omega) | omega))⟩
  obtain ⟨q9, n9, four, hC2⟩ : ∃ q9 n9 four, cheapV l2 u2 v2 fs2 ps2 = (q9, n9, four) := ⟨_, _, _, rfl⟩
  have hlt9 := HW.out _ hWo
  simp only [hC2] at hlt9
  have HL9 := hid hlt9; clear hlt9 hWo
  go_wp2_with (fail)
  refine calls_named ?_
  intro V25 hV
  have hk : Below W24.heap.size W24 V25 := by rw [hV]; (repeat' (first | with_reducible exact Below.refl _ _ | with_reducible assumption | with_reducible refine Below.setCell ?_ ?_ _ | with_reducible refine Below.drew ?_ | with_reducible refine Below.alloc ?_ ?_ _ | with_reducible refine Below.trans ?_ (Below.mono (by assumption) ?_) | (dsimp only; omega) | (simp; done) | (simp; omega) | omega))
  have hkz25 := hk.size
  have c25_0 : V25.cell? ⟨W2.heap.size, 0, none⟩ = some (.int .i64 l) := by rw [hV]; first | ((repeat' (first | with_reducible exact c24_0 | with_reducible refine cellK_drew ?_ | with_reducible refine cellK_alloc ?_ | with_reducible refine cellK_set ?_ (by dsimp only; omega))); done) | (first | (simp [go_sem, ↓IntWalk.iteOmega, *]; done) | (simp [go_sem, ↓IntWalk.iteOmega, *]; intros; omega))
  have c25_1 : V25.cell? ⟨W2.heap.size, 1, none⟩ = some (.int .i64 u) := by rw [hV]; first | ((repeat' (first | with_reducible exact c24_1 | with_reducible refine cellK_drew ?_ | with_reducible refine cellK_alloc ?_ | with_reducible refine cellK_set ?_ (by dsimp only; omega))); done) | (first | (simp [go_sem, ↓IntWalk.iteOmega, *]; done) | (simp [go_sem, ↓IntWalk.iteOmega, *]; intros; omega))
  have c25_2 : V25.cell? ⟨W2.heap.size, 2, none⟩ = some (.int .i64 v) := by rw [hV]; first | ((repeat' (first | with_reducible exact c24_2 | with_reducible refine cellK_drew ?_ | with_reducible refine cellK_alloc ?_ | with_reducible refine cellK_set ?_ (by dsimp only; omega))); done) | (first | (simp [go_sem, ↓IntWalk.iteOmega, *]; done) | (simp [go_sem, ↓IntWalk.iteOmega, *]; intros; omega))
  have c25_3 : V25.cell? ⟨W2.heap.size, 3, none⟩ = some (.slice Af fs.length cf) := by rw [hV]; first | ((repeat' (first | with_reducible exact c24_3 | with_reducible refine cellK_drew ?_ | with_reducible refine cellK_alloc ?_ | with_reducible refine cellK_set ?_ (by dsimp only; omega))); done) | (first | (simp [go_sem, ↓IntWalk.iteOmega, *]; done) | (simp [go_sem, ↓IntWalk.iteOmega, *]; intros; omega))
  have c25_4 : V25.cell? ⟨W2.heap.size, 4, none⟩ = some (.slice Aq ps.length cq) := by rw [hV]; first | ((repeat' (first | with_reducible exact c24_4 | with_reducible refine cellK_drew ?_ | with_reducible refine cellK_alloc ?_ | with_reducible refine cellK_set ?_ (by dsimp only; omega))); done) | (first | (simp [go_sem, ↓IntWalk.iteOmega, *]; done) | (simp [go_sem, ↓IntWalk.iteOmega, *]; intros; omega))
  have b25_0 : W2.heap.size < V25.heap.size := by omega
  have R25_0 := hid (FreshA.below (cf := cIn) (sz := 1) (T := 3) (B := V1.heap.size) R24_0.out hk)
  have R25_1 := hid (FreshA.below (cf := cPu) (sz := 3) (T := 71) (B := V1.heap.size) R24_1.out hk)
  have R25_2 := hid (FreshA.below (cf := cIn) (sz := 1) (T := 3) (B := V11.heap.size) R24_2.out hk)
  have R25_3 := hid (FreshA.below (cf := cIn) (sz := 1) (T := 3) (B := V23.heap.size) S24_3.out hk)
  have R25_4 := hid (FreshA.below (cf := cPu) (sz := 3) (T := 71) (B := V23.heap.size) S24_4.out hk)
  have hw25 : Below w.heap.size w V25 := Below.trans hw (Below.mono hk (by have := hw.size; omega))
  clear hw hk
  have hw := hw25
  clear hw25
  have hwz := hw.size
  clear c24_0 c24_1 c24_2 c24_3 c24_4 R24_0 R24_1 R24_2 S24_3 S24_4
  clear hV
  refine (c_impl_CheapestPlan l2 u2 v2 A8 fs2 c8 A9 ps2 c9 _ R25_3.out.rds (by omega) R25_4.out.rds (by omega)).mono ?_
  simp only [hC2]
  rintro e W26 ⟨A7, c7, rfl, hF7, hb⟩
  have hk : Below V25.heap.size V25 W26 := hb
  have hkz26 := hk.size
  have c26_0 : W26.cell? ⟨W2.heap.size, 0, none⟩ = some (.int .i64 l) := (hb.cell (p := ⟨W2.heap.size, 0, none⟩) (by show W2.heap.size < _; omega)).trans c25_0
  have c26_1 : W26.cell? ⟨W2.heap.size, 1, none⟩ = some (.int .i64 u) := (hb.cell (p := ⟨W2.heap.size, 1, none⟩) (by show W2.heap.size < _; omega)).trans c25_1
  have c26_2 : W26.cell? ⟨W2.heap.size, 2, none⟩ = some (.int .i64 v) := (hb.cell (p := ⟨W2.heap.size, 2, none⟩) (by show W2.heap.size < _; omega)).trans c25_2
  have c26_3 : W26.cell? ⟨W2.heap.size, 3, none⟩ = some (.slice Af fs.length cf) := (hb.cell (p := ⟨W2.heap.size, 3, none⟩) (by show W2.heap.size < _; omega)).trans c25_3
  have c26_4 : W26.cell? ⟨W2.heap.size, 4, none⟩ = some (.slice Aq ps.length cq) := (hb.cell (p := ⟨W2.heap.size, 4, none⟩) (by show W2.heap.size < _; omega)).trans c25_4
  have b26_0 : W2.heap.size < W26.heap.size := by omega
  have R26_0 := hid (FreshA.below (cf := cIn) (sz := 1) (T := 3) (B := V1.heap.size) R25_0.out hk)
  have R26_1 := hid (FreshA.below (cf := cPu) (sz := 3) (T := 71) (B := V1.heap.size) R25_1.out hk)
  have R26_2 := hid (FreshA.below (cf := cIn) (sz := 1) (T := 3) (B := V11.heap.size) R25_2.out hk)
  have R26_3 := hid (FreshA.below (cf := cIn) (sz := 1) (T := 3) (B := V23.heap.size) R25_3.out hk)
  have R26_4 := hid (FreshA.below (cf := cPu) (sz := 3) (T := 71) (B := V23.heap.size) R25_4.out hk)
  have hw26 : Below w.heap.size w W26 := Below.trans hw (Below.mono hk (by have := hw.size; omega))
  clear hw hk
  have hw := hw26
  clear hw26
  have hwz := hw.size
  clear c25_0 c25_1 c25_2 c25_3 c25_4 R25_0 R25_1 R25_2 R25_3 R25_4
  clear hb
  clear hF7
  cases four
  · go_wp2_with (fail)
    go_ret
    exact ⟨by first | rfl | exact ret_bool (by simp), by first | exact hw | (repeat' (first | with_reducible exact Below.refl _ _ | with_reducible assumption | with_reducible refine Below.setCell ?_ ?_ _ | with_reducible refine Below.drew ?_ | with_reducible refine Below.alloc ?_ ?_ _ | with_reducible refine Below.trans ?_ (Below.mono (by assumption) ?_) | (dsimp only; omega) | (simp; done) | (simp; omega) | omega))⟩
  have hge : ¬ n9 < least := by have h9 := HL9.out rfl; omega
  go_wp2_with (fail)
  go_ret
  exact ⟨by first | rfl | exact ret_bool (by simp), by first | exact hw | (repeat' (first | with_reducible exact Below.refl _ _ | with_reducible assumption | with_reducible refine Below.setCell ?_ ?_ _ | with_reducible refine Below.drew ?_ | with_reducible refine Below.alloc ?_ ?_ _ | with_reducible refine Below.trans ?_ (Below.mono (by assumption) ?_) | (dsimp only; omega) | (simp; done) | (simp; omega) | omega))⟩

end Go.Proofs.Ytpaclngjmdacjaa
