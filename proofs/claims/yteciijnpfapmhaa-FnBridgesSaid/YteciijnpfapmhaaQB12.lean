import Derived.Test.YteciijnpfapmhaaQB05
import Derived.Test.YteciijnpfapmhaaQB03
import Derived.Test.YteciijnpfapmhaaQB09
import Derived.Test.YteciijnpfapmhaaQB11
import Derived.Test.YteciijnpfapmhaaQB10
import Derived.Test.YteciijnpfapmhaaQB08
namespace Go.Proofs.Yteciijnpfapmhaa
set_option linter.unusedSimpArgs false
set_option linter.unusedVariables false
open Go.RowKit

set_option maxRecDepth 100000 in
set_option maxHeartbeats 16000000 in
theorem c_laws_FnBridges (A : Option Addr) (cs : List Int) (cap : Nat) (w : World) (hr : Rds cB 1 w A cs) (hby : Bytes cs) (hn : cs.length ≤ 9223372036854775807) :
  Calls Try.prog 12 #[.slice A cs.length cap] w fun e w' => e = .returned (.bool true) ∧ Below w.heap.size w w' := by
 by_cases hbig : 65536 < cs.length
 ·go_enter Try.func12, Try.ntmps12
  go_wp2_with (fail)
  refine (c_laws_vBig _ _ _ _ (by omega)).mono ?_
  rintro e W1 ⟨rfl, hb1⟩
  simp only [show decide (65536 < cs.length) = true by simp; omega]
  go_wp2_with (fail)
  go_ret
  exact ⟨rfl, by (repeat' (first | exact Below.refl _ _ | assumption | refine Below.setCell ?_ ?_ _ | refine Below.drew ?_ | refine Below.alloc ?_ ?_ _ | refine Below.trans ?_ (Below.mono (by assumption) ?_) | (simp; done) | (simp; omega) | omega))⟩
 go_enter Try.func12, Try.ntmps12
 go_wp2_with (fail)
 refine (c_laws_vBig _ _ _ _ (by omega)).mono ?_
 rintro e W1 ⟨rfl, hw⟩
 simp only [show decide (65536 < cs.length) = false by simp; omega]
 have hwz := hw.size
 go_wp2_with (fail)
 refine calls_named ?_
 intro V1 hV
 have hk : Below W1.heap.size W1 V1 := by rw [hV]; (repeat' (first | with_reducible exact Below.refl _ _ | with_reducible assumption | with_reducible refine Below.setCell ?_ ?_ _ | with_reducible refine Below.drew ?_ | with_reducible refine Below.alloc ?_ ?_ _ | with_reducible refine Below.trans ?_ (Below.mono (by assumption) ?_) | (dsimp only; omega) | (simp; done) | (simp; omega) | omega))
 have hkz1 := hk.size
 have hw1 : Below w.heap.size w V1 := Below.trans hw (Below.mono hk (by have := hw.size; omega))
 clear hw hk
 have hw := hw1
 clear hw1
 have hwz := hw.size
 clear hV
 refine (c_spec_DrawIsBridgePlan A cs cap _ (Rds.below hr hw) hby (by omega)).mono ?_
 rintro e W2 ⟨d, Af, cf, xs, Bq, cq, rs, pp, Ap, cp, pl, rfl, hFf, hxl, hFq, hrl, hFp, hpl, hb⟩
 have hk : Below V1.heap.size V1 W2 := hb
 have hkz2 := hk.size
 have hw2 : Below w.heap.size w W2 := Below.trans hw (Below.mono hk (by have := hw.size; omega))
 clear hw hk
 have hw := hw2
 clear hw2
 have hwz := hw.size
 clear hb
 have S2_0 : Hid (FreshA cIv 2 50 V1.heap.size W2 Af cf xs) := hid (hFf)
 have loS2_0 := S2_0.out.lo
 have hiS2_0 := S2_0.out.hi
 have S2_1 : Hid (FreshA cIn 1 3 V1.heap.size W2 Bq cq rs) := hid (hFq)
 have loS2_1 := S2_1.out.lo
 have hiS2_1 := S2_1.out.hi
 have S2_2 : Hid (FreshA cIn 1 3 V1.heap.size W2 Ap cp pl) := hid (hFp)
 have loS2_2 := S2_2.out.lo
 have hiS2_2 := S2_2.out.hi
 clear hFf hFq hFp
 obtain ⟨yes, hY⟩ : ∃ yes, planB d xs rs pp pl = yes := ⟨_, rfl⟩
 obtain ⟨q, ok, hF⟩ : ∃ q ok, fewV d xs rs pp = (q, ok) := ⟨_, _, rfl⟩
 obtain ⟨ws, told, hS⟩ : ∃ ws told, sumV d xs rs pp pl = (ws, told) := ⟨_, _, rfl⟩
 obtain ⟨om, fine, hO⟩ : ∃ om fine, openV d xs rs pp pl = (om, fine) := ⟨_, _, rfl⟩
 obtain ⟨hq1, hq2, hql, hq4, hq5⟩ := br_law hY hF hS hO
 have HY := hid hY; have HF := hid hF; have HS := hid hS; have HO := hid hO; have HQ4 := hid hq4; have HQ5 := hid hq5; clear hY hF hS hO hq4 hq5
 subst hq1 hq2
 go_wp2_with (fail)
 refine calls_named ?_
 intro V3 hV
 have hk : Below W2.heap.size W2 V3 := by rw [hV]; (repeat' (first | with_reducible exact Below.refl _ _ | with_reducible assumption | with_reducible refine Below.setCell ?_ ?_ _ | with_reducible refine Below.drew ?_ | with_reducible refine Below.alloc ?_ ?_ _ | with_reducible refine Below.trans ?_ (Below.mono (by assumption) ?_) | (dsimp only; omega) | (simp; done) | (simp; omega) | omega))
 have hkz3 := hk.size
 have R3_0 := hid (FreshA.below (cf := cIv) (sz := 2) (T := 50) (B := V1.heap.size) S2_0.out hk)
 have R3_1 := hid (FreshA.below (cf := cIn) (sz := 1) (T := 3) (B := V1.heap.size) S2_1.out hk)
 have R3_2 := hid (FreshA.below (cf := cIn) (sz := 1) (T := 3) (B := V1.heap.size) S2_2.out hk)
 have hw3 : Below w.heap.size w V3 := Below.trans hw (Below.mono hk (by have := hw.size; omega))
 clear hw hk
 have hw := hw3
 clear hw3
 have hwz := hw.size
 clear S2_0 S2_1 S2_2
 have d3_0 : V3.cell? ⟨W2.heap.size, 0, none⟩ = some (.int .i64 d) := by rw [hV]; first | (simp [go_sem, ↓IntWalk.iteOmega, *]; done) | (simp [go_sem, ↓IntWalk.iteOmega, *]; intros; omega)
 have d3_1 : V3.cell? ⟨W2.heap.size, 1, none⟩ = some (.slice Af xs.length cf) := by rw [hV]; first | (simp [go_sem, ↓IntWalk.iteOmega, *]; done) | (simp [go_sem, ↓IntWalk.iteOmega, *]; intros; omega)
 have e3_0 : W2.heap.size < V3.heap.size := by rw [hV]; first | (simp; done) | (simp; omega)
 clear hV
 generalize htbtb : W2.heap.size = tb at *
 refine (c_impl_IsBridgePlan d Af xs cf Bq rs cq pp Ap pl cp _ R3_0.out.rds (by omega) R3_1.out.rds (by omega) R3_2.out.rds (by omega)).mono ?_
 simp only [HY.out]
 rintro e W4 ⟨rfl, hb⟩
 have hk : Below V3.heap.size V3 W4 := hb
 have hkz4 := hk.size
 have c4_0 : W4.cell? ⟨tb, 0, none⟩ = some (.int .i64 d) := (hb.cell (p := ⟨tb, 0, none⟩) (by show tb < _; omega)).trans d3_0
 have c4_1 : W4.cell? ⟨tb, 1, none⟩ = some (.slice Af xs.length cf) := (hb.cell (p := ⟨tb, 1, none⟩) (by show tb < _; omega)).trans d3_1
 have b4_0 : tb < W4.heap.size := by omega
 have R4_0 := hid (FreshA.below (cf := cIv) (sz := 2) (T := 50) (B := V1.heap.size) R3_0.out hk)
 have R4_1 := hid (FreshA.below (cf := cIn) (sz := 1) (T := 3) (B := V1.heap.size) R3_1.out hk)
 have R4_2 := hid (FreshA.below (cf := cIn) (sz := 1) (T := 3) (B := V1.heap.size) R3_2.out hk)
 have hw4 : Below w.heap.size w W4 := Below.trans hw (Below.mono hk (by have := hw.size; omega))
 clear hw hk
 have hw := hw4
 clear hw4
 have hwz := hw.size
 clear d3_0 d3_1 R3_0 R3_1 R3_2
 clear hb
 cases fine
 ·have HXv := hid (R4_0.out.rds); have HBv := hid (R4_1.out.rds); have HPv := hid (R4_2.out.rds)
  have HKQ : Hid (∀ w' : World, Below W4.heap.size W4 w' → w'.cell? ⟨tb, 0, none⟩ = some (.int .i64 d) ∧ w'.cell? ⟨tb, 1, none⟩ = some (.slice Af xs.length cf)) := fun w' hbv => ⟨(hbv.cell (p := ⟨tb, 0, none⟩) (by show tb < _; omega)).trans c4_0, (hbv.cell (p := ⟨tb, 1, none⟩) (by show tb < _; omega)).trans c4_1⟩
  have hbq : Below W4.heap.size W4 W4 := Below.refl _ _
  go_wp2_with (fail)
  go_region_held3 (fun w' => w'.cell? ⟨tb, 0, none⟩ = some (.int .i64 d) ∧ w'.cell? ⟨tb, 1, none⟩ = some (.slice Af xs.length cf)) (first | assumption | exact HKQ.out _ (by (repeat' (first | with_reducible exact Below.refl _ _ | with_reducible assumption | with_reducible refine Below.setCell ?_ ?_ _ | with_reducible refine Below.drew ?_ | with_reducible refine Below.alloc ?_ ?_ _ | with_reducible refine Below.trans ?_ (Below.mono (by assumption) ?_) | (dsimp only; omega) | (simp; done) | (simp; omega) | omega)))) (first | (go_at_call 25; refine (c_spec_IsBridgePlan d _ xs _ _ rs _ pp _ pl _ _ (Rds.below HXv.out (by (repeat' (first | with_reducible exact Below.refl _ _ | with_reducible assumption | with_reducible refine Below.setCell ?_ ?_ _ | with_reducible refine Below.drew ?_ | with_reducible refine Below.alloc ?_ ?_ _ | with_reducible refine Below.trans ?_ (Below.mono (by assumption) ?_) | (dsimp only; omega) | (simp; done) | (simp; omega) | omega)))) (by omega) (Rds.below HBv.out (by (repeat' (first | with_reducible exact Below.refl _ _ | with_reducible assumption | with_reducible refine Below.setCell ?_ ?_ _ | with_reducible refine Below.drew ?_ | with_reducible refine Below.alloc ?_ ?_ _ | with_reducible refine Below.trans ?_ (Below.mono (by assumption) ?_) | (dsimp only; omega) | (simp; done) | (simp; omega) | omega)))) (by omega) (Rds.below HPv.out (by (repeat' (first | with_reducible exact Below.refl _ _ | with_reducible assumption | with_reducible refine Below.setCell ?_ ?_ _ | with_reducible refine Below.drew ?_ | with_reducible refine Below.alloc ?_ ?_ _ | with_reducible refine Below.trans ?_ (Below.mono (by assumption) ?_) | (dsimp only; omega) | (simp; done) | (simp; omega) | omega)))) (by omega)).mono ?_; simp only [HY.out]; rintro e w' ⟨rfl, hb⟩; have hz := hb.size; (try simp at hz)) | (go_at_call 17; refine (c_impl_IsValidBridge d _ xs _ _ (Rds.below HXv.out (by (repeat' (first | with_reducible exact Below.refl _ _ | with_reducible assumption | with_reducible refine Below.setCell ?_ ?_ _ | with_reducible refine Below.drew ?_ | with_reducible refine Below.alloc ?_ ?_ _ | with_reducible refine Below.trans ?_ (Below.mono (by assumption) ?_) | (dsimp only; omega) | (simp; done) | (simp; omega) | omega)))) (by omega)).mono ?_; rintro e w' ⟨rfl, hb⟩; have hz := hb.size; (try simp at hz)) | (go_at_call 15; refine (c_spec_IsValidBridge d _ xs _ _ (Rds.below HXv.out (by (repeat' (first | with_reducible exact Below.refl _ _ | with_reducible assumption | with_reducible refine Below.setCell ?_ ?_ _ | with_reducible refine Below.drew ?_ | with_reducible refine Below.alloc ?_ ?_ _ | with_reducible refine Below.trans ?_ (Below.mono (by assumption) ?_) | (dsimp only; omega) | (simp; done) | (simp; omega) | omega)))) (by omega)).mono ?_; rintro e w' ⟨rfl, hb⟩; have hz := hb.size; (try simp at hz)))
  clear HXv HBv HPv HKQ hbq
  cases ok
  ·go_wp2_with (fail)
   refine calls_named ?_
   intro V5 hV
   have hk : Below W4.heap.size W4 V5 := by rw [hV]; (repeat' (first | with_reducible exact Below.refl _ _ | with_reducible assumption | with_reducible refine Below.setCell ?_ ?_ _ | with_reducible refine Below.drew ?_ | with_reducible refine Below.alloc ?_ ?_ _ | with_reducible refine Below.trans ?_ (Below.mono (by assumption) ?_) | (dsimp only; omega) | (simp; done) | (simp; omega) | omega))
   have hkz5 := hk.size
   have c5_0 : V5.cell? ⟨tb, 0, none⟩ = some (.int .i64 d) := (hk.cell (p := ⟨tb, 0, none⟩) (by show tb < _; omega)).trans c4_0
   have c5_1 : V5.cell? ⟨tb, 1, none⟩ = some (.slice Af xs.length cf) := (hk.cell (p := ⟨tb, 1, none⟩) (by show tb < _; omega)).trans c4_1
   have b5_0 : tb < V5.heap.size := by omega
   have R5_0 := hid (FreshA.below (cf := cIv) (sz := 2) (T := 50) (B := V1.heap.size) R4_0.out hk)
   have R5_1 := hid (FreshA.below (cf := cIn) (sz := 1) (T := 3) (B := V1.heap.size) R4_1.out hk)
   have R5_2 := hid (FreshA.below (cf := cIn) (sz := 1) (T := 3) (B := V1.heap.size) R4_2.out hk)
   have hw5 : Below w.heap.size w V5 := Below.trans hw (Below.mono hk (by have := hw.size; omega))
   clear hw hk
   have hw := hw5
   clear hw5
   have hwz := hw.size
   clear c4_0 c4_1 R4_0 R4_1 R4_2
   clear hV
   refine (c_impl_FewestOpenings d Af xs cf Bq rs cq pp _ R5_0.out.rds (by omega) R5_1.out.rds (by omega)).mono ?_
   simp only [HF.out]
   rintro e W6 ⟨A7, c7, rfl, hF9, hb⟩
   have hk : Below V5.heap.size V5 W6 := hb
   have hkz6 := hk.size
   have c6_0 : W6.cell? ⟨tb, 0, none⟩ = some (.int .i64 d) := (hb.cell (p := ⟨tb, 0, none⟩) (by show tb < _; omega)).trans c5_0
   have c6_1 : W6.cell? ⟨tb, 1, none⟩ = some (.slice Af xs.length cf) := (hb.cell (p := ⟨tb, 1, none⟩) (by show tb < _; omega)).trans c5_1
   have b6_0 : tb < W6.heap.size := by omega
   have R6_0 := hid (FreshA.below (cf := cIv) (sz := 2) (T := 50) (B := V1.heap.size) R5_0.out hk)
   have R6_1 := hid (FreshA.below (cf := cIn) (sz := 1) (T := 3) (B := V1.heap.size) R5_1.out hk)
   have R6_2 := hid (FreshA.below (cf := cIn) (sz := 1) (T := 3) (B := V1.heap.size) R5_2.out hk)
   have hw6 : Below w.heap.size w W6 := Below.trans hw (Below.mono hk (by have := hw.size; omega))
   clear hw hk
   have hw := hw6
   clear hw6
   have hwz := hw.size
   clear c5_0 c5_1 R5_0 R5_1 R5_2
   clear hb
   have S6_3 : Hid (FreshA cIn 1 3 V5.heap.size W6 A7 c7 q) := hid (hF9)
   have loS6_3 := S6_3.out.lo
   have hiS6_3 := S6_3.out.hi
   clear hF9
   go_wp2_with (fail)
   refine calls_named ?_
   intro V7 hV
   have hk : Below W6.heap.size W6 V7 := by rw [hV]; (repeat' (first | with_reducible exact Below.refl _ _ | with_reducible assumption | with_reducible refine Below.setCell ?_ ?_ _ | with_reducible refine Below.drew ?_ | with_reducible refine Below.alloc ?_ ?_ _ | with_reducible refine Below.trans ?_ (Below.mono (by assumption) ?_) | (dsimp only; omega) | (simp; done) | (simp; omega) | omega))
   have hkz7 := hk.size
   have c7_0 : V7.cell? ⟨tb, 0, none⟩ = some (.int .i64 d) := (hk.cell (p := ⟨tb, 0, none⟩) (by show tb < _; omega)).trans c6_0
   have c7_1 : V7.cell? ⟨tb, 1, none⟩ = some (.slice Af xs.length cf) := (hk.cell (p := ⟨tb, 1, none⟩) (by show tb < _; omega)).trans c6_1
   have b7_0 : tb < V7.heap.size := by omega
   have R7_0 := hid (FreshA.below (cf := cIv) (sz := 2) (T := 50) (B := V1.heap.size) R6_0.out hk)
   have R7_1 := hid (FreshA.below (cf := cIn) (sz := 1) (T := 3) (B := V1.heap.size) R6_1.out hk)
   have R7_2 := hid (FreshA.below (cf := cIn) (sz := 1) (T := 3) (B := V1.heap.size) R6_2.out hk)
   have R7_3 := hid (FreshA.below (cf := cIn) (sz := 1) (T := 3) (B := V5.heap.size) S6_3.out hk)
   have hw7 : Below w.heap.size w V7 := Below.trans hw (Below.mono hk (by have := hw.size; omega))
   clear hw hk
   have hw := hw7
   clear hw7
   have hwz := hw.size
   clear c6_0 c6_1 R6_0 R6_1 R6_2 S6_3
   clear hV
   refine (c_spec_FewestOpenings d Af xs cf Bq rs cq pp _ R7_0.out.rds (by omega) R7_1.out.rds (by omega)).mono ?_
   simp only [HF.out]
   rintro e W8 ⟨A8, c8, rfl, hF9, hb⟩
   have hk : Below V7.heap.size V7 W8 := hb
   have hkz8 := hk.size
   have c8_0 : W8.cell? ⟨tb, 0, none⟩ = some (.int .i64 d) := (hb.cell (p := ⟨tb, 0, none⟩) (by show tb < _; omega)).trans c7_0
   have c8_1 : W8.cell? ⟨tb, 1, none⟩ = some (.slice Af xs.length cf) := (hb.cell (p := ⟨tb, 1, none⟩) (by show tb < _; omega)).trans c7_1
   have b8_0 : tb < W8.heap.size := by omega
   have R8_0 := hid (FreshA.below (cf := cIv) (sz := 2) (T := 50) (B := V1.heap.size) R7_0.out hk)
   have R8_1 := hid (FreshA.below (cf := cIn) (sz := 1) (T := 3) (B := V1.heap.size) R7_1.out hk)
   have R8_2 := hid (FreshA.below (cf := cIn) (sz := 1) (T := 3) (B := V1.heap.size) R7_2.out hk)
   have R8_3 := hid (FreshA.below (cf := cIn) (sz := 1) (T := 3) (B := V5.heap.size) R7_3.out hk)
   have hw8 : Below w.heap.size w W8 := Below.trans hw (Below.mono hk (by have := hw.size; omega))
   clear hw hk
   have hw := hw8
   clear hw8
   have hwz := hw.size
   clear c7_0 c7_1 R7_0 R7_1 R7_2 R7_3
   clear hb
   have S8_4 : Hid (FreshA cIn 1 3 V7.heap.size W8 A8 c8 q) := hid (hF9)
   have loS8_4 := S8_4.out.lo
   have hiS8_4 := S8_4.out.hi
   clear hF9
   go_wp2_with (fail)
   refine calls_named ?_
   intro V9 hV
   have hk : Below W8.heap.size W8 V9 := by rw [hV]; (repeat' (first | with_reducible exact Below.refl _ _ | with_reducible assumption | with_reducible refine Below.setCell ?_ ?_ _ | with_reducible refine Below.drew ?_ | with_reducible refine Below.alloc ?_ ?_ _ | with_reducible refine Below.trans ?_ (Below.mono (by assumption) ?_) | (dsimp only; omega) | (simp; done) | (simp; omega) | omega))
   have hkz9 := hk.size
   have c9_0 : V9.cell? ⟨tb, 0, none⟩ = some (.int .i64 d) := (hk.cell (p := ⟨tb, 0, none⟩) (by show tb < _; omega)).trans c8_0
   have c9_1 : V9.cell? ⟨tb, 1, none⟩ = some (.slice Af xs.length cf) := (hk.cell (p := ⟨tb, 1, none⟩) (by show tb < _; omega)).trans c8_1
   have b9_0 : tb < V9.heap.size := by omega
   have R9_0 := hid (FreshA.below (cf := cIv) (sz := 2) (T := 50) (B := V1.heap.size) R8_0.out hk)
   have R9_1 := hid (FreshA.below (cf := cIn) (sz := 1) (T := 3) (B := V1.heap.size) R8_1.out hk)
   have R9_2 := hid (FreshA.below (cf := cIn) (sz := 1) (T := 3) (B := V1.heap.size) R8_2.out hk)
   have R9_3 := hid (FreshA.below (cf := cIn) (sz := 1) (T := 3) (B := V5.heap.size) R8_3.out hk)
   have R9_4 := hid (FreshA.below (cf := cIn) (sz := 1) (T := 3) (B := V7.heap.size) S8_4.out hk)
   have hw9 : Below w.heap.size w V9 := Below.trans hw (Below.mono hk (by have := hw.size; omega))
   clear hw hk
   have hw := hw9
   clear hw9
   have hwz := hw.size
   clear c8_0 c8_1 R8_0 R8_1 R8_2 R8_3 S8_4
   clear hV
   refine (c_laws_vInts A7 A8 q c7 c8 _ R9_3.out.rds R9_4.out.rds (by omega)).mono ?_
   rintro e W10 ⟨rfl, hb⟩
   have hk : Below V9.heap.size V9 W10 := hb
   have hkz10 := hk.size
   have c10_0 : W10.cell? ⟨tb, 0, none⟩ = some (.int .i64 d) := (hb.cell (p := ⟨tb, 0, none⟩) (by show tb < _; omega)).trans c9_0
   have c10_1 : W10.cell? ⟨tb, 1, none⟩ = some (.slice Af xs.length cf) := (hb.cell (p := ⟨tb, 1, none⟩) (by show tb < _; omega)).trans c9_1
   have b10_0 : tb < W10.heap.size := by omega
   have R10_0 := hid (FreshA.below (cf := cIv) (sz := 2) (T := 50) (B := V1.heap.size) R9_0.out hk)
   have R10_1 := hid (FreshA.below (cf := cIn) (sz := 1) (T := 3) (B := V1.heap.size) R9_1.out hk)
   have R10_2 := hid (FreshA.below (cf := cIn) (sz := 1) (T := 3) (B := V1.heap.size) R9_2.out hk)
   have R10_3 := hid (FreshA.below (cf := cIn) (sz := 1) (T := 3) (B := V5.heap.size) R9_3.out hk)
   have R10_4 := hid (FreshA.below (cf := cIn) (sz := 1) (T := 3) (B := V7.heap.size) R9_4.out hk)
   have hw10 : Below w.heap.size w W10 := Below.trans hw (Below.mono hk (by have := hw.size; omega))
   clear hw hk
   have hw := hw10
   clear hw10
   have hwz := hw.size
   clear c9_0 c9_1 R9_0 R9_1 R9_2 R9_3 R9_4
   clear hb
   clear R10_4
   clear R10_3
   go_wp2_with (fail)
   refine calls_named ?_
   intro V11 hV
   have hk : Below W10.heap.size W10 V11 := by rw [hV]; (repeat' (first | with_reducible exact Below.refl _ _ | with_reducible assumption | with_reducible refine Below.setCell ?_ ?_ _ | with_reducible refine Below.drew ?_ | with_reducible refine Below.alloc ?_ ?_ _ | with_reducible refine Below.trans ?_ (Below.mono (by assumption) ?_) | (dsimp only; omega) | (simp; done) | (simp; omega) | omega))
   have hkz11 := hk.size
   have c11_0 : V11.cell? ⟨tb, 0, none⟩ = some (.int .i64 d) := (hk.cell (p := ⟨tb, 0, none⟩) (by show tb < _; omega)).trans c10_0
   have c11_1 : V11.cell? ⟨tb, 1, none⟩ = some (.slice Af xs.length cf) := (hk.cell (p := ⟨tb, 1, none⟩) (by show tb < _; omega)).trans c10_1
   have b11_0 : tb < V11.heap.size := by omega
   have R11_0 := hid (FreshA.below (cf := cIv) (sz := 2) (T := 50) (B := V1.heap.size) R10_0.out hk)
   have R11_1 := hid (FreshA.below (cf := cIn) (sz := 1) (T := 3) (B := V1.heap.size) R10_1.out hk)
   have R11_2 := hid (FreshA.below (cf := cIn) (sz := 1) (T := 3) (B := V1.heap.size) R10_2.out hk)
   have hw11 : Below w.heap.size w V11 := Below.trans hw (Below.mono hk (by have := hw.size; omega))
   clear hw hk
   have hw := hw11
   clear hw11
   have hwz := hw.size
   clear c10_0 c10_1 R10_0 R10_1 R10_2
   clear hV
   refine (c_impl_WaitingSum d Af xs cf Bq rs cq pp Ap pl cp _ R11_0.out.rds (by omega) R11_1.out.rds (by omega) R11_2.out.rds (by omega)).mono ?_
   simp only [HS.out]
   rintro e W12 ⟨rfl, hb⟩
   have hk : Below V11.heap.size V11 W12 := hb
   have hkz12 := hk.size
   have c12_0 : W12.cell? ⟨tb, 0, none⟩ = some (.int .i64 d) := (hb.cell (p := ⟨tb, 0, none⟩) (by show tb < _; omega)).trans c11_0
   have c12_1 : W12.cell? ⟨tb, 1, none⟩ = some (.slice Af xs.length cf) := (hb.cell (p := ⟨tb, 1, none⟩) (by show tb < _; omega)).trans c11_1
   have b12_0 : tb < W12.heap.size := by omega
   have R12_0 := hid (FreshA.below (cf := cIv) (sz := 2) (T := 50) (B := V1.heap.size) R11_0.out hk)
   have R12_1 := hid (FreshA.below (cf := cIn) (sz := 1) (T := 3) (B := V1.heap.size) R11_1.out hk)
   have R12_2 := hid (FreshA.below (cf := cIn) (sz := 1) (T := 3) (B := V1.heap.size) R11_2.out hk)
   have hw12 : Below w.heap.size w W12 := Below.trans hw (Below.mono hk (by have := hw.size; omega))
   clear hw hk
   have hw := hw12
   clear hw12
   have hwz := hw.size
   clear c11_0 c11_1 R11_0 R11_1 R11_2
   clear hb
   go_wp2_with (fail)
   refine calls_named ?_
   intro V13 hV
   have hk : Below W12.heap.size W12 V13 := by rw [hV]; (repeat' (first | with_reducible exact Below.refl _ _ | with_reducible assumption | with_reducible refine Below.setCell ?_ ?_ _ | with_reducible refine Below.drew ?_ | with_reducible refine Below.alloc ?_ ?_ _ | with_reducible refine Below.trans ?_ (Below.mono (by assumption) ?_) | (dsimp only; omega) | (simp; done) | (simp; omega) | omega))
   have hkz13 := hk.size
   have c13_0 : V13.cell? ⟨tb, 0, none⟩ = some (.int .i64 d) := (hk.cell (p := ⟨tb, 0, none⟩) (by show tb < _; omega)).trans c12_0
   have c13_1 : V13.cell? ⟨tb, 1, none⟩ = some (.slice Af xs.length cf) := (hk.cell (p := ⟨tb, 1, none⟩) (by show tb < _; omega)).trans c12_1
   have b13_0 : tb < V13.heap.size := by omega
   have R13_0 := hid (FreshA.below (cf := cIv) (sz := 2) (T := 50) (B := V1.heap.size) R12_0.out hk)
   have R13_1 := hid (FreshA.below (cf := cIn) (sz := 1) (T := 3) (B := V1.heap.size) R12_1.out hk)
   have R13_2 := hid (FreshA.below (cf := cIn) (sz := 1) (T := 3) (B := V1.heap.size) R12_2.out hk)
   have hw13 : Below w.heap.size w V13 := Below.trans hw (Below.mono hk (by have := hw.size; omega))
   clear hw hk
   have hw := hw13
   clear hw13
   have hwz := hw.size
   clear c12_0 c12_1 R12_0 R12_1 R12_2
   clear hV
   refine (c_spec_WaitingSum d Af xs cf Bq rs cq pp Ap pl cp _ R13_0.out.rds (by omega) R13_1.out.rds (by omega) R13_2.out.rds (by omega)).mono ?_
   simp only [HS.out]
   rintro e W14 ⟨rfl, hb⟩
   have hk : Below V13.heap.size V13 W14 := hb
   have hkz14 := hk.size
   have c14_0 : W14.cell? ⟨tb, 0, none⟩ = some (.int .i64 d) := (hb.cell (p := ⟨tb, 0, none⟩) (by show tb < _; omega)).trans c13_0
   have c14_1 : W14.cell? ⟨tb, 1, none⟩ = some (.slice Af xs.length cf) := (hb.cell (p := ⟨tb, 1, none⟩) (by show tb < _; omega)).trans c13_1
   have b14_0 : tb < W14.heap.size := by omega
   have R14_0 := hid (FreshA.below (cf := cIv) (sz := 2) (T := 50) (B := V1.heap.size) R13_0.out hk)
   have R14_1 := hid (FreshA.below (cf := cIn) (sz := 1) (T := 3) (B := V1.heap.size) R13_1.out hk)
   have R14_2 := hid (FreshA.below (cf := cIn) (sz := 1) (T := 3) (B := V1.heap.size) R13_2.out hk)
   have hw14 : Below w.heap.size w W14 := Below.trans hw (Below.mono hk (by have := hw.size; omega))
   clear hw hk
   have hw := hw14
   clear hw14
   have hwz := hw.size
   clear c13_0 c13_1 R13_0 R13_1 R13_2
   clear hb
   go_wp2_with (fail)
   refine calls_named ?_
   intro V15 hV
   have hk : Below W14.heap.size W14 V15 := by rw [hV]; (repeat' (first | with_reducible exact Below.refl _ _ | with_reducible assumption | with_reducible refine Below.setCell ?_ ?_ _ | with_reducible refine Below.drew ?_ | with_reducible refine Below.alloc ?_ ?_ _ | with_reducible refine Below.trans ?_ (Below.mono (by assumption) ?_) | (dsimp only; omega) | (simp; done) | (simp; omega) | omega))
   have hkz15 := hk.size
   have c15_0 : V15.cell? ⟨tb, 0, none⟩ = some (.int .i64 d) := (hk.cell (p := ⟨tb, 0, none⟩) (by show tb < _; omega)).trans c14_0
   have c15_1 : V15.cell? ⟨tb, 1, none⟩ = some (.slice Af xs.length cf) := (hk.cell (p := ⟨tb, 1, none⟩) (by show tb < _; omega)).trans c14_1
   have b15_0 : tb < V15.heap.size := by omega
   have R15_0 := hid (FreshA.below (cf := cIv) (sz := 2) (T := 50) (B := V1.heap.size) R14_0.out hk)
   have R15_1 := hid (FreshA.below (cf := cIn) (sz := 1) (T := 3) (B := V1.heap.size) R14_1.out hk)
   have R15_2 := hid (FreshA.below (cf := cIn) (sz := 1) (T := 3) (B := V1.heap.size) R14_2.out hk)
   have hw15 : Below w.heap.size w V15 := Below.trans hw (Below.mono hk (by have := hw.size; omega))
   clear hw hk
   have hw := hw15
   clear hw15
   have hwz := hw.size
   clear c14_0 c14_1 R14_0 R14_1 R14_2
   clear hV
   refine (c_impl_OpenMinutes d Af xs cf Bq rs cq pp Ap pl cp _ R15_0.out.rds (by omega) R15_1.out.rds (by omega) R15_2.out.rds (by omega)).mono ?_
   simp only [HO.out]
   rintro e W16 ⟨rfl, hb⟩
   have hk : Below V15.heap.size V15 W16 := hb
   have hkz16 := hk.size
   have c16_0 : W16.cell? ⟨tb, 0, none⟩ = some (.int .i64 d) := (hb.cell (p := ⟨tb, 0, none⟩) (by show tb < _; omega)).trans c15_0
   have c16_1 : W16.cell? ⟨tb, 1, none⟩ = some (.slice Af xs.length cf) := (hb.cell (p := ⟨tb, 1, none⟩) (by show tb < _; omega)).trans c15_1
   have b16_0 : tb < W16.heap.size := by omega
   have R16_0 := hid (FreshA.below (cf := cIv) (sz := 2) (T := 50) (B := V1.heap.size) R15_0.out hk)
   have R16_1 := hid (FreshA.below (cf := cIn) (sz := 1) (T := 3) (B := V1.heap.size) R15_1.out hk)
   have R16_2 := hid (FreshA.below (cf := cIn) (sz := 1) (T := 3) (B := V1.heap.size) R15_2.out hk)
   have hw16 : Below w.heap.size w W16 := Below.trans hw (Below.mono hk (by have := hw.size; omega))
   clear hw hk
   have hw := hw16
   clear hw16
   have hwz := hw.size
   clear c15_0 c15_1 R15_0 R15_1 R15_2
   clear hb
   go_wp2_with (fail)
   refine calls_named ?_
   intro V17 hV
   have hk : Below W16.heap.size W16 V17 := by rw [hV]; (repeat' (first | with_reducible exact Below.refl _ _ | with_reducible assumption | with_reducible refine Below.setCell ?_ ?_ _ | with_reducible refine Below.drew ?_ | with_reducible refine Below.alloc ?_ ?_ _ | with_reducible refine Below.trans ?_ (Below.mono (by assumption) ?_) | (dsimp only; omega) | (simp; done) | (simp; omega) | omega))
   have hkz17 := hk.size
   have c17_0 : V17.cell? ⟨tb, 0, none⟩ = some (.int .i64 d) := (hk.cell (p := ⟨tb, 0, none⟩) (by show tb < _; omega)).trans c16_0
   have c17_1 : V17.cell? ⟨tb, 1, none⟩ = some (.slice Af xs.length cf) := (hk.cell (p := ⟨tb, 1, none⟩) (by show tb < _; omega)).trans c16_1
   have b17_0 : tb < V17.heap.size := by omega
   have R17_0 := hid (FreshA.below (cf := cIv) (sz := 2) (T := 50) (B := V1.heap.size) R16_0.out hk)
   have R17_1 := hid (FreshA.below (cf := cIn) (sz := 1) (T := 3) (B := V1.heap.size) R16_1.out hk)
   have R17_2 := hid (FreshA.below (cf := cIn) (sz := 1) (T := 3) (B := V1.heap.size) R16_2.out hk)
   have hw17 : Below w.heap.size w V17 := Below.trans hw (Below.mono hk (by have := hw.size; omega))
   clear hw hk
   have hw := hw17
   clear hw17
   have hwz := hw.size
   clear c16_0 c16_1 R16_0 R16_1 R16_2
   clear hV
   refine (c_spec_OpenMinutes d Af xs cf Bq rs cq pp Ap pl cp _ R17_0.out.rds (by omega) R17_1.out.rds (by omega) R17_2.out.rds (by omega)).mono ?_
   simp only [HO.out]
   rintro e W18 ⟨rfl, hb⟩
   have hk : Below V17.heap.size V17 W18 := hb
   have hkz18 := hk.size
   have c18_0 : W18.cell? ⟨tb, 0, none⟩ = some (.int .i64 d) := (hb.cell (p := ⟨tb, 0, none⟩) (by show tb < _; omega)).trans c17_0
   have c18_1 : W18.cell? ⟨tb, 1, none⟩ = some (.slice Af xs.length cf) := (hb.cell (p := ⟨tb, 1, none⟩) (by show tb < _; omega)).trans c17_1
   have b18_0 : tb < W18.heap.size := by omega
   have R18_0 := hid (FreshA.below (cf := cIv) (sz := 2) (T := 50) (B := V1.heap.size) R17_0.out hk)
   have R18_1 := hid (FreshA.below (cf := cIn) (sz := 1) (T := 3) (B := V1.heap.size) R17_1.out hk)
   have R18_2 := hid (FreshA.below (cf := cIn) (sz := 1) (T := 3) (B := V1.heap.size) R17_2.out hk)
   have hw18 : Below w.heap.size w W18 := Below.trans hw (Below.mono hk (by have := hw.size; omega))
   clear hw hk
   have hw := hw18
   clear hw18
   have hwz := hw.size
   clear c17_0 c17_1 R17_0 R17_1 R17_2
   clear hb
   go_wp2_with (fail)
   go_ret
   exact ⟨by first | rfl | exact ret_bool (by simp), by first | exact hw | (repeat' (first | with_reducible exact Below.refl _ _ | with_reducible assumption | with_reducible refine Below.setCell ?_ ?_ _ | with_reducible refine Below.drew ?_ | with_reducible refine Below.alloc ?_ ?_ _ | with_reducible refine Below.trans ?_ (Below.mono (by assumption) ?_) | (dsimp only; omega) | (simp; done) | (simp; omega) | omega))⟩
  go_wp2_with (fail)
  refine calls_named ?_
  intro V5 hV
  have hk : Below W4.heap.size W4 V5 := by rw [hV]; (repeat' (first | with_reducible exact Below.refl _ _ | with_reducible assumption | with_reducible refine Below.setCell ?_ ?_ _ | with_reducible refine Below.drew ?_ | with_reducible refine Below.alloc ?_ ?_ _ | with_reducible refine Below.trans ?_ (Below.mono (by assumption) ?_) | (dsimp only; omega) | (simp; done) | (simp; omega) | omega))
  have hkz5 := hk.size
  have c5_0 : V5.cell? ⟨tb, 0, none⟩ = some (.int .i64 d) := (hk.cell (p := ⟨tb, 0, none⟩) (by show tb < _; omega)).trans c4_0
  have c5_1 : V5.cell? ⟨tb, 1, none⟩ = some (.slice Af xs.length cf) := (hk.cell (p := ⟨tb, 1, none⟩) (by show tb < _; omega)).trans c4_1
  have b5_0 : tb < V5.heap.size := by omega
  have R5_0 := hid (FreshA.below (cf := cIv) (sz := 2) (T := 50) (B := V1.heap.size) R4_0.out hk)
  have R5_1 := hid (FreshA.below (cf := cIn) (sz := 1) (T := 3) (B := V1.heap.size) R4_1.out hk)
  have R5_2 := hid (FreshA.below (cf := cIn) (sz := 1) (T := 3) (B := V1.heap.size) R4_2.out hk)
  have hw5 : Below w.heap.size w V5 := Below.trans hw (Below.mono hk (by have := hw.size; omega))
  clear hw hk
  have hw := hw5
  clear hw5
  have hwz := hw.size
  clear c4_0 c4_1 R4_0 R4_1 R4_2
  clear hV
  refine (c_impl_FewestOpenings d Af xs cf Bq rs cq pp _ R5_0.out.rds (by omega) R5_1.out.rds (by omega)).mono ?_
  simp only [HF.out]
  rintro e W6 ⟨A7, c7, rfl, hF9, hb⟩
  have hk : Below V5.heap.size V5 W6 := hb
  have hkz6 := hk.size
  have c6_0 : W6.cell? ⟨tb, 0, none⟩ = some (.int .i64 d) := (hb.cell (p := ⟨tb, 0, none⟩) (by show tb < _; omega)).trans c5_0
  have c6_1 : W6.cell? ⟨tb, 1, none⟩ = some (.slice Af xs.length cf) := (hb.cell (p := ⟨tb, 1, none⟩) (by show tb < _; omega)).trans c5_1
  have b6_0 : tb < W6.heap.size := by omega
  have R6_0 := hid (FreshA.below (cf := cIv) (sz := 2) (T := 50) (B := V1.heap.size) R5_0.out hk)
  have R6_1 := hid (FreshA.below (cf := cIn) (sz := 1) (T := 3) (B := V1.heap.size) R5_1.out hk)
  have R6_2 := hid (FreshA.below (cf := cIn) (sz := 1) (T := 3) (B := V1.heap.size) R5_2.out hk)
  have hw6 : Below w.heap.size w W6 := Below.trans hw (Below.mono hk (by have := hw.size; omega))
  clear hw hk
  have hw := hw6
  clear hw6
  have hwz := hw.size
  clear c5_0 c5_1 R5_0 R5_1 R5_2
  clear hb
  have S6_3 : Hid (FreshA cIn 1 3 V5.heap.size W6 A7 c7 q) := hid (hF9)
  have loS6_3 := S6_3.out.lo
  have hiS6_3 := S6_3.out.hi
  clear hF9
  go_wp2_with (fail)
  refine calls_named ?_
  intro V7 hV
  have hk : Below W6.heap.size W6 V7 := by rw [hV]; (repeat' (first | with_reducible exact Below.refl _ _ | with_reducible assumption | with_reducible refine Below.setCell ?_ ?_ _ | with_reducible refine Below.drew ?_ | with_reducible refine Below.alloc ?_ ?_ _ | with_reducible refine Below.trans ?_ (Below.mono (by assumption) ?_) | (dsimp only; omega) | (simp; done) | (simp; omega) | omega))
  have hkz7 := hk.size
  have c7_0 : V7.cell? ⟨tb, 0, none⟩ = some (.int .i64 d) := (hk.cell (p := ⟨tb, 0, none⟩) (by show tb < _; omega)).trans c6_0
  have c7_1 : V7.cell? ⟨tb, 1, none⟩ = some (.slice Af xs.length cf) := (hk.cell (p := ⟨tb, 1, none⟩) (by show tb < _; omega)).trans c6_1
  have b7_0 : tb < V7.heap.size := by omega
  have R7_0 := hid (FreshA.below (cf := cIv) (sz := 2) (T := 50) (B := V1.heap.size) R6_0.out hk)
  have R7_1 := hid (FreshA.below (cf := cIn) (sz := 1) (T := 3) (B := V1.heap.size) R6_1.out hk)
  have R7_2 := hid (FreshA.below (cf := cIn) (sz := 1) (T := 3) (B := V1.heap.size) R6_2.out hk)
  have R7_3 := hid (FreshA.below (cf := cIn) (sz := 1) (T := 3) (B := V5.heap.size) S6_3.out hk)
  have hw7 : Below w.heap.size w V7 := Below.trans hw (Below.mono hk (by have := hw.size; omega))
  clear hw hk
  have hw := hw7
  clear hw7
  have hwz := hw.size
  clear c6_0 c6_1 R6_0 R6_1 R6_2 S6_3
  clear hV
  refine (c_spec_FewestOpenings d Af xs cf Bq rs cq pp _ R7_0.out.rds (by omega) R7_1.out.rds (by omega)).mono ?_
  simp only [HF.out]
  rintro e W8 ⟨A8, c8, rfl, hF9, hb⟩
  have hk : Below V7.heap.size V7 W8 := hb
  have hkz8 := hk.size
  have c8_0 : W8.cell? ⟨tb, 0, none⟩ = some (.int .i64 d) := (hb.cell (p := ⟨tb, 0, none⟩) (by show tb < _; omega)).trans c7_0
  have c8_1 : W8.cell? ⟨tb, 1, none⟩ = some (.slice Af xs.length cf) := (hb.cell (p := ⟨tb, 1, none⟩) (by show tb < _; omega)).trans c7_1
  have b8_0 : tb < W8.heap.size := by omega
  have R8_0 := hid (FreshA.below (cf := cIv) (sz := 2) (T := 50) (B := V1.heap.size) R7_0.out hk)
  have R8_1 := hid (FreshA.below (cf := cIn) (sz := 1) (T := 3) (B := V1.heap.size) R7_1.out hk)
  have R8_2 := hid (FreshA.below (cf := cIn) (sz := 1) (T := 3) (B := V1.heap.size) R7_2.out hk)
  have R8_3 := hid (FreshA.below (cf := cIn) (sz := 1) (T := 3) (B := V5.heap.size) R7_3.out hk)
  have hw8 : Below w.heap.size w W8 := Below.trans hw (Below.mono hk (by have := hw.size; omega))
  clear hw hk
  have hw := hw8
  clear hw8
  have hwz := hw.size
  clear c7_0 c7_1 R7_0 R7_1 R7_2 R7_3
  clear hb
  have S8_4 : Hid (FreshA cIn 1 3 V7.heap.size W8 A8 c8 q) := hid (hF9)
  have loS8_4 := S8_4.out.lo
  have hiS8_4 := S8_4.out.hi
  clear hF9
  go_wp2_with (fail)
  refine calls_named ?_
  intro V9 hV
  have hk : Below W8.heap.size W8 V9 := by rw [hV]; (repeat' (first | with_reducible exact Below.refl _ _ | with_reducible assumption | with_reducible refine Below.setCell ?_ ?_ _ | with_reducible refine Below.drew ?_ | with_reducible refine Below.alloc ?_ ?_ _ | with_reducible refine Below.trans ?_ (Below.mono (by assumption) ?_) | (dsimp only; omega) | (simp; done) | (simp; omega) | omega))
  have hkz9 := hk.size
  have c9_0 : V9.cell? ⟨tb, 0, none⟩ = some (.int .i64 d) := (hk.cell (p := ⟨tb, 0, none⟩) (by show tb < _; omega)).trans c8_0
  have c9_1 : V9.cell? ⟨tb, 1, none⟩ = some (.slice Af xs.length cf) := (hk.cell (p := ⟨tb, 1, none⟩) (by show tb < _; omega)).trans c8_1
  have b9_0 : tb < V9.heap.size := by omega
  have R9_0 := hid (FreshA.below (cf := cIv) (sz := 2) (T := 50) (B := V1.heap.size) R8_0.out hk)
  have R9_1 := hid (FreshA.below (cf := cIn) (sz := 1) (T := 3) (B := V1.heap.size) R8_1.out hk)
  have R9_2 := hid (FreshA.below (cf := cIn) (sz := 1) (T := 3) (B := V1.heap.size) R8_2.out hk)
  have R9_3 := hid (FreshA.below (cf := cIn) (sz := 1) (T := 3) (B := V5.heap.size) R8_3.out hk)
  have R9_4 := hid (FreshA.below (cf := cIn) (sz := 1) (T := 3) (B := V7.heap.size) S8_4.out hk)
  have hw9 : Below w.heap.size w V9 := Below.trans hw (Below.mono hk (by have := hw.size; omega))
  clear hw hk
  have hw := hw9
  clear hw9
  have hwz := hw.size
  clear c8_0 c8_1 R8_0 R8_1 R8_2 R8_3 S8_4
  clear hV
  refine (c_laws_vInts A7 A8 q c7 c8 _ R9_3.out.rds R9_4.out.rds (by omega)).mono ?_
  rintro e W10 ⟨rfl, hb⟩
  have hk : Below V9.heap.size V9 W10 := hb
  have hkz10 := hk.size
  have c10_0 : W10.cell? ⟨tb, 0, none⟩ = some (.int .i64 d) := (hb.cell (p := ⟨tb, 0, none⟩) (by show tb < _; omega)).trans c9_0
  have c10_1 : W10.cell? ⟨tb, 1, none⟩ = some (.slice Af xs.length cf) := (hb.cell (p := ⟨tb, 1, none⟩) (by show tb < _; omega)).trans c9_1
  have b10_0 : tb < W10.heap.size := by omega
  have R10_0 := hid (FreshA.below (cf := cIv) (sz := 2) (T := 50) (B := V1.heap.size) R9_0.out hk)
  have R10_1 := hid (FreshA.below (cf := cIn) (sz := 1) (T := 3) (B := V1.heap.size) R9_1.out hk)
  have R10_2 := hid (FreshA.below (cf := cIn) (sz := 1) (T := 3) (B := V1.heap.size) R9_2.out hk)
  have R10_3 := hid (FreshA.below (cf := cIn) (sz := 1) (T := 3) (B := V5.heap.size) R9_3.out hk)
  have R10_4 := hid (FreshA.below (cf := cIn) (sz := 1) (T := 3) (B := V7.heap.size) R9_4.out hk)
  have hw10 : Below w.heap.size w W10 := Below.trans hw (Below.mono hk (by have := hw.size; omega))
  clear hw hk
  have hw := hw10
  clear hw10
  have hwz := hw.size
  clear c9_0 c9_1 R9_0 R9_1 R9_2 R9_3 R9_4
  clear hb
  clear R10_4
  have hkp := (HQ4.out (by first | trivial | rfl)).1
  have HKP := hid hkp; clear hkp
  go_wp2_with (fail)
  refine calls_named ?_
  intro V11 hV
  have hk : Below W10.heap.size W10 V11 := by rw [hV]; (repeat' (first | with_reducible exact Below.refl _ _ | with_reducible assumption | with_reducible refine Below.setCell ?_ ?_ _ | with_reducible refine Below.drew ?_ | with_reducible refine Below.alloc ?_ ?_ _ | with_reducible refine Below.trans ?_ (Below.mono (by assumption) ?_) | (dsimp only; omega) | (simp; done) | (simp; omega) | omega))
  have hkz11 := hk.size
  have c11_0 : V11.cell? ⟨tb, 0, none⟩ = some (.int .i64 d) := (hk.cell (p := ⟨tb, 0, none⟩) (by show tb < _; omega)).trans c10_0
  have c11_1 : V11.cell? ⟨tb, 1, none⟩ = some (.slice Af xs.length cf) := (hk.cell (p := ⟨tb, 1, none⟩) (by show tb < _; omega)).trans c10_1
  have b11_0 : tb < V11.heap.size := by omega
  have R11_0 := hid (FreshA.below (cf := cIv) (sz := 2) (T := 50) (B := V1.heap.size) R10_0.out hk)
  have R11_1 := hid (FreshA.below (cf := cIn) (sz := 1) (T := 3) (B := V1.heap.size) R10_1.out hk)
  have R11_2 := hid (FreshA.below (cf := cIn) (sz := 1) (T := 3) (B := V1.heap.size) R10_2.out hk)
  have R11_3 := hid (FreshA.below (cf := cIn) (sz := 1) (T := 3) (B := V5.heap.size) R10_3.out hk)
  have hw11 : Below w.heap.size w V11 := Below.trans hw (Below.mono hk (by have := hw.size; omega))
  clear hw hk
  have hw := hw11
  clear hw11
  have hwz := hw.size
  clear c10_0 c10_1 R10_0 R10_1 R10_2 R10_3
  clear hV
  refine (c_impl_IsBridgePlan d Af xs cf Bq rs cq pp A7 q c7 _ R11_0.out.rds (by omega) R11_1.out.rds (by omega) R11_3.out.rds (by omega)).mono ?_
  simp only [HKP.out]
  rintro e W12 ⟨rfl, hb⟩
  have hk : Below V11.heap.size V11 W12 := hb
  have hkz12 := hk.size
  have c12_0 : W12.cell? ⟨tb, 0, none⟩ = some (.int .i64 d) := (hb.cell (p := ⟨tb, 0, none⟩) (by show tb < _; omega)).trans c11_0
  have c12_1 : W12.cell? ⟨tb, 1, none⟩ = some (.slice Af xs.length cf) := (hb.cell (p := ⟨tb, 1, none⟩) (by show tb < _; omega)).trans c11_1
  have b12_0 : tb < W12.heap.size := by omega
  have R12_0 := hid (FreshA.below (cf := cIv) (sz := 2) (T := 50) (B := V1.heap.size) R11_0.out hk)
  have R12_1 := hid (FreshA.below (cf := cIn) (sz := 1) (T := 3) (B := V1.heap.size) R11_1.out hk)
  have R12_2 := hid (FreshA.below (cf := cIn) (sz := 1) (T := 3) (B := V1.heap.size) R11_2.out hk)
  have R12_3 := hid (FreshA.below (cf := cIn) (sz := 1) (T := 3) (B := V5.heap.size) R11_3.out hk)
  have hw12 : Below w.heap.size w W12 := Below.trans hw (Below.mono hk (by have := hw.size; omega))
  clear hw hk
  have hw := hw12
  clear hw12
  have hwz := hw.size
  clear c11_0 c11_1 R11_0 R11_1 R11_2 R11_3
  clear hb
  clear R12_3
  go_wp2_with (fail)
  refine calls_named ?_
  intro V13 hV
  have hk : Below W12.heap.size W12 V13 := by rw [hV]; (repeat' (first | with_reducible exact Below.refl _ _ | with_reducible assumption | with_reducible refine Below.setCell ?_ ?_ _ | with_reducible refine Below.drew ?_ | with_reducible refine Below.alloc ?_ ?_ _ | with_reducible refine Below.trans ?_ (Below.mono (by assumption) ?_) | (dsimp only; omega) | (simp; done) | (simp; omega) | omega))
  have hkz13 := hk.size
  have c13_0 : V13.cell? ⟨tb, 0, none⟩ = some (.int .i64 d) := (hk.cell (p := ⟨tb, 0, none⟩) (by show tb < _; omega)).trans c12_0
  have c13_1 : V13.cell? ⟨tb, 1, none⟩ = some (.slice Af xs.length cf) := (hk.cell (p := ⟨tb, 1, none⟩) (by show tb < _; omega)).trans c12_1
  have b13_0 : tb < V13.heap.size := by omega
  have R13_0 := hid (FreshA.below (cf := cIv) (sz := 2) (T := 50) (B := V1.heap.size) R12_0.out hk)
  have R13_1 := hid (FreshA.below (cf := cIn) (sz := 1) (T := 3) (B := V1.heap.size) R12_1.out hk)
  have R13_2 := hid (FreshA.below (cf := cIn) (sz := 1) (T := 3) (B := V1.heap.size) R12_2.out hk)
  have hw13 : Below w.heap.size w V13 := Below.trans hw (Below.mono hk (by have := hw.size; omega))
  clear hw hk
  have hw := hw13
  clear hw13
  have hwz := hw.size
  clear c12_0 c12_1 R12_0 R12_1 R12_2
  clear hV
  refine (c_impl_WaitingSum d Af xs cf Bq rs cq pp Ap pl cp _ R13_0.out.rds (by omega) R13_1.out.rds (by omega) R13_2.out.rds (by omega)).mono ?_
  simp only [HS.out]
  rintro e W14 ⟨rfl, hb⟩
  have hk : Below V13.heap.size V13 W14 := hb
  have hkz14 := hk.size
  have c14_0 : W14.cell? ⟨tb, 0, none⟩ = some (.int .i64 d) := (hb.cell (p := ⟨tb, 0, none⟩) (by show tb < _; omega)).trans c13_0
  have c14_1 : W14.cell? ⟨tb, 1, none⟩ = some (.slice Af xs.length cf) := (hb.cell (p := ⟨tb, 1, none⟩) (by show tb < _; omega)).trans c13_1
  have b14_0 : tb < W14.heap.size := by omega
  have R14_0 := hid (FreshA.below (cf := cIv) (sz := 2) (T := 50) (B := V1.heap.size) R13_0.out hk)
  have R14_1 := hid (FreshA.below (cf := cIn) (sz := 1) (T := 3) (B := V1.heap.size) R13_1.out hk)
  have R14_2 := hid (FreshA.below (cf := cIn) (sz := 1) (T := 3) (B := V1.heap.size) R13_2.out hk)
  have hw14 : Below w.heap.size w W14 := Below.trans hw (Below.mono hk (by have := hw.size; omega))
  clear hw hk
  have hw := hw14
  clear hw14
  have hwz := hw.size
  clear c13_0 c13_1 R13_0 R13_1 R13_2
  clear hb
  go_wp2_with (fail)
  refine calls_named ?_
  intro V15 hV
  have hk : Below W14.heap.size W14 V15 := by rw [hV]; (repeat' (first | with_reducible exact Below.refl _ _ | with_reducible assumption | with_reducible refine Below.setCell ?_ ?_ _ | with_reducible refine Below.drew ?_ | with_reducible refine Below.alloc ?_ ?_ _ | with_reducible refine Below.trans ?_ (Below.mono (by assumption) ?_) | (dsimp only; omega) | (simp; done) | (simp; omega) | omega))
  have hkz15 := hk.size
  have c15_0 : V15.cell? ⟨tb, 0, none⟩ = some (.int .i64 d) := (hk.cell (p := ⟨tb, 0, none⟩) (by show tb < _; omega)).trans c14_0
  have c15_1 : V15.cell? ⟨tb, 1, none⟩ = some (.slice Af xs.length cf) := (hk.cell (p := ⟨tb, 1, none⟩) (by show tb < _; omega)).trans c14_1
  have b15_0 : tb < V15.heap.size := by omega
  have R15_0 := hid (FreshA.below (cf := cIv) (sz := 2) (T := 50) (B := V1.heap.size) R14_0.out hk)
  have R15_1 := hid (FreshA.below (cf := cIn) (sz := 1) (T := 3) (B := V1.heap.size) R14_1.out hk)
  have R15_2 := hid (FreshA.below (cf := cIn) (sz := 1) (T := 3) (B := V1.heap.size) R14_2.out hk)
  have hw15 : Below w.heap.size w V15 := Below.trans hw (Below.mono hk (by have := hw.size; omega))
  clear hw hk
  have hw := hw15
  clear hw15
  have hwz := hw.size
  clear c14_0 c14_1 R14_0 R14_1 R14_2
  clear hV
  refine (c_spec_WaitingSum d Af xs cf Bq rs cq pp Ap pl cp _ R15_0.out.rds (by omega) R15_1.out.rds (by omega) R15_2.out.rds (by omega)).mono ?_
  simp only [HS.out]
  rintro e W16 ⟨rfl, hb⟩
  have hk : Below V15.heap.size V15 W16 := hb
  have hkz16 := hk.size
  have c16_0 : W16.cell? ⟨tb, 0, none⟩ = some (.int .i64 d) := (hb.cell (p := ⟨tb, 0, none⟩) (by show tb < _; omega)).trans c15_0
  have c16_1 : W16.cell? ⟨tb, 1, none⟩ = some (.slice Af xs.length cf) := (hb.cell (p := ⟨tb, 1, none⟩) (by show tb < _; omega)).trans c15_1
  have b16_0 : tb < W16.heap.size := by omega
  have R16_0 := hid (FreshA.below (cf := cIv) (sz := 2) (T := 50) (B := V1.heap.size) R15_0.out hk)
  have R16_1 := hid (FreshA.below (cf := cIn) (sz := 1) (T := 3) (B := V1.heap.size) R15_1.out hk)
  have R16_2 := hid (FreshA.below (cf := cIn) (sz := 1) (T := 3) (B := V1.heap.size) R15_2.out hk)
  have hw16 : Below w.heap.size w W16 := Below.trans hw (Below.mono hk (by have := hw.size; omega))
  clear hw hk
  have hw := hw16
  clear hw16
  have hwz := hw.size
  clear c15_0 c15_1 R15_0 R15_1 R15_2
  clear hb
  go_wp2_with (fail)
  refine calls_named ?_
  intro V17 hV
  have hk : Below W16.heap.size W16 V17 := by rw [hV]; (repeat' (first | with_reducible exact Below.refl _ _ | with_reducible assumption | with_reducible refine Below.setCell ?_ ?_ _ | with_reducible refine Below.drew ?_ | with_reducible refine Below.alloc ?_ ?_ _ | with_reducible refine Below.trans ?_ (Below.mono (by assumption) ?_) | (dsimp only; omega) | (simp; done) | (simp; omega) | omega))
  have hkz17 := hk.size
  have c17_0 : V17.cell? ⟨tb, 0, none⟩ = some (.int .i64 d) := (hk.cell (p := ⟨tb, 0, none⟩) (by show tb < _; omega)).trans c16_0
  have c17_1 : V17.cell? ⟨tb, 1, none⟩ = some (.slice Af xs.length cf) := (hk.cell (p := ⟨tb, 1, none⟩) (by show tb < _; omega)).trans c16_1
  have b17_0 : tb < V17.heap.size := by omega
  have R17_0 := hid (FreshA.below (cf := cIv) (sz := 2) (T := 50) (B := V1.heap.size) R16_0.out hk)
  have R17_1 := hid (FreshA.below (cf := cIn) (sz := 1) (T := 3) (B := V1.heap.size) R16_1.out hk)
  have R17_2 := hid (FreshA.below (cf := cIn) (sz := 1) (T := 3) (B := V1.heap.size) R16_2.out hk)
  have hw17 : Below w.heap.size w V17 := Below.trans hw (Below.mono hk (by have := hw.size; omega))
  clear hw hk
  have hw := hw17
  clear hw17
  have hwz := hw.size
  clear c16_0 c16_1 R16_0 R16_1 R16_2
  clear hV
  refine (c_impl_OpenMinutes d Af xs cf Bq rs cq pp Ap pl cp _ R17_0.out.rds (by omega) R17_1.out.rds (by omega) R17_2.out.rds (by omega)).mono ?_
  simp only [HO.out]
  rintro e W18 ⟨rfl, hb⟩
  have hk : Below V17.heap.size V17 W18 := hb
  have hkz18 := hk.size
  have c18_0 : W18.cell? ⟨tb, 0, none⟩ = some (.int .i64 d) := (hb.cell (p := ⟨tb, 0, none⟩) (by show tb < _; omega)).trans c17_0
  have c18_1 : W18.cell? ⟨tb, 1, none⟩ = some (.slice Af xs.length cf) := (hb.cell (p := ⟨tb, 1, none⟩) (by show tb < _; omega)).trans c17_1
  have b18_0 : tb < W18.heap.size := by omega
  have R18_0 := hid (FreshA.below (cf := cIv) (sz := 2) (T := 50) (B := V1.heap.size) R17_0.out hk)
  have R18_1 := hid (FreshA.below (cf := cIn) (sz := 1) (T := 3) (B := V1.heap.size) R17_1.out hk)
  have R18_2 := hid (FreshA.below (cf := cIn) (sz := 1) (T := 3) (B := V1.heap.size) R17_2.out hk)
  have hw18 : Below w.heap.size w W18 := Below.trans hw (Below.mono hk (by have := hw.size; omega))
  clear hw hk
  have hw := hw18
  clear hw18
  have hwz := hw.size
  clear c17_0 c17_1 R17_0 R17_1 R17_2
  clear hb
  go_wp2_with (fail)
  refine calls_named ?_
  intro V19 hV
  have hk : Below W18.heap.size W18 V19 := by rw [hV]; (repeat' (first | with_reducible exact Below.refl _ _ | with_reducible assumption | with_reducible refine Below.setCell ?_ ?_ _ | with_reducible refine Below.drew ?_ | with_reducible refine Below.alloc ?_ ?_ _ | with_reducible refine Below.trans ?_ (Below.mono (by assumption) ?_) | (dsimp only; omega) | (simp; done) | (simp; omega) | omega))
  have hkz19 := hk.size
  have c19_0 : V19.cell? ⟨tb, 0, none⟩ = some (.int .i64 d) := (hk.cell (p := ⟨tb, 0, none⟩) (by show tb < _; omega)).trans c18_0
  have c19_1 : V19.cell? ⟨tb, 1, none⟩ = some (.slice Af xs.length cf) := (hk.cell (p := ⟨tb, 1, none⟩) (by show tb < _; omega)).trans c18_1
  have b19_0 : tb < V19.heap.size := by omega
  have R19_0 := hid (FreshA.below (cf := cIv) (sz := 2) (T := 50) (B := V1.heap.size) R18_0.out hk)
  have R19_1 := hid (FreshA.below (cf := cIn) (sz := 1) (T := 3) (B := V1.heap.size) R18_1.out hk)
  have R19_2 := hid (FreshA.below (cf := cIn) (sz := 1) (T := 3) (B := V1.heap.size) R18_2.out hk)
  have hw19 : Below w.heap.size w V19 := Below.trans hw (Below.mono hk (by have := hw.size; omega))
  clear hw hk
  have hw := hw19
  clear hw19
  have hwz := hw.size
  clear c18_0 c18_1 R18_0 R18_1 R18_2
  clear hV
  refine (c_spec_OpenMinutes d Af xs cf Bq rs cq pp Ap pl cp _ R19_0.out.rds (by omega) R19_1.out.rds (by omega) R19_2.out.rds (by omega)).mono ?_
  simp only [HO.out]
  rintro e W20 ⟨rfl, hb⟩
  have hk : Below V19.heap.size V19 W20 := hb
  have hkz20 := hk.size
  have c20_0 : W20.cell? ⟨tb, 0, none⟩ = some (.int .i64 d) := (hb.cell (p := ⟨tb, 0, none⟩) (by show tb < _; omega)).trans c19_0
  have c20_1 : W20.cell? ⟨tb, 1, none⟩ = some (.slice Af xs.length cf) := (hb.cell (p := ⟨tb, 1, none⟩) (by show tb < _; omega)).trans c19_1
  have b20_0 : tb < W20.heap.size := by omega
  have R20_0 := hid (FreshA.below (cf := cIv) (sz := 2) (T := 50) (B := V1.heap.size) R19_0.out hk)
  have R20_1 := hid (FreshA.below (cf := cIn) (sz := 1) (T := 3) (B := V1.heap.size) R19_1.out hk)
  have R20_2 := hid (FreshA.below (cf := cIn) (sz := 1) (T := 3) (B := V1.heap.size) R19_2.out hk)
  have hw20 : Below w.heap.size w W20 := Below.trans hw (Below.mono hk (by have := hw.size; omega))
  clear hw hk
  have hw := hw20
  clear hw20
  have hwz := hw.size
  clear c19_0 c19_1 R19_0 R19_1 R19_2
  clear hb
  go_wp2_with (fail)
  go_ret
  exact ⟨by first | rfl | exact ret_bool (by simp), by first | exact hw | (repeat' (first | with_reducible exact Below.refl _ _ | with_reducible assumption | with_reducible refine Below.setCell ?_ ?_ _ | with_reducible refine Below.drew ?_ | with_reducible refine Below.alloc ?_ ?_ _ | with_reducible refine Below.trans ?_ (Below.mono (by assumption) ?_) | (dsimp only; omega) | (simp; done) | (simp; omega) | omega))⟩
 have HXv := hid (R4_0.out.rds); have HBv := hid (R4_1.out.rds); have HPv := hid (R4_2.out.rds)
 have HKQ : Hid (∀ w' : World, Below W4.heap.size W4 w' → w'.cell? ⟨tb, 0, none⟩ = some (.int .i64 d) ∧ w'.cell? ⟨tb, 1, none⟩ = some (.slice Af xs.length cf)) := fun w' hbv => ⟨(hbv.cell (p := ⟨tb, 0, none⟩) (by show tb < _; omega)).trans c4_0, (hbv.cell (p := ⟨tb, 1, none⟩) (by show tb < _; omega)).trans c4_1⟩
 have hbq : Below W4.heap.size W4 W4 := Below.refl _ _
 go_wp2_with (fail)
 go_region_held3 (fun w' => w'.cell? ⟨tb, 0, none⟩ = some (.int .i64 d) ∧ w'.cell? ⟨tb, 1, none⟩ = some (.slice Af xs.length cf)) (first | assumption | exact HKQ.out _ (by (repeat' (first | with_reducible exact Below.refl _ _ | with_reducible assumption | with_reducible refine Below.setCell ?_ ?_ _ | with_reducible refine Below.drew ?_ | with_reducible refine Below.alloc ?_ ?_ _ | with_reducible refine Below.trans ?_ (Below.mono (by assumption) ?_) | (dsimp only; omega) | (simp; done) | (simp; omega) | omega)))) (first | (go_at_call 25; refine (c_spec_IsBridgePlan d _ xs _ _ rs _ pp _ pl _ _ (Rds.below HXv.out (by (repeat' (first | with_reducible exact Below.refl _ _ | with_reducible assumption | with_reducible refine Below.setCell ?_ ?_ _ | with_reducible refine Below.drew ?_ | with_reducible refine Below.alloc ?_ ?_ _ | with_reducible refine Below.trans ?_ (Below.mono (by assumption) ?_) | (dsimp only; omega) | (simp; done) | (simp; omega) | omega)))) (by omega) (Rds.below HBv.out (by (repeat' (first | with_reducible exact Below.refl _ _ | with_reducible assumption | with_reducible refine Below.setCell ?_ ?_ _ | with_reducible refine Below.drew ?_ | with_reducible refine Below.alloc ?_ ?_ _ | with_reducible refine Below.trans ?_ (Below.mono (by assumption) ?_) | (dsimp only; omega) | (simp; done) | (simp; omega) | omega)))) (by omega) (Rds.below HPv.out (by (repeat' (first | with_reducible exact Below.refl _ _ | with_reducible assumption | with_reducible refine Below.setCell ?_ ?_ _ | with_reducible refine Below.drew ?_ | with_reducible refine Below.alloc ?_ ?_ _ | with_reducible refine Below.trans ?_ (Below.mono (by assumption) ?_) | (dsimp only; omega) | (simp; done) | (simp; omega) | omega)))) (by omega)).mono ?_; simp only [HY.out]; rintro e w' ⟨rfl, hb⟩; have hz := hb.size; (try simp at hz)) | (go_at_call 17; refine (c_impl_IsValidBridge d _ xs _ _ (Rds.below HXv.out (by (repeat' (first | with_reducible exact Below.refl _ _ | with_reducible assumption | with_reducible refine Below.setCell ?_ ?_ _ | with_reducible refine Below.drew ?_ | with_reducible refine Below.alloc ?_ ?_ _ | with_reducible refine Below.trans ?_ (Below.mono (by assumption) ?_) | (dsimp only; omega) | (simp; done) | (simp; omega) | omega)))) (by omega)).mono ?_; rintro e w' ⟨rfl, hb⟩; have hz := hb.size; (try simp at hz)) | (go_at_call 15; refine (c_spec_IsValidBridge d _ xs _ _ (Rds.below HXv.out (by (repeat' (first | with_reducible exact Below.refl _ _ | with_reducible assumption | with_reducible refine Below.setCell ?_ ?_ _ | with_reducible refine Below.drew ?_ | with_reducible refine Below.alloc ?_ ?_ _ | with_reducible refine Below.trans ?_ (Below.mono (by assumption) ?_) | (dsimp only; omega) | (simp; done) | (simp; omega) | omega)))) (by omega)).mono ?_; rintro e w' ⟨rfl, hb⟩; have hz := hb.size; (try simp at hz)))
 clear HXv HBv HPv HKQ hbq
 obtain ⟨hs1, hs2, hs3, hs4⟩ := HQ5.out (by first | trivial | rfl)
 subst hs2
 cases ok
 ·go_wp2_with (fail)
  refine calls_named ?_
  intro V5 hV
  have hk : Below W4.heap.size W4 V5 := by rw [hV]; (repeat' (first | with_reducible exact Below.refl _ _ | with_reducible assumption | with_reducible refine Below.setCell ?_ ?_ _ | with_reducible refine Below.drew ?_ | with_reducible refine Below.alloc ?_ ?_ _ | with_reducible refine Below.trans ?_ (Below.mono (by assumption) ?_) | (dsimp only; omega) | (simp; done) | (simp; omega) | omega))
  have hkz5 := hk.size
  have c5_0 : V5.cell? ⟨tb, 0, none⟩ = some (.int .i64 d) := (hk.cell (p := ⟨tb, 0, none⟩) (by show tb < _; omega)).trans c4_0
  have c5_1 : V5.cell? ⟨tb, 1, none⟩ = some (.slice Af xs.length cf) := (hk.cell (p := ⟨tb, 1, none⟩) (by show tb < _; omega)).trans c4_1
  have b5_0 : tb < V5.heap.size := by omega
  have R5_0 := hid (FreshA.below (cf := cIv) (sz := 2) (T := 50) (B := V1.heap.size) R4_0.out hk)
  have R5_1 := hid (FreshA.below (cf := cIn) (sz := 1) (T := 3) (B := V1.heap.size) R4_1.out hk)
  have R5_2 := hid (FreshA.below (cf := cIn) (sz := 1) (T := 3) (B := V1.heap.size) R4_2.out hk)
  have hw5 : Below w.heap.size w V5 := Below.trans hw (Below.mono hk (by have := hw.size; omega))
  clear hw hk
  have hw := hw5
  clear hw5
  have hwz := hw.size
  clear c4_0 c4_1 R4_0 R4_1 R4_2
  clear hV
  refine (c_impl_FewestOpenings d Af xs cf Bq rs cq pp _ R5_0.out.rds (by omega) R5_1.out.rds (by omega)).mono ?_
  simp only [HF.out]
  rintro e W6 ⟨A7, c7, rfl, hF9, hb⟩
  have hk : Below V5.heap.size V5 W6 := hb
  have hkz6 := hk.size
  have c6_0 : W6.cell? ⟨tb, 0, none⟩ = some (.int .i64 d) := (hb.cell (p := ⟨tb, 0, none⟩) (by show tb < _; omega)).trans c5_0
  have c6_1 : W6.cell? ⟨tb, 1, none⟩ = some (.slice Af xs.length cf) := (hb.cell (p := ⟨tb, 1, none⟩) (by show tb < _; omega)).trans c5_1
  have b6_0 : tb < W6.heap.size := by omega
  have R6_0 := hid (FreshA.below (cf := cIv) (sz := 2) (T := 50) (B := V1.heap.size) R5_0.out hk)
  have R6_1 := hid (FreshA.below (cf := cIn) (sz := 1) (T := 3) (B := V1.heap.size) R5_1.out hk)
  have R6_2 := hid (FreshA.below (cf := cIn) (sz := 1) (T := 3) (B := V1.heap.size) R5_2.out hk)
  have hw6 : Below w.heap.size w W6 := Below.trans hw (Below.mono hk (by have := hw.size; omega))
  clear hw hk
  have hw := hw6
  clear hw6
  have hwz := hw.size
  clear c5_0 c5_1 R5_0 R5_1 R5_2
  clear hb
  have S6_3 : Hid (FreshA cIn 1 3 V5.heap.size W6 A7 c7 q) := hid (hF9)
  have loS6_3 := S6_3.out.lo
  have hiS6_3 := S6_3.out.hi
  clear hF9
  go_wp2_with (fail)
  refine calls_named ?_
  intro V7 hV
  have hk : Below W6.heap.size W6 V7 := by rw [hV]; (repeat' (first | with_reducible exact Below.refl _ _ | with_reducible assumption | with_reducible refine Below.setCell ?_ ?_ _ | with_reducible refine Below.drew ?_ | with_reducible refine Below.alloc ?_ ?_ _ | with_reducible refine Below.trans ?_ (Below.mono (by assumption) ?_) | (dsimp only; omega) | (simp; done) | (simp; omega) | omega))
  have hkz7 := hk.size
  have c7_0 : V7.cell? ⟨tb, 0, none⟩ = some (.int .i64 d) := (hk.cell (p := ⟨tb, 0, none⟩) (by show tb < _; omega)).trans c6_0
  have c7_1 : V7.cell? ⟨tb, 1, none⟩ = some (.slice Af xs.length cf) := (hk.cell (p := ⟨tb, 1, none⟩) (by show tb < _; omega)).trans c6_1
  have b7_0 : tb < V7.heap.size := by omega
  have R7_0 := hid (FreshA.below (cf := cIv) (sz := 2) (T := 50) (B := V1.heap.size) R6_0.out hk)
  have R7_1 := hid (FreshA.below (cf := cIn) (sz := 1) (T := 3) (B := V1.heap.size) R6_1.out hk)
  have R7_2 := hid (FreshA.below (cf := cIn) (sz := 1) (T := 3) (B := V1.heap.size) R6_2.out hk)
  have R7_3 := hid (FreshA.below (cf := cIn) (sz := 1) (T := 3) (B := V5.heap.size) S6_3.out hk)
  have hw7 : Below w.heap.size w V7 := Below.trans hw (Below.mono hk (by have := hw.size; omega))
  clear hw hk
  have hw := hw7
  clear hw7
  have hwz := hw.size
  clear c6_0 c6_1 R6_0 R6_1 R6_2 S6_3
  clear hV
  refine (c_spec_FewestOpenings d Af xs cf Bq rs cq pp _ R7_0.out.rds (by omega) R7_1.out.rds (by omega)).mono ?_
  simp only [HF.out]
  rintro e W8 ⟨A8, c8, rfl, hF9, hb⟩
  have hk : Below V7.heap.size V7 W8 := hb
  have hkz8 := hk.size
  have c8_0 : W8.cell? ⟨tb, 0, none⟩ = some (.int .i64 d) := (hb.cell (p := ⟨tb, 0, none⟩) (by show tb < _; omega)).trans c7_0
  have c8_1 : W8.cell? ⟨tb, 1, none⟩ = some (.slice Af xs.length cf) := (hb.cell (p := ⟨tb, 1, none⟩) (by show tb < _; omega)).trans c7_1
  have b8_0 : tb < W8.heap.size := by omega
  have R8_0 := hid (FreshA.below (cf := cIv) (sz := 2) (T := 50) (B := V1.heap.size) R7_0.out hk)
  have R8_1 := hid (FreshA.below (cf := cIn) (sz := 1) (T := 3) (B := V1.heap.size) R7_1.out hk)
  have R8_2 := hid (FreshA.below (cf := cIn) (sz := 1) (T := 3) (B := V1.heap.size) R7_2.out hk)
  have R8_3 := hid (FreshA.below (cf := cIn) (sz := 1) (T := 3) (B := V5.heap.size) R7_3.out hk)
  have hw8 : Below w.heap.size w W8 := Below.trans hw (Below.mono hk (by have := hw.size; omega))
  clear hw hk
  have hw := hw8
  clear hw8
  have hwz := hw.size
  clear c7_0 c7_1 R7_0 R7_1 R7_2 R7_3
  clear hb
  have S8_4 : Hid (FreshA cIn 1 3 V7.heap.size W8 A8 c8 q) := hid (hF9)
  have loS8_4 := S8_4.out.lo
  have hiS8_4 := S8_4.out.hi
  clear hF9
  go_wp2_with (fail)
  refine calls_named ?_
  intro V9 hV
  have hk : Below W8.heap.size W8 V9 := by rw [hV]; (repeat' (first | with_reducible exact Below.refl _ _ | with_reducible assumption | with_reducible refine Below.setCell ?_ ?_ _ | with_reducible refine Below.drew ?_ | with_reducible refine Below.alloc ?_ ?_ _ | with_reducible refine Below.trans ?_ (Below.mono (by assumption) ?_) | (dsimp only; omega) | (simp; done) | (simp; omega) | omega))
  have hkz9 := hk.size
  have c9_0 : V9.cell? ⟨tb, 0, none⟩ = some (.int .i64 d) := (hk.cell (p := ⟨tb, 0, none⟩) (by show tb < _; omega)).trans c8_0
  have c9_1 : V9.cell? ⟨tb, 1, none⟩ = some (.slice Af xs.length cf) := (hk.cell (p := ⟨tb, 1, none⟩) (by show tb < _; omega)).trans c8_1
  have b9_0 : tb < V9.heap.size := by omega
  have R9_0 := hid (FreshA.below (cf := cIv) (sz := 2) (T := 50) (B := V1.heap.size) R8_0.out hk)
  have R9_1 := hid (FreshA.below (cf := cIn) (sz := 1) (T := 3) (B := V1.heap.size) R8_1.out hk)
  have R9_2 := hid (FreshA.below (cf := cIn) (sz := 1) (T := 3) (B := V1.heap.size) R8_2.out hk)
  have R9_3 := hid (FreshA.below (cf := cIn) (sz := 1) (T := 3) (B := V5.heap.size) R8_3.out hk)
  have R9_4 := hid (FreshA.below (cf := cIn) (sz := 1) (T := 3) (B := V7.heap.size) S8_4.out hk)
  have hw9 : Below w.heap.size w V9 := Below.trans hw (Below.mono hk (by have := hw.size; omega))
  clear hw hk
  have hw := hw9
  clear hw9
  have hwz := hw.size
  clear c8_0 c8_1 R8_0 R8_1 R8_2 R8_3 S8_4
  clear hV
  refine (c_laws_vInts A7 A8 q c7 c8 _ R9_3.out.rds R9_4.out.rds (by omega)).mono ?_
  rintro e W10 ⟨rfl, hb⟩
  have hk : Below V9.heap.size V9 W10 := hb
  have hkz10 := hk.size
  have c10_0 : W10.cell? ⟨tb, 0, none⟩ = some (.int .i64 d) := (hb.cell (p := ⟨tb, 0, none⟩) (by show tb < _; omega)).trans c9_0
  have c10_1 : W10.cell? ⟨tb, 1, none⟩ = some (.slice Af xs.length cf) := (hb.cell (p := ⟨tb, 1, none⟩) (by show tb < _; omega)).trans c9_1
  have b10_0 : tb < W10.heap.size := by omega
  have R10_0 := hid (FreshA.below (cf := cIv) (sz := 2) (T := 50) (B := V1.heap.size) R9_0.out hk)
  have R10_1 := hid (FreshA.below (cf := cIn) (sz := 1) (T := 3) (B := V1.heap.size) R9_1.out hk)
  have R10_2 := hid (FreshA.below (cf := cIn) (sz := 1) (T := 3) (B := V1.heap.size) R9_2.out hk)
  have R10_3 := hid (FreshA.below (cf := cIn) (sz := 1) (T := 3) (B := V5.heap.size) R9_3.out hk)
  have R10_4 := hid (FreshA.below (cf := cIn) (sz := 1) (T := 3) (B := V7.heap.size) R9_4.out hk)
  have hw10 : Below w.heap.size w W10 := Below.trans hw (Below.mono hk (by have := hw.size; omega))
  clear hw hk
  have hw := hw10
  clear hw10
  have hwz := hw.size
  clear c9_0 c9_1 R9_0 R9_1 R9_2 R9_3 R9_4
  clear hb
  clear R10_4
  clear R10_3
  go_wp2_with (fail)
  refine calls_named ?_
  intro V11 hV
  have hk : Below W10.heap.size W10 V11 := by rw [hV]; (repeat' (first | with_reducible exact Below.refl _ _ | with_reducible assumption | with_reducible refine Below.setCell ?_ ?_ _ | with_reducible refine Below.drew ?_ | with_reducible refine Below.alloc ?_ ?_ _ | with_reducible refine Below.trans ?_ (Below.mono (by assumption) ?_) | (dsimp only; omega) | (simp; done) | (simp; omega) | omega))
  have hkz11 := hk.size
  have c11_0 : V11.cell? ⟨tb, 0, none⟩ = some (.int .i64 d) := (hk.cell (p := ⟨tb, 0, none⟩) (by show tb < _; omega)).trans c10_0
  have c11_1 : V11.cell? ⟨tb, 1, none⟩ = some (.slice Af xs.length cf) := (hk.cell (p := ⟨tb, 1, none⟩) (by show tb < _; omega)).trans c10_1
  have b11_0 : tb < V11.heap.size := by omega
  have R11_0 := hid (FreshA.below (cf := cIv) (sz := 2) (T := 50) (B := V1.heap.size) R10_0.out hk)
  have R11_1 := hid (FreshA.below (cf := cIn) (sz := 1) (T := 3) (B := V1.heap.size) R10_1.out hk)
  have R11_2 := hid (FreshA.below (cf := cIn) (sz := 1) (T := 3) (B := V1.heap.size) R10_2.out hk)
  have hw11 : Below w.heap.size w V11 := Below.trans hw (Below.mono hk (by have := hw.size; omega))
  clear hw hk
  have hw := hw11
  clear hw11
  have hwz := hw.size
  clear c10_0 c10_1 R10_0 R10_1 R10_2
  clear hV
  refine (c_impl_WaitingSum d Af xs cf Bq rs cq pp Ap pl cp _ R11_0.out.rds (by omega) R11_1.out.rds (by omega) R11_2.out.rds (by omega)).mono ?_
  simp only [HS.out]
  rintro e W12 ⟨rfl, hb⟩
  have hk : Below V11.heap.size V11 W12 := hb
  have hkz12 := hk.size
  have c12_0 : W12.cell? ⟨tb, 0, none⟩ = some (.int .i64 d) := (hb.cell (p := ⟨tb, 0, none⟩) (by show tb < _; omega)).trans c11_0
  have c12_1 : W12.cell? ⟨tb, 1, none⟩ = some (.slice Af xs.length cf) := (hb.cell (p := ⟨tb, 1, none⟩) (by show tb < _; omega)).trans c11_1
  have b12_0 : tb < W12.heap.size := by omega
  have R12_0 := hid (FreshA.below (cf := cIv) (sz := 2) (T := 50) (B := V1.heap.size) R11_0.out hk)
  have R12_1 := hid (FreshA.below (cf := cIn) (sz := 1) (T := 3) (B := V1.heap.size) R11_1.out hk)
  have R12_2 := hid (FreshA.below (cf := cIn) (sz := 1) (T := 3) (B := V1.heap.size) R11_2.out hk)
  have hw12 : Below w.heap.size w W12 := Below.trans hw (Below.mono hk (by have := hw.size; omega))
  clear hw hk
  have hw := hw12
  clear hw12
  have hwz := hw.size
  clear c11_0 c11_1 R11_0 R11_1 R11_2
  clear hb
  go_wp2_with (fail)
  refine calls_named ?_
  intro V13 hV
  have hk : Below W12.heap.size W12 V13 := by rw [hV]; (repeat' (first | with_reducible exact Below.refl _ _ | with_reducible assumption | with_reducible refine Below.setCell ?_ ?_ _ | with_reducible refine Below.drew ?_ | with_reducible refine Below.alloc ?_ ?_ _ | with_reducible refine Below.trans ?_ (Below.mono (by assumption) ?_) | (dsimp only; omega) | (simp; done) | (simp; omega) | omega))
  have hkz13 := hk.size
  have c13_0 : V13.cell? ⟨tb, 0, none⟩ = some (.int .i64 d) := (hk.cell (p := ⟨tb, 0, none⟩) (by show tb < _; omega)).trans c12_0
  have c13_1 : V13.cell? ⟨tb, 1, none⟩ = some (.slice Af xs.length cf) := (hk.cell (p := ⟨tb, 1, none⟩) (by show tb < _; omega)).trans c12_1
  have b13_0 : tb < V13.heap.size := by omega
  have R13_0 := hid (FreshA.below (cf := cIv) (sz := 2) (T := 50) (B := V1.heap.size) R12_0.out hk)
  have R13_1 := hid (FreshA.below (cf := cIn) (sz := 1) (T := 3) (B := V1.heap.size) R12_1.out hk)
  have R13_2 := hid (FreshA.below (cf := cIn) (sz := 1) (T := 3) (B := V1.heap.size) R12_2.out hk)
  have hw13 : Below w.heap.size w V13 := Below.trans hw (Below.mono hk (by have := hw.size; omega))
  clear hw hk
  have hw := hw13
  clear hw13
  have hwz := hw.size
  clear c12_0 c12_1 R12_0 R12_1 R12_2
  clear hV
  refine (c_spec_WaitingSum d Af xs cf Bq rs cq pp Ap pl cp _ R13_0.out.rds (by omega) R13_1.out.rds (by omega) R13_2.out.rds (by omega)).mono ?_
  simp only [HS.out]
  rintro e W14 ⟨rfl, hb⟩
  have hk : Below V13.heap.size V13 W14 := hb
  have hkz14 := hk.size
  have c14_0 : W14.cell? ⟨tb, 0, none⟩ = some (.int .i64 d) := (hb.cell (p := ⟨tb, 0, none⟩) (by show tb < _; omega)).trans c13_0
  have c14_1 : W14.cell? ⟨tb, 1, none⟩ = some (.slice Af xs.length cf) := (hb.cell (p := ⟨tb, 1, none⟩) (by show tb < _; omega)).trans c13_1
  have b14_0 : tb < W14.heap.size := by omega
  have R14_0 := hid (FreshA.below (cf := cIv) (sz := 2) (T := 50) (B := V1.heap.size) R13_0.out hk)
  have R14_1 := hid (FreshA.below (cf := cIn) (sz := 1) (T := 3) (B := V1.heap.size) R13_1.out hk)
  have R14_2 := hid (FreshA.below (cf := cIn) (sz := 1) (T := 3) (B := V1.heap.size) R13_2.out hk)
  have hw14 : Below w.heap.size w W14 := Below.trans hw (Below.mono hk (by have := hw.size; omega))
  clear hw hk
  have hw := hw14
  clear hw14
  have hwz := hw.size
  clear c13_0 c13_1 R13_0 R13_1 R13_2
  clear hb
  go_wp2_with (fail)
  refine calls_named ?_
  intro V15 hV
  have hk : Below W14.heap.size W14 V15 := by rw [hV]; (repeat' (first | with_reducible exact Below.refl _ _ | with_reducible assumption | with_reducible refine Below.setCell ?_ ?_ _ | with_reducible refine Below.drew ?_ | with_reducible refine Below.alloc ?_ ?_ _ | with_reducible refine Below.trans ?_ (Below.mono (by assumption) ?_) | (dsimp only; omega) | (simp; done) | (simp; omega) | omega))
  have hkz15 := hk.size
  have c15_0 : V15.cell? ⟨tb, 0, none⟩ = some (.int .i64 d) := (hk.cell (p := ⟨tb, 0, none⟩) (by show tb < _; omega)).trans c14_0
  have c15_1 : V15.cell? ⟨tb, 1, none⟩ = some (.slice Af xs.length cf) := (hk.cell (p := ⟨tb, 1, none⟩) (by show tb < _; omega)).trans c14_1
  have b15_0 : tb < V15.heap.size := by omega
  have R15_0 := hid (FreshA.below (cf := cIv) (sz := 2) (T := 50) (B := V1.heap.size) R14_0.out hk)
  have R15_1 := hid (FreshA.below (cf := cIn) (sz := 1) (T := 3) (B := V1.heap.size) R14_1.out hk)
  have R15_2 := hid (FreshA.below (cf := cIn) (sz := 1) (T := 3) (B := V1.heap.size) R14_2.out hk)
  have hw15 : Below w.heap.size w V15 := Below.trans hw (Below.mono hk (by have := hw.size; omega))
  clear hw hk
  have hw := hw15
  clear hw15
  have hwz := hw.size
  clear c14_0 c14_1 R14_0 R14_1 R14_2
  clear hV
  refine (c_impl_OpenMinutes d Af xs cf Bq rs cq pp Ap pl cp _ R15_0.out.rds (by omega) R15_1.out.rds (by omega) R15_2.out.rds (by omega)).mono ?_
  simp only [HO.out]
  rintro e W16 ⟨rfl, hb⟩
  have hk : Below V15.heap.size V15 W16 := hb
  have hkz16 := hk.size
  have c16_0 : W16.cell? ⟨tb, 0, none⟩ = some (.int .i64 d) := (hb.cell (p := ⟨tb, 0, none⟩) (by show tb < _; omega)).trans c15_0
  have c16_1 : W16.cell? ⟨tb, 1, none⟩ = some (.slice Af xs.length cf) := (hb.cell (p := ⟨tb, 1, none⟩) (by show tb < _; omega)).trans c15_1
  have b16_0 : tb < W16.heap.size := by omega
  have R16_0 := hid (FreshA.below (cf := cIv) (sz := 2) (T := 50) (B := V1.heap.size) R15_0.out hk)
  have R16_1 := hid (FreshA.below (cf := cIn) (sz := 1) (T := 3) (B := V1.heap.size) R15_1.out hk)
  have R16_2 := hid (FreshA.below (cf := cIn) (sz := 1) (T := 3) (B := V1.heap.size) R15_2.out hk)
  have hw16 : Below w.heap.size w W16 := Below.trans hw (Below.mono hk (by have := hw.size; omega))
  clear hw hk
  have hw := hw16
  clear hw16
  have hwz := hw.size
  clear c15_0 c15_1 R15_0 R15_1 R15_2
  clear hb
  go_wp2_with (fail)
  refine calls_named ?_
  intro V17 hV
  have hk : Below W16.heap.size W16 V17 := by rw [hV]; (repeat' (first | with_reducible exact Below.refl _ _ | with_reducible assumption | with_reducible refine Below.setCell ?_ ?_ _ | with_reducible refine Below.drew ?_ | with_reducible refine Below.alloc ?_ ?_ _ | with_reducible refine Below.trans ?_ (Below.mono (by assumption) ?_) | (dsimp only; omega) | (simp; done) | (simp; omega) | omega))
  have hkz17 := hk.size
  have c17_0 : V17.cell? ⟨tb, 0, none⟩ = some (.int .i64 d) := (hk.cell (p := ⟨tb, 0, none⟩) (by show tb < _; omega)).trans c16_0
  have c17_1 : V17.cell? ⟨tb, 1, none⟩ = some (.slice Af xs.length cf) := (hk.cell (p := ⟨tb, 1, none⟩) (by show tb < _; omega)).trans c16_1
  have b17_0 : tb < V17.heap.size := by omega
  have R17_0 := hid (FreshA.below (cf := cIv) (sz := 2) (T := 50) (B := V1.heap.size) R16_0.out hk)
  have R17_1 := hid (FreshA.below (cf := cIn) (sz := 1) (T := 3) (B := V1.heap.size) R16_1.out hk)
  have R17_2 := hid (FreshA.below (cf := cIn) (sz := 1) (T := 3) (B := V1.heap.size) R16_2.out hk)
  have hw17 : Below w.heap.size w V17 := Below.trans hw (Below.mono hk (by have := hw.size; omega))
  clear hw hk
  have hw := hw17
  clear hw17
  have hwz := hw.size
  clear c16_0 c16_1 R16_0 R16_1 R16_2
  clear hV
  refine (c_spec_OpenMinutes d Af xs cf Bq rs cq pp Ap pl cp _ R17_0.out.rds (by omega) R17_1.out.rds (by omega) R17_2.out.rds (by omega)).mono ?_
  simp only [HO.out]
  rintro e W18 ⟨rfl, hb⟩
  have hk : Below V17.heap.size V17 W18 := hb
  have hkz18 := hk.size
  have c18_0 : W18.cell? ⟨tb, 0, none⟩ = some (.int .i64 d) := (hb.cell (p := ⟨tb, 0, none⟩) (by show tb < _; omega)).trans c17_0
  have c18_1 : W18.cell? ⟨tb, 1, none⟩ = some (.slice Af xs.length cf) := (hb.cell (p := ⟨tb, 1, none⟩) (by show tb < _; omega)).trans c17_1
  have b18_0 : tb < W18.heap.size := by omega
  have R18_0 := hid (FreshA.below (cf := cIv) (sz := 2) (T := 50) (B := V1.heap.size) R17_0.out hk)
  have R18_1 := hid (FreshA.below (cf := cIn) (sz := 1) (T := 3) (B := V1.heap.size) R17_1.out hk)
  have R18_2 := hid (FreshA.below (cf := cIn) (sz := 1) (T := 3) (B := V1.heap.size) R17_2.out hk)
  have hw18 : Below w.heap.size w W18 := Below.trans hw (Below.mono hk (by have := hw.size; omega))
  clear hw hk
  have hw := hw18
  clear hw18
  have hwz := hw.size
  clear c17_0 c17_1 R17_0 R17_1 R17_2
  clear hb
  go_wp2_with (fail)
  go_ret
  exact ⟨by first | rfl | exact ret_bool (by simp), by first | exact hw | (repeat' (first | with_reducible exact Below.refl _ _ | with_reducible assumption | with_reducible refine Below.setCell ?_ ?_ _ | with_reducible refine Below.drew ?_ | with_reducible refine Below.alloc ?_ ?_ _ | with_reducible refine Below.trans ?_ (Below.mono (by assumption) ?_) | (dsimp only; omega) | (simp; done) | (simp; omega) | omega))⟩
 go_wp2_with (fail)
 refine calls_named ?_
 intro V5 hV
 have hk : Below W4.heap.size W4 V5 := by rw [hV]; (repeat' (first | with_reducible exact Below.refl _ _ | with_reducible assumption | with_reducible refine Below.setCell ?_ ?_ _ | with_reducible refine Below.drew ?_ | with_reducible refine Below.alloc ?_ ?_ _ | with_reducible refine Below.trans ?_ (Below.mono (by assumption) ?_) | (dsimp only; omega) | (simp; done) | (simp; omega) | omega))
 have hkz5 := hk.size
 have c5_0 : V5.cell? ⟨tb, 0, none⟩ = some (.int .i64 d) := (hk.cell (p := ⟨tb, 0, none⟩) (by show tb < _; omega)).trans c4_0
 have c5_1 : V5.cell? ⟨tb, 1, none⟩ = some (.slice Af xs.length cf) := (hk.cell (p := ⟨tb, 1, none⟩) (by show tb < _; omega)).trans c4_1
 have b5_0 : tb < V5.heap.size := by omega
 have R5_0 := hid (FreshA.below (cf := cIv) (sz := 2) (T := 50) (B := V1.heap.size) R4_0.out hk)
 have R5_1 := hid (FreshA.below (cf := cIn) (sz := 1) (T := 3) (B := V1.heap.size) R4_1.out hk)
 have R5_2 := hid (FreshA.below (cf := cIn) (sz := 1) (T := 3) (B := V1.heap.size) R4_2.out hk)
 have hw5 : Below w.heap.size w V5 := Below.trans hw (Below.mono hk (by have := hw.size; omega))
 clear hw hk
 have hw := hw5
 clear hw5
 have hwz := hw.size
 clear c4_0 c4_1 R4_0 R4_1 R4_2
 clear hV
 refine (c_impl_FewestOpenings d Af xs cf Bq rs cq pp _ R5_0.out.rds (by omega) R5_1.out.rds (by omega)).mono ?_
 simp only [HF.out]
 rintro e W6 ⟨A7, c7, rfl, hF9, hb⟩
 have hk : Below V5.heap.size V5 W6 := hb
 have hkz6 := hk.size
 have c6_0 : W6.cell? ⟨tb, 0, none⟩ = some (.int .i64 d) := (hb.cell (p := ⟨tb, 0, none⟩) (by show tb < _; omega)).trans c5_0
 have c6_1 : W6.cell? ⟨tb, 1, none⟩ = some (.slice Af xs.length cf) := (hb.cell (p := ⟨tb, 1, none⟩) (by show tb < _; omega)).trans c5_1
 have b6_0 : tb < W6.heap.size := by omega
 have R6_0 := hid (FreshA.below (cf := cIv) (sz := 2) (T := 50) (B := V1.heap.size) R5_0.out hk)
 have R6_1 := hid (FreshA.below (cf := cIn) (sz := 1) (T := 3) (B := V1.heap.size) R5_1.out hk)
 have R6_2 := hid (FreshA.below (cf := cIn) (sz := 1) (T := 3) (B := V1.heap.size) R5_2.out hk)
 have hw6 : Below w.heap.size w W6 := Below.trans hw (Below.mono hk (by have := hw.size; omega))
 clear hw hk
 have hw := hw6
 clear hw6
 have hwz := hw.size
 clear c5_0 c5_1 R5_0 R5_1 R5_2
 clear hb
 have S6_3 : Hid (FreshA cIn 1 3 V5.heap.size W6 A7 c7 q) := hid (hF9)
 have loS6_3 := S6_3.out.lo
 have hiS6_3 := S6_3.out.hi
 clear hF9
 go_wp2_with (fail)
 refine calls_named ?_
 intro V7 hV
 have hk : Below W6.heap.size W6 V7 := by rw [hV]; (repeat' (first | with_reducible exact Below.refl _ _ | with_reducible assumption | with_reducible refine Below.setCell ?_ ?_ _ | with_reducible refine Below.drew ?_ | with_reducible refine Below.alloc ?_ ?_ _ | with_reducible refine Below.trans ?_ (Below.mono (by assumption) ?_) | (dsimp only; omega) | (simp; done) | (simp; omega) | omega))
 have hkz7 := hk.size
 have c7_0 : V7.cell? ⟨tb, 0, none⟩ = some (.int .i64 d) := (hk.cell (p := ⟨tb, 0, none⟩) (by show tb < _; omega)).trans c6_0
 have c7_1 : V7.cell? ⟨tb, 1, none⟩ = some (.slice Af xs.length cf) := (hk.cell (p := ⟨tb, 1, none⟩) (by show tb < _; omega)).trans c6_1
 have b7_0 : tb < V7.heap.size := by omega
 have R7_0 := hid (FreshA.below (cf := cIv) (sz := 2) (T := 50) (B := V1.heap.size) R6_0.out hk)
 have R7_1 := hid (FreshA.below (cf := cIn) (sz := 1) (T := 3) (B := V1.heap.size) R6_1.out hk)
 have R7_2 := hid (FreshA.below (cf := cIn) (sz := 1) (T := 3) (B := V1.heap.size) R6_2.out hk)
 have R7_3 := hid (FreshA.below (cf := cIn) (sz := 1) (T := 3) (B := V5.heap.size) S6_3.out hk)
 have hw7 : Below w.heap.size w V7 := Below.trans hw (Below.mono hk (by have := hw.size; omega))
 clear hw hk
 have hw := hw7
 clear hw7
 have hwz := hw.size
 clear c6_0 c6_1 R6_0 R6_1 R6_2 S6_3
 clear hV
 refine (c_spec_FewestOpenings d Af xs cf Bq rs cq pp _ R7_0.out.rds (by omega) R7_1.out.rds (by omega)).mono ?_
 simp only [HF.out]
 rintro e W8 ⟨A8, c8, rfl, hF9, hb⟩
 have hk : Below V7.heap.size V7 W8 := hb
 have hkz8 := hk.size
 have c8_0 : W8.cell? ⟨tb, 0, none⟩ = some (.int .i64 d) := (hb.cell (p := ⟨tb, 0, none⟩) (by show tb < _; omega)).trans c7_0
 have c8_1 : W8.cell? ⟨tb, 1, none⟩ = some (.slice Af xs.length cf) := (hb.cell (p := ⟨tb, 1, none⟩) (by show tb < _; omega)).trans c7_1
 have b8_0 : tb < W8.heap.size := by omega
 have R8_0 := hid (FreshA.below (cf := cIv) (sz := 2) (T := 50) (B := V1.heap.size) R7_0.out hk)
 have R8_1 := hid (FreshA.below (cf := cIn) (sz := 1) (T := 3) (B := V1.heap.size) R7_1.out hk)
 have R8_2 := hid (FreshA.below (cf := cIn) (sz := 1) (T := 3) (B := V1.heap.size) R7_2.out hk)
 have R8_3 := hid (FreshA.below (cf := cIn) (sz := 1) (T := 3) (B := V5.heap.size) R7_3.out hk)
 have hw8 : Below w.heap.size w W8 := Below.trans hw (Below.mono hk (by have := hw.size; omega))
 clear hw hk
 have hw := hw8
 clear hw8
 have hwz := hw.size
 clear c7_0 c7_1 R7_0 R7_1 R7_2 R7_3
 clear hb
 have S8_4 : Hid (FreshA cIn 1 3 V7.heap.size W8 A8 c8 q) := hid (hF9)
 have loS8_4 := S8_4.out.lo
 have hiS8_4 := S8_4.out.hi
 clear hF9
 go_wp2_with (fail)
 refine calls_named ?_
 intro V9 hV
 have hk : Below W8.heap.size W8 V9 := by rw [hV]; (repeat' (first | with_reducible exact Below.refl _ _ | with_reducible assumption | with_reducible refine Below.setCell ?_ ?_ _ | with_reducible refine Below.drew ?_ | with_reducible refine Below.alloc ?_ ?_ _ | with_reducible refine Below.trans ?_ (Below.mono (by assumption) ?_) | (dsimp only; omega) | (simp; done) | (simp; omega) | omega))
 have hkz9 := hk.size
 have c9_0 : V9.cell? ⟨tb, 0, none⟩ = some (.int .i64 d) := (hk.cell (p := ⟨tb, 0, none⟩) (by show tb < _; omega)).trans c8_0
 have c9_1 : V9.cell? ⟨tb, 1, none⟩ = some (.slice Af xs.length cf) := (hk.cell (p := ⟨tb, 1, none⟩) (by show tb < _; omega)).trans c8_1
 have b9_0 : tb < V9.heap.size := by omega
 have R9_0 := hid (FreshA.below (cf := cIv) (sz := 2) (T := 50) (B := V1.heap.size) R8_0.out hk)
 have R9_1 := hid (FreshA.below (cf := cIn) (sz := 1) (T := 3) (B := V1.heap.size) R8_1.out hk)
 have R9_2 := hid (FreshA.below (cf := cIn) (sz := 1) (T := 3) (B := V1.heap.size) R8_2.out hk)
 have R9_3 := hid (FreshA.below (cf := cIn) (sz := 1) (T := 3) (B := V5.heap.size) R8_3.out hk)
 have R9_4 := hid (FreshA.below (cf := cIn) (sz := 1) (T := 3) (B := V7.heap.size) S8_4.out hk)
 have hw9 : Below w.heap.size w V9 := Below.trans hw (Below.mono hk (by have := hw.size; omega))
 clear hw hk
 have hw := hw9
 clear hw9
 have hwz := hw.size
 clear c8_0 c8_1 R8_0 R8_1 R8_2 R8_3 S8_4
 clear hV
 refine (c_laws_vInts A7 A8 q c7 c8 _ R9_3.out.rds R9_4.out.rds (by omega)).mono ?_
 rintro e W10 ⟨rfl, hb⟩
 have hk : Below V9.heap.size V9 W10 := hb
 have hkz10 := hk.size
 have c10_0 : W10.cell? ⟨tb, 0, none⟩ = some (.int .i64 d) := (hb.cell (p := ⟨tb, 0, none⟩) (by show tb < _; omega)).trans c9_0
 have c10_1 : W10.cell? ⟨tb, 1, none⟩ = some (.slice Af xs.length cf) := (hb.cell (p := ⟨tb, 1, none⟩) (by show tb < _; omega)).trans c9_1
 have b10_0 : tb < W10.heap.size := by omega
 have R10_0 := hid (FreshA.below (cf := cIv) (sz := 2) (T := 50) (B := V1.heap.size) R9_0.out hk)
 have R10_1 := hid (FreshA.below (cf := cIn) (sz := 1) (T := 3) (B := V1.heap.size) R9_1.out hk)
 have R10_2 := hid (FreshA.below (cf := cIn) (sz := 1) (T := 3) (B := V1.heap.size) R9_2.out hk)
 have R10_3 := hid (FreshA.below (cf := cIn) (sz := 1) (T := 3) (B := V5.heap.size) R9_3.out hk)
 have R10_4 := hid (FreshA.below (cf := cIn) (sz := 1) (T := 3) (B := V7.heap.size) R9_4.out hk)
 have hw10 : Below w.heap.size w W10 := Below.trans hw (Below.mono hk (by have := hw.size; omega))
 clear hw hk
 have hw := hw10
 clear hw10
 have hwz := hw.size
 clear c9_0 c9_1 R9_0 R9_1 R9_2 R9_3 R9_4
 clear hb
 clear R10_4
 have hkp := (HQ4.out (by first | trivial | rfl)).1
 have HKP := hid hkp; clear hkp
 have hle := (HQ4.out (by first | trivial | rfl)).2 (by first | trivial | rfl)
 go_wp2_with (fail)
 refine calls_named ?_
 intro V11 hV
 have hk : Below W10.heap.size W10 V11 := by rw [hV]; (repeat' (first | with_reducible exact Below.refl _ _ | with_reducible assumption | with_reducible refine Below.setCell ?_ ?_ _ | with_reducible refine Below.drew ?_ | with_reducible refine Below.alloc ?_ ?_ _ | with_reducible refine Below.trans ?_ (Below.mono (by assumption) ?_) | (dsimp only; omega) | (simp; done) | (simp; omega) | omega))
 have hkz11 := hk.size
 have c11_0 : V11.cell? ⟨tb, 0, none⟩ = some (.int .i64 d) := (hk.cell (p := ⟨tb, 0, none⟩) (by show tb < _; omega)).trans c10_0
 have c11_1 : V11.cell? ⟨tb, 1, none⟩ = some (.slice Af xs.length cf) := (hk.cell (p := ⟨tb, 1, none⟩) (by show tb < _; omega)).trans c10_1
 have b11_0 : tb < V11.heap.size := by omega
 have R11_0 := hid (FreshA.below (cf := cIv) (sz := 2) (T := 50) (B := V1.heap.size) R10_0.out hk)
 have R11_1 := hid (FreshA.below (cf := cIn) (sz := 1) (T := 3) (B := V1.heap.size) R10_1.out hk)
 have R11_2 := hid (FreshA.below (cf := cIn) (sz := 1) (T := 3) (B := V1.heap.size) R10_2.out hk)
 have R11_3 := hid (FreshA.below (cf := cIn) (sz := 1) (T := 3) (B := V5.heap.size) R10_3.out hk)
 have hw11 : Below w.heap.size w V11 := Below.trans hw (Below.mono hk (by have := hw.size; omega))
 clear hw hk
 have hw := hw11
 clear hw11
 have hwz := hw.size
 clear c10_0 c10_1 R10_0 R10_1 R10_2 R10_3
 clear hV
 refine (c_impl_IsBridgePlan d Af xs cf Bq rs cq pp A7 q c7 _ R11_0.out.rds (by omega) R11_1.out.rds (by omega) R11_3.out.rds (by omega)).mono ?_
 simp only [HKP.out]
 rintro e W12 ⟨rfl, hb⟩
 have hk : Below V11.heap.size V11 W12 := hb
 have hkz12 := hk.size
 have c12_0 : W12.cell? ⟨tb, 0, none⟩ = some (.int .i64 d) := (hb.cell (p := ⟨tb, 0, none⟩) (by show tb < _; omega)).trans c11_0
 have c12_1 : W12.cell? ⟨tb, 1, none⟩ = some (.slice Af xs.length cf) := (hb.cell (p := ⟨tb, 1, none⟩) (by show tb < _; omega)).trans c11_1
 have b12_0 : tb < W12.heap.size := by omega
 have R12_0 := hid (FreshA.below (cf := cIv) (sz := 2) (T := 50) (B := V1.heap.size) R11_0.out hk)
 have R12_1 := hid (FreshA.below (cf := cIn) (sz := 1) (T := 3) (B := V1.heap.size) R11_1.out hk)
 have R12_2 := hid (FreshA.below (cf := cIn) (sz := 1) (T := 3) (B := V1.heap.size) R11_2.out hk)
 have R12_3 := hid (FreshA.below (cf := cIn) (sz := 1) (T := 3) (B := V5.heap.size) R11_3.out hk)
 have hw12 : Below w.heap.size w W12 := Below.trans hw (Below.mono hk (by have := hw.size; omega))
 clear hw hk
 have hw := hw12
 clear hw12
 have hwz := hw.size
 clear c11_0 c11_1 R11_0 R11_1 R11_2 R11_3
 clear hb
 clear R12_3
 go_wp2_with (fail)
 refine calls_named ?_
 intro V13 hV
 have hk : Below W12.heap.size W12 V13 := by rw [hV]; (repeat' (first | with_reducible exact Below.refl _ _ | with_reducible assumption | with_reducible refine Below.setCell ?_ ?_ _ | with_reducible refine Below.drew ?_ | with_reducible refine Below.alloc ?_ ?_ _ | with_reducible refine Below.trans ?_ (Below.mono (by assumption) ?_) | (dsimp only; omega) | (simp; done) | (simp; omega) | omega))
 have hkz13 := hk.size
 have c13_0 : V13.cell? ⟨tb, 0, none⟩ = some (.int .i64 d) := (hk.cell (p := ⟨tb, 0, none⟩) (by show tb < _; omega)).trans c12_0
 have c13_1 : V13.cell? ⟨tb, 1, none⟩ = some (.slice Af xs.length cf) := (hk.cell (p := ⟨tb, 1, none⟩) (by show tb < _; omega)).trans c12_1
 have b13_0 : tb < V13.heap.size := by omega
 have R13_0 := hid (FreshA.below (cf := cIv) (sz := 2) (T := 50) (B := V1.heap.size) R12_0.out hk)
 have R13_1 := hid (FreshA.below (cf := cIn) (sz := 1) (T := 3) (B := V1.heap.size) R12_1.out hk)
 have R13_2 := hid (FreshA.below (cf := cIn) (sz := 1) (T := 3) (B := V1.heap.size) R12_2.out hk)
 have hw13 : Below w.heap.size w V13 := Below.trans hw (Below.mono hk (by have := hw.size; omega))
 clear hw hk
 have hw := hw13
 clear hw13
 have hwz := hw.size
 clear c12_0 c12_1 R12_0 R12_1 R12_2
 clear hV
 refine (c_impl_WaitingSum d Af xs cf Bq rs cq pp Ap pl cp _ R13_0.out.rds (by omega) R13_1.out.rds (by omega) R13_2.out.rds (by omega)).mono ?_
 simp only [HS.out]
 rintro e W14 ⟨rfl, hb⟩
 have hk : Below V13.heap.size V13 W14 := hb
 have hkz14 := hk.size
 have c14_0 : W14.cell? ⟨tb, 0, none⟩ = some (.int .i64 d) := (hb.cell (p := ⟨tb, 0, none⟩) (by show tb < _; omega)).trans c13_0
 have c14_1 : W14.cell? ⟨tb, 1, none⟩ = some (.slice Af xs.length cf) := (hb.cell (p := ⟨tb, 1, none⟩) (by show tb < _; omega)).trans c13_1
 have b14_0 : tb < W14.heap.size := by omega
 have R14_0 := hid (FreshA.below (cf := cIv) (sz := 2) (T := 50) (B := V1.heap.size) R13_0.out hk)
 have R14_1 := hid (FreshA.below (cf := cIn) (sz := 1) (T := 3) (B := V1.heap.size) R13_1.out hk)
 have R14_2 := hid (FreshA.below (cf := cIn) (sz := 1) (T := 3) (B := V1.heap.size) R13_2.out hk)
 have hw14 : Below w.heap.size w W14 := Below.trans hw (Below.mono hk (by have := hw.size; omega))
 clear hw hk
 have hw := hw14
 clear hw14
 have hwz := hw.size
 clear c13_0 c13_1 R13_0 R13_1 R13_2
 clear hb
 go_wp2_with (fail)
 refine calls_named ?_
 intro V15 hV
 have hk : Below W14.heap.size W14 V15 := by rw [hV]; (repeat' (first | with_reducible exact Below.refl _ _ | with_reducible assumption | with_reducible refine Below.setCell ?_ ?_ _ | with_reducible refine Below.drew ?_ | with_reducible refine Below.alloc ?_ ?_ _ | with_reducible refine Below.trans ?_ (Below.mono (by assumption) ?_) | (dsimp only; omega) | (simp; done) | (simp; omega) | omega))
 have hkz15 := hk.size
 have c15_0 : V15.cell? ⟨tb, 0, none⟩ = some (.int .i64 d) := (hk.cell (p := ⟨tb, 0, none⟩) (by show tb < _; omega)).trans c14_0
 have c15_1 : V15.cell? ⟨tb, 1, none⟩ = some (.slice Af xs.length cf) := (hk.cell (p := ⟨tb, 1, none⟩) (by show tb < _; omega)).trans c14_1
 have b15_0 : tb < V15.heap.size := by omega
 have R15_0 := hid (FreshA.below (cf := cIv) (sz := 2) (T := 50) (B := V1.heap.size) R14_0.out hk)
 have R15_1 := hid (FreshA.below (cf := cIn) (sz := 1) (T := 3) (B := V1.heap.size) R14_1.out hk)
 have R15_2 := hid (FreshA.below (cf := cIn) (sz := 1) (T := 3) (B := V1.heap.size) R14_2.out hk)
 have hw15 : Below w.heap.size w V15 := Below.trans hw (Below.mono hk (by have := hw.size; omega))
 clear hw hk
 have hw := hw15
 clear hw15
 have hwz := hw.size
 clear c14_0 c14_1 R14_0 R14_1 R14_2
 clear hV
 refine (c_spec_WaitingSum d Af xs cf Bq rs cq pp Ap pl cp _ R15_0.out.rds (by omega) R15_1.out.rds (by omega) R15_2.out.rds (by omega)).mono ?_
 simp only [HS.out]
 rintro e W16 ⟨rfl, hb⟩
 have hk : Below V15.heap.size V15 W16 := hb
 have hkz16 := hk.size
 have c16_0 : W16.cell? ⟨tb, 0, none⟩ = some (.int .i64 d) := (hb.cell (p := ⟨tb, 0, none⟩) (by show tb < _; omega)).trans c15_0
 have c16_1 : W16.cell? ⟨tb, 1, none⟩ = some (.slice Af xs.length cf) := (hb.cell (p := ⟨tb, 1, none⟩) (by show tb < _; omega)).trans c15_1
 have b16_0 : tb < W16.heap.size := by omega
 have R16_0 := hid (FreshA.below (cf := cIv) (sz := 2) (T := 50) (B := V1.heap.size) R15_0.out hk)
 have R16_1 := hid (FreshA.below (cf := cIn) (sz := 1) (T := 3) (B := V1.heap.size) R15_1.out hk)
 have R16_2 := hid (FreshA.below (cf := cIn) (sz := 1) (T := 3) (B := V1.heap.size) R15_2.out hk)
 have hw16 : Below w.heap.size w W16 := Below.trans hw (Below.mono hk (by have := hw.size; omega))
 clear hw hk
 have hw := hw16
 clear hw16
 have hwz := hw.size
 clear c15_0 c15_1 R15_0 R15_1 R15_2
 clear hb
 go_wp2_with (fail)
 refine calls_named ?_
 intro V17 hV
 have hk : Below W16.heap.size W16 V17 := by rw [hV]; (repeat' (first | with_reducible exact Below.refl _ _ | with_reducible assumption | with_reducible refine Below.setCell ?_ ?_ _ | with_reducible refine Below.drew ?_ | with_reducible refine Below.alloc ?_ ?_ _ | with_reducible refine Below.trans ?_ (Below.mono (by assumption) ?_) | (dsimp only; omega) | (simp; done) | (simp; omega) | omega))
 have hkz17 := hk.size
 have c17_0 : V17.cell? ⟨tb, 0, none⟩ = some (.int .i64 d) := (hk.cell (p := ⟨tb, 0, none⟩) (by show tb < _; omega)).trans c16_0
 have c17_1 : V17.cell? ⟨tb, 1, none⟩ = some (.slice Af xs.length cf) := (hk.cell (p := ⟨tb, 1, none⟩) (by show tb < _; omega)).trans c16_1
 have b17_0 : tb < V17.heap.size := by omega
 have R17_0 := hid (FreshA.below (cf := cIv) (sz := 2) (T := 50) (B := V1.heap.size) R16_0.out hk)
 have R17_1 := hid (FreshA.below (cf := cIn) (sz := 1) (T := 3) (B := V1.heap.size) R16_1.out hk)
 have R17_2 := hid (FreshA.below (cf := cIn) (sz := 1) (T := 3) (B := V1.heap.size) R16_2.out hk)
 have hw17 : Below w.heap.size w V17 := Below.trans hw (Below.mono hk (by have := hw.size; omega))
 clear hw hk
 have hw := hw17
 clear hw17
 have hwz := hw.size
 clear c16_0 c16_1 R16_0 R16_1 R16_2
 clear hV
 refine (c_impl_OpenMinutes d Af xs cf Bq rs cq pp Ap pl cp _ R17_0.out.rds (by omega) R17_1.out.rds (by omega) R17_2.out.rds (by omega)).mono ?_
 simp only [HO.out]
 rintro e W18 ⟨rfl, hb⟩
 have hk : Below V17.heap.size V17 W18 := hb
 have hkz18 := hk.size
 have c18_0 : W18.cell? ⟨tb, 0, none⟩ = some (.int .i64 d) := (hb.cell (p := ⟨tb, 0, none⟩) (by show tb < _; omega)).trans c17_0
 have c18_1 : W18.cell? ⟨tb, 1, none⟩ = some (.slice Af xs.length cf) := (hb.cell (p := ⟨tb, 1, none⟩) (by show tb < _; omega)).trans c17_1
 have b18_0 : tb < W18.heap.size := by omega
 have R18_0 := hid (FreshA.below (cf := cIv) (sz := 2) (T := 50) (B := V1.heap.size) R17_0.out hk)
 have R18_1 := hid (FreshA.below (cf := cIn) (sz := 1) (T := 3) (B := V1.heap.size) R17_1.out hk)
 have R18_2 := hid (FreshA.below (cf := cIn) (sz := 1) (T := 3) (B := V1.heap.size) R17_2.out hk)
 have hw18 : Below w.heap.size w W18 := Below.trans hw (Below.mono hk (by have := hw.size; omega))
 clear hw hk
 have hw := hw18
 clear hw18
 have hwz := hw.size
 clear c17_0 c17_1 R17_0 R17_1 R17_2
 clear hb
 go_wp2_with (fail)
 refine calls_named ?_
 intro V19 hV
 have hk : Below W18.heap.size W18 V19 := by rw [hV]; (repeat' (first | with_reducible exact Below.refl _ _ | with_reducible assumption | with_reducible refine Below.setCell ?_ ?_ _ | with_reducible refine Below.drew ?_ | with_reducible refine Below.alloc ?_ ?_ _ | with_reducible refine Below.trans ?_ (Below.mono (by assumption) ?_) | (dsimp only; omega) | (simp; done) | (simp; omega) | omega))
 have hkz19 := hk.size
 have c19_0 : V19.cell? ⟨tb, 0, none⟩ = some (.int .i64 d) := (hk.cell (p := ⟨tb, 0, none⟩) (by show tb < _; omega)).trans c18_0
 have c19_1 : V19.cell? ⟨tb, 1, none⟩ = some (.slice Af xs.length cf) := (hk.cell (p := ⟨tb, 1, none⟩) (by show tb < _; omega)).trans c18_1
 have b19_0 : tb < V19.heap.size := by omega
 have R19_0 := hid (FreshA.below (cf := cIv) (sz := 2) (T := 50) (B := V1.heap.size) R18_0.out hk)
 have R19_1 := hid (FreshA.below (cf := cIn) (sz := 1) (T := 3) (B := V1.heap.size) R18_1.out hk)
 have R19_2 := hid (FreshA.below (cf := cIn) (sz := 1) (T := 3) (B := V1.heap.size) R18_2.out hk)
 have hw19 : Below w.heap.size w V19 := Below.trans hw (Below.mono hk (by have := hw.size; omega))
 clear hw hk
 have hw := hw19
 clear hw19
 have hwz := hw.size
 clear c18_0 c18_1 R18_0 R18_1 R18_2
 clear hV
 refine (c_spec_OpenMinutes d Af xs cf Bq rs cq pp Ap pl cp _ R19_0.out.rds (by omega) R19_1.out.rds (by omega) R19_2.out.rds (by omega)).mono ?_
 simp only [HO.out]
 rintro e W20 ⟨rfl, hb⟩
 have hk : Below V19.heap.size V19 W20 := hb
 have hkz20 := hk.size
 have c20_0 : W20.cell? ⟨tb, 0, none⟩ = some (.int .i64 d) := (hb.cell (p := ⟨tb, 0, none⟩) (by show tb < _; omega)).trans c19_0
 have c20_1 : W20.cell? ⟨tb, 1, none⟩ = some (.slice Af xs.length cf) := (hb.cell (p := ⟨tb, 1, none⟩) (by show tb < _; omega)).trans c19_1
 have b20_0 : tb < W20.heap.size := by omega
 have R20_0 := hid (FreshA.below (cf := cIv) (sz := 2) (T := 50) (B := V1.heap.size) R19_0.out hk)
 have R20_1 := hid (FreshA.below (cf := cIn) (sz := 1) (T := 3) (B := V1.heap.size) R19_1.out hk)
 have R20_2 := hid (FreshA.below (cf := cIn) (sz := 1) (T := 3) (B := V1.heap.size) R19_2.out hk)
 have hw20 : Below w.heap.size w W20 := Below.trans hw (Below.mono hk (by have := hw.size; omega))
 clear hw hk
 have hw := hw20
 clear hw20
 have hwz := hw.size
 clear c19_0 c19_1 R19_0 R19_1 R19_2
 clear hb
 go_wp2_with (fail)
 go_ret
 exact ⟨by first | rfl | exact ret_bool (by simp), by first | exact hw | (repeat' (first | with_reducible exact Below.refl _ _ | with_reducible assumption | with_reducible refine Below.setCell ?_ ?_ _ | with_reducible refine Below.drew ?_ | with_reducible refine Below.alloc ?_ ?_ _ | with_reducible refine Below.trans ?_ (Below.mono (by assumption) ?_) | (dsimp only; omega) | (simp; done) | (simp; omega) | omega))⟩

end Go.Proofs.Yteciijnpfapmhaa
