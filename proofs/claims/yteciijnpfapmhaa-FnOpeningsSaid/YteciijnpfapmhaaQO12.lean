import Derived.Test.YteciijnpfapmhaaQO05
import Derived.Test.YteciijnpfapmhaaQO06
import Derived.Test.YteciijnpfapmhaaQO07
import Derived.Test.YteciijnpfapmhaaQO03
import Derived.Test.YteciijnpfapmhaaQO08
import Derived.Test.YteciijnpfapmhaaQO11
namespace Go.Proofs.Yteciijnpfapmhaa
set_option linter.unusedSimpArgs false
set_option linter.unusedVariables false
open Go.RowKit

set_option maxRecDepth 100000 in
set_option maxHeartbeats 16000000 in
theorem c_laws_FnOpenings (A : Option Addr) (cs : List Int) (cap : Nat) (w : World) (hr : Rds cB 1 w A cs) (hby : Bytes cs) (hn : cs.length ≤ 9223372036854775807) :
    Calls Try.prog 13 #[.slice A cs.length cap] w fun e w' => e = .returned (.bool true) ∧ Below w.heap.size w w' := by
  by_cases hbig : 65536 < cs.length
  · go_enter Try.func13, Try.ntmps13
    go_wp2_with (fail)
    refine (c_laws_vBig _ _ _ _ (by omega)).mono ?_
    rintro e W1 ⟨rfl, hb1⟩
    simp only [show decide (65536 < cs.length) = true by simp; omega]
    go_wp2_with (fail)
    go_ret
    exact ⟨rfl, by (repeat' (first | exact Below.refl _ _ | assumption | refine Below.setCell ?_ ?_ _ | refine Below.drew ?_ | refine Below.alloc ?_ ?_ _ | refine Below.trans ?_ (Below.mono (by assumption) ?_) | (simp; done) | (simp; omega) | omega))⟩
  go_enter Try.func13, Try.ntmps13
  go_wp2_with (fail)
  refine (c_laws_vBig _ _ _ _ (by omega)).mono ?_
  rintro e W1 ⟨rfl, hw⟩
  simp only [show decide (65536 < cs.length) = false by simp; omega]
  have hwz := hw.size
  go_wp2_with (fail)
  refine calls_named ?_
  intro V1 hV
  have hk : Below W1.heap.size W1 V1 := by rw [hV]; (repeat' (first | with_reducible exact Below.refl _ _ | with_reducible assumption | with_reducible refine Below.setCell ?_ ?_ _ | with_reducible refine Below.drew ?_ | with_reducible refine Below.alloc ?_ ?_ _ | with_reducible refine Below.trans ?_ (Below.mono (by assumption) ?_) | (dsimp only; omega) | (simp; done) | (simp; omega) | omega))
  have hkz1 := hk.size
  have hw1 : Below w.heap.size w V1 := Below.trans hw (Below.mono hk (by have := hw.size; omega))
  clear hw hk
  have hw := hw1
  clear hw1
  have hwz := hw.size
  clear hV
  refine (c_spec_DrawNextOpening A cs cap _ (Rds.below hr hw) hby (by omega)).mono ?_
  rintro e W2 ⟨d, Af, cf, xs, tt, rfl, hFf, hxl, hb⟩
  have hk : Below V1.heap.size V1 W2 := hb
  have hkz2 := hk.size
  have hw2 : Below w.heap.size w W2 := Below.trans hw (Below.mono hk (by have := hw.size; omega))
  clear hw hk
  have hw := hw2
  clear hw2
  have hwz := hw.size
  clear hb
  have S2_0 : Hid (FreshA cIv 2 50 V1.heap.size W2 Af cf xs) := hid (hFf)
  have loS2_0 := S2_0.out.lo
  have hiS2_0 := S2_0.out.hi
  clear hFf
  obtain ⟨nx, ok, hNx⟩ : ∃ nx ok, nextV d xs tt = (nx, ok) := ⟨_, _, rfl⟩
  obtain ⟨ma, told, hMa⟩ : ∃ ma told, mayV d xs tt = (ma, told) := ⟨_, _, rfl⟩
  have hop := op_next hNx hMa
  have HN := hid hNx; have HM := hid hMa; have HOP := hid hop; clear hNx hMa hop
  go_wp2_with (fail)
  refine calls_named ?_
  intro V3 hV
  have hk : Below W2.heap.size W2 V3 := by rw [hV]; (repeat' (first | with_reducible exact Below.refl _ _ | with_reducible assumption | with_reducible refine Below.setCell ?_ ?_ _ | with_reducible refine Below.drew ?_ | with_reducible refine Below.alloc ?_ ?_ _ | with_reducible refine Below.trans ?_ (Below.mono (by assumption) ?_) | (dsimp only; omega) | (simp; done) | (simp; omega) | omega))
  have hkz3 := hk.size
  have R3_0 := hid (FreshA.below (cf := cIv) (sz := 2) (T := 50) (B := V1.heap.size) S2_0.out hk)
  have hw3 : Below w.heap.size w V3 := Below.trans hw (Below.mono hk (by have := hw.size; omega))
  clear hw hk
  have hw := hw3
  clear hw3
  have hwz := hw.size
  clear S2_0
  have d3_0 : V3.cell? ⟨W2.heap.size, 0, none⟩ = some (.int .i64 d) := by rw [hV]; first | (simp [go_sem, ↓IntWalk.iteOmega, *]; done) | (simp [go_sem, ↓IntWalk.iteOmega, *]; intros; omega)
  have d3_1 : V3.cell? ⟨W2.heap.size, 1, none⟩ = some (.slice Af xs.length cf) := by rw [hV]; first | (simp [go_sem, ↓IntWalk.iteOmega, *]; done) | (simp [go_sem, ↓IntWalk.iteOmega, *]; intros; omega)
  have e3_0 : W2.heap.size < V3.heap.size := by rw [hV]; first | (simp; done) | (simp; omega)
  clear hV
  generalize htbtb : W2.heap.size = tb at *
  refine (c_impl_NextOpening d Af xs cf tt _ R3_0.out.rds (by omega)).mono ?_
  simp only [HN.out]
  rintro e W4 ⟨rfl, hb⟩
  have hk : Below V3.heap.size V3 W4 := hb
  have hkz4 := hk.size
  have c4_0 : W4.cell? ⟨tb, 0, none⟩ = some (.int .i64 d) := (hb.cell (p := ⟨tb, 0, none⟩) (by show tb < _; omega)).trans d3_0
  have c4_1 : W4.cell? ⟨tb, 1, none⟩ = some (.slice Af xs.length cf) := (hb.cell (p := ⟨tb, 1, none⟩) (by show tb < _; omega)).trans d3_1
  have b4_0 : tb < W4.heap.size := by omega
  have R4_0 := hid (FreshA.below (cf := cIv) (sz := 2) (T := 50) (B := V1.heap.size) R3_0.out hk)
  have hw4 : Below w.heap.size w W4 := Below.trans hw (Below.mono hk (by have := hw.size; omega))
  clear hw hk
  have hw := hw4
  clear hw4
  have hwz := hw.size
  clear d3_0 d3_1 R3_0
  clear hb
  go_wp2_with (fail)
  refine calls_named ?_
  intro V5 hV
  have hk : Below W4.heap.size W4 V5 := by rw [hV]; (repeat' (first | with_reducible exact Below.refl _ _ | with_reducible assumption | with_reducible refine Below.setCell ?_ ?_ _ | with_reducible refine Below.drew ?_ | with_reducible refine Below.alloc ?_ ?_ _ | with_reducible refine Below.trans ?_ (Below.mono (by assumption) ?_) | (dsimp only; omega) | (simp; done) | (simp; omega) | omega))
  have hkz5 := hk.size
  have c5_0 : V5.cell? ⟨tb, 0, none⟩ = some (.int .i64 d) := (hk.cell (p := ⟨tb, 0, none⟩) (by show tb < _; omega)).trans c4_0
  have c5_1 : V5.cell? ⟨tb, 1, none⟩ = some (.slice Af xs.length cf) := (hk.cell (p := ⟨tb, 1, none⟩) (by show tb < _; omega)).trans c4_1
  have b5_0 : tb < V5.heap.size := by omega
  have R5_0 := hid (FreshA.below (cf := cIv) (sz := 2) (T := 50) (B := V1.heap.size) R4_0.out hk)
  have hw5 : Below w.heap.size w V5 := Below.trans hw (Below.mono hk (by have := hw.size; omega))
  clear hw hk
  have hw := hw5
  clear hw5
  have hwz := hw.size
  clear c4_0 c4_1 R4_0
  clear hV
  refine (c_spec_NextOpening d Af xs cf tt _ R5_0.out.rds (by omega)).mono ?_
  simp only [HN.out]
  rintro e W6 ⟨rfl, hb⟩
  have hk : Below V5.heap.size V5 W6 := hb
  have hkz6 := hk.size
  have c6_0 : W6.cell? ⟨tb, 0, none⟩ = some (.int .i64 d) := (hb.cell (p := ⟨tb, 0, none⟩) (by show tb < _; omega)).trans c5_0
  have c6_1 : W6.cell? ⟨tb, 1, none⟩ = some (.slice Af xs.length cf) := (hb.cell (p := ⟨tb, 1, none⟩) (by show tb < _; omega)).trans c5_1
  have b6_0 : tb < W6.heap.size := by omega
  have R6_0 := hid (FreshA.below (cf := cIv) (sz := 2) (T := 50) (B := V1.heap.size) R5_0.out hk)
  have hw6 : Below w.heap.size w W6 := Below.trans hw (Below.mono hk (by have := hw.size; omega))
  clear hw hk
  have hw := hw6
  clear hw6
  have hwz := hw.size
  clear c5_0 c5_1 R5_0
  clear hb
  go_wp2_with (fail)
  refine calls_named ?_
  intro V7 hV
  have hk : Below W6.heap.size W6 V7 := by rw [hV]; (repeat' (first | with_reducible exact Below.refl _ _ | with_reducible assumption | with_reducible refine Below.setCell ?_ ?_ _ | with_reducible refine Below.drew ?_ | with_reducible refine Below.alloc ?_ ?_ _ | with_reducible refine Below.trans ?_ (Below.mono (by assumption) ?_) | (dsimp only; omega) | (simp; done) | (simp; omega) | omega))
  have hkz7 := hk.size
  have c7_0 : V7.cell? ⟨tb, 0, none⟩ = some (.int .i64 d) := (hk.cell (p := ⟨tb, 0, none⟩) (by show tb < _; omega)).trans c6_0
  have c7_1 : V7.cell? ⟨tb, 1, none⟩ = some (.slice Af xs.length cf) := (hk.cell (p := ⟨tb, 1, none⟩) (by show tb < _; omega)).trans c6_1
  have b7_0 : tb < V7.heap.size := by omega
  have R7_0 := hid (FreshA.below (cf := cIv) (sz := 2) (T := 50) (B := V1.heap.size) R6_0.out hk)
  have hw7 : Below w.heap.size w V7 := Below.trans hw (Below.mono hk (by have := hw.size; omega))
  clear hw hk
  have hw := hw7
  clear hw7
  have hwz := hw.size
  clear c6_0 c6_1 R6_0
  clear hV
  refine (c_impl_MayOpen d Af xs cf tt _ R7_0.out.rds (by omega)).mono ?_
  simp only [HM.out]
  rintro e W8 ⟨rfl, hb⟩
  have hk : Below V7.heap.size V7 W8 := hb
  have hkz8 := hk.size
  have c8_0 : W8.cell? ⟨tb, 0, none⟩ = some (.int .i64 d) := (hb.cell (p := ⟨tb, 0, none⟩) (by show tb < _; omega)).trans c7_0
  have c8_1 : W8.cell? ⟨tb, 1, none⟩ = some (.slice Af xs.length cf) := (hb.cell (p := ⟨tb, 1, none⟩) (by show tb < _; omega)).trans c7_1
  have b8_0 : tb < W8.heap.size := by omega
  have R8_0 := hid (FreshA.below (cf := cIv) (sz := 2) (T := 50) (B := V1.heap.size) R7_0.out hk)
  have hw8 : Below w.heap.size w W8 := Below.trans hw (Below.mono hk (by have := hw.size; omega))
  clear hw hk
  have hw := hw8
  clear hw8
  have hwz := hw.size
  clear c7_0 c7_1 R7_0
  clear hb
  go_wp2_with (fail)
  refine calls_named ?_
  intro V9 hV
  have hk : Below W8.heap.size W8 V9 := by rw [hV]; (repeat' (first | with_reducible exact Below.refl _ _ | with_reducible assumption | with_reducible refine Below.setCell ?_ ?_ _ | with_reducible refine Below.drew ?_ | with_reducible refine Below.alloc ?_ ?_ _ | with_reducible refine Below.trans ?_ (Below.mono (by assumption) ?_) | (dsimp only; omega) | (simp; done) | (simp; omega) | omega))
  have hkz9 := hk.size
  have c9_0 : V9.cell? ⟨tb, 0, none⟩ = some (.int .i64 d) := (hk.cell (p := ⟨tb, 0, none⟩) (by show tb < _; omega)).trans c8_0
  have c9_1 : V9.cell? ⟨tb, 1, none⟩ = some (.slice Af xs.length cf) := (hk.cell (p := ⟨tb, 1, none⟩) (by show tb < _; omega)).trans c8_1
  have b9_0 : tb < V9.heap.size := by omega
  have R9_0 := hid (FreshA.below (cf := cIv) (sz := 2) (T := 50) (B := V1.heap.size) R8_0.out hk)
  have hw9 : Below w.heap.size w V9 := Below.trans hw (Below.mono hk (by have := hw.size; omega))
  clear hw hk
  have hw := hw9
  clear hw9
  have hwz := hw.size
  clear c8_0 c8_1 R8_0
  clear hV
  refine (c_spec_MayOpen d Af xs cf tt _ R9_0.out.rds (by omega)).mono ?_
  simp only [HM.out]
  rintro e W10 ⟨rfl, hb⟩
  have hk : Below V9.heap.size V9 W10 := hb
  have hkz10 := hk.size
  have c10_0 : W10.cell? ⟨tb, 0, none⟩ = some (.int .i64 d) := (hb.cell (p := ⟨tb, 0, none⟩) (by show tb < _; omega)).trans c9_0
  have c10_1 : W10.cell? ⟨tb, 1, none⟩ = some (.slice Af xs.length cf) := (hb.cell (p := ⟨tb, 1, none⟩) (by show tb < _; omega)).trans c9_1
  have b10_0 : tb < W10.heap.size := by omega
  have R10_0 := hid (FreshA.below (cf := cIv) (sz := 2) (T := 50) (B := V1.heap.size) R9_0.out hk)
  have hw10 : Below w.heap.size w W10 := Below.trans hw (Below.mono hk (by have := hw.size; omega))
  clear hw hk
  have hw := hw10
  clear hw10
  have hwz := hw.size
  clear c9_0 c9_1 R9_0
  clear hb
  cases ok
  · cases told
    · clear c10_0
      clear c10_1
      clear R10_0
      go_wp2_with (fail)
      refine calls_named ?_
      intro V11 hV
      have hk : Below W10.heap.size W10 V11 := by rw [hV]; (repeat' (first | with_reducible exact Below.refl _ _ | with_reducible assumption | with_reducible refine Below.setCell ?_ ?_ _ | with_reducible refine Below.drew ?_ | with_reducible refine Below.alloc ?_ ?_ _ | with_reducible refine Below.trans ?_ (Below.mono (by assumption) ?_) | (dsimp only; omega) | (simp; done) | (simp; omega) | omega))
      have hkz11 := hk.size
      have hw11 : Below w.heap.size w V11 := Below.trans hw (Below.mono hk (by have := hw.size; omega))
      clear hw hk
      have hw := hw11
      clear hw11
      have hwz := hw.size
      clear hV
      refine (c_spec_DrawLastOpening A cs cap _ (Rds.below hr hw) hby (by omega)).mono ?_
      rintro e W12 ⟨d2, Bf, cf2, xs2, f2, t2, rfl, hFf, hxl2, hb⟩
      have hk : Below V11.heap.size V11 W12 := hb
      have hkz12 := hk.size
      have hw12 : Below w.heap.size w W12 := Below.trans hw (Below.mono hk (by have := hw.size; omega))
      clear hw hk
      have hw := hw12
      clear hw12
      have hwz := hw.size
      clear hb
      have S12_0 : Hid (FreshA cIv 2 50 V11.heap.size W12 Bf cf2 xs2) := hid (hFf)
      have loS12_0 := S12_0.out.lo
      have hiS12_0 := S12_0.out.hi
      clear hFf
      obtain ⟨la, fine, hLa⟩ : ∃ la fine, lastV d2 xs2 f2 t2 = (la, fine) := ⟨_, _, rfl⟩
      obtain ⟨fi, one, hFi⟩ : ∃ fi one, nextV d2 xs2 f2 = (fi, one) := ⟨_, _, rfl⟩
      have hol := op_last hLa hFi
      have HLA := hid hLa; have HFI := hid hFi; have HOL := hid hol; clear hLa hFi hol
      go_wp2_with (fail)
      refine calls_named ?_
      intro V13 hV
      have hk : Below W12.heap.size W12 V13 := by rw [hV]; (repeat' (first | with_reducible exact Below.refl _ _ | with_reducible assumption | with_reducible refine Below.setCell ?_ ?_ _ | with_reducible refine Below.drew ?_ | with_reducible refine Below.alloc ?_ ?_ _ | with_reducible refine Below.trans ?_ (Below.mono (by assumption) ?_) | (dsimp only; omega) | (simp; done) | (simp; omega) | omega))
      have hkz13 := hk.size
      have R13_0 := hid (FreshA.below (cf := cIv) (sz := 2) (T := 50) (B := V11.heap.size) S12_0.out hk)
      have hw13 : Below w.heap.size w V13 := Below.trans hw (Below.mono hk (by have := hw.size; omega))
      clear hw hk
      have hw := hw13
      clear hw13
      have hwz := hw.size
      clear S12_0
      have d13_0 : V13.cell? ⟨W12.heap.size, 0, none⟩ = some (.int .i64 d2) := by rw [hV]; first | (simp [go_sem, ↓IntWalk.iteOmega, *]; done) | (simp [go_sem, ↓IntWalk.iteOmega, *]; intros; omega)
      have d13_1 : V13.cell? ⟨W12.heap.size, 1, none⟩ = some (.slice Bf xs2.length cf2) := by rw [hV]; first | (simp [go_sem, ↓IntWalk.iteOmega, *]; done) | (simp [go_sem, ↓IntWalk.iteOmega, *]; intros; omega)
      have e13_0 : W12.heap.size < V13.heap.size := by rw [hV]; first | (simp; done) | (simp; omega)
      clear hV
      generalize htbtx : W12.heap.size = tx at *
      refine (c_impl_LastOpening d2 Bf xs2 cf2 f2 t2 _ R13_0.out.rds (by omega)).mono ?_
      simp only [HLA.out]
      rintro e W14 ⟨rfl, hb⟩
      have hk : Below V13.heap.size V13 W14 := hb
      have hkz14 := hk.size
      have c14_0 : W14.cell? ⟨tx, 0, none⟩ = some (.int .i64 d2) := (hb.cell (p := ⟨tx, 0, none⟩) (by show tx < _; omega)).trans d13_0
      have c14_1 : W14.cell? ⟨tx, 1, none⟩ = some (.slice Bf xs2.length cf2) := (hb.cell (p := ⟨tx, 1, none⟩) (by show tx < _; omega)).trans d13_1
      have b14_0 : tx < W14.heap.size := by omega
      have R14_0 := hid (FreshA.below (cf := cIv) (sz := 2) (T := 50) (B := V11.heap.size) R13_0.out hk)
      have hw14 : Below w.heap.size w W14 := Below.trans hw (Below.mono hk (by have := hw.size; omega))
      clear hw hk
      have hw := hw14
      clear hw14
      have hwz := hw.size
      clear d13_0 d13_1 R13_0
      clear hb
      go_wp2_with (fail)
      refine calls_named ?_
      intro V15 hV
      have hk : Below W14.heap.size W14 V15 := by rw [hV]; (repeat' (first | with_reducible exact Below.refl _ _ | with_reducible assumption | with_reducible refine Below.setCell ?_ ?_ _ | with_reducible refine Below.drew ?_ | with_reducible refine Below.alloc ?_ ?_ _ | with_reducible refine Below.trans ?_ (Below.mono (by assumption) ?_) | (dsimp only; omega) | (simp; done) | (simp; omega) | omega))
      have hkz15 := hk.size
      have c15_0 : V15.cell? ⟨tx, 0, none⟩ = some (.int .i64 d2) := (hk.cell (p := ⟨tx, 0, none⟩) (by show tx < _; omega)).trans c14_0
      have c15_1 : V15.cell? ⟨tx, 1, none⟩ = some (.slice Bf xs2.length cf2) := (hk.cell (p := ⟨tx, 1, none⟩) (by show tx < _; omega)).trans c14_1
      have b15_0 : tx < V15.heap.size := by omega
      have R15_0 := hid (FreshA.below (cf := cIv) (sz := 2) (T := 50) (B := V11.heap.size) R14_0.out hk)
      have hw15 : Below w.heap.size w V15 := Below.trans hw (Below.mono hk (by have := hw.size; omega))
      clear hw hk
      have hw := hw15
      clear hw15
      have hwz := hw.size
      clear c14_0 c14_1 R14_0
      clear hV
      refine (c_spec_LastOpening d2 Bf xs2 cf2 f2 t2 _ R15_0.out.rds (by omega)).mono ?_
      simp only [HLA.out]
      rintro e W16 ⟨rfl, hb⟩
      have hk : Below V15.heap.size V15 W16 := hb
      have hkz16 := hk.size
      have c16_0 : W16.cell? ⟨tx, 0, none⟩ = some (.int .i64 d2) := (hb.cell (p := ⟨tx, 0, none⟩) (by show tx < _; omega)).trans c15_0
      have c16_1 : W16.cell? ⟨tx, 1, none⟩ = some (.slice Bf xs2.length cf2) := (hb.cell (p := ⟨tx, 1, none⟩) (by show tx < _; omega)).trans c15_1
      have b16_0 : tx < W16.heap.size := by omega
      have R16_0 := hid (FreshA.below (cf := cIv) (sz := 2) (T := 50) (B := V11.heap.size) R15_0.out hk)
      have hw16 : Below w.heap.size w W16 := Below.trans hw (Below.mono hk (by have := hw.size; omega))
      clear hw hk
      have hw := hw16
      clear hw16
      have hwz := hw.size
      clear c15_0 c15_1 R15_0
      clear hb
      cases fine
      · clear c16_0
        clear c16_1
        clear R16_0
        go_wp2_with (fail)
        refine calls_named ?_
        intro V17 hV
        have hk : Below W16.heap.size W16 V17 := by rw [hV]; (repeat' (first | with_reducible exact Below.refl _ _ | with_reducible assumption | with_reducible refine Below.setCell ?_ ?_ _ | with_reducible refine Below.drew ?_ | with_reducible refine Below.alloc ?_ ?_ _ | with_reducible refine Below.trans ?_ (Below.mono (by assumption) ?_) | (dsimp only; omega) | (simp; done) | (simp; omega) | omega))
        have hkz17 := hk.size
        have hw17 : Below w.heap.size w V17 := Below.trans hw (Below.mono hk (by have := hw.size; omega))
        clear hw hk
        have hw := hw17
        clear hw17
        have hwz := hw.size
        clear hV
        refine (c_spec_DrawAddClosure A cs cap _ (Rds.below hr hw) hby (by omega)).mono ?_
        rintro e W18 ⟨d3, Cf, cf3, xs3, f3, t3, rfl, hFf, hxl3, hb⟩
        have hk : Below V17.heap.size V17 W18 := hb
        have hkz18 := hk.size
        have hw18 : Below w.heap.size w W18 := Below.trans hw (Below.mono hk (by have := hw.size; omega))
        clear hw hk
        have hw := hw18
        clear hw18
        have hwz := hw.size
        clear hb
        have S18_0 : Hid (FreshA cIv 2 50 V17.heap.size W18 Cf cf3 xs3) := hid (hFf)
        have loS18_0 := S18_0.out.lo
        have hiS18_0 := S18_0.out.hi
        clear hFf
        obtain ⟨d4, L, known, hAd⟩ : ∃ d4 L known, addV d3 xs3 (f3, t3) = ((d4, L), known) := ⟨_, _, _, rfl⟩
        have hlL := addV_bd hAd
        have hac := op_add hAd
        have HA := hid hAd; clear hAd
        go_wp2_with (fail)
        refine calls_named ?_
        intro V19 hV
        have hk : Below W18.heap.size W18 V19 := by rw [hV]; (repeat' (first | with_reducible exact Below.refl _ _ | with_reducible assumption | with_reducible refine Below.setCell ?_ ?_ _ | with_reducible refine Below.drew ?_ | with_reducible refine Below.alloc ?_ ?_ _ | with_reducible refine Below.trans ?_ (Below.mono (by assumption) ?_) | (dsimp only; omega) | (simp; done) | (simp; omega) | omega))
        have hkz19 := hk.size
        have R19_0 := hid (FreshA.below (cf := cIv) (sz := 2) (T := 50) (B := V17.heap.size) S18_0.out hk)
        have hw19 : Below w.heap.size w V19 := Below.trans hw (Below.mono hk (by have := hw.size; omega))
        clear hw hk
        have hw := hw19
        clear hw19
        have hwz := hw.size
        clear S18_0
        have d19_0 : V19.cell? ⟨W18.heap.size, 0, none⟩ = some (.int .i64 d3) := by rw [hV]; first | (simp [go_sem, ↓IntWalk.iteOmega, *]; done) | (simp [go_sem, ↓IntWalk.iteOmega, *]; intros; omega)
        have d19_1 : V19.cell? ⟨W18.heap.size, 1, none⟩ = some (.slice Cf xs3.length cf3) := by rw [hV]; first | (simp [go_sem, ↓IntWalk.iteOmega, *]; done) | (simp [go_sem, ↓IntWalk.iteOmega, *]; intros; omega)
        have e19_0 : W18.heap.size < V19.heap.size := by rw [hV]; first | (simp; done) | (simp; omega)
        have d19_2 : V19.cell? ⟨W18.heap.size + 1, 0, none⟩ = some (.int .i64 f3) := by rw [hV]; first | (simp [go_sem, ↓IntWalk.iteOmega, *]; done) | (simp [go_sem, ↓IntWalk.iteOmega, *]; intros; omega)
        have d19_3 : V19.cell? ⟨W18.heap.size + 1, 1, none⟩ = some (.int .i64 t3) := by rw [hV]; first | (simp [go_sem, ↓IntWalk.iteOmega, *]; done) | (simp [go_sem, ↓IntWalk.iteOmega, *]; intros; omega)
        have e19_1 : W18.heap.size + 1 < V19.heap.size := by rw [hV]; first | (simp; done) | (simp; omega)
        clear hV
        generalize htbty : W18.heap.size = ty at *
        refine (c_impl_AddClosure d3 Cf xs3 cf3 f3 t3 _ R19_0.out.rds (by omega)).mono ?_
        simp only [HA.out]
        rintro e W20 ⟨A8, c8, rfl, hF8, hb⟩
        have hk : Below V19.heap.size V19 W20 := hb
        have hkz20 := hk.size
        have c20_0 : W20.cell? ⟨ty, 0, none⟩ = some (.int .i64 d3) := (hb.cell (p := ⟨ty, 0, none⟩) (by show ty < _; omega)).trans d19_0
        have c20_1 : W20.cell? ⟨ty, 1, none⟩ = some (.slice Cf xs3.length cf3) := (hb.cell (p := ⟨ty, 1, none⟩) (by show ty < _; omega)).trans d19_1
        have c20_2 : W20.cell? ⟨ty + 1, 0, none⟩ = some (.int .i64 f3) := (hb.cell (p := ⟨ty + 1, 0, none⟩) (by show ty + 1 < _; omega)).trans d19_2
        have c20_3 : W20.cell? ⟨ty + 1, 1, none⟩ = some (.int .i64 t3) := (hb.cell (p := ⟨ty + 1, 1, none⟩) (by show ty + 1 < _; omega)).trans d19_3
        have b20_0 : ty < W20.heap.size := by omega
        have b20_1 : ty + 1 < W20.heap.size := by omega
        have R20_0 := hid (FreshA.below (cf := cIv) (sz := 2) (T := 50) (B := V17.heap.size) R19_0.out hk)
        have hw20 : Below w.heap.size w W20 := Below.trans hw (Below.mono hk (by have := hw.size; omega))
        clear hw hk
        have hw := hw20
        clear hw20
        have hwz := hw.size
        clear d19_0 d19_1 d19_2 d19_3 R19_0
        clear hb
        have S20_1 : Hid (FreshA cIv 2 50 V19.heap.size W20 A8 c8 L) := hid (hF8)
        have loS20_1 := S20_1.out.lo
        have hiS20_1 := S20_1.out.hi
        clear hF8
        go_wp2_with (fail)
        refine calls_named ?_
        intro V21 hV
        have hk : Below W20.heap.size W20 V21 := by rw [hV]; (repeat' (first | with_reducible exact Below.refl _ _ | with_reducible assumption | with_reducible refine Below.setCell ?_ ?_ _ | with_reducible refine Below.drew ?_ | with_reducible refine Below.alloc ?_ ?_ _ | with_reducible refine Below.trans ?_ (Below.mono (by assumption) ?_) | (dsimp only; omega) | (simp; done) | (simp; omega) | omega))
        have hkz21 := hk.size
        have c21_0 : V21.cell? ⟨ty, 0, none⟩ = some (.int .i64 d3) := (hk.cell (p := ⟨ty, 0, none⟩) (by show ty < _; omega)).trans c20_0
        have c21_1 : V21.cell? ⟨ty, 1, none⟩ = some (.slice Cf xs3.length cf3) := (hk.cell (p := ⟨ty, 1, none⟩) (by show ty < _; omega)).trans c20_1
        have c21_2 : V21.cell? ⟨ty + 1, 0, none⟩ = some (.int .i64 f3) := (hk.cell (p := ⟨ty + 1, 0, none⟩) (by show ty + 1 < _; omega)).trans c20_2
        have c21_3 : V21.cell? ⟨ty + 1, 1, none⟩ = some (.int .i64 t3) := (hk.cell (p := ⟨ty + 1, 1, none⟩) (by show ty + 1 < _; omega)).trans c20_3
        have b21_0 : ty < V21.heap.size := by omega
        have b21_1 : ty + 1 < V21.heap.size := by omega
        have R21_0 := hid (FreshA.below (cf := cIv) (sz := 2) (T := 50) (B := V17.heap.size) R20_0.out hk)
        have R21_1 := hid (FreshA.below (cf := cIv) (sz := 2) (T := 50) (B := V19.heap.size) S20_1.out hk)
        have hw21 : Below w.heap.size w V21 := Below.trans hw (Below.mono hk (by have := hw.size; omega))
        clear hw hk
        have hw := hw21
        clear hw21
        have hwz := hw.size
        clear c20_0 c20_1 c20_2 c20_3 R20_0 S20_1
        have d21_4 : V21.cell? ⟨W20.heap.size, 0, none⟩ = some (.int .i64 d4) := by rw [hV]; first | (simp [go_sem, ↓IntWalk.iteOmega, *]; done) | (simp [go_sem, ↓IntWalk.iteOmega, *]; intros; omega)
        have d21_5 : V21.cell? ⟨W20.heap.size, 1, none⟩ = some (.slice A8 L.length c8) := by rw [hV]; first | (simp [go_sem, ↓IntWalk.iteOmega, *]; done) | (simp [go_sem, ↓IntWalk.iteOmega, *]; intros; omega)
        have e21_2 : W20.heap.size < V21.heap.size := by rw [hV]; first | (simp; done) | (simp; omega)
        clear hV
        generalize htbtz : W20.heap.size = tz at *
        refine (c_spec_AddClosure d3 Cf xs3 cf3 f3 t3 _ R21_0.out.rds (by omega) (R21_0.out).capLe).mono ?_
        simp only [HA.out]
        rintro e W22 ⟨E8, e8, rfl, hF8, hb⟩
        have hk : Below V21.heap.size V21 W22 := hb
        have hkz22 := hk.size
        have c22_0 : W22.cell? ⟨ty, 0, none⟩ = some (.int .i64 d3) := (hb.cell (p := ⟨ty, 0, none⟩) (by show ty < _; omega)).trans c21_0
        have c22_1 : W22.cell? ⟨ty, 1, none⟩ = some (.slice Cf xs3.length cf3) := (hb.cell (p := ⟨ty, 1, none⟩) (by show ty < _; omega)).trans c21_1
        have c22_2 : W22.cell? ⟨ty + 1, 0, none⟩ = some (.int .i64 f3) := (hb.cell (p := ⟨ty + 1, 0, none⟩) (by show ty + 1 < _; omega)).trans c21_2
        have c22_3 : W22.cell? ⟨ty + 1, 1, none⟩ = some (.int .i64 t3) := (hb.cell (p := ⟨ty + 1, 1, none⟩) (by show ty + 1 < _; omega)).trans c21_3
        have c22_4 : W22.cell? ⟨tz, 0, none⟩ = some (.int .i64 d4) := (hb.cell (p := ⟨tz, 0, none⟩) (by show tz < _; omega)).trans d21_4
        have c22_5 : W22.cell? ⟨tz, 1, none⟩ = some (.slice A8 L.length c8) := (hb.cell (p := ⟨tz, 1, none⟩) (by show tz < _; omega)).trans d21_5
        have b22_0 : ty < W22.heap.size := by omega
        have b22_1 : ty + 1 < W22.heap.size := by omega
        have b22_2 : tz < W22.heap.size := by omega
        have R22_0 := hid (FreshA.below (cf := cIv) (sz := 2) (T := 50) (B := V17.heap.size) R21_0.out hk)
        have R22_1 := hid (FreshA.below (cf := cIv) (sz := 2) (T := 50) (B := V19.heap.size) R21_1.out hk)
        have hw22 : Below w.heap.size w W22 := Below.trans hw (Below.mono hk (by have := hw.size; omega))
        clear hw hk
        have hw := hw22
        clear hw22
        have hwz := hw.size
        clear c21_0 c21_1 c21_2 c21_3 d21_4 d21_5 R21_0 R21_1
        clear hb
        have S22_2 : Hid (FreshA cIv 2 50 V21.heap.size W22 E8 e8 L) := hid (hF8)
        have loS22_2 := S22_2.out.lo
        have hiS22_2 := S22_2.out.hi
        clear hF8
        rcases hac with rfl | ⟨rfl, hlen, hmf, hmt⟩
        · go_wp2_with (fail)
          refine calls_named ?_
          intro V23 hV
          have hk : Below W22.heap.size W22 V23 := by rw [hV]; (repeat' (first | with_reducible exact Below.refl _ _ | with_reducible assumption | with_reducible refine Below.setCell ?_ ?_ _ | with_reducible refine Below.drew ?_ | with_reducible refine Below.alloc ?_ ?_ _ | with_reducible refine Below.trans ?_ (Below.mono (by assumption) ?_) | (dsimp only; omega) | (simp; done) | (simp; omega) | omega))
          have hkz23 := hk.size
          have c23_0 : V23.cell? ⟨ty, 0, none⟩ = some (.int .i64 d3) := (hk.cell (p := ⟨ty, 0, none⟩) (by show ty < _; omega)).trans c22_0
          have c23_1 : V23.cell? ⟨ty, 1, none⟩ = some (.slice Cf xs3.length cf3) := (hk.cell (p := ⟨ty, 1, none⟩) (by show ty < _; omega)).trans c22_1
          have c23_2 : V23.cell? ⟨ty + 1, 0, none⟩ = some (.int .i64 f3) := (hk.cell (p := ⟨ty + 1, 0, none⟩) (by show ty + 1 < _; omega)).trans c22_2
          have c23_3 : V23.cell? ⟨ty + 1, 1, none⟩ = some (.int .i64 t3) := (hk.cell (p := ⟨ty + 1, 1, none⟩) (by show ty + 1 < _; omega)).trans c22_3
          have c23_4 : V23.cell? ⟨tz, 0, none⟩ = some (.int .i64 d4) := (hk.cell (p := ⟨tz, 0, none⟩) (by show tz < _; omega)).trans c22_4
          have c23_5 : V23.cell? ⟨tz, 1, none⟩ = some (.slice A8 L.length c8) := (hk.cell (p := ⟨tz, 1, none⟩) (by show tz < _; omega)).trans c22_5
          have b23_0 : ty < V23.heap.size := by omega
          have b23_1 : ty + 1 < V23.heap.size := by omega
          have b23_2 : tz < V23.heap.size := by omega
          have R23_0 := hid (FreshA.below (cf := cIv) (sz := 2) (T := 50) (B := V17.heap.size) R22_0.out hk)
          have R23_1 := hid (FreshA.below (cf := cIv) (sz := 2) (T := 50) (B := V19.heap.size) R22_1.out hk)
          have R23_2 := hid (FreshA.below (cf := cIv) (sz := 2) (T := 50) (B := V21.heap.size) S22_2.out hk)
          have hw23 : Below w.heap.size w V23 := Below.trans hw (Below.mono hk (by have := hw.size; omega))
          clear hw hk
          have hw := hw23
          clear hw23
          have hwz := hw.size
          clear c22_0 c22_1 c22_2 c22_3 c22_4 c22_5 R22_0 R22_1 S22_2
          clear hV
          refine (c_laws_vIntervals A8 E8 L c8 e8 _ R23_1.out.rds R23_2.out.rds (by omega)).mono ?_
          rintro e W24 ⟨rfl, hb⟩
          have hk : Below V23.heap.size V23 W24 := hb
          have hkz24 := hk.size
          have c24_0 : W24.cell? ⟨ty, 0, none⟩ = some (.int .i64 d3) := (hb.cell (p := ⟨ty, 0, none⟩) (by show ty < _; omega)).trans c23_0
          have c24_1 : W24.cell? ⟨ty, 1, none⟩ = some (.slice Cf xs3.length cf3) := (hb.cell (p := ⟨ty, 1, none⟩) (by show ty < _; omega)).trans c23_1
          have c24_2 : W24.cell? ⟨ty + 1, 0, none⟩ = some (.int .i64 f3) := (hb.cell (p := ⟨ty + 1, 0, none⟩) (by show ty + 1 < _; omega)).trans c23_2
          have c24_3 : W24.cell? ⟨ty + 1, 1, none⟩ = some (.int .i64 t3) := (hb.cell (p := ⟨ty + 1, 1, none⟩) (by show ty + 1 < _; omega)).trans c23_3
          have c24_4 : W24.cell? ⟨tz, 0, none⟩ = some (.int .i64 d4) := (hb.cell (p := ⟨tz, 0, none⟩) (by show tz < _; omega)).trans c23_4
          have c24_5 : W24.cell? ⟨tz, 1, none⟩ = some (.slice A8 L.length c8) := (hb.cell (p := ⟨tz, 1, none⟩) (by show tz < _; omega)).trans c23_5
          have b24_0 : ty < W24.heap.size := by omega
          have b24_1 : ty + 1 < W24.heap.size := by omega
          have b24_2 : tz < W24.heap.size := by omega
          have R24_0 := hid (FreshA.below (cf := cIv) (sz := 2) (T := 50) (B := V17.heap.size) R23_0.out hk)
          have R24_1 := hid (FreshA.below (cf := cIv) (sz := 2) (T := 50) (B := V19.heap.size) R23_1.out hk)
          have R24_2 := hid (FreshA.below (cf := cIv) (sz := 2) (T := 50) (B := V21.heap.size) R23_2.out hk)
          have hw24 : Below w.heap.size w W24 := Below.trans hw (Below.mono hk (by have := hw.size; omega))
          clear hw hk
          have hw := hw24
          clear hw24
          have hwz := hw.size
          clear c23_0 c23_1 c23_2 c23_3 c23_4 c23_5 R23_0 R23_1 R23_2
          clear hb
          go_wp2_with (fail)
          go_ret
          exact ⟨by first | rfl | exact ret_bool (by simp), by first | exact hw | (repeat' (first | with_reducible exact Below.refl _ _ | with_reducible assumption | with_reducible refine Below.setCell ?_ ?_ _ | with_reducible refine Below.drew ?_ | with_reducible refine Below.alloc ?_ ?_ _ | with_reducible refine Below.trans ?_ (Below.mono (by assumption) ?_) | (dsimp only; omega) | (simp; done) | (simp; omega) | omega))⟩
        have hln1 : L.length ≤ xs3.length + 1 := by omega
        have hln2 : xs3.length + 1 ≤ L.length := by omega
        have HMF := hid hmf; have HMT := hid hmt; clear hmf hmt hlen
        go_wp2_with (fail)
        refine calls_named ?_
        intro V23 hV
        have hk : Below W22.heap.size W22 V23 := by rw [hV]; (repeat' (first | with_reducible exact Below.refl _ _ | with_reducible assumption | with_reducible refine Below.setCell ?_ ?_ _ | with_reducible refine Below.drew ?_ | with_reducible refine Below.alloc ?_ ?_ _ | with_reducible refine Below.trans ?_ (Below.mono (by assumption) ?_) | (dsimp only; omega) | (simp; done) | (simp; omega) | omega))
        have hkz23 := hk.size
        have c23_0 : V23.cell? ⟨ty, 0, none⟩ = some (.int .i64 d3) := (hk.cell (p := ⟨ty, 0, none⟩) (by show ty < _; omega)).trans c22_0
        have c23_1 : V23.cell? ⟨ty, 1, none⟩ = some (.slice Cf xs3.length cf3) := (hk.cell (p := ⟨ty, 1, none⟩) (by show ty < _; omega)).trans c22_1
        have c23_2 : V23.cell? ⟨ty + 1, 0, none⟩ = some (.int .i64 f3) := (hk.cell (p := ⟨ty + 1, 0, none⟩) (by show ty + 1 < _; omega)).trans c22_2
        have c23_3 : V23.cell? ⟨ty + 1, 1, none⟩ = some (.int .i64 t3) := (hk.cell (p := ⟨ty + 1, 1, none⟩) (by show ty + 1 < _; omega)).trans c22_3
        have c23_4 : V23.cell? ⟨tz, 0, none⟩ = some (.int .i64 d4) := (hk.cell (p := ⟨tz, 0, none⟩) (by show tz < _; omega)).trans c22_4
        have c23_5 : V23.cell? ⟨tz, 1, none⟩ = some (.slice A8 L.length c8) := (hk.cell (p := ⟨tz, 1, none⟩) (by show tz < _; omega)).trans c22_5
        have b23_0 : ty < V23.heap.size := by omega
        have b23_1 : ty + 1 < V23.heap.size := by omega
        have b23_2 : tz < V23.heap.size := by omega
        have R23_0 := hid (FreshA.below (cf := cIv) (sz := 2) (T := 50) (B := V17.heap.size) R22_0.out hk)
        have R23_1 := hid (FreshA.below (cf := cIv) (sz := 2) (T := 50) (B := V19.heap.size) R22_1.out hk)
        have R23_2 := hid (FreshA.below (cf := cIv) (sz := 2) (T := 50) (B := V21.heap.size) S22_2.out hk)
        have hw23 : Below w.heap.size w V23 := Below.trans hw (Below.mono hk (by have := hw.size; omega))
        clear hw hk
        have hw := hw23
        clear hw23
        have hwz := hw.size
        clear c22_0 c22_1 c22_2 c22_3 c22_4 c22_5 R22_0 R22_1 S22_2
        clear hV
        refine (c_laws_vIntervals A8 E8 L c8 e8 _ R23_1.out.rds R23_2.out.rds (by omega)).mono ?_
        rintro e W24 ⟨rfl, hb⟩
        have hk : Below V23.heap.size V23 W24 := hb
        have hkz24 := hk.size
        have c24_0 : W24.cell? ⟨ty, 0, none⟩ = some (.int .i64 d3) := (hb.cell (p := ⟨ty, 0, none⟩) (by show ty < _; omega)).trans c23_0
        have c24_1 : W24.cell? ⟨ty, 1, none⟩ = some (.slice Cf xs3.length cf3) := (hb.cell (p := ⟨ty, 1, none⟩) (by show ty < _; omega)).trans c23_1
        have c24_2 : W24.cell? ⟨ty + 1, 0, none⟩ = some (.int .i64 f3) := (hb.cell (p := ⟨ty + 1, 0, none⟩) (by show ty + 1 < _; omega)).trans c23_2
        have c24_3 : W24.cell? ⟨ty + 1, 1, none⟩ = some (.int .i64 t3) := (hb.cell (p := ⟨ty + 1, 1, none⟩) (by show ty + 1 < _; omega)).trans c23_3
        have c24_4 : W24.cell? ⟨tz, 0, none⟩ = some (.int .i64 d4) := (hb.cell (p := ⟨tz, 0, none⟩) (by show tz < _; omega)).trans c23_4
        have c24_5 : W24.cell? ⟨tz, 1, none⟩ = some (.slice A8 L.length c8) := (hb.cell (p := ⟨tz, 1, none⟩) (by show tz < _; omega)).trans c23_5
        have b24_0 : ty < W24.heap.size := by omega
        have b24_1 : ty + 1 < W24.heap.size := by omega
        have b24_2 : tz < W24.heap.size := by omega
        have R24_0 := hid (FreshA.below (cf := cIv) (sz := 2) (T := 50) (B := V17.heap.size) R23_0.out hk)
        have R24_1 := hid (FreshA.below (cf := cIv) (sz := 2) (T := 50) (B := V19.heap.size) R23_1.out hk)
        have R24_2 := hid (FreshA.below (cf := cIv) (sz := 2) (T := 50) (B := V21.heap.size) R23_2.out hk)
        have hw24 : Below w.heap.size w W24 := Below.trans hw (Below.mono hk (by have := hw.size; omega))
        clear hw hk
        have hw := hw24
        clear hw24
        have hwz := hw.size
        clear c23_0 c23_1 c23_2 c23_3 c23_4 c23_5 R23_0 R23_1 R23_2
        clear hb
        go_wp2_with (fail)
        refine calls_named ?_
        intro V25 hV
        have hk : Below W24.heap.size W24 V25 := by rw [hV]; (repeat' (first | with_reducible exact Below.refl _ _ | with_reducible assumption | with_reducible refine Below.setCell ?_ ?_ _ | with_reducible refine Below.drew ?_ | with_reducible refine Below.alloc ?_ ?_ _ | with_reducible refine Below.trans ?_ (Below.mono (by assumption) ?_) | (dsimp only; omega) | (simp; done) | (simp; omega) | omega))
        have hkz25 := hk.size
        have c25_0 : V25.cell? ⟨ty, 0, none⟩ = some (.int .i64 d3) := (hk.cell (p := ⟨ty, 0, none⟩) (by show ty < _; omega)).trans c24_0
        have c25_1 : V25.cell? ⟨ty, 1, none⟩ = some (.slice Cf xs3.length cf3) := (hk.cell (p := ⟨ty, 1, none⟩) (by show ty < _; omega)).trans c24_1
        have c25_2 : V25.cell? ⟨ty + 1, 0, none⟩ = some (.int .i64 f3) := (hk.cell (p := ⟨ty + 1, 0, none⟩) (by show ty + 1 < _; omega)).trans c24_2
        have c25_3 : V25.cell? ⟨ty + 1, 1, none⟩ = some (.int .i64 t3) := (hk.cell (p := ⟨ty + 1, 1, none⟩) (by show ty + 1 < _; omega)).trans c24_3
        have c25_4 : V25.cell? ⟨tz, 0, none⟩ = some (.int .i64 d4) := (hk.cell (p := ⟨tz, 0, none⟩) (by show tz < _; omega)).trans c24_4
        have c25_5 : V25.cell? ⟨tz, 1, none⟩ = some (.slice A8 L.length c8) := (hk.cell (p := ⟨tz, 1, none⟩) (by show tz < _; omega)).trans c24_5
        have b25_0 : ty < V25.heap.size := by omega
        have b25_1 : ty + 1 < V25.heap.size := by omega
        have b25_2 : tz < V25.heap.size := by omega
        have R25_0 := hid (FreshA.below (cf := cIv) (sz := 2) (T := 50) (B := V17.heap.size) R24_0.out hk)
        have R25_1 := hid (FreshA.below (cf := cIv) (sz := 2) (T := 50) (B := V19.heap.size) R24_1.out hk)
        have R25_2 := hid (FreshA.below (cf := cIv) (sz := 2) (T := 50) (B := V21.heap.size) R24_2.out hk)
        have hw25 : Below w.heap.size w V25 := Below.trans hw (Below.mono hk (by have := hw.size; omega))
        clear hw hk
        have hw := hw25
        clear hw25
        have hwz := hw.size
        clear c24_0 c24_1 c24_2 c24_3 c24_4 c24_5 R24_0 R24_1 R24_2
        clear hV
        refine (c_impl_MayOpen d4 A8 L c8 f3 _ R25_1.out.rds (by omega)).mono ?_
        simp only [HMF.out]
        rintro e W26 ⟨rfl, hb⟩
        have hk : Below V25.heap.size V25 W26 := hb
        have hkz26 := hk.size
        have c26_0 : W26.cell? ⟨ty, 0, none⟩ = some (.int .i64 d3) := (hb.cell (p := ⟨ty, 0, none⟩) (by show ty < _; omega)).trans c25_0
        have c26_1 : W26.cell? ⟨ty, 1, none⟩ = some (.slice Cf xs3.length cf3) := (hb.cell (p := ⟨ty, 1, none⟩) (by show ty < _; omega)).trans c25_1
        have c26_2 : W26.cell? ⟨ty + 1, 0, none⟩ = some (.int .i64 f3) := (hb.cell (p := ⟨ty + 1, 0, none⟩) (by show ty + 1 < _; omega)).trans c25_2
        have c26_3 : W26.cell? ⟨ty + 1, 1, none⟩ = some (.int .i64 t3) := (hb.cell (p := ⟨ty + 1, 1, none⟩) (by show ty + 1 < _; omega)).trans c25_3
        have c26_4 : W26.cell? ⟨tz, 0, none⟩ = some (.int .i64 d4) := (hb.cell (p := ⟨tz, 0, none⟩) (by show tz < _; omega)).trans c25_4
        have c26_5 : W26.cell? ⟨tz, 1, none⟩ = some (.slice A8 L.length c8) := (hb.cell (p := ⟨tz, 1, none⟩) (by show tz < _; omega)).trans c25_5
        have b26_0 : ty < W26.heap.size := by omega
        have b26_1 : ty + 1 < W26.heap.size := by omega
        have b26_2 : tz < W26.heap.size := by omega
        have R26_0 := hid (FreshA.below (cf := cIv) (sz := 2) (T := 50) (B := V17.heap.size) R25_0.out hk)
        have R26_1 := hid (FreshA.below (cf := cIv) (sz := 2) (T := 50) (B := V19.heap.size) R25_1.out hk)
        have R26_2 := hid (FreshA.below (cf := cIv) (sz := 2) (T := 50) (B := V21.heap.size) R25_2.out hk)
        have hw26 : Below w.heap.size w W26 := Below.trans hw (Below.mono hk (by have := hw.size; omega))
        clear hw hk
        have hw := hw26
        clear hw26
        have hwz := hw.size
        clear c25_0 c25_1 c25_2 c25_3 c25_4 c25_5 R25_0 R25_1 R25_2
        clear hb
        go_wp2_with (fail)
        refine calls_named ?_
        intro V27 hV
        have hk : Below W26.heap.size W26 V27 := by rw [hV]; (repeat' (first | with_reducible exact Below.refl _ _ | with_reducible assumption | with_reducible refine Below.setCell ?_ ?_ _ | with_reducible refine Below.drew ?_ | with_reducible refine Below.alloc ?_ ?_ _ | with_reducible refine Below.trans ?_ (Below.mono (by assumption) ?_) | (dsimp only; omega) | (simp; done) | (simp; omega) | omega))
        have hkz27 := hk.size
        have c27_0 : V27.cell? ⟨ty, 0, none⟩ = some (.int .i64 d3) := (hk.cell (p := ⟨ty, 0, none⟩) (by show ty < _; omega)).trans c26_0
        have c27_1 : V27.cell? ⟨ty, 1, none⟩ = some (.slice Cf xs3.length cf3) := (hk.cell (p := ⟨ty, 1, none⟩) (by show ty < _; omega)).trans c26_1
        have c27_2 : V27.cell? ⟨ty + 1, 0, none⟩ = some (.int .i64 f3) := (hk.cell (p := ⟨ty + 1, 0, none⟩) (by show ty + 1 < _; omega)).trans c26_2
        have c27_3 : V27.cell? ⟨ty + 1, 1, none⟩ = some (.int .i64 t3) := (hk.cell (p := ⟨ty + 1, 1, none⟩) (by show ty + 1 < _; omega)).trans c26_3
        have c27_4 : V27.cell? ⟨tz, 0, none⟩ = some (.int .i64 d4) := (hk.cell (p := ⟨tz, 0, none⟩) (by show tz < _; omega)).trans c26_4
        have c27_5 : V27.cell? ⟨tz, 1, none⟩ = some (.slice A8 L.length c8) := (hk.cell (p := ⟨tz, 1, none⟩) (by show tz < _; omega)).trans c26_5
        have b27_0 : ty < V27.heap.size := by omega
        have b27_1 : ty + 1 < V27.heap.size := by omega
        have b27_2 : tz < V27.heap.size := by omega
        have R27_0 := hid (FreshA.below (cf := cIv) (sz := 2) (T := 50) (B := V17.heap.size) R26_0.out hk)
        have R27_1 := hid (FreshA.below (cf := cIv) (sz := 2) (T := 50) (B := V19.heap.size) R26_1.out hk)
        have R27_2 := hid (FreshA.below (cf := cIv) (sz := 2) (T := 50) (B := V21.heap.size) R26_2.out hk)
        have hw27 : Below w.heap.size w V27 := Below.trans hw (Below.mono hk (by have := hw.size; omega))
        clear hw hk
        have hw := hw27
        clear hw27
        have hwz := hw.size
        clear c26_0 c26_1 c26_2 c26_3 c26_4 c26_5 R26_0 R26_1 R26_2
        clear hV
        refine (c_impl_MayOpen d4 A8 L c8 t3 _ R27_1.out.rds (by omega)).mono ?_
        simp only [HMT.out]
        rintro e W28 ⟨rfl, hb⟩
        have hk : Below V27.heap.size V27 W28 := hb
        have hkz28 := hk.size
        have c28_0 : W28.cell? ⟨ty, 0, none⟩ = some (.int .i64 d3) := (hb.cell (p := ⟨ty, 0, none⟩) (by show ty < _; omega)).trans c27_0
        have c28_1 : W28.cell? ⟨ty, 1, none⟩ = some (.slice Cf xs3.length cf3) := (hb.cell (p := ⟨ty, 1, none⟩) (by show ty < _; omega)).trans c27_1
        have c28_2 : W28.cell? ⟨ty + 1, 0, none⟩ = some (.int .i64 f3) := (hb.cell (p := ⟨ty + 1, 0, none⟩) (by show ty + 1 < _; omega)).trans c27_2
        have c28_3 : W28.cell? ⟨ty + 1, 1, none⟩ = some (.int .i64 t3) := (hb.cell (p := ⟨ty + 1, 1, none⟩) (by show ty + 1 < _; omega)).trans c27_3
        have c28_4 : W28.cell? ⟨tz, 0, none⟩ = some (.int .i64 d4) := (hb.cell (p := ⟨tz, 0, none⟩) (by show tz < _; omega)).trans c27_4
        have c28_5 : W28.cell? ⟨tz, 1, none⟩ = some (.slice A8 L.length c8) := (hb.cell (p := ⟨tz, 1, none⟩) (by show tz < _; omega)).trans c27_5
        have b28_0 : ty < W28.heap.size := by omega
        have b28_1 : ty + 1 < W28.heap.size := by omega
        have b28_2 : tz < W28.heap.size := by omega
        have R28_0 := hid (FreshA.below (cf := cIv) (sz := 2) (T := 50) (B := V17.heap.size) R27_0.out hk)
        have R28_1 := hid (FreshA.below (cf := cIv) (sz := 2) (T := 50) (B := V19.heap.size) R27_1.out hk)
        have R28_2 := hid (FreshA.below (cf := cIv) (sz := 2) (T := 50) (B := V21.heap.size) R27_2.out hk)
        have hw28 : Below w.heap.size w W28 := Below.trans hw (Below.mono hk (by have := hw.size; omega))
        clear hw hk
        have hw := hw28
        clear hw28
        have hwz := hw.size
        clear c27_0 c27_1 c27_2 c27_3 c27_4 c27_5 R27_0 R27_1 R27_2
        clear hb
        go_wp2_with (fail)
        go_ret
        exact ⟨ret_bool (by simp; omega), by first | exact hw | (repeat' (first | with_reducible exact Below.refl _ _ | with_reducible assumption | with_reducible refine Below.setCell ?_ ?_ _ | with_reducible refine Below.drew ?_ | with_reducible refine Below.alloc ?_ ?_ _ | with_reducible refine Below.trans ?_ (Below.mono (by assumption) ?_) | (dsimp only; omega) | (simp; done) | (simp; omega) | omega))⟩
      obtain ⟨ho1, ho2, ho3⟩ := HOL.out rfl
      subst ho1
      go_wp2_with (fail)
      refine calls_named ?_
      intro V17 hV
      have hk : Below W16.heap.size W16 V17 := by rw [hV]; (repeat' (first | with_reducible exact Below.refl _ _ | with_reducible assumption | with_reducible refine Below.setCell ?_ ?_ _ | with_reducible refine Below.drew ?_ | with_reducible refine Below.alloc ?_ ?_ _ | with_reducible refine Below.trans ?_ (Below.mono (by assumption) ?_) | (dsimp only; omega) | (simp; done) | (simp; omega) | omega))
      have hkz17 := hk.size
      have c17_0 : V17.cell? ⟨tx, 0, none⟩ = some (.int .i64 d2) := (hk.cell (p := ⟨tx, 0, none⟩) (by show tx < _; omega)).trans c16_0
      have c17_1 : V17.cell? ⟨tx, 1, none⟩ = some (.slice Bf xs2.length cf2) := (hk.cell (p := ⟨tx, 1, none⟩) (by show tx < _; omega)).trans c16_1
      have b17_0 : tx < V17.heap.size := by omega
      have R17_0 := hid (FreshA.below (cf := cIv) (sz := 2) (T := 50) (B := V11.heap.size) R16_0.out hk)
      have hw17 : Below w.heap.size w V17 := Below.trans hw (Below.mono hk (by have := hw.size; omega))
      clear hw hk
      have hw := hw17
      clear hw17
      have hwz := hw.size
      clear c16_0 c16_1 R16_0
      clear hV
      refine (c_impl_NextOpening d2 Bf xs2 cf2 f2 _ R17_0.out.rds (by omega)).mono ?_
      simp only [HFI.out]
      rintro e W18 ⟨rfl, hb⟩
      have hk : Below V17.heap.size V17 W18 := hb
      have hkz18 := hk.size
      have c18_0 : W18.cell? ⟨tx, 0, none⟩ = some (.int .i64 d2) := (hb.cell (p := ⟨tx, 0, none⟩) (by show tx < _; omega)).trans c17_0
      have c18_1 : W18.cell? ⟨tx, 1, none⟩ = some (.slice Bf xs2.length cf2) := (hb.cell (p := ⟨tx, 1, none⟩) (by show tx < _; omega)).trans c17_1
      have b18_0 : tx < W18.heap.size := by omega
      have R18_0 := hid (FreshA.below (cf := cIv) (sz := 2) (T := 50) (B := V11.heap.size) R17_0.out hk)
      have hw18 : Below w.heap.size w W18 := Below.trans hw (Below.mono hk (by have := hw.size; omega))
      clear hw hk
      have hw := hw18
      clear hw18
      have hwz := hw.size
      clear c17_0 c17_1 R17_0
      clear hb
      clear c18_0
      clear c18_1
      clear R18_0
      go_wp2_with (fail)
      refine calls_named ?_
      intro V19 hV
      have hk : Below W18.heap.size W18 V19 := by rw [hV]; (repeat' (first | with_reducible exact Below.refl _ _ | with_reducible assumption | with_reducible refine Below.setCell ?_ ?_ _ | with_reducible refine Below.drew ?_ | with_reducible refine Below.alloc ?_ ?_ _ | with_reducible refine Below.trans ?_ (Below.mono (by assumption) ?_) | (dsimp only; omega) | (simp; done) | (simp; omega) | omega))
      have hkz19 := hk.size
      have hw19 : Below w.heap.size w V19 := Below.trans hw (Below.mono hk (by have := hw.size; omega))
      clear hw hk
      have hw := hw19
      clear hw19
      have hwz := hw.size
      clear hV
      refine (c_spec_DrawAddClosure A cs cap _ (Rds.below hr hw) hby (by omega)).mono ?_
      rintro e W20 ⟨d3, Cf, cf3, xs3, f3, t3, rfl, hFf, hxl3, hb⟩
      have hk : Below V19.heap.size V19 W20 := hb
      have hkz20 := hk.size
      have hw20 : Below w.heap.size w W20 := Below.trans hw (Below.mono hk (by have := hw.size; omega))
      clear hw hk
      have hw := hw20
      clear hw20
      have hwz := hw.size
      clear hb
      have S20_0 : Hid (FreshA cIv 2 50 V19.heap.size W20 Cf cf3 xs3) := hid (hFf)
      have loS20_0 := S20_0.out.lo
      have hiS20_0 := S20_0.out.hi
      clear hFf
      obtain ⟨d4, L, known, hAd⟩ : ∃ d4 L known, addV d3 xs3 (f3, t3) = ((d4, L), known) := ⟨_, _, _, rfl⟩
      have hlL := addV_bd hAd
      have hac := op_add hAd
      have HA := hid hAd; clear hAd
      go_wp2_with (fail)
      refine calls_named ?_
      intro V21 hV
      have hk : Below W20.heap.size W20 V21 := by rw [hV]; (repeat' (first | with_reducible exact Below.refl _ _ | with_reducible assumption | with_reducible refine Below.setCell ?_ ?_ _ | with_reducible refine Below.drew ?_ | with_reducible refine Below.alloc ?_ ?_ _ | with_reducible refine Below.trans ?_ (Below.mono (by assumption) ?_) | (dsimp only; omega) | (simp; done) | (simp; omega) | omega))
      have hkz21 := hk.size
      have R21_0 := hid (FreshA.below (cf := cIv) (sz := 2) (T := 50) (B := V19.heap.size) S20_0.out hk)
      have hw21 : Below w.heap.size w V21 := Below.trans hw (Below.mono hk (by have := hw.size; omega))
      clear hw hk
      have hw := hw21
      clear hw21
      have hwz := hw.size
      clear S20_0
      have d21_0 : V21.cell? ⟨W20.heap.size, 0, none⟩ = some (.int .i64 d3) := by rw [hV]; first | (simp [go_sem, ↓IntWalk.iteOmega, *]; done) | (simp [go_sem, ↓IntWalk.iteOmega, *]; intros; omega)
      have d21_1 : V21.cell? ⟨W20.heap.size, 1, none⟩ = some (.slice Cf xs3.length cf3) := by rw [hV]; first | (simp [go_sem, ↓IntWalk.iteOmega, *]; done) | (simp [go_sem, ↓IntWalk.iteOmega, *]; intros; omega)
      have e21_0 : W20.heap.size < V21.heap.size := by rw [hV]; first | (simp; done) | (simp; omega)
      have d21_2 : V21.cell? ⟨W20.heap.size + 1, 0, none⟩ = some (.int .i64 f3) := by rw [hV]; first | (simp [go_sem, ↓IntWalk.iteOmega, *]; done) | (simp [go_sem, ↓IntWalk.iteOmega, *]; intros; omega)
      have d21_3 : V21.cell? ⟨W20.heap.size + 1, 1, none⟩ = some (.int .i64 t3) := by rw [hV]; first | (simp [go_sem, ↓IntWalk.iteOmega, *]; done) | (simp [go_sem, ↓IntWalk.iteOmega, *]; intros; omega)
      have e21_1 : W20.heap.size + 1 < V21.heap.size := by rw [hV]; first | (simp; done) | (simp; omega)
      clear hV
      generalize htbty : W20.heap.size = ty at *
      refine (c_impl_AddClosure d3 Cf xs3 cf3 f3 t3 _ R21_0.out.rds (by omega)).mono ?_
      simp only [HA.out]
      rintro e W22 ⟨A8, c8, rfl, hF8, hb⟩
      have hk : Below V21.heap.size V21 W22 := hb
      have hkz22 := hk.size
      have c22_0 : W22.cell? ⟨ty, 0, none⟩ = some (.int .i64 d3) := (hb.cell (p := ⟨ty, 0, none⟩) (by show ty < _; omega)).trans d21_0
      have c22_1 : W22.cell? ⟨ty, 1, none⟩ = some (.slice Cf xs3.length cf3) := (hb.cell (p := ⟨ty, 1, none⟩) (by show ty < _; omega)).trans d21_1
      have c22_2 : W22.cell? ⟨ty + 1, 0, none⟩ = some (.int .i64 f3) := (hb.cell (p := ⟨ty + 1, 0, none⟩) (by show ty + 1 < _; omega)).trans d21_2
      have c22_3 : W22.cell? ⟨ty + 1, 1, none⟩ = some (.int .i64 t3) := (hb.cell (p := ⟨ty + 1, 1, none⟩) (by show ty + 1 < _; omega)).trans d21_3
      have b22_0 : ty < W22.heap.size := by omega
      have b22_1 : ty + 1 < W22.heap.size := by omega
      have R22_0 := hid (FreshA.below (cf := cIv) (sz := 2) (T := 50) (B := V19.heap.size) R21_0.out hk)
      have hw22 : Below w.heap.size w W22 := Below.trans hw (Below.mono hk (by have := hw.size; omega))
      clear hw hk
      have hw := hw22
      clear hw22
      have hwz := hw.size
      clear d21_0 d21_1 d21_2 d21_3 R21_0
      clear hb
      have S22_1 : Hid (FreshA cIv 2 50 V21.heap.size W22 A8 c8 L) := hid (hF8)
      have loS22_1 := S22_1.out.lo
      have hiS22_1 := S22_1.out.hi
      clear hF8
      go_wp2_with (fail)
      refine calls_named ?_
      intro V23 hV
      have hk : Below W22.heap.size W22 V23 := by rw [hV]; (repeat' (first | with_reducible exact Below.refl _ _ | with_reducible assumption | with_reducible refine Below.setCell ?_ ?_ _ | with_reducible refine Below.drew ?_ | with_reducible refine Below.alloc ?_ ?_ _ | with_reducible refine Below.trans ?_ (Below.mono (by assumption) ?_) | (dsimp only; omega) | (simp; done) | (simp; omega) | omega))
      have hkz23 := hk.size
      have c23_0 : V23.cell? ⟨ty, 0, none⟩ = some (.int .i64 d3) := (hk.cell (p := ⟨ty, 0, none⟩) (by show ty < _; omega)).trans c22_0
      have c23_1 : V23.cell? ⟨ty, 1, none⟩ = some (.slice Cf xs3.length cf3) := (hk.cell (p := ⟨ty, 1, none⟩) (by show ty < _; omega)).trans c22_1
      have c23_2 : V23.cell? ⟨ty + 1, 0, none⟩ = some (.int .i64 f3) := (hk.cell (p := ⟨ty + 1, 0, none⟩) (by show ty + 1 < _; omega)).trans c22_2
      have c23_3 : V23.cell? ⟨ty + 1, 1, none⟩ = some (.int .i64 t3) := (hk.cell (p := ⟨ty + 1, 1, none⟩) (by show ty + 1 < _; omega)).trans c22_3
      have b23_0 : ty < V23.heap.size := by omega
      have b23_1 : ty + 1 < V23.heap.size := by omega
      have R23_0 := hid (FreshA.below (cf := cIv) (sz := 2) (T := 50) (B := V19.heap.size) R22_0.out hk)
      have R23_1 := hid (FreshA.below (cf := cIv) (sz := 2) (T := 50) (B := V21.heap.size) S22_1.out hk)
      have hw23 : Below w.heap.size w V23 := Below.trans hw (Below.mono hk (by have := hw.size; omega))
      clear hw hk
      have hw := hw23
      clear hw23
      have hwz := hw.size
      clear c22_0 c22_1 c22_2 c22_3 R22_0 S22_1
      have d23_4 : V23.cell? ⟨W22.heap.size, 0, none⟩ = some (.int .i64 d4) := by rw [hV]; first | (simp [go_sem, ↓IntWalk.iteOmega, *]; done) | (simp [go_sem, ↓IntWalk.iteOmega, *]; intros; omega)
      have d23_5 : V23.cell? ⟨W22.heap.size, 1, none⟩ = some (.slice A8 L.length c8) := by rw [hV]; first | (simp [go_sem, ↓IntWalk.iteOmega, *]; done) | (simp [go_sem, ↓IntWalk.iteOmega, *]; intros; omega)
      have e23_2 : W22.heap.size < V23.heap.size := by rw [hV]; first | (simp; done) | (simp; omega)
      clear hV
      generalize htbtz : W22.heap.size = tz at *
      refine (c_spec_AddClosure d3 Cf xs3 cf3 f3 t3 _ R23_0.out.rds (by omega) (R23_0.out).capLe).mono ?_
      simp only [HA.out]
      rintro e W24 ⟨E8, e8, rfl, hF8, hb⟩
      have hk : Below V23.heap.size V23 W24 := hb
      have hkz24 := hk.size
      have c24_0 : W24.cell? ⟨ty, 0, none⟩ = some (.int .i64 d3) := (hb.cell (p := ⟨ty, 0, none⟩) (by show ty < _; omega)).trans c23_0
      have c24_1 : W24.cell? ⟨ty, 1, none⟩ = some (.slice Cf xs3.length cf3) := (hb.cell (p := ⟨ty, 1, none⟩) (by show ty < _; omega)).trans c23_1
      have c24_2 : W24.cell? ⟨ty + 1, 0, none⟩ = some (.int .i64 f3) := (hb.cell (p := ⟨ty + 1, 0, none⟩) (by show ty + 1 < _; omega)).trans c23_2
      have c24_3 : W24.cell? ⟨ty + 1, 1, none⟩ = some (.int .i64 t3) := (hb.cell (p := ⟨ty + 1, 1, none⟩) (by show ty + 1 < _; omega)).trans c23_3
      have c24_4 : W24.cell? ⟨tz, 0, none⟩ = some (.int .i64 d4) := (hb.cell (p := ⟨tz, 0, none⟩) (by show tz < _; omega)).trans d23_4
      have c24_5 : W24.cell? ⟨tz, 1, none⟩ = some (.slice A8 L.length c8) := (hb.cell (p := ⟨tz, 1, none⟩) (by show tz < _; omega)).trans d23_5
      have b24_0 : ty < W24.heap.size := by omega
      have b24_1 : ty + 1 < W24.heap.size := by omega
      have b24_2 : tz < W24.heap.size := by omega
      have R24_0 := hid (FreshA.below (cf := cIv) (sz := 2) (T := 50) (B := V19.heap.size) R23_0.out hk)
      have R24_1 := hid (FreshA.below (cf := cIv) (sz := 2) (T := 50) (B := V21.heap.size) R23_1.out hk)
      have hw24 : Below w.heap.size w W24 := Below.trans hw (Below.mono hk (by have := hw.size; omega))
      clear hw hk
      have hw := hw24
      clear hw24
      have hwz := hw.size
      clear c23_0 c23_1 c23_2 c23_3 d23_4 d23_5 R23_0 R23_1
      clear hb
      have S24_2 : Hid (FreshA cIv 2 50 V23.heap.size W24 E8 e8 L) := hid (hF8)
      have loS24_2 := S24_2.out.lo
      have hiS24_2 := S24_2.out.hi
      clear hF8
      rcases hac with rfl | ⟨rfl, hlen, hmf, hmt⟩
      · go_wp2_with (fail)
        refine calls_named ?_
        intro V25 hV
        have hk : Below W24.heap.size W24 V25 := by rw [hV]; (repeat' (first | with_reducible exact Below.refl _ _ | with_reducible assumption | with_reducible refine Below.setCell ?_ ?_ _ | with_reducible refine Below.drew ?_ | with_reducible refine Below.alloc ?_ ?_ _ | with_reducible refine Below.trans ?_ (Below.mono (by assumption) ?_) | (dsimp only; omega) | (simp; done) | (simp; omega) | omega))
        have hkz25 := hk.size
        have c25_0 : V25.cell? ⟨ty, 0, none⟩ = some (.int .i64 d3) := (hk.cell (p := ⟨ty, 0, none⟩) (by show ty < _; omega)).trans c24_0
        have c25_1 : V25.cell? ⟨ty, 1, none⟩ = some (.slice Cf xs3.length cf3) := (hk.cell (p := ⟨ty, 1, none⟩) (by show ty < _; omega)).trans c24_1
        have c25_2 : V25.cell? ⟨ty + 1, 0, none⟩ = some (.int .i64 f3) := (hk.cell (p := ⟨ty + 1, 0, none⟩) (by show ty + 1 < _; omega)).trans c24_2
        have c25_3 : V25.cell? ⟨ty + 1, 1, none⟩ = some (.int .i64 t3) := (hk.cell (p := ⟨ty + 1, 1, none⟩) (by show ty + 1 < _; omega)).trans c24_3
        have c25_4 : V25.cell? ⟨tz, 0, none⟩ = some (.int .i64 d4) := (hk.cell (p := ⟨tz, 0, none⟩) (by show tz < _; omega)).trans c24_4
        have c25_5 : V25.cell? ⟨tz, 1, none⟩ = some (.slice A8 L.length c8) := (hk.cell (p := ⟨tz, 1, none⟩) (by show tz < _; omega)).trans c24_5
        have b25_0 : ty < V25.heap.size := by omega
        have b25_1 : ty + 1 < V25.heap.size := by omega
        have b25_2 : tz < V25.heap.size := by omega
        have R25_0 := hid (FreshA.below (cf := cIv) (sz := 2) (T := 50) (B := V19.heap.size) R24_0.out hk)
        have R25_1 := hid (FreshA.below (cf := cIv) (sz := 2) (T := 50) (B := V21.heap.size) R24_1.out hk)
        have R25_2 := hid (FreshA.below (cf := cIv) (sz := 2) (T := 50) (B := V23.heap.size) S24_2.out hk)
        have hw25 : Below w.heap.size w V25 := Below.trans hw (Below.mono hk (by have := hw.size; omega))
        clear hw hk
        have hw := hw25
        clear hw25
        have hwz := hw.size
        clear c24_0 c24_1 c24_2 c24_3 c24_4 c24_5 R24_0 R24_1 S24_2
        clear hV
        refine (c_laws_vIntervals A8 E8 L c8 e8 _ R25_1.out.rds R25_2.out.rds (by omega)).mono ?_
        rintro e W26 ⟨rfl, hb⟩
        have hk : Below V25.heap.size V25 W26 := hb
        have hkz26 := hk.size
        have c26_0 : W26.cell? ⟨ty, 0, none⟩ = some (.int .i64 d3) := (hb.cell (p := ⟨ty, 0, none⟩) (by show ty < _; omega)).trans c25_0
        have c26_1 : W26.cell? ⟨ty, 1, none⟩ = some (.slice Cf xs3.length cf3) := (hb.cell (p := ⟨ty, 1, none⟩) (by show ty < _; omega)).trans c25_1
        have c26_2 : W26.cell? ⟨ty + 1, 0, none⟩ = some (.int .i64 f3) := (hb.cell (p := ⟨ty + 1, 0, none⟩) (by show ty + 1 < _; omega)).trans c25_2
        have c26_3 : W26.cell? ⟨ty + 1, 1, none⟩ = some (.int .i64 t3) := (hb.cell (p := ⟨ty + 1, 1, none⟩) (by show ty + 1 < _; omega)).trans c25_3
        have c26_4 : W26.cell? ⟨tz, 0, none⟩ = some (.int .i64 d4) := (hb.cell (p := ⟨tz, 0, none⟩) (by show tz < _; omega)).trans c25_4
        have c26_5 : W26.cell? ⟨tz, 1, none⟩ = some (.slice A8 L.length c8) := (hb.cell (p := ⟨tz, 1, none⟩) (by show tz < _; omega)).trans c25_5
        have b26_0 : ty < W26.heap.size := by omega
        have b26_1 : ty + 1 < W26.heap.size := by omega
        have b26_2 : tz < W26.heap.size := by omega
        have R26_0 := hid (FreshA.below (cf := cIv) (sz := 2) (T := 50) (B := V19.heap.size) R25_0.out hk)
        have R26_1 := hid (FreshA.below (cf := cIv) (sz := 2) (T := 50) (B := V21.heap.size) R25_1.out hk)
        have R26_2 := hid (FreshA.below (cf := cIv) (sz := 2) (T := 50) (B := V23.heap.size) R25_2.out hk)
        have hw26 : Below w.heap.size w W26 := Below.trans hw (Below.mono hk (by have := hw.size; omega))
        clear hw hk
        have hw := hw26
        clear hw26
        have hwz := hw.size
        clear c25_0 c25_1 c25_2 c25_3 c25_4 c25_5 R25_0 R25_1 R25_2
        clear hb
        go_wp2_with (fail)
        go_ret
        exact ⟨by first | rfl | exact ret_bool (by simp), by first | exact hw | (repeat' (first | with_reducible exact Below.refl _ _ | with_reducible assumption | with_reducible refine Below.setCell ?_ ?_ _ | with_reducible refine Below.drew ?_ | with_reducible refine Below.alloc ?_ ?_ _ | with_reducible refine Below.trans ?_ (Below.mono (by assumption) ?_) | (dsimp only; omega) | (simp; done) | (simp; omega) | omega))⟩
      have hln1 : L.length ≤ xs3.length + 1 := by omega
      have hln2 : xs3.length + 1 ≤ L.length := by omega
      have HMF := hid hmf; have HMT := hid hmt; clear hmf hmt hlen
      go_wp2_with (fail)
      refine calls_named ?_
      intro V25 hV
      have hk : Below W24.heap.size W24 V25 := by rw [hV]; (repeat' (first | with_reducible exact Below.refl _ _ | with_reducible assumption | with_reducible refine Below.setCell ?_ ?_ _ | with_reducible refine Below.drew ?_ | with_reducible refine Below.alloc ?_ ?_ _ | with_reducible refine Below.trans ?_ (Below.mono (by assumption) ?_) | (dsimp only; omega) | (simp; done) | (simp; omega) | omega))
      have hkz25 := hk.size
      have c25_0 : V25.cell? ⟨ty, 0, none⟩ = some (.int .i64 d3) := (hk.cell (p := ⟨ty, 0, none⟩) (by show ty < _; omega)).trans c24_0
      have c25_1 : V25.cell? ⟨ty, 1, none⟩ = some (.slice Cf xs3.length cf3) := (hk.cell (p := ⟨ty, 1, none⟩) (by show ty < _; omega)).trans c24_1
      have c25_2 : V25.cell? ⟨ty + 1, 0, none⟩ = some (.int .i64 f3) := (hk.cell (p := ⟨ty + 1, 0, none⟩) (by show ty + 1 < _; omega)).trans c24_2
      have c25_3 : V25.cell? ⟨ty + 1, 1, none⟩ = some (.int .i64 t3) := (hk.cell (p := ⟨ty + 1, 1, none⟩) (by show ty + 1 < _; omega)).trans c24_3
      have c25_4 : V25.cell? ⟨tz, 0, none⟩ = some (.int .i64 d4) := (hk.cell (p := ⟨tz, 0, none⟩) (by show tz < _; omega)).trans c24_4
      have c25_5 : V25.cell? ⟨tz, 1, none⟩ = some (.slice A8 L.length c8) := (hk.cell (p := ⟨tz, 1, none⟩) (by show tz < _; omega)).trans c24_5
      have b25_0 : ty < V25.heap.size := by omega
      have b25_1 : ty + 1 < V25.heap.size := by omega
      have b25_2 : tz < V25.heap.size := by omega
      have R25_0 := hid (FreshA.below (cf := cIv) (sz := 2) (T := 50) (B := V19.heap.size) R24_0.out hk)
      have R25_1 := hid (FreshA.below (cf := cIv) (sz := 2) (T := 50) (B := V21.heap.size) R24_1.out hk)
      have R25_2 := hid (FreshA.below (cf := cIv) (sz := 2) (T := 50) (B := V23.heap.size) S24_2.out hk)
      have hw25 : Below w.heap.size w V25 := Below.trans hw (Below.mono hk (by have := hw.size; omega))
      clear hw hk
      have hw := hw25
      clear hw25
      have hwz := hw.size
      clear c24_0 c24_1 c24_2 c24_3 c24_4 c24_5 R24_0 R24_1 S24_2
      clear hV
      refine (c_laws_vIntervals A8 E8 L c8 e8 _ R25_1.out.rds R25_2.out.rds (by omega)).mono ?_
      rintro e W26 ⟨rfl, hb⟩
      have hk : Below V25.heap.size V25 W26 := hb
      have hkz26 := hk.size
      have c26_0 : W26.cell? ⟨ty, 0, none⟩ = some (.int .i64 d3) := (hb.cell (p := ⟨ty, 0, none⟩) (by show ty < _; omega)).trans c25_0
      have c26_1 : W26.cell? ⟨ty, 1, none⟩ = some (.slice Cf xs3.length cf3) := (hb.cell (p := ⟨ty, 1, none⟩) (by show ty < _; omega)).trans c25_1
      have c26_2 : W26.cell? ⟨ty + 1, 0, none⟩ = some (.int .i64 f3) := (hb.cell (p := ⟨ty + 1, 0, none⟩) (by show ty + 1 < _; omega)).trans c25_2
      have c26_3 : W26.cell? ⟨ty + 1, 1, none⟩ = some (.int .i64 t3) := (hb.cell (p := ⟨ty + 1, 1, none⟩) (by show ty + 1 < _; omega)).trans c25_3
      have c26_4 : W26.cell? ⟨tz, 0, none⟩ = some (.int .i64 d4) := (hb.cell (p := ⟨tz, 0, none⟩) (by show tz < _; omega)).trans c25_4
      have c26_5 : W26.cell? ⟨tz, 1, none⟩ = some (.slice A8 L.length c8) := (hb.cell (p := ⟨tz, 1, none⟩) (by show tz < _; omega)).trans c25_5
      have b26_0 : ty < W26.heap.size := by omega
      have b26_1 : ty + 1 < W26.heap.size := by omega
      have b26_2 : tz < W26.heap.size := by omega
      have R26_0 := hid (FreshA.below (cf := cIv) (sz := 2) (T := 50) (B := V19.heap.size) R25_0.out hk)
      have R26_1 := hid (FreshA.below (cf := cIv) (sz := 2) (T := 50) (B := V21.heap.size) R25_1.out hk)
      have R26_2 := hid (FreshA.below (cf := cIv) (sz := 2) (T := 50) (B := V23.heap.size) R25_2.out hk)
      have hw26 : Below w.heap.size w W26 := Below.trans hw (Below.mono hk (by have := hw.size; omega))
      clear hw hk
      have hw := hw26
      clear hw26
      have hwz := hw.size
      clear c25_0 c25_1 c25_2 c25_3 c25_4 c25_5 R25_0 R25_1 R25_2
      clear hb
      go_wp2_with (fail)
      refine calls_named ?_
      intro V27 hV
      have hk : Below W26.heap.size W26 V27 := by rw [hV]; (repeat' (first | with_reducible exact Below.refl _ _ | with_reducible assumption | with_reducible refine Below.setCell ?_ ?_ _ | with_reducible refine Below.drew ?_ | with_reducible refine Below.alloc ?_ ?_ _ | with_reducible refine Below.trans ?_ (Below.mono (by assumption) ?_) | (dsimp only; omega) | (simp; done) | (simp; omega) | omega))
      have hkz27 := hk.size
      have c27_0 : V27.cell? ⟨ty, 0, none⟩ = some (.int .i64 d3) := (hk.cell (p := ⟨ty, 0, none⟩) (by show ty < _; omega)).trans c26_0
      have c27_1 : V27.cell? ⟨ty, 1, none⟩ = some (.slice Cf xs3.length cf3) := (hk.cell (p := ⟨ty, 1, none⟩) (by show ty < _; omega)).trans c26_1
      have c27_2 : V27.cell? ⟨ty + 1, 0, none⟩ = some (.int .i64 f3) := (hk.cell (p := ⟨ty + 1, 0, none⟩) (by show ty + 1 < _; omega)).trans c26_2
      have c27_3 : V27.cell? ⟨ty + 1, 1, none⟩ = some (.int .i64 t3) := (hk.cell (p := ⟨ty + 1, 1, none⟩) (by show ty + 1 < _; omega)).trans c26_3
      have c27_4 : V27.cell? ⟨tz, 0, none⟩ = some (.int .i64 d4) := (hk.cell (p := ⟨tz, 0, none⟩) (by show tz < _; omega)).trans c26_4
      have c27_5 : V27.cell? ⟨tz, 1, none⟩ = some (.slice A8 L.length c8) := (hk.cell (p := ⟨tz, 1, none⟩) (by show tz < _; omega)).trans c26_5
      have b27_0 : ty < V27.heap.size := by omega
      have b27_1 : ty + 1 < V27.heap.size := by omega
      have b27_2 : tz < V27.heap.size := by omega
      have R27_0 := hid (FreshA.below (cf := cIv) (sz := 2) (T := 50) (B := V19.heap.size) R26_0.out hk)
      have R27_1 := hid (FreshA.below (cf := cIv) (sz := 2) (T := 50) (B := V21.heap.size) R26_1.out hk)
      have R27_2 := hid (FreshA.below (cf := cIv) (sz := 2) (T := 50) (B := V23.heap.size) R26_2.out hk)
      have hw27 : Below w.heap.size w V27 := Below.trans hw (Below.mono hk (by have := hw.size; omega))
      clear hw hk
      have hw := hw27
      clear hw27
      have hwz := hw.size
      clear c26_0 c26_1 c26_2 c26_3 c26_4 c26_5 R26_0 R26_1 R26_2
      clear hV
      refine (c_impl_MayOpen d4 A8 L c8 f3 _ R27_1.out.rds (by omega)).mono ?_
      simp only [HMF.out]
      rintro e W28 ⟨rfl, hb⟩
      have hk : Below V27.heap.size V27 W28 := hb
      have hkz28 := hk.size
      have c28_0 : W28.cell? ⟨ty, 0, none⟩ = some (.int .i64 d3) := (hb.cell (p := ⟨ty, 0, none⟩) (by show ty < _; omega)).trans c27_0
      have c28_1 : W28.cell? ⟨ty, 1, none⟩ = some (.slice Cf xs3.length cf3) := (hb.cell (p := ⟨ty, 1, none⟩) (by show ty < _; omega)).trans c27_1
      have c28_2 : W28.cell? ⟨ty + 1, 0, none⟩ = some (.int .i64 f3) := (hb.cell (p := ⟨ty + 1, 0, none⟩) (by show ty + 1 < _; omega)).trans c27_2
      have c28_3 : W28.cell? ⟨ty + 1, 1, none⟩ = some (.int .i64 t3) := (hb.cell (p := ⟨ty + 1, 1, none⟩) (by show ty + 1 < _; omega)).trans c27_3
      have c28_4 : W28.cell? ⟨tz, 0, none⟩ = some (.int .i64 d4) := (hb.cell (p := ⟨tz, 0, none⟩) (by show tz < _; omega)).trans c27_4
      have c28_5 : W28.cell? ⟨tz, 1, none⟩ = some (.slice A8 L.length c8) := (hb.cell (p := ⟨tz, 1, none⟩) (by show tz < _; omega)).trans c27_5
      have b28_0 : ty < W28.heap.size := by omega
      have b28_1 : ty + 1 < W28.heap.size := by omega
      have b28_2 : tz < W28.heap.size := by omega
      have R28_0 := hid (FreshA.below (cf := cIv) (sz := 2) (T := 50) (B := V19.heap.size) R27_0.out hk)
      have R28_1 := hid (FreshA.below (cf := cIv) (sz := 2) (T := 50) (B := V21.heap.size) R27_1.out hk)
      have R28_2 := hid (FreshA.below (cf := cIv) (sz := 2) (T := 50) (B := V23.heap.size) R27_2.out hk)
      have hw28 : Below w.heap.size w W28 := Below.trans hw (Below.mono hk (by have := hw.size; omega))
      clear hw hk
      have hw := hw28
      clear hw28
      have hwz := hw.size
      clear c27_0 c27_1 c27_2 c27_3 c27_4 c27_5 R27_0 R27_1 R27_2
      clear hb
      go_wp2_with (fail)
      refine calls_named ?_
      intro V29 hV
      have hk : Below W28.heap.size W28 V29 := by rw [hV]; (repeat' (first | with_reducible exact Below.refl _ _ | with_reducible assumption | with_reducible refine Below.setCell ?_ ?_ _ | with_reducible refine Below.drew ?_ | with_reducible refine Below.alloc ?_ ?_ _ | with_reducible refine Below.trans ?_ (Below.mono (by assumption) ?_) | (dsimp only; omega) | (simp; done) | (simp; omega) | omega))
      have hkz29 := hk.size
      have c29_0 : V29.cell? ⟨ty, 0, none⟩ = some (.int .i64 d3) := (hk.cell (p := ⟨ty, 0, none⟩) (by show ty < _; omega)).trans c28_0
      have c29_1 : V29.cell? ⟨ty, 1, none⟩ = some (.slice Cf xs3.length cf3) := (hk.cell (p := ⟨ty, 1, none⟩) (by show ty < _; omega)).trans c28_1
      have c29_2 : V29.cell? ⟨ty + 1, 0, none⟩ = some (.int .i64 f3) := (hk.cell (p := ⟨ty + 1, 0, none⟩) (by show ty + 1 < _; omega)).trans c28_2
      have c29_3 : V29.cell? ⟨ty + 1, 1, none⟩ = some (.int .i64 t3) := (hk.cell (p := ⟨ty + 1, 1, none⟩) (by show ty + 1 < _; omega)).trans c28_3
      have c29_4 : V29.cell? ⟨tz, 0, none⟩ = some (.int .i64 d4) := (hk.cell (p := ⟨tz, 0, none⟩) (by show tz < _; omega)).trans c28_4
      have c29_5 : V29.cell? ⟨tz, 1, none⟩ = some (.slice A8 L.length c8) := (hk.cell (p := ⟨tz, 1, none⟩) (by show tz < _; omega)).trans c28_5
      have b29_0 : ty < V29.heap.size := by omega
      have b29_1 : ty + 1 < V29.heap.size := by omega
      have b29_2 : tz < V29.heap.size := by omega
      have R29_0 := hid (FreshA.below (cf := cIv) (sz := 2) (T := 50) (B := V19.heap.size) R28_0.out hk)
      have R29_1 := hid (FreshA.below (cf := cIv) (sz := 2) (T := 50) (B := V21.heap.size) R28_1.out hk)
      have R29_2 := hid (FreshA.below (cf := cIv) (sz := 2) (T := 50) (B := V23.heap.size) R28_2.out hk)
      have hw29 : Below w.heap.size w V29 := Below.trans hw (Below.mono hk (by have := hw.size; omega))
      clear hw hk
      have hw := hw29
      clear hw29
      have hwz := hw.size
      clear c28_0 c28_1 c28_2 c28_3 c28_4 c28_5 R28_0 R28_1 R28_2
      clear hV
      refine (c_impl_MayOpen d4 A8 L c8 t3 _ R29_1.out.rds (by omega)).mono ?_
      simp only [HMT.out]
      rintro e W30 ⟨rfl, hb⟩
      have hk : Below V29.heap.size V29 W30 := hb
      have hkz30 := hk.size
      have c30_0 : W30.cell? ⟨ty, 0, none⟩ = some (.int .i64 d3) := (hb.cell (p := ⟨ty, 0, none⟩) (by show ty < _; omega)).trans c29_0
      have c30_1 : W30.cell? ⟨ty, 1, none⟩ = some (.slice Cf xs3.length cf3) := (hb.cell (p := ⟨ty, 1, none⟩) (by show ty < _; omega)).trans c29_1
      have c30_2 : W30.cell? ⟨ty + 1, 0, none⟩ = some (.int .i64 f3) := (hb.cell (p := ⟨ty + 1, 0, none⟩) (by show ty + 1 < _; omega)).trans c29_2
      have c30_3 : W30.cell? ⟨ty + 1, 1, none⟩ = some (.int .i64 t3) := (hb.cell (p := ⟨ty + 1, 1, none⟩) (by show ty + 1 < _; omega)).trans c29_3
      have c30_4 : W30.cell? ⟨tz, 0, none⟩ = some (.int .i64 d4) := (hb.cell (p := ⟨tz, 0, none⟩) (by show tz < _; omega)).trans c29_4
      have c30_5 : W30.cell? ⟨tz, 1, none⟩ = some (.slice A8 L.length c8) := (hb.cell (p := ⟨tz, 1, none⟩) (by show tz < _; omega)).trans c29_5
      have b30_0 : ty < W30.heap.size := by omega
      have b30_1 : ty + 1 < W30.heap.size := by omega
      have b30_2 : tz < W30.heap.size := by omega
      have R30_0 := hid (FreshA.below (cf := cIv) (sz := 2) (T := 50) (B := V19.heap.size) R29_0.out hk)
      have R30_1 := hid (FreshA.below (cf := cIv) (sz := 2) (T := 50) (B := V21.heap.size) R29_1.out hk)
      have R30_2 := hid (FreshA.below (cf := cIv) (sz := 2) (T := 50) (B := V23.heap.size) R29_2.out hk)
      have hw30 : Below w.heap.size w W30 := Below.trans hw (Below.mono hk (by have := hw.size; omega))
      clear hw hk
      have hw := hw30
      clear hw30
      have hwz := hw.size
      clear c29_0 c29_1 c29_2 c29_3 c29_4 c29_5 R29_0 R29_1 R29_2
      clear hb
      go_wp2_with (fail)
      go_ret
      exact ⟨ret_bool (by simp; omega), by first | exact hw | (repeat' (first | with_reducible exact Below.refl _ _ | with_reducible assumption | with_reducible refine Below.setCell ?_ ?_ _ | with_reducible refine Below.drew ?_ | with_reducible refine Below.alloc ?_ ?_ _ | with_reducible refine Below.trans ?_ (Below.mono (by assumption) ?_) | (dsimp only; omega) | (simp; done) | (simp; omega) | omega))⟩
    clear c10_0
    clear c10_1
    clear R10_0
    go_wp2_with (fail)
    refine calls_named ?_
    intro V11 hV
    have hk : Below W10.heap.size W10 V11 := by rw [hV]; (repeat' (first | with_reducible exact Below.refl _ _ | with_reducible assumption | with_reducible refine Below.setCell ?_ ?_ _ | with_reducible refine Below.drew ?_ | with_reducible refine Below.alloc ?_ ?_ _ | with_reducible refine Below.trans ?_ (Below.mono (by assumption) ?_) | (dsimp only; omega) | (simp; done) | (simp; omega) | omega))
    have hkz11 := hk.size
    have hw11 : Below w.heap.size w V11 := Below.trans hw (Below.mono hk (by have := hw.size; omega))
    clear hw hk
    have hw := hw11
    clear hw11
    have hwz := hw.size
    clear hV
    refine (c_spec_DrawLastOpening A cs cap _ (Rds.below hr hw) hby (by omega)).mono ?_
    rintro e W12 ⟨d2, Bf, cf2, xs2, f2, t2, rfl, hFf, hxl2, hb⟩
    have hk : Below V11.heap.size V11 W12 := hb
    have hkz12 := hk.size
    have hw12 : Below w.heap.size w W12 := Below.trans hw (Below.mono hk (by have := hw.size; omega))
    clear hw hk
    have hw := hw12
    clear hw12
    have hwz := hw.size
    clear hb
    have S12_0 : Hid (FreshA cIv 2 50 V11.heap.size W12 Bf cf2 xs2) := hid (hFf)
    have loS12_0 := S12_0.out.lo
    have hiS12_0 := S12_0.out.hi
    clear hFf
    obtain ⟨la, fine, hLa⟩ : ∃ la fine, lastV d2 xs2 f2 t2 = (la, fine) := ⟨_, _, rfl⟩
    obtain ⟨fi, one, hFi⟩ : ∃ fi one, nextV d2 xs2 f2 = (fi, one) := ⟨_, _, rfl⟩
    have hol := op_last hLa hFi
    have HLA := hid hLa; have HFI := hid hFi; have HOL := hid hol; clear hLa hFi hol
    go_wp2_with (fail)
    refine calls_named ?_
    intro V13 hV
    have hk : Below W12.heap.size W12 V13 := by rw [hV]; (repeat' (first | with_reducible exact Below.refl _ _ | with_reducible assumption | with_reducible refine Below.setCell ?_ ?_ _ | with_reducible refine Below.drew ?_ | with_reducible refine Below.alloc ?_ ?_ _ | with_reducible refine Below.trans ?_ (Below.mono (by assumption) ?_) | (dsimp only; omega) | (simp; done) | (simp; omega) | omega))
    have hkz13 := hk.size
    have R13_0 := hid (FreshA.below (cf := cIv) (sz := 2) (T := 50) (B := V11.heap.size) S12_0.out hk)
    have hw13 : Below w.heap.size w V13 := Below.trans hw (Below.mono hk (by have := hw.size; omega))
    clear hw hk
    have hw := hw13
    clear hw13
    have hwz := hw.size
    clear S12_0
    have d13_0 : V13.cell? ⟨W12.heap.size, 0, none⟩ = some (.int .i64 d2) := by rw [hV]; first | (simp [go_sem, ↓IntWalk.iteOmega, *]; done) | (simp [go_sem, ↓IntWalk.iteOmega, *]; intros; omega)
    have d13_1 : V13.cell? ⟨W12.heap.size, 1, none⟩ = some (.slice Bf xs2.length cf2) := by rw [hV]; first | (simp [go_sem, ↓IntWalk.iteOmega, *]; done) | (simp [go_sem, ↓IntWalk.iteOmega, *]; intros; omega)
    have e13_0 : W12.heap.size < V13.heap.size := by rw [hV]; first | (simp; done) | (simp; omega)
    clear hV
    generalize htbtx : W12.heap.size = tx at *
    refine (c_impl_LastOpening d2 Bf xs2 cf2 f2 t2 _ R13_0.out.rds (by omega)).mono ?_
    simp only [HLA.out]
    rintro e W14 ⟨rfl, hb⟩
    have hk : Below V13.heap.size V13 W14 := hb
    have hkz14 := hk.size
    have c14_0 : W14.cell? ⟨tx, 0, none⟩ = some (.int .i64 d2) := (hb.cell (p := ⟨tx, 0, none⟩) (by show tx < _; omega)).trans d13_0
    have c14_1 : W14.cell? ⟨tx, 1, none⟩ = some (.slice Bf xs2.length cf2) := (hb.cell (p := ⟨tx, 1, none⟩) (by show tx < _; omega)).trans d13_1
    have b14_0 : tx < W14.heap.size := by omega
    have R14_0 := hid (FreshA.below (cf := cIv) (sz := 2) (T := 50) (B := V11.heap.size) R13_0.out hk)
    have hw14 : Below w.heap.size w W14 := Below.trans hw (Below.mono hk (by have := hw.size; omega))
    clear hw hk
    have hw := hw14
    clear hw14
    have hwz := hw.size
    clear d13_0 d13_1 R13_0
    clear hb
    go_wp2_with (fail)
    refine calls_named ?_
    intro V15 hV
    have hk : Below W14.heap.size W14 V15 := by rw [hV]; (repeat' (first | with_reducible exact Below.refl _ _ | with_reducible assumption | with_reducible refine Below.setCell ?_ ?_ _ | with_reducible refine Below.drew ?_ | with_reducible refine Below.alloc ?_ ?_ _ | with_reducible refine Below.trans ?_ (Below.mono (by assumption) ?_) | (dsimp only; omega) | (simp; done) | (simp; omega) | omega))
    have hkz15 := hk.size
    have c15_0 : V15.cell? ⟨tx, 0, none⟩ = some (.int .i64 d2) := (hk.cell (p := ⟨tx, 0, none⟩) (by show tx < _; omega)).trans c14_0
    have c15_1 : V15.cell? ⟨tx, 1, none⟩ = some (.slice Bf xs2.length cf2) := (hk.cell (p := ⟨tx, 1, none⟩) (by show tx < _; omega)).trans c14_1
    have b15_0 : tx < V15.heap.size := by omega
    have R15_0 := hid (FreshA.below (cf := cIv) (sz := 2) (T := 50) (B := V11.heap.size) R14_0.out hk)
    have hw15 : Below w.heap.size w V15 := Below.trans hw (Below.mono hk (by have := hw.size; omega))
    clear hw hk
    have hw := hw15
    clear hw15
    have hwz := hw.size
    clear c14_0 c14_1 R14_0
    clear hV
    refine (c_spec_LastOpening d2 Bf xs2 cf2 f2 t2 _ R15_0.out.rds (by omega)).mono ?_
    simp only [HLA.out]
    rintro e W16 ⟨rfl, hb⟩
    have hk : Below V15.heap.size V15 W16 := hb
    have hkz16 := hk.size
    have c16_0 : W16.cell? ⟨tx, 0, none⟩ = some (.int .i64 d2) := (hb.cell (p := ⟨tx, 0, none⟩) (by show tx < _; omega)).trans c15_0
    have c16_1 : W16.cell? ⟨tx, 1, none⟩ = some (.slice Bf xs2.length cf2) := (hb.cell (p := ⟨tx, 1, none⟩) (by show tx < _; omega)).trans c15_1
    have b16_0 : tx < W16.heap.size := by omega
    have R16_0 := hid (FreshA.below (cf := cIv) (sz := 2) (T := 50) (B := V11.heap.size) R15_0.out hk)
    have hw16 : Below w.heap.size w W16 := Below.trans hw (Below.mono hk (by have := hw.size; omega))
    clear hw hk
    have hw := hw16
    clear hw16
    have hwz := hw.size
    clear c15_0 c15_1 R15_0
    clear hb
    cases fine
    · clear c16_0
      clear c16_1
      clear R16_0
      go_wp2_with (fail)
      refine calls_named ?_
      intro V17 hV
      have hk : Below W16.heap.size W16 V17 := by rw [hV]; (repeat' (first | with_reducible exact Below.refl _ _ | with_reducible assumption | with_reducible refine Below.setCell ?_ ?_ _ | with_reducible refine Below.drew ?_ | with_reducible refine Below.alloc ?_ ?_ _ | with_reducible refine Below.trans ?_ (Below.mono (by assumption) ?_) | (dsimp only; omega) | (simp; done) | (simp; omega) | omega))
      have hkz17 := hk.size
      have hw17 : Below w.heap.size w V17 := Below.trans hw (Below.mono hk (by have := hw.size; omega))
      clear hw hk
      have hw := hw17
      clear hw17
      have hwz := hw.size
      clear hV
      refine (c_spec_DrawAddClosure A cs cap _ (Rds.below hr hw) hby (by omega)).mono ?_
      rintro e W18 ⟨d3, Cf, cf3, xs3, f3, t3, rfl, hFf, hxl3, hb⟩
      have hk : Below V17.heap.size V17 W18 := hb
      have hkz18 := hk.size
      have hw18 : Below w.heap.size w W18 := Below.trans hw (Below.mono hk (by have := hw.size; omega))
      clear hw hk
      have hw := hw18
      clear hw18
      have hwz := hw.size
      clear hb
      have S18_0 : Hid (FreshA cIv 2 50 V17.heap.size W18 Cf cf3 xs3) := hid (hFf)
      have loS18_0 := S18_0.out.lo
      have hiS18_0 := S18_0.out.hi
      clear hFf
      obtain ⟨d4, L, known, hAd⟩ : ∃ d4 L known, addV d3 xs3 (f3, t3) = ((d4, L), known) := ⟨_, _, _, rfl⟩
      have hlL := addV_bd hAd
      have hac := op_add hAd
      have HA := hid hAd; clear hAd
      go_wp2_with (fail)
      refine calls_named ?_
      intro V19 hV
      have hk : Below W18.heap.size W18 V19 := by rw [hV]; (repeat' (first | with_reducible exact Below.refl _ _ | with_reducible assumption | with_reducible refine Below.setCell ?_ ?_ _ | with_reducible refine Below.drew ?_ | with_reducible refine Below.alloc ?_ ?_ _ | with_reducible refine Below.trans ?_ (Below.mono (by assumption) ?_) | (dsimp only; omega) | (simp; done) | (simp; omega) | omega))
      have hkz19 := hk.size
      have R19_0 := hid (FreshA.below (cf := cIv) (sz := 2) (T := 50) (B := V17.heap.size) S18_0.out hk)
      have hw19 : Below w.heap.size w V19 := Below.trans hw (Below.mono hk (by have := hw.size; omega))
      clear hw hk
      have hw := hw19
      clear hw19
      have hwz := hw.size
      clear S18_0
      have d19_0 : V19.cell? ⟨W18.heap.size, 0, none⟩ = some (.int .i64 d3) := by rw [hV]; first | (simp [go_sem, ↓IntWalk.iteOmega, *]; done) | (simp [go_sem, ↓IntWalk.iteOmega, *]; intros; omega)
      have d19_1 : V19.cell? ⟨W18.heap.size, 1, none⟩ = some (.slice Cf xs3.length cf3) := by rw [hV]; first | (simp [go_sem, ↓IntWalk.iteOmega, *]; done) | (simp [go_sem, ↓IntWalk.iteOmega, *]; intros; omega)
      have e19_0 : W18.heap.size < V19.heap.size := by rw [hV]; first | (simp; done) | (simp; omega)
      have d19_2 : V19.cell? ⟨W18.heap.size + 1, 0, none⟩ = some (.int .i64 f3) := by rw [hV]; first | (simp [go_sem, ↓IntWalk.iteOmega, *]; done) | (simp [go_sem, ↓IntWalk.iteOmega, *]; intros; omega)
      have d19_3 : V19.cell? ⟨W18.heap.size + 1, 1, none⟩ = some (.int .i64 t3) := by rw [hV]; first | (simp [go_sem, ↓IntWalk.iteOmega, *]; done) | (simp [go_sem, ↓IntWalk.iteOmega, *]; intros; omega)
      have e19_1 : W18.heap.size + 1 < V19.heap.size := by rw [hV]; first | (simp; done) | (simp; omega)
      clear hV
      generalize htbty : W18.heap.size = ty at *
      refine (c_impl_AddClosure d3 Cf xs3 cf3 f3 t3 _ R19_0.out.rds (by omega)).mono ?_
      simp only [HA.out]
      rintro e W20 ⟨A8, c8, rfl, hF8, hb⟩
      have hk : Below V19.heap.size V19 W20 := hb
      have hkz20 := hk.size
      have c20_0 : W20.cell? ⟨ty, 0, none⟩ = some (.int .i64 d3) := (hb.cell (p := ⟨ty, 0, none⟩) (by show ty < _; omega)).trans d19_0
      have c20_1 : W20.cell? ⟨ty, 1, none⟩ = some (.slice Cf xs3.length cf3) := (hb.cell (p := ⟨ty, 1, none⟩) (by show ty < _; omega)).trans d19_1
      have c20_2 : W20.cell? ⟨ty + 1, 0, none⟩ = some (.int .i64 f3) := (hb.cell (p := ⟨ty + 1, 0, none⟩) (by show ty + 1 < _; omega)).trans d19_2
      have c20_3 : W20.cell? ⟨ty + 1, 1, none⟩ = some (.int .i64 t3) := (hb.cell (p := ⟨ty + 1, 1, none⟩) (by show ty + 1 < _; omega)).trans d19_3
      have b20_0 : ty < W20.heap.size := by omega
      have b20_1 : ty + 1 < W20.heap.size := by omega
      have R20_0 := hid (FreshA.below (cf := cIv) (sz := 2) (T := 50) (B := V17.heap.size) R19_0.out hk)
      have hw20 : Below w.heap.size w W20 := Below.trans hw (Below.mono hk (by have := hw.size; omega))
      clear hw hk
      have hw := hw20
      clear hw20
      have hwz := hw.size
      clear d19_0 d19_1 d19_2 d19_3 R19_0
      clear hb
      have S20_1 : Hid (FreshA cIv 2 50 V19.heap.size W20 A8 c8 L) := hid (hF8)
      have loS20_1 := S20_1.out.lo
      have hiS20_1 := S20_1.out.hi
      clear hF8
      go_wp2_with (fail)
      refine calls_named ?_
      intro V21 hV
      have hk : Below W20.heap.size W20 V21 := by rw [hV]; (repeat' (first | with_reducible exact Below.refl _ _ | with_reducible assumption | with_reducible refine Below.setCell ?_ ?_ _ | with_reducible refine Below.drew ?_ | with_reducible refine Below.alloc ?_ ?_ _ | with_reducible refine Below.trans ?_ (Below.mono (by assumption) ?_) | (dsimp only; omega) | (simp; done) | (simp; omega) | omega))
      have hkz21 := hk.size
      have c21_0 : V21.cell? ⟨ty, 0, none⟩ = some (.int .i64 d3) := (hk.cell (p := ⟨ty, 0, none⟩) (by show ty < _; omega)).trans c20_0
      have c21_1 : V21.cell? ⟨ty, 1, none⟩ = some (.slice Cf xs3.length cf3) := (hk.cell (p := ⟨ty, 1, none⟩) (by show ty < _; omega)).trans c20_1
      have c21_2 : V21.cell? ⟨ty + 1, 0, none⟩ = some (.int .i64 f3) := (hk.cell (p := ⟨ty + 1, 0, none⟩) (by show ty + 1 < _; omega)).trans c20_2
      have c21_3 : V21.cell? ⟨ty + 1, 1, none⟩ = some (.int .i64 t3) := (hk.cell (p := ⟨ty + 1, 1, none⟩) (by show ty + 1 < _; omega)).trans c20_3
      have b21_0 : ty < V21.heap.size := by omega
      have b21_1 : ty + 1 < V21.heap.size := by omega
      have R21_0 := hid (FreshA.below (cf := cIv) (sz := 2) (T := 50) (B := V17.heap.size) R20_0.out hk)
      have R21_1 := hid (FreshA.below (cf := cIv) (sz := 2) (T := 50) (B := V19.heap.size) S20_1.out hk)
      have hw21 : Below w.heap.size w V21 := Below.trans hw (Below.mono hk (by have := hw.size; omega))
      clear hw hk
      have hw := hw21
      clear hw21
      have hwz := hw.size
      clear c20_0 c20_1 c20_2 c20_3 R20_0 S20_1
      have d21_4 : V21.cell? ⟨W20.heap.size, 0, none⟩ = some (.int .i64 d4) := by rw [hV]; first | (simp [go_sem, ↓IntWalk.iteOmega, *]; done) | (simp [go_sem, ↓IntWalk.iteOmega, *]; intros; omega)
      have d21_5 : V21.cell? ⟨W20.heap.size, 1, none⟩ = some (.slice A8 L.length c8) := by rw [hV]; first | (simp [go_sem, ↓IntWalk.iteOmega, *]; done) | (simp [go_sem, ↓IntWalk.iteOmega, *]; intros; omega)
      have e21_2 : W20.heap.size < V21.heap.size := by rw [hV]; first | (simp; done) | (simp; omega)
      clear hV
      generalize htbtz : W20.heap.size = tz at *
      refine (c_spec_AddClosure d3 Cf xs3 cf3 f3 t3 _ R21_0.out.rds (by omega) (R21_0.out).capLe).mono ?_
      simp only [HA.out]
      rintro e W22 ⟨E8, e8, rfl, hF8, hb⟩
      have hk : Below V21.heap.size V21 W22 := hb
      have hkz22 := hk.size
      have c22_0 : W22.cell? ⟨ty, 0, none⟩ = some (.int .i64 d3) := (hb.cell (p := ⟨ty, 0, none⟩) (by show ty < _; omega)).trans c21_0
      have c22_1 : W22.cell? ⟨ty, 1, none⟩ = some (.slice Cf xs3.length cf3) := (hb.cell (p := ⟨ty, 1, none⟩) (by show ty < _; omega)).trans c21_1
      have c22_2 : W22.cell? ⟨ty + 1, 0, none⟩ = some (.int .i64 f3) := (hb.cell (p := ⟨ty + 1, 0, none⟩) (by show ty + 1 < _; omega)).trans c21_2
      have c22_3 : W22.cell? ⟨ty + 1, 1, none⟩ = some (.int .i64 t3) := (hb.cell (p := ⟨ty + 1, 1, none⟩) (by show ty + 1 < _; omega)).trans c21_3
      have c22_4 : W22.cell? ⟨tz, 0, none⟩ = some (.int .i64 d4) := (hb.cell (p := ⟨tz, 0, none⟩) (by show tz < _; omega)).trans d21_4
      have c22_5 : W22.cell? ⟨tz, 1, none⟩ = some (.slice A8 L.length c8) := (hb.cell (p := ⟨tz, 1, none⟩) (by show tz < _; omega)).trans d21_5
      have b22_0 : ty < W22.heap.size := by omega
      have b22_1 : ty + 1 < W22.heap.size := by omega
      have b22_2 : tz < W22.heap.size := by omega
      have R22_0 := hid (FreshA.below (cf := cIv) (sz := 2) (T := 50) (B := V17.heap.size) R21_0.out hk)
      have R22_1 := hid (FreshA.below (cf := cIv) (sz := 2) (T := 50) (B := V19.heap.size) R21_1.out hk)
      have hw22 : Below w.heap.size w W22 := Below.trans hw (Below.mono hk (by have := hw.size; omega))
      clear hw hk
      have hw := hw22
      clear hw22
      have hwz := hw.size
      clear c21_0 c21_1 c21_2 c21_3 d21_4 d21_5 R21_0 R21_1
      clear hb
      have S22_2 : Hid (FreshA cIv 2 50 V21.heap.size W22 E8 e8 L) := hid (hF8)
      have loS22_2 := S22_2.out.lo
      have hiS22_2 := S22_2.out.hi
      clear hF8
      rcases hac with rfl | ⟨rfl, hlen, hmf, hmt⟩
      · go_wp2_with (fail)
        refine calls_named ?_
        intro V23 hV
        have hk : Below W22.heap.size W22 V23 := by rw [hV]; (repeat' (first | with_reducible exact Below.refl _ _ | with_reducible assumption | with_reducible refine Below.setCell ?_ ?_ _ | with_reducible refine Below.drew ?_ | with_reducible refine Below.alloc ?_ ?_ _ | with_reducible refine Below.trans ?_ (Below.mono (by assumption) ?_) | (dsimp only; omega) | (simp; done) | (simp; omega) | omega))
        have hkz23 := hk.size
        have c23_0 : V23.cell? ⟨ty, 0, none⟩ = some (.int .i64 d3) := (hk.cell (p := ⟨ty, 0, none⟩) (by show ty < _; omega)).trans c22_0
        have c23_1 : V23.cell? ⟨ty, 1, none⟩ = some (.slice Cf xs3.length cf3) := (hk.cell (p := ⟨ty, 1, none⟩) (by show ty < _; omega)).trans c22_1
        have c23_2 : V23.cell? ⟨ty + 1, 0, none⟩ = some (.int .i64 f3) := (hk.cell (p := ⟨ty + 1, 0, none⟩) (by show ty + 1 < _; omega)).trans c22_2
        have c23_3 : V23.cell? ⟨ty + 1, 1, none⟩ = some (.int .i64 t3) := (hk.cell (p := ⟨ty + 1, 1, none⟩) (by show ty + 1 < _; omega)).trans c22_3
        have c23_4 : V23.cell? ⟨tz, 0, none⟩ = some (.int .i64 d4) := (hk.cell (p := ⟨tz, 0, none⟩) (by show tz < _; omega)).trans c22_4
        have c23_5 : V23.cell? ⟨tz, 1, none⟩ = some (.slice A8 L.length c8) := (hk.cell (p := ⟨tz, 1, none⟩) (by show tz < _; omega)).trans c22_5
        have b23_0 : ty < V23.heap.size := by omega
        have b23_1 : ty + 1 < V23.heap.size := by omega
        have b23_2 : tz < V23.heap.size := by omega
        have R23_0 := hid (FreshA.below (cf := cIv) (sz := 2) (T := 50) (B := V17.heap.size) R22_0.out hk)
        have R23_1 := hid (FreshA.below (cf := cIv) (sz := 2) (T := 50) (B := V19.heap.size) R22_1.out hk)
        have R23_2 := hid (FreshA.below (cf := cIv) (sz := 2) (T := 50) (B := V21.heap.size) S22_2.out hk)
        have hw23 : Below w.heap.size w V23 := Below.trans hw (Below.mono hk (by have := hw.size; omega))
        clear hw hk
        have hw := hw23
        clear hw23
        have hwz := hw.size
        clear c22_0 c22_1 c22_2 c22_3 c22_4 c22_5 R22_0 R22_1 S22_2
        clear hV
        refine (c_laws_vIntervals A8 E8 L c8 e8 _ R23_1.out.rds R23_2.out.rds (by omega)).mono ?_
        rintro e W24 ⟨rfl, hb⟩
        have hk : Below V23.heap.size V23 W24 := hb
        have hkz24 := hk.size
        have c24_0 : W24.cell? ⟨ty, 0, none⟩ = some (.int .i64 d3) := (hb.cell (p := ⟨ty, 0, none⟩) (by show ty < _; omega)).trans c23_0
        have c24_1 : W24.cell? ⟨ty, 1, none⟩ = some (.slice Cf xs3.length cf3) := (hb.cell (p := ⟨ty, 1, none⟩) (by show ty < _; omega)).trans c23_1
        have c24_2 : W24.cell? ⟨ty + 1, 0, none⟩ = some (.int .i64 f3) := (hb.cell (p := ⟨ty + 1, 0, none⟩) (by show ty + 1 < _; omega)).trans c23_2
        have c24_3 : W24.cell? ⟨ty + 1, 1, none⟩ = some (.int .i64 t3) := (hb.cell (p := ⟨ty + 1, 1, none⟩) (by show ty + 1 < _; omega)).trans c23_3
        have c24_4 : W24.cell? ⟨tz, 0, none⟩ = some (.int .i64 d4) := (hb.cell (p := ⟨tz, 0, none⟩) (by show tz < _; omega)).trans c23_4
        have c24_5 : W24.cell? ⟨tz, 1, none⟩ = some (.slice A8 L.length c8) := (hb.cell (p := ⟨tz, 1, none⟩) (by show tz < _; omega)).trans c23_5
        have b24_0 : ty < W24.heap.size := by omega
        have b24_1 : ty + 1 < W24.heap.size := by omega
        have b24_2 : tz < W24.heap.size := by omega
        have R24_0 := hid (FreshA.below (cf := cIv) (sz := 2) (T := 50) (B := V17.heap.size) R23_0.out hk)
        have R24_1 := hid (FreshA.below (cf := cIv) (sz := 2) (T := 50) (B := V19.heap.size) R23_1.out hk)
        have R24_2 := hid (FreshA.below (cf := cIv) (sz := 2) (T := 50) (B := V21.heap.size) R23_2.out hk)
        have hw24 : Below w.heap.size w W24 := Below.trans hw (Below.mono hk (by have := hw.size; omega))
        clear hw hk
        have hw := hw24
        clear hw24
        have hwz := hw.size
        clear c23_0 c23_1 c23_2 c23_3 c23_4 c23_5 R23_0 R23_1 R23_2
        clear hb
        go_wp2_with (fail)
        go_ret
        exact ⟨by first | rfl | exact ret_bool (by simp), by first | exact hw | (repeat' (first | with_reducible exact Below.refl _ _ | with_reducible assumption | with_reducible refine Below.setCell ?_ ?_ _ | with_reducible refine Below.drew ?_ | with_reducible refine Below.alloc ?_ ?_ _ | with_reducible refine Below.trans ?_ (Below.mono (by assumption) ?_) | (dsimp only; omega) | (simp; done) | (simp; omega) | omega))⟩
      have hln1 : L.length ≤ xs3.length + 1 := by omega
      have hln2 : xs3.length + 1 ≤ L.length := by omega
      have HMF := hid hmf; have HMT := hid hmt; clear hmf hmt hlen
      go_wp2_with (fail)
      refine calls_named ?_
      intro V23 hV
      have hk : Below W22.heap.size W22 V23 := by rw [hV]; (repeat' (first | with_reducible exact Below.refl _ _ | with_reducible assumption | with_reducible refine Below.setCell ?_ ?_ _ | with_reducible refine Below.drew ?_ | with_reducible refine Below.alloc ?_ ?_ _ | with_reducible refine Below.trans ?_ (Below.mono (by assumption) ?_) | (dsimp only; omega) | (simp; done) | (simp; omega) | omega))
      have hkz23 := hk.size
      have c23_0 : V23.cell? ⟨ty, 0, none⟩ = some (.int .i64 d3) := (hk.cell (p := ⟨ty, 0, none⟩) (by show ty < _; omega)).trans c22_0
      have c23_1 : V23.cell? ⟨ty, 1, none⟩ = some (.slice Cf xs3.length cf3) := (hk.cell (p := ⟨ty, 1, none⟩) (by show ty < _; omega)).trans c22_1
      have c23_2 : V23.cell? ⟨ty + 1, 0, none⟩ = some (.int .i64 f3) := (hk.cell (p := ⟨ty + 1, 0, none⟩) (by show ty + 1 < _; omega)).trans c22_2
      have c23_3 : V23.cell? ⟨ty + 1, 1, none⟩ = some (.int .i64 t3) := (hk.cell (p := ⟨ty + 1, 1, none⟩) (by show ty + 1 < _; omega)).trans c22_3
      have c23_4 : V23.cell? ⟨tz, 0, none⟩ = some (.int .i64 d4) := (hk.cell (p := ⟨tz, 0, none⟩) (by show tz < _; omega)).trans c22_4
      have c23_5 : V23.cell? ⟨tz, 1, none⟩ = some (.slice A8 L.length c8) := (hk.cell (p := ⟨tz, 1, none⟩) (by show tz < _; omega)).trans c22_5
      have b23_0 : ty < V23.heap.size := by omega
      have b23_1 : ty + 1 < V23.heap.size := by omega
      have b23_2 : tz < V23.heap.size := by omega
      have R23_0 := hid (FreshA.below (cf := cIv) (sz := 2) (T := 50) (B := V17.heap.size) R22_0.out hk)
      have R23_1 := hid (FreshA.below (cf := cIv) (sz := 2) (T := 50) (B := V19.heap.size) R22_1.out hk)
      have R23_2 := hid (FreshA.below (cf := cIv) (sz := 2) (T := 50) (B := V21.heap.size) S22_2.out hk)
      have hw23 : Below w.heap.size w V23 := Below.trans hw (Below.mono hk (by have := hw.size; omega))
      clear hw hk
      have hw := hw23
      clear hw23
      have hwz := hw.size
      clear c22_0 c22_1 c22_2 c22_3 c22_4 c22_5 R22_0 R22_1 S22_2
      clear hV
      refine (c_laws_vIntervals A8 E8 L c8 e8 _ R23_1.out.rds R23_2.out.rds (by omega)).mono ?_
      rintro e W24 ⟨rfl, hb⟩
      have hk : Below V23.heap.size V23 W24 := hb
      have hkz24 := hk.size
      have c24_0 : W24.cell? ⟨ty, 0, none⟩ = some (.int .i64 d3) := (hb.cell (p := ⟨ty, 0, none⟩) (by show ty < _; omega)).trans c23_0
      have c24_1 : W24.cell? ⟨ty, 1, none⟩ = some (.slice Cf xs3.length cf3) := (hb.cell (p := ⟨ty, 1, none⟩) (by show ty < _; omega)).trans c23_1
      have c24_2 : W24.cell? ⟨ty + 1, 0, none⟩ = some (.int .i64 f3) := (hb.cell (p := ⟨ty + 1, 0, none⟩) (by show ty + 1 < _; omega)).trans c23_2
      have c24_3 : W24.cell? ⟨ty + 1, 1, none⟩ = some (.int .i64 t3) := (hb.cell (p := ⟨ty + 1, 1, none⟩) (by show ty + 1 < _; omega)).trans c23_3
      have c24_4 : W24.cell? ⟨tz, 0, none⟩ = some (.int .i64 d4) := (hb.cell (p := ⟨tz, 0, none⟩) (by show tz < _; omega)).trans c23_4
      have c24_5 : W24.cell? ⟨tz, 1, none⟩ = some (.slice A8 L.length c8) := (hb.cell (p := ⟨tz, 1, none⟩) (by show tz < _; omega)).trans c23_5
      have b24_0 : ty < W24.heap.size := by omega
      have b24_1 : ty + 1 < W24.heap.size := by omega
      have b24_2 : tz < W24.heap.size := by omega
      have R24_0 := hid (FreshA.below (cf := cIv) (sz := 2) (T := 50) (B := V17.heap.size) R23_0.out hk)
      have R24_1 := hid (FreshA.below (cf := cIv) (sz := 2) (T := 50) (B := V19.heap.size) R23_1.out hk)
      have R24_2 := hid (FreshA.below (cf := cIv) (sz := 2) (T := 50) (B := V21.heap.size) R23_2.out hk)
      have hw24 : Below w.heap.size w W24 := Below.trans hw (Below.mono hk (by have := hw.size; omega))
      clear hw hk
      have hw := hw24
      clear hw24
      have hwz := hw.size
      clear c23_0 c23_1 c23_2 c23_3 c23_4 c23_5 R23_0 R23_1 R23_2
      clear hb
      go_wp2_with (fail)
      refine calls_named ?_
      intro V25 hV
      have hk : Below W24.heap.size W24 V25 := by rw [hV]; (repeat' (first | with_reducible exact Below.refl _ _ | with_reducible assumption | with_reducible refine Below.setCell ?_ ?_ _ | with_reducible refine Below.drew ?_ | with_reducible refine Below.alloc ?_ ?_ _ | with_reducible refine Below.trans ?_ (Below.mono (by assumption) ?_) | (dsimp only; omega) | (simp; done) | (simp; omega) | omega))
      have hkz25 := hk.size
      have c25_0 : V25.cell? ⟨ty, 0, none⟩ = some (.int .i64 d3) := (hk.cell (p := ⟨ty, 0, none⟩) (by show ty < _; omega)).trans c24_0
      have c25_1 : V25.cell? ⟨ty, 1, none⟩ = some (.slice Cf xs3.length cf3) := (hk.cell (p := ⟨ty, 1, none⟩) (by show ty < _; omega)).trans c24_1
      have c25_2 : V25.cell? ⟨ty + 1, 0, none⟩ = some (.int .i64 f3) := (hk.cell (p := ⟨ty + 1, 0, none⟩) (by show ty + 1 < _; omega)).trans c24_2
      have c25_3 : V25.cell? ⟨ty + 1, 1, none⟩ = some (.int .i64 t3) := (hk.cell (p := ⟨ty + 1, 1, none⟩) (by show ty + 1 < _; omega)).trans c24_3
      have c25_4 : V25.cell? ⟨tz, 0, none⟩ = some (.int .i64 d4) := (hk.cell (p := ⟨tz, 0, none⟩) (by show tz < _; omega)).trans c24_4
      have c25_5 : V25.cell? ⟨tz, 1, none⟩ = some (.slice A8 L.length c8) := (hk.cell (p := ⟨tz, 1, none⟩) (by show tz < _; omega)).trans c24_5
      have b25_0 : ty < V25.heap.size := by omega
      have b25_1 : ty + 1 < V25.heap.size := by omega
      have b25_2 : tz < V25.heap.size := by omega
      have R25_0 := hid (FreshA.below (cf := cIv) (sz := 2) (T := 50) (B := V17.heap.size) R24_0.out hk)
      have R25_1 := hid (FreshA.below (cf := cIv) (sz := 2) (T := 50) (B := V19.heap.size) R24_1.out hk)
      have R25_2 := hid (FreshA.below (cf := cIv) (sz := 2) (T := 50) (B := V21.heap.size) R24_2.out hk)
      have hw25 : Below w.heap.size w V25 := Below.trans hw (Below.mono hk (by have := hw.size; omega))
      clear hw hk
      have hw := hw25
      clear hw25
      have hwz := hw.size
      clear c24_0 c24_1 c24_2 c24_3 c24_4 c24_5 R24_0 R24_1 R24_2
      clear hV
      refine (c_impl_MayOpen d4 A8 L c8 f3 _ R25_1.out.rds (by omega)).mono ?_
      simp only [HMF.out]
      rintro e W26 ⟨rfl, hb⟩
      have hk : Below V25.heap.size V25 W26 := hb
      have hkz26 := hk.size
      have c26_0 : W26.cell? ⟨ty, 0, none⟩ = some (.int .i64 d3) := (hb.cell (p := ⟨ty, 0, none⟩) (by show ty < _; omega)).trans c25_0
      have c26_1 : W26.cell? ⟨ty, 1, none⟩ = some (.slice Cf xs3.length cf3) := (hb.cell (p := ⟨ty, 1, none⟩) (by show ty < _; omega)).trans c25_1
      have c26_2 : W26.cell? ⟨ty + 1, 0, none⟩ = some (.int .i64 f3) := (hb.cell (p := ⟨ty + 1, 0, none⟩) (by show ty + 1 < _; omega)).trans c25_2
      have c26_3 : W26.cell? ⟨ty + 1, 1, none⟩ = some (.int .i64 t3) := (hb.cell (p := ⟨ty + 1, 1, none⟩) (by show ty + 1 < _; omega)).trans c25_3
      have c26_4 : W26.cell? ⟨tz, 0, none⟩ = some (.int .i64 d4) := (hb.cell (p := ⟨tz, 0, none⟩) (by show tz < _; omega)).trans c25_4
      have c26_5 : W26.cell? ⟨tz, 1, none⟩ = some (.slice A8 L.length c8) := (hb.cell (p := ⟨tz, 1, none⟩) (by show tz < _; omega)).trans c25_5
      have b26_0 : ty < W26.heap.size := by omega
      have b26_1 : ty + 1 < W26.heap.size := by omega
      have b26_2 : tz < W26.heap.size := by omega
      have R26_0 := hid (FreshA.below (cf := cIv) (sz := 2) (T := 50) (B := V17.heap.size) R25_0.out hk)
      have R26_1 := hid (FreshA.below (cf := cIv) (sz := 2) (T := 50) (B := V19.heap.size) R25_1.out hk)
      have R26_2 := hid (FreshA.below (cf := cIv) (sz := 2) (T := 50) (B := V21.heap.size) R25_2.out hk)
      have hw26 : Below w.heap.size w W26 := Below.trans hw (Below.mono hk (by have := hw.size; omega))
      clear hw hk
      have hw := hw26
      clear hw26
      have hwz := hw.size
      clear c25_0 c25_1 c25_2 c25_3 c25_4 c25_5 R25_0 R25_1 R25_2
      clear hb
      go_wp2_with (fail)
      refine calls_named ?_
      intro V27 hV
      have hk : Below W26.heap.size W26 V27 := by rw [hV]; (repeat' (first | with_reducible exact Below.refl _ _ | with_reducible assumption | with_reducible refine Below.setCell ?_ ?_ _ | with_reducible refine Below.drew ?_ | with_reducible refine Below.alloc ?_ ?_ _ | with_reducible refine Below.trans ?_ (Below.mono (by assumption) ?_) | (dsimp only; omega) | (simp; done) | (simp; omega) | omega))
      have hkz27 := hk.size
      have c27_0 : V27.cell? ⟨ty, 0, none⟩ = some (.int .i64 d3) := (hk.cell (p := ⟨ty, 0, none⟩) (by show ty < _; omega)).trans c26_0
      have c27_1 : V27.cell? ⟨ty, 1, none⟩ = some (.slice Cf xs3.length cf3) := (hk.cell (p := ⟨ty, 1, none⟩) (by show ty < _; omega)).trans c26_1
      have c27_2 : V27.cell? ⟨ty + 1, 0, none⟩ = some (.int .i64 f3) := (hk.cell (p := ⟨ty + 1, 0, none⟩) (by show ty + 1 < _; omega)).trans c26_2
      have c27_3 : V27.cell? ⟨ty + 1, 1, none⟩ = some (.int .i64 t3) := (hk.cell (p := ⟨ty + 1, 1, none⟩) (by show ty + 1 < _; omega)).trans c26_3
      have c27_4 : V27.cell? ⟨tz, 0, none⟩ = some (.int .i64 d4) := (hk.cell (p := ⟨tz, 0, none⟩) (by show tz < _; omega)).trans c26_4
      have c27_5 : V27.cell? ⟨tz, 1, none⟩ = some (.slice A8 L.length c8) := (hk.cell (p := ⟨tz, 1, none⟩) (by show tz < _; omega)).trans c26_5
      have b27_0 : ty < V27.heap.size := by omega
      have b27_1 : ty + 1 < V27.heap.size := by omega
      have b27_2 : tz < V27.heap.size := by omega
      have R27_0 := hid (FreshA.below (cf := cIv) (sz := 2) (T := 50) (B := V17.heap.size) R26_0.out hk)
      have R27_1 := hid (FreshA.below (cf := cIv) (sz := 2) (T := 50) (B := V19.heap.size) R26_1.out hk)
      have R27_2 := hid (FreshA.below (cf := cIv) (sz := 2) (T := 50) (B := V21.heap.size) R26_2.out hk)
      have hw27 : Below w.heap.size w V27 := Below.trans hw (Below.mono hk (by have := hw.size; omega))
      clear hw hk
      have hw := hw27
      clear hw27
      have hwz := hw.size
      clear c26_0 c26_1 c26_2 c26_3 c26_4 c26_5 R26_0 R26_1 R26_2
      clear hV
      refine (c_impl_MayOpen d4 A8 L c8 t3 _ R27_1.out.rds (by omega)).mono ?_
      simp only [HMT.out]
      rintro e W28 ⟨rfl, hb⟩
      have hk : Below V27.heap.size V27 W28 := hb
      have hkz28 := hk.size
      have c28_0 : W28.cell? ⟨ty, 0, none⟩ = some (.int .i64 d3) := (hb.cell (p := ⟨ty, 0, none⟩) (by show ty < _; omega)).trans c27_0
      have c28_1 : W28.cell? ⟨ty, 1, none⟩ = some (.slice Cf xs3.length cf3) := (hb.cell (p := ⟨ty, 1, none⟩) (by show ty < _; omega)).trans c27_1
      have c28_2 : W28.cell? ⟨ty + 1, 0, none⟩ = some (.int .i64 f3) := (hb.cell (p := ⟨ty + 1, 0, none⟩) (by show ty + 1 < _; omega)).trans c27_2
      have c28_3 : W28.cell? ⟨ty + 1, 1, none⟩ = some (.int .i64 t3) := (hb.cell (p := ⟨ty + 1, 1, none⟩) (by show ty + 1 < _; omega)).trans c27_3
      have c28_4 : W28.cell? ⟨tz, 0, none⟩ = some (.int .i64 d4) := (hb.cell (p := ⟨tz, 0, none⟩) (by show tz < _; omega)).trans c27_4
      have c28_5 : W28.cell? ⟨tz, 1, none⟩ = some (.slice A8 L.length c8) := (hb.cell (p := ⟨tz, 1, none⟩) (by show tz < _; omega)).trans c27_5
      have b28_0 : ty < W28.heap.size := by omega
      have b28_1 : ty + 1 < W28.heap.size := by omega
      have b28_2 : tz < W28.heap.size := by omega
      have R28_0 := hid (FreshA.below (cf := cIv) (sz := 2) (T := 50) (B := V17.heap.size) R27_0.out hk)
      have R28_1 := hid (FreshA.below (cf := cIv) (sz := 2) (T := 50) (B := V19.heap.size) R27_1.out hk)
      have R28_2 := hid (FreshA.below (cf := cIv) (sz := 2) (T := 50) (B := V21.heap.size) R27_2.out hk)
      have hw28 : Below w.heap.size w W28 := Below.trans hw (Below.mono hk (by have := hw.size; omega))
      clear hw hk
      have hw := hw28
      clear hw28
      have hwz := hw.size
      clear c27_0 c27_1 c27_2 c27_3 c27_4 c27_5 R27_0 R27_1 R27_2
      clear hb
      go_wp2_with (fail)
      go_ret
      exact ⟨ret_bool (by simp; omega), by first | exact hw | (repeat' (first | with_reducible exact Below.refl _ _ | with_reducible assumption | with_reducible refine Below.setCell ?_ ?_ _ | with_reducible refine Below.drew ?_ | with_reducible refine Below.alloc ?_ ?_ _ | with_reducible refine Below.trans ?_ (Below.mono (by assumption) ?_) | (dsimp only; omega) | (simp; done) | (simp; omega) | omega))⟩
    obtain ⟨ho1, ho2, ho3⟩ := HOL.out rfl
    subst ho1
    go_wp2_with (fail)
    refine calls_named ?_
    intro V17 hV
    have hk : Below W16.heap.size W16 V17 := by rw [hV]; (repeat' (first | with_reducible exact Below.refl _ _ | with_reducible assumption | with_reducible refine Below.setCell ?_ ?_ _ | with_reducible refine Below.drew ?_ | with_reducible refine Below.alloc ?_ ?_ _ | with_reducible refine Below.trans ?_ (Below.mono (by assumption) ?_) | (dsimp only; omega) | (simp; done) | (simp; omega) | omega))
    have hkz17 := hk.size
    have c17_0 : V17.cell? ⟨tx, 0, none⟩ = some (.int .i64 d2) := (hk.cell (p := ⟨tx, 0, none⟩) (by show tx < _; omega)).trans c16_0
    have c17_1 : V17.cell? ⟨tx, 1, none⟩ = some (.slice Bf xs2.length cf2) := (hk.cell (p := ⟨tx, 1, none⟩) (by show tx < _; omega)).trans c16_1
    have b17_0 : tx < V17.heap.size := by omega
    have R17_0 := hid (FreshA.below (cf := cIv) (sz := 2) (T := 50) (B := V11.heap.size) R16_0.out hk)
    have hw17 : Below w.heap.size w V17 := Below.trans hw (Below.mono hk (by have := hw.size; omega))
    clear hw hk
    have hw := hw17
    clear hw17
    have hwz := hw.size
    clear c16_0 c16_1 R16_0
    clear hV
    refine (c_impl_NextOpening d2 Bf xs2 cf2 f2 _ R17_0.out.rds (by omega)).mono ?_
    simp only [HFI.out]
    rintro e W18 ⟨rfl, hb⟩
    have hk : Below V17.heap.size V17 W18 := hb
    have hkz18 := hk.size
    have c18_0 : W18.cell? ⟨tx, 0, none⟩ = some (.int .i64 d2) := (hb.cell (p := ⟨tx, 0, none⟩) (by show tx < _; omega)).trans c17_0
    have c18_1 : W18.cell? ⟨tx, 1, none⟩ = some (.slice Bf xs2.length cf2) := (hb.cell (p := ⟨tx, 1, none⟩) (by show tx < _; omega)).trans c17_1
    have b18_0 : tx < W18.heap.size := by omega
    have R18_0 := hid (FreshA.below (cf := cIv) (sz := 2) (T := 50) (B := V11.heap.size) R17_0.out hk)
    have hw18 : Below w.heap.size w W18 := Below.trans hw (Below.mono hk (by have := hw.size; omega))
    clear hw hk
    have hw := hw18
    clear hw18
    have hwz := hw.size
    clear c17_0 c17_1 R17_0
    clear hb
    clear c18_0
    clear c18_1
    clear R18_0
    go_wp2_with (fail)
    refine calls_named ?_
    intro V19 hV
    have hk : Below W18.heap.size W18 V19 := by rw [hV]; (repeat' (first | with_reducible exact Below.refl _ _ | with_reducible assumption | with_reducible refine Below.setCell ?_ ?_ _ | with_reducible refine Below.drew ?_ | with_reducible refine Below.alloc ?_ ?_ _ | with_reducible refine Below.trans ?_ (Below.mono (by assumption) ?_) | (dsimp only; omega) | (simp; done) | (simp; omega) | omega))
    have hkz19 := hk.size
    have hw19 : Below w.heap.size w V19 := Below.trans hw (Below.mono hk (by have := hw.size; omega))
    clear hw hk
    have hw := hw19
    clear hw19
    have hwz := hw.size
    clear hV
    refine (c_spec_DrawAddClosure A cs cap _ (Rds.below hr hw) hby (by omega)).mono ?_
    rintro e W20 ⟨d3, Cf, cf3, xs3, f3, t3, rfl, hFf, hxl3, hb⟩
    have hk : Below V19.heap.size V19 W20 := hb
    have hkz20 := hk.size
    have hw20 : Below w.heap.size w W20 := Below.trans hw (Below.mono hk (by have := hw.size; omega))
    clear hw hk
    have hw := hw20
    clear hw20
    have hwz := hw.size
    clear hb
    have S20_0 : Hid (FreshA cIv 2 50 V19.heap.size W20 Cf cf3 xs3) := hid (hFf)
    have loS20_0 := S20_0.out.lo
    have hiS20_0 := S20_0.out.hi
    clear hFf
    obtain ⟨d4, L, known, hAd⟩ : ∃ d4 L known, addV d3 xs3 (f3, t3) = ((d4, L), known) := ⟨_, _, _, rfl⟩
    have hlL := addV_bd hAd
    have hac := op_add hAd
    have HA := hid hAd; clear hAd
    go_wp2_with (fail)
    refine calls_named ?_
    intro V21 hV
    have hk : Below W20.heap.size W20 V21 := by rw [hV]; (repeat' (first | with_reducible exact Below.refl _ _ | with_reducible assumption | with_reducible refine Below.setCell ?_ ?_ _ | with_reducible refine Below.drew ?_ | with_reducible refine Below.alloc ?_ ?_ _ | with_reducible refine Below.trans ?_ (Below.mono (by assumption) ?_) | (dsimp only; omega) | (simp; done) | (simp; omega) | omega))
    have hkz21 := hk.size
    have R21_0 := hid (FreshA.below (cf := cIv) (sz := 2) (T := 50) (B := V19.heap.size) S20_0.out hk)
    have hw21 : Below w.heap.size w V21 := Below.trans hw (Below.mono hk (by have := hw.size; omega))
    clear hw hk
    have hw := hw21
    clear hw21
    have hwz := hw.size
    clear S20_0
    have d21_0 : V21.cell? ⟨W20.heap.size, 0, none⟩ = some (.int .i64 d3) := by rw [hV]; first | (simp [go_sem, ↓IntWalk.iteOmega, *]; done) | (simp [go_sem, ↓IntWalk.iteOmega, *]; intros; omega)
    have d21_1 : V21.cell? ⟨W20.heap.size, 1, none⟩ = some (.slice Cf xs3.length cf3) := by rw [hV]; first | (simp [go_sem, ↓IntWalk.iteOmega, *]; done) | (simp [go_sem, ↓IntWalk.iteOmega, *]; intros; omega)
    have e21_0 : W20.heap.size < V21.heap.size := by rw [hV]; first | (simp; done) | (simp; omega)
    have d21_2 : V21.cell? ⟨W20.heap.size + 1, 0, none⟩ = some (.int .i64 f3) := by rw [hV]; first | (simp [go_sem, ↓IntWalk.iteOmega, *]; done) | (simp [go_sem, ↓IntWalk.iteOmega, *]; intros; omega)
    have d21_3 : V21.cell? ⟨W20.heap.size + 1, 1, none⟩ = some (.int .i64 t3) := by rw [hV]; first | (simp [go_sem, ↓IntWalk.iteOmega, *]; done) | (simp [go_sem, ↓IntWalk.iteOmega, *]; intros; omega)
    have e21_1 : W20.heap.size + 1 < V21.heap.size := by rw [hV]; first | (simp; done) | (simp; omega)
    clear hV
    generalize htbty : W20.heap.size = ty at *
    refine (c_impl_AddClosure d3 Cf xs3 cf3 f3 t3 _ R21_0.out.rds (by omega)).mono ?_
    simp only [HA.out]
    rintro e W22 ⟨A8, c8, rfl, hF8, hb⟩
    have hk : Below V21.heap.size V21 W22 := hb
    have hkz22 := hk.size
    have c22_0 : W22.cell? ⟨ty, 0, none⟩ = some (.int .i64 d3) := (hb.cell (p := ⟨ty, 0, none⟩) (by show ty < _; omega)).trans d21_0
    have c22_1 : W22.cell? ⟨ty, 1, none⟩ = some (.slice Cf xs3.length cf3) := (hb.cell (p := ⟨ty, 1, none⟩) (by show ty < _; omega)).trans d21_1
    have c22_2 : W22.cell? ⟨ty + 1, 0, none⟩ = some (.int .i64 f3) := (hb.cell (p := ⟨ty + 1, 0, none⟩) (by show ty + 1 < _; omega)).trans d21_2
    have c22_3 : W22.cell? ⟨ty + 1, 1, none⟩ = some (.int .i64 t3) := (hb.cell (p := ⟨ty + 1, 1, none⟩) (by show ty + 1 < _; omega)).trans d21_3
    have b22_0 : ty < W22.heap.size := by omega
    have b22_1 : ty + 1 < W22.heap.size := by omega
    have R22_0 := hid (FreshA.below (cf := cIv) (sz := 2) (T := 50) (B := V19.heap.size) R21_0.out hk)
    have hw22 : Below w.heap.size w W22 := Below.trans hw (Below.mono hk (by have := hw.size; omega))
    clear hw hk
    have hw := hw22
    clear hw22
    have hwz := hw.size
    clear d21_0 d21_1 d21_2 d21_3 R21_0
    clear hb
    have S22_1 : Hid (FreshA cIv 2 50 V21.heap.size W22 A8 c8 L) := hid (hF8)
    have loS22_1 := S22_1.out.lo
    have hiS22_1 := S22_1.out.hi
    clear hF8
    go_wp2_with (fail)
    refine calls_named ?_
    intro V23 hV
    have hk : Below W22.heap.size W22 V23 := by rw [hV]; (repeat' (first | with_reducible exact Below.refl _ _ | with_reducible assumption | with_reducible refine Below.setCell ?_ ?_ _ | with_reducible refine Below.drew ?_ | with_reducible refine Below.alloc ?_ ?_ _ | with_reducible refine Below.trans ?_ (Below.mono (by assumption) ?_) | (dsimp only; omega) | (simp; done) | (simp; omega) | omega))
    have hkz23 := hk.size
    have c23_0 : V23.cell? ⟨ty, 0, none⟩ = some (.int .i64 d3) := (hk.cell (p := ⟨ty, 0, none⟩) (by show ty < _; omega)).trans c22_0
    have c23_1 : V23.cell? ⟨ty, 1, none⟩ = some (.slice Cf xs3.length cf3) := (hk.cell (p := ⟨ty, 1, none⟩) (by show ty < _; omega)).trans c22_1
    have c23_2 : V23.cell? ⟨ty + 1, 0, none⟩ = some (.int .i64 f3) := (hk.cell (p := ⟨ty + 1, 0, none⟩) (by show ty + 1 < _; omega)).trans c22_2
    have c23_3 : V23.cell? ⟨ty + 1, 1, none⟩ = some (.int .i64 t3) := (hk.cell (p := ⟨ty + 1, 1, none⟩) (by show ty + 1 < _; omega)).trans c22_3
    have b23_0 : ty < V23.heap.size := by omega
    have b23_1 : ty + 1 < V23.heap.size := by omega
    have R23_0 := hid (FreshA.below (cf := cIv) (sz := 2) (T := 50) (B := V19.heap.size) R22_0.out hk)
    have R23_1 := hid (FreshA.below (cf := cIv) (sz := 2) (T := 50) (B := V21.heap.size) S22_1.out hk)
    have hw23 : Below w.heap.size w V23 := Below.trans hw (Below.mono hk (by have := hw.size; omega))
    clear hw hk
    have hw := hw23
    clear hw23
    have hwz := hw.size
    clear c22_0 c22_1 c22_2 c22_3 R22_0 S22_1
    have d23_4 : V23.cell? ⟨W22.heap.size, 0, none⟩ = some (.int .i64 d4) := by rw [hV]; first | (simp [go_sem, ↓IntWalk.iteOmega, *]; done) | (simp [go_sem, ↓IntWalk.iteOmega, *]; intros; omega)
    have d23_5 : V23.cell? ⟨W22.heap.size, 1, none⟩ = some (.slice A8 L.length c8) := by rw [hV]; first | (simp [go_sem, ↓IntWalk.iteOmega, *]; done) | (simp [go_sem, ↓IntWalk.iteOmega, *]; intros; omega)
    have e23_2 : W22.heap.size < V23.heap.size := by rw [hV]; first | (simp; done) | (simp; omega)
    clear hV
    generalize htbtz : W22.heap.size = tz at *
    refine (c_spec_AddClosure d3 Cf xs3 cf3 f3 t3 _ R23_0.out.rds (by omega) (R23_0.out).capLe).mono ?_
    simp only [HA.out]
    rintro e W24 ⟨E8, e8, rfl, hF8, hb⟩
    have hk : Below V23.heap.size V23 W24 := hb
    have hkz24 := hk.size
    have c24_0 : W24.cell? ⟨ty, 0, none⟩ = some (.int .i64 d3) := (hb.cell (p := ⟨ty, 0, none⟩) (by show ty < _; omega)).trans c23_0
    have c24_1 : W24.cell? ⟨ty, 1, none⟩ = some (.slice Cf xs3.length cf3) := (hb.cell (p := ⟨ty, 1, none⟩) (by show ty < _; omega)).trans c23_1
    have c24_2 : W24.cell? ⟨ty + 1, 0, none⟩ = some (.int .i64 f3) := (hb.cell (p := ⟨ty + 1, 0, none⟩) (by show ty + 1 < _; omega)).trans c23_2
    have c24_3 : W24.cell? ⟨ty + 1, 1, none⟩ = some (.int .i64 t3) := (hb.cell (p := ⟨ty + 1, 1, none⟩) (by show ty + 1 < _; omega)).trans c23_3
    have c24_4 : W24.cell? ⟨tz, 0, none⟩ = some (.int .i64 d4) := (hb.cell (p := ⟨tz, 0, none⟩) (by show tz < _; omega)).trans d23_4
    have c24_5 : W24.cell? ⟨tz, 1, none⟩ = some (.slice A8 L.length c8) := (hb.cell (p := ⟨tz, 1, none⟩) (by show tz < _; omega)).trans d23_5
    have b24_0 : ty < W24.heap.size := by omega
    have b24_1 : ty + 1 < W24.heap.size := by omega
    have b24_2 : tz < W24.heap.size := by omega
    have R24_0 := hid (FreshA.below (cf := cIv) (sz := 2) (T := 50) (B := V19.heap.size) R23_0.out hk)
    have R24_1 := hid (FreshA.below (cf := cIv) (sz := 2) (T := 50) (B := V21.heap.size) R23_1.out hk)
    have hw24 : Below w.heap.size w W24 := Below.trans hw (Below.mono hk (by have := hw.size; omega))
    clear hw hk
    have hw := hw24
    clear hw24
    have hwz := hw.size
    clear c23_0 c23_1 c23_2 c23_3 d23_4 d23_5 R23_0 R23_1
    clear hb
    have S24_2 : Hid (FreshA cIv 2 50 V23.heap.size W24 E8 e8 L) := hid (hF8)
    have loS24_2 := S24_2.out.lo
    have hiS24_2 := S24_2.out.hi
    clear hF8
    rcases hac with rfl | ⟨rfl, hlen, hmf, hmt⟩
    · go_wp2_with (fail)
      refine calls_named ?_
      intro V25 hV
      have hk : Below W24.heap.size W24 V25 := by rw [hV]; (repeat' (first | with_reducible exact Below.refl _ _ | with_reducible assumption | with_reducible refine Below.setCell ?_ ?_ _ | with_reducible refine Below.drew ?_ | with_reducible refine Below.alloc ?_ ?_ _ | with_reducible refine Below.trans ?_ (Below.mono (by assumption) ?_) | (dsimp only; omega) | (simp; done) | (simp; omega) | omega))
      have hkz25 := hk.size
      have c25_0 : V25.cell? ⟨ty, 0, none⟩ = some (.int .i64 d3) := (hk.cell (p := ⟨ty, 0, none⟩) (by show ty < _; omega)).trans c24_0
      have c25_1 : V25.cell? ⟨ty, 1, none⟩ = some (.slice Cf xs3.length cf3) := (hk.cell (p := ⟨ty, 1, none⟩) (by show ty < _; omega)).trans c24_1
      have c25_2 : V25.cell? ⟨ty + 1, 0, none⟩ = some (.int .i64 f3) := (hk.cell (p := ⟨ty + 1, 0, none⟩) (by show ty + 1 < _; omega)).trans c24_2
      have c25_3 : V25.cell? ⟨ty + 1, 1, none⟩ = some (.int .i64 t3) := (hk.cell (p := ⟨ty + 1, 1, none⟩) (by show ty + 1 < _; omega)).trans c24_3
      have c25_4 : V25.cell? ⟨tz, 0, none⟩ = some (.int .i64 d4) := (hk.cell (p := ⟨tz, 0, none⟩) (by show tz < _; omega)).trans c24_4
      have c25_5 : V25.cell? ⟨tz, 1, none⟩ = some (.slice A8 L.length c8) := (hk.cell (p := ⟨tz, 1, none⟩) (by show tz < _; omega)).trans c24_5
      have b25_0 : ty < V25.heap.size := by omega
      have b25_1 : ty + 1 < V25.heap.size := by omega
      have b25_2 : tz < V25.heap.size := by omega
      have R25_0 := hid (FreshA.below (cf := cIv) (sz := 2) (T := 50) (B := V19.heap.size) R24_0.out hk)
      have R25_1 := hid (FreshA.below (cf := cIv) (sz := 2) (T := 50) (B := V21.heap.size) R24_1.out hk)
      have R25_2 := hid (FreshA.below (cf := cIv) (sz := 2) (T := 50) (B := V23.heap.size) S24_2.out hk)
      have hw25 : Below w.heap.size w V25 := Below.trans hw (Below.mono hk (by have := hw.size; omega))
      clear hw hk
      have hw := hw25
      clear hw25
      have hwz := hw.size
      clear c24_0 c24_1 c24_2 c24_3 c24_4 c24_5 R24_0 R24_1 S24_2
      clear hV
      refine (c_laws_vIntervals A8 E8 L c8 e8 _ R25_1.out.rds R25_2.out.rds (by omega)).mono ?_
      rintro e W26 ⟨rfl, hb⟩
      have hk : Below V25.heap.size V25 W26 := hb
      have hkz26 := hk.size
      have c26_0 : W26.cell? ⟨ty, 0, none⟩ = some (.int .i64 d3) := (hb.cell (p := ⟨ty, 0, none⟩) (by show ty < _; omega)).trans c25_0
      have c26_1 : W26.cell? ⟨ty, 1, none⟩ = some (.slice Cf xs3.length cf3) := (hb.cell (p := ⟨ty, 1, none⟩) (by show ty < _; omega)).trans c25_1
      have c26_2 : W26.cell? ⟨ty + 1, 0, none⟩ = some (.int .i64 f3) := (hb.cell (p := ⟨ty + 1, 0, none⟩) (by show ty + 1 < _; omega)).trans c25_2
      have c26_3 : W26.cell? ⟨ty + 1, 1, none⟩ = some (.int .i64 t3) := (hb.cell (p := ⟨ty + 1, 1, none⟩) (by show ty + 1 < _; omega)).trans c25_3
      have c26_4 : W26.cell? ⟨tz, 0, none⟩ = some (.int .i64 d4) := (hb.cell (p := ⟨tz, 0, none⟩) (by show tz < _; omega)).trans c25_4
      have c26_5 : W26.cell? ⟨tz, 1, none⟩ = some (.slice A8 L.length c8) := (hb.cell (p := ⟨tz, 1, none⟩) (by show tz < _; omega)).trans c25_5
      have b26_0 : ty < W26.heap.size := by omega
      have b26_1 : ty + 1 < W26.heap.size := by omega
      have b26_2 : tz < W26.heap.size := by omega
      have R26_0 := hid (FreshA.below (cf := cIv) (sz := 2) (T := 50) (B := V19.heap.size) R25_0.out hk)
      have R26_1 := hid (FreshA.below (cf := cIv) (sz := 2) (T := 50) (B := V21.heap.size) R25_1.out hk)
      have R26_2 := hid (FreshA.below (cf := cIv) (sz := 2) (T := 50) (B := V23.heap.size) R25_2.out hk)
      have hw26 : Below w.heap.size w W26 := Below.trans hw (Below.mono hk (by have := hw.size; omega))
      clear hw hk
      have hw := hw26
      clear hw26
      have hwz := hw.size
      clear c25_0 c25_1 c25_2 c25_3 c25_4 c25_5 R25_0 R25_1 R25_2
      clear hb
      go_wp2_with (fail)
      go_ret
      exact ⟨by first | rfl | exact ret_bool (by simp), by first | exact hw | (repeat' (first | with_reducible exact Below.refl _ _ | with_reducible assumption | with_reducible refine Below.setCell ?_ ?_ _ | with_reducible refine Below.drew ?_ | with_reducible refine Below.alloc ?_ ?_ _ | with_reducible refine Below.trans ?_ (Below.mono (by assumption) ?_) | (dsimp only; omega) | (simp; done) | (simp; omega) | omega))⟩
    have hln1 : L.length ≤ xs3.length + 1 := by omega
    have hln2 : xs3.length + 1 ≤ L.length := by omega
    have HMF := hid hmf; have HMT := hid hmt; clear hmf hmt hlen
    go_wp2_with (fail)
    refine calls_named ?_
    intro V25 hV
    have hk : Below W24.heap.size W24 V25 := by rw [hV]; (repeat' (first | with_reducible exact Below.refl _ _ | with_reducible assumption | with_reducible refine Below.setCell ?_ ?_ _ | with_reducible refine Below.drew ?_ | with_reducible refine Below.alloc ?_ ?_ _ | with_reducible refine Below.trans ?_ (Below.mono (by assumption) ?_) | (dsimp only; omega) | (simp; done) | (simp; omega) | omega))
    have hkz25 := hk.size
    have c25_0 : V25.cell? ⟨ty, 0, none⟩ = some (.int .i64 d3) := (hk.cell (p := ⟨ty, 0, none⟩) (by show ty < _; omega)).trans c24_0
    have c25_1 : V25.cell? ⟨ty, 1, none⟩ = some (.slice Cf xs3.length cf3) := (hk.cell (p := ⟨ty, 1, none⟩) (by show ty < _; omega)).trans c24_1
    have c25_2 : V25.cell? ⟨ty + 1, 0, none⟩ = some (.int .i64 f3) := (hk.cell (p := ⟨ty + 1, 0, none⟩) (by show ty + 1 < _; omega)).trans c24_2
    have c25_3 : V25.cell? ⟨ty + 1, 1, none⟩ = some (.int .i64 t3) := (hk.cell (p := ⟨ty + 1, 1, none⟩) (by show ty + 1 < _; omega)).trans c24_3
    have c25_4 : V25.cell? ⟨tz, 0, none⟩ = some (.int .i64 d4) := (hk.cell (p := ⟨tz, 0, none⟩) (by show tz < _; omega)).trans c24_4
    have c25_5 : V25.cell? ⟨tz, 1, none⟩ = some (.slice A8 L.length c8) := (hk.cell (p := ⟨tz, 1, none⟩) (by show tz < _; omega)).trans c24_5
    have b25_0 : ty < V25.heap.size := by omega
    have b25_1 : ty + 1 < V25.heap.size := by omega
    have b25_2 : tz < V25.heap.size := by omega
    have R25_0 := hid (FreshA.below (cf := cIv) (sz := 2) (T := 50) (B := V19.heap.size) R24_0.out hk)
    have R25_1 := hid (FreshA.below (cf := cIv) (sz := 2) (T := 50) (B := V21.heap.size) R24_1.out hk)
    have R25_2 := hid (FreshA.below (cf := cIv) (sz := 2) (T := 50) (B := V23.heap.size) S24_2.out hk)
    have hw25 : Below w.heap.size w V25 := Below.trans hw (Below.mono hk (by have := hw.size; omega))
    clear hw hk
    have hw := hw25
    clear hw25
    have hwz := hw.size
    clear c24_0 c24_1 c24_2 c24_3 c24_4 c24_5 R24_0 R24_1 S24_2
    clear hV
    refine (c_laws_vIntervals A8 E8 L c8 e8 _ R25_1.out.rds R25_2.out.rds (by omega)).mono ?_
    rintro e W26 ⟨rfl, hb⟩
    have hk : Below V25.heap.size V25 W26 := hb
    have hkz26 := hk.size
    have c26_0 : W26.cell? ⟨ty, 0, none⟩ = some (.int .i64 d3) := (hb.cell (p := ⟨ty, 0, none⟩) (by show ty < _; omega)).trans c25_0
    have c26_1 : W26.cell? ⟨ty, 1, none⟩ = some (.slice Cf xs3.length cf3) := (hb.cell (p := ⟨ty, 1, none⟩) (by show ty < _; omega)).trans c25_1
    have c26_2 : W26.cell? ⟨ty + 1, 0, none⟩ = some (.int .i64 f3) := (hb.cell (p := ⟨ty + 1, 0, none⟩) (by show ty + 1 < _; omega)).trans c25_2
    have c26_3 : W26.cell? ⟨ty + 1, 1, none⟩ = some (.int .i64 t3) := (hb.cell (p := ⟨ty + 1, 1, none⟩) (by show ty + 1 < _; omega)).trans c25_3
    have c26_4 : W26.cell? ⟨tz, 0, none⟩ = some (.int .i64 d4) := (hb.cell (p := ⟨tz, 0, none⟩) (by show tz < _; omega)).trans c25_4
    have c26_5 : W26.cell? ⟨tz, 1, none⟩ = some (.slice A8 L.length c8) := (hb.cell (p := ⟨tz, 1, none⟩) (by show tz < _; omega)).trans c25_5
    have b26_0 : ty < W26.heap.size := by omega
    have b26_1 : ty + 1 < W26.heap.size := by omega
    have b26_2 : tz < W26.heap.size := by omega
    have R26_0 := hid (FreshA.below (cf := cIv) (sz := 2) (T := 50) (B := V19.heap.size) R25_0.out hk)
    have R26_1 := hid (FreshA.below (cf := cIv) (sz := 2) (T := 50) (B := V21.heap.size) R25_1.out hk)
    have R26_2 := hid (FreshA.below (cf := cIv) (sz := 2) (T := 50) (B := V23.heap.size) R25_2.out hk)
    have hw26 : Below w.heap.size w W26 := Below.trans hw (Below.mono hk (by have := hw.size; omega))
    clear hw hk
    have hw := hw26
    clear hw26
    have hwz := hw.size
    clear c25_0 c25_1 c25_2 c25_3 c25_4 c25_5 R25_0 R25_1 R25_2
    clear hb
    go_wp2_with (fail)
    refine calls_named ?_
    intro V27 hV
    have hk : Below W26.heap.size W26 V27 := by rw [hV]; (repeat' (first | with_reducible exact Below.refl _ _ | with_reducible assumption | with_reducible refine Below.setCell ?_ ?_ _ | with_reducible refine Below.drew ?_ | with_reducible refine Below.alloc ?_ ?_ _ | with_reducible refine Below.trans ?_ (Below.mono (by assumption) ?_) | (dsimp only; omega) | (simp; done) | (simp; omega) | omega))
    have hkz27 := hk.size
    have c27_0 : V27.cell? ⟨ty, 0, none⟩ = some (.int .i64 d3) := (hk.cell (p := ⟨ty, 0, none⟩) (by show ty < _; omega)).trans c26_0
    have c27_1 : V27.cell? ⟨ty, 1, none⟩ = some (.slice Cf xs3.length cf3) := (hk.cell (p := ⟨ty, 1, none⟩) (by show ty < _; omega)).trans c26_1
    have c27_2 : V27.cell? ⟨ty + 1, 0, none⟩ = some (.int .i64 f3) := (hk.cell (p := ⟨ty + 1, 0, none⟩) (by show ty + 1 < _; omega)).trans c26_2
    have c27_3 : V27.cell? ⟨ty + 1, 1, none⟩ = some (.int .i64 t3) := (hk.cell (p := ⟨ty + 1, 1, none⟩) (by show ty + 1 < _; omega)).trans c26_3
    have c27_4 : V27.cell? ⟨tz, 0, none⟩ = some (.int .i64 d4) := (hk.cell (p := ⟨tz, 0, none⟩) (by show tz < _; omega)).trans c26_4
    have c27_5 : V27.cell? ⟨tz, 1, none⟩ = some (.slice A8 L.length c8) := (hk.cell (p := ⟨tz, 1, none⟩) (by show tz < _; omega)).trans c26_5
    have b27_0 : ty < V27.heap.size := by omega
    have b27_1 : ty + 1 < V27.heap.size := by omega
    have b27_2 : tz < V27.heap.size := by omega
    have R27_0 := hid (FreshA.below (cf := cIv) (sz := 2) (T := 50) (B := V19.heap.size) R26_0.out hk)
    have R27_1 := hid (FreshA.below (cf := cIv) (sz := 2) (T := 50) (B := V21.heap.size) R26_1.out hk)
    have R27_2 := hid (FreshA.below (cf := cIv) (sz := 2) (T := 50) (B := V23.heap.size) R26_2.out hk)
    have hw27 : Below w.heap.size w V27 := Below.trans hw (Below.mono hk (by have := hw.size; omega))
    clear hw hk
    have hw := hw27
    clear hw27
    have hwz := hw.size
    clear c26_0 c26_1 c26_2 c26_3 c26_4 c26_5 R26_0 R26_1 R26_2
    clear hV
    refine (c_impl_MayOpen d4 A8 L c8 f3 _ R27_1.out.rds (by omega)).mono ?_
    simp only [HMF.out]
    rintro e W28 ⟨rfl, hb⟩
    have hk : Below V27.heap.size V27 W28 := hb
    have hkz28 := hk.size
    have c28_0 : W28.cell? ⟨ty, 0, none⟩ = some (.int .i64 d3) := (hb.cell (p := ⟨ty, 0, none⟩) (by show ty < _; omega)).trans c27_0
    have c28_1 : W28.cell? ⟨ty, 1, none⟩ = some (.slice Cf xs3.length cf3) := (hb.cell (p := ⟨ty, 1, none⟩) (by show ty < _; omega)).trans c27_1
    have c28_2 : W28.cell? ⟨ty + 1, 0, none⟩ = some (.int .i64 f3) := (hb.cell (p := ⟨ty + 1, 0, none⟩) (by show ty + 1 < _; omega)).trans c27_2
    have c28_3 : W28.cell? ⟨ty + 1, 1, none⟩ = some (.int .i64 t3) := (hb.cell (p := ⟨ty + 1, 1, none⟩) (by show ty + 1 < _; omega)).trans c27_3
    have c28_4 : W28.cell? ⟨tz, 0, none⟩ = some (.int .i64 d4) := (hb.cell (p := ⟨tz, 0, none⟩) (by show tz < _; omega)).trans c27_4
    have c28_5 : W28.cell? ⟨tz, 1, none⟩ = some (.slice A8 L.length c8) := (hb.cell (p := ⟨tz, 1, none⟩) (by show tz < _; omega)).trans c27_5
    have b28_0 : ty < W28.heap.size := by omega
    have b28_1 : ty + 1 < W28.heap.size := by omega
    have b28_2 : tz < W28.heap.size := by omega
    have R28_0 := hid (FreshA.below (cf := cIv) (sz := 2) (T := 50) (B := V19.heap.size) R27_0.out hk)
    have R28_1 := hid (FreshA.below (cf := cIv) (sz := 2) (T := 50) (B := V21.heap.size) R27_1.out hk)
    have R28_2 := hid (FreshA.below (cf := cIv) (sz := 2) (T := 50) (B := V23.heap.size) R27_2.out hk)
    have hw28 : Below w.heap.size w W28 := Below.trans hw (Below.mono hk (by have := hw.size; omega))
    clear hw hk
    have hw := hw28
    clear hw28
    have hwz := hw.size
    clear c27_0 c27_1 c27_2 c27_3 c27_4 c27_5 R27_0 R27_1 R27_2
    clear hb
    go_wp2_with (fail)
    refine calls_named ?_
    intro V29 hV
    have hk : Below W28.heap.size W28 V29 := by rw [hV]; (repeat' (first | with_reducible exact Below.refl _ _ | with_reducible assumption | with_reducible refine Below.setCell ?_ ?_ _ | with_reducible refine Below.drew ?_ | with_reducible refine Below.alloc ?_ ?_ _ | with_reducible refine Below.trans ?_ (Below.mono (by assumption) ?_) | (dsimp only; omega) | (simp; done) | (simp; omega) | omega))
    have hkz29 := hk.size
    have c29_0 : V29.cell? ⟨ty, 0, none⟩ = some (.int .i64 d3) := (hk.cell (p := ⟨ty, 0, none⟩) (by show ty < _; omega)).trans c28_0
    have c29_1 : V29.cell? ⟨ty, 1, none⟩ = some (.slice Cf xs3.length cf3) := (hk.cell (p := ⟨ty, 1, none⟩) (by show ty < _; omega)).trans c28_1
    have c29_2 : V29.cell? ⟨ty + 1, 0, none⟩ = some (.int .i64 f3) := (hk.cell (p := ⟨ty + 1, 0, none⟩) (by show ty + 1 < _; omega)).trans c28_2
    have c29_3 : V29.cell? ⟨ty + 1, 1, none⟩ = some (.int .i64 t3) := (hk.cell (p := ⟨ty + 1, 1, none⟩) (by show ty + 1 < _; omega)).trans c28_3
    have c29_4 : V29.cell? ⟨tz, 0, none⟩ = some (.int .i64 d4) := (hk.cell (p := ⟨tz, 0, none⟩) (by show tz < _; omega)).trans c28_4
    have c29_5 : V29.cell? ⟨tz, 1, none⟩ = some (.slice A8 L.length c8) := (hk.cell (p := ⟨tz, 1, none⟩) (by show tz < _; omega)).trans c28_5
    have b29_0 : ty < V29.heap.size := by omega
    have b29_1 : ty + 1 < V29.heap.size := by omega
    have b29_2 : tz < V29.heap.size := by omega
    have R29_0 := hid (FreshA.below (cf := cIv) (sz := 2) (T := 50) (B := V19.heap.size) R28_0.out hk)
    have R29_1 := hid (FreshA.below (cf := cIv) (sz := 2) (T := 50) (B := V21.heap.size) R28_1.out hk)
    have R29_2 := hid (FreshA.below (cf := cIv) (sz := 2) (T := 50) (B := V23.heap.size) R28_2.out hk)
    have hw29 : Below w.heap.size w V29 := Below.trans hw (Below.mono hk (by have := hw.size; omega))
    clear hw hk
    have hw := hw29
    clear hw29
    have hwz := hw.size
    clear c28_0 c28_1 c28_2 c28_3 c28_4 c28_5 R28_0 R28_1 R28_2
    clear hV
    refine (c_impl_MayOpen d4 A8 L c8 t3 _ R29_1.out.rds (by omega)).mono ?_
    simp only [HMT.out]
    rintro e W30 ⟨rfl, hb⟩
    have hk : Below V29.heap.size V29 W30 := hb
    have hkz30 := hk.size
    have c30_0 : W30.cell? ⟨ty, 0, none⟩ = some (.int .i64 d3) := (hb.cell (p := ⟨ty, 0, none⟩) (by show ty < _; omega)).trans c29_0
    have c30_1 : W30.cell? ⟨ty, 1, none⟩ = some (.slice Cf xs3.length cf3) := (hb.cell (p := ⟨ty, 1, none⟩) (by show ty < _; omega)).trans c29_1
    have c30_2 : W30.cell? ⟨ty + 1, 0, none⟩ = some (.int .i64 f3) := (hb.cell (p := ⟨ty + 1, 0, none⟩) (by show ty + 1 < _; omega)).trans c29_2
    have c30_3 : W30.cell? ⟨ty + 1, 1, none⟩ = some (.int .i64 t3) := (hb.cell (p := ⟨ty + 1, 1, none⟩) (by show ty + 1 < _; omega)).trans c29_3
    have c30_4 : W30.cell? ⟨tz, 0, none⟩ = some (.int .i64 d4) := (hb.cell (p := ⟨tz, 0, none⟩) (by show tz < _; omega)).trans c29_4
    have c30_5 : W30.cell? ⟨tz, 1, none⟩ = some (.slice A8 L.length c8) := (hb.cell (p := ⟨tz, 1, none⟩) (by show tz < _; omega)).trans c29_5
    have b30_0 : ty < W30.heap.size := by omega
    have b30_1 : ty + 1 < W30.heap.size := by omega
    have b30_2 : tz < W30.heap.size := by omega
    have R30_0 := hid (FreshA.below (cf := cIv) (sz := 2) (T := 50) (B := V19.heap.size) R29_0.out hk)
    have R30_1 := hid (FreshA.below (cf := cIv) (sz := 2) (T := 50) (B := V21.heap.size) R29_1.out hk)
    have R30_2 := hid (FreshA.below (cf := cIv) (sz := 2) (T := 50) (B := V23.heap.size) R29_2.out hk)
    have hw30 : Below w.heap.size w W30 := Below.trans hw (Below.mono hk (by have := hw.size; omega))
    clear hw hk
    have hw := hw30
    clear hw30
    have hwz := hw.size
    clear c29_0 c29_1 c29_2 c29_3 c29_4 c29_5 R29_0 R29_1 R29_2
    clear hb
    go_wp2_with (fail)
    go_ret
    exact ⟨ret_bool (by simp; omega), by first | exact hw | (repeat' (first | with_reducible exact Below.refl _ _ | with_reducible assumption | with_reducible refine Below.setCell ?_ ?_ _ | with_reducible refine Below.drew ?_ | with_reducible refine Below.alloc ?_ ?_ _ | with_reducible refine Below.trans ?_ (Below.mono (by assumption) ?_) | (dsimp only; omega) | (simp; done) | (simp; omega) | omega))⟩
  obtain ⟨hq1, hq2, hq3, hq4, hq5⟩ := HOP.out rfl
  subst hq1
  have HQ3 := hid hq3; have HQ4 := hid hq4; clear hq3 hq4
  by_cases hnt : nx = tt
  · obtain rfl : ma = true := by rw [hq2]; exact decide_eq_true hnt
    clear hq2
    have hnt2 : tt = nx := hnt.symm
    clear hnt
    subst hnt2
    go_wp2_with (fail)
    refine calls_named ?_
    intro V11 hV
    have hk : Below W10.heap.size W10 V11 := by rw [hV]; (repeat' (first | with_reducible exact Below.refl _ _ | with_reducible assumption | with_reducible refine Below.setCell ?_ ?_ _ | with_reducible refine Below.drew ?_ | with_reducible refine Below.alloc ?_ ?_ _ | with_reducible refine Below.trans ?_ (Below.mono (by assumption) ?_) | (dsimp only; omega) | (simp; done) | (simp; omega) | omega))
    have hkz11 := hk.size
    have c11_0 : V11.cell? ⟨tb, 0, none⟩ = some (.int .i64 d) := (hk.cell (p := ⟨tb, 0, none⟩) (by show tb < _; omega)).trans c10_0
    have c11_1 : V11.cell? ⟨tb, 1, none⟩ = some (.slice Af xs.length cf) := (hk.cell (p := ⟨tb, 1, none⟩) (by show tb < _; omega)).trans c10_1
    have b11_0 : tb < V11.heap.size := by omega
    have R11_0 := hid (FreshA.below (cf := cIv) (sz := 2) (T := 50) (B := V1.heap.size) R10_0.out hk)
    have hw11 : Below w.heap.size w V11 := Below.trans hw (Below.mono hk (by have := hw.size; omega))
    clear hw hk
    have hw := hw11
    clear hw11
    have hwz := hw.size
    clear c10_0 c10_1 R10_0
    clear hV
    refine (c_impl_MayOpen d Af xs cf tt _ R11_0.out.rds (by omega)).mono ?_
    simp only [HQ3.out]
    rintro e W12 ⟨rfl, hb⟩
    have hk : Below V11.heap.size V11 W12 := hb
    have hkz12 := hk.size
    have c12_0 : W12.cell? ⟨tb, 0, none⟩ = some (.int .i64 d) := (hb.cell (p := ⟨tb, 0, none⟩) (by show tb < _; omega)).trans c11_0
    have c12_1 : W12.cell? ⟨tb, 1, none⟩ = some (.slice Af xs.length cf) := (hb.cell (p := ⟨tb, 1, none⟩) (by show tb < _; omega)).trans c11_1
    have b12_0 : tb < W12.heap.size := by omega
    have R12_0 := hid (FreshA.below (cf := cIv) (sz := 2) (T := 50) (B := V1.heap.size) R11_0.out hk)
    have hw12 : Below w.heap.size w W12 := Below.trans hw (Below.mono hk (by have := hw.size; omega))
    clear hw hk
    have hw := hw12
    clear hw12
    have hwz := hw.size
    clear c11_0 c11_1 R11_0
    clear hb
    go_wp2_with (fail)
    refine calls_named ?_
    intro V13 hV
    have hk : Below W12.heap.size W12 V13 := by rw [hV]; (repeat' (first | with_reducible exact Below.refl _ _ | with_reducible assumption | with_reducible refine Below.setCell ?_ ?_ _ | with_reducible refine Below.drew ?_ | with_reducible refine Below.alloc ?_ ?_ _ | with_reducible refine Below.trans ?_ (Below.mono (by assumption) ?_) | (dsimp only; omega) | (simp; done) | (simp; omega) | omega))
    have hkz13 := hk.size
    have c13_0 : V13.cell? ⟨tb, 0, none⟩ = some (.int .i64 d) := (hk.cell (p := ⟨tb, 0, none⟩) (by show tb < _; omega)).trans c12_0
    have c13_1 : V13.cell? ⟨tb, 1, none⟩ = some (.slice Af xs.length cf) := (hk.cell (p := ⟨tb, 1, none⟩) (by show tb < _; omega)).trans c12_1
    have b13_0 : tb < V13.heap.size := by omega
    have R13_0 := hid (FreshA.below (cf := cIv) (sz := 2) (T := 50) (B := V1.heap.size) R12_0.out hk)
    have hw13 : Below w.heap.size w V13 := Below.trans hw (Below.mono hk (by have := hw.size; omega))
    clear hw hk
    have hw := hw13
    clear hw13
    have hwz := hw.size
    clear c12_0 c12_1 R12_0
    clear hV
    refine (c_impl_LastOpening d Af xs cf tt tt _ R13_0.out.rds (by omega)).mono ?_
    simp only [HQ4.out]
    rintro e W14 ⟨rfl, hb⟩
    have hk : Below V13.heap.size V13 W14 := hb
    have hkz14 := hk.size
    have c14_0 : W14.cell? ⟨tb, 0, none⟩ = some (.int .i64 d) := (hb.cell (p := ⟨tb, 0, none⟩) (by show tb < _; omega)).trans c13_0
    have c14_1 : W14.cell? ⟨tb, 1, none⟩ = some (.slice Af xs.length cf) := (hb.cell (p := ⟨tb, 1, none⟩) (by show tb < _; omega)).trans c13_1
    have b14_0 : tb < W14.heap.size := by omega
    have R14_0 := hid (FreshA.below (cf := cIv) (sz := 2) (T := 50) (B := V1.heap.size) R13_0.out hk)
    have hw14 : Below w.heap.size w W14 := Below.trans hw (Below.mono hk (by have := hw.size; omega))
    clear hw hk
    have hw := hw14
    clear hw14
    have hwz := hw.size
    clear c13_0 c13_1 R13_0
    clear hb
    clear c14_0
    clear c14_1
    clear R14_0
    go_wp2_with (fail)
    refine calls_named ?_
    intro V15 hV
    have hk : Below W14.heap.size W14 V15 := by rw [hV]; (repeat' (first | with_reducible exact Below.refl _ _ | with_reducible assumption | with_reducible refine Below.setCell ?_ ?_ _ | with_reducible refine Below.drew ?_ | with_reducible refine Below.alloc ?_ ?_ _ | with_reducible refine Below.trans ?_ (Below.mono (by assumption) ?_) | (dsimp only; omega) | (simp; done) | (simp; omega) | omega))
    have hkz15 := hk.size
    have hw15 : Below w.heap.size w V15 := Below.trans hw (Below.mono hk (by have := hw.size; omega))
    clear hw hk
    have hw := hw15
    clear hw15
    have hwz := hw.size
    clear hV
    refine (c_spec_DrawLastOpening A cs cap _ (Rds.below hr hw) hby (by omega)).mono ?_
    rintro e W16 ⟨d2, Bf, cf2, xs2, f2, t2, rfl, hFf, hxl2, hb⟩
    have hk : Below V15.heap.size V15 W16 := hb
    have hkz16 := hk.size
    have hw16 : Below w.heap.size w W16 := Below.trans hw (Below.mono hk (by have := hw.size; omega))
    clear hw hk
    have hw := hw16
    clear hw16
    have hwz := hw.size
    clear hb
    have S16_0 : Hid (FreshA cIv 2 50 V15.heap.size W16 Bf cf2 xs2) := hid (hFf)
    have loS16_0 := S16_0.out.lo
    have hiS16_0 := S16_0.out.hi
    clear hFf
    obtain ⟨la, fine, hLa⟩ : ∃ la fine, lastV d2 xs2 f2 t2 = (la, fine) := ⟨_, _, rfl⟩
    obtain ⟨fi, one, hFi⟩ : ∃ fi one, nextV d2 xs2 f2 = (fi, one) := ⟨_, _, rfl⟩
    have hol := op_last hLa hFi
    have HLA := hid hLa; have HFI := hid hFi; have HOL := hid hol; clear hLa hFi hol
    go_wp2_with (fail)
    refine calls_named ?_
    intro V17 hV
    have hk : Below W16.heap.size W16 V17 := by rw [hV]; (repeat' (first | with_reducible exact Below.refl _ _ | with_reducible assumption | with_reducible refine Below.setCell ?_ ?_ _ | with_reducible refine Below.drew ?_ | with_reducible refine Below.alloc ?_ ?_ _ | with_reducible refine Below.trans ?_ (Below.mono (by assumption) ?_) | (dsimp only; omega) | (simp; done) | (simp; omega) | omega))
    have hkz17 := hk.size
    have R17_0 := hid (FreshA.below (cf := cIv) (sz := 2) (T := 50) (B := V15.heap.size) S16_0.out hk)
    have hw17 : Below w.heap.size w V17 := Below.trans hw (Below.mono hk (by have := hw.size; omega))
    clear hw hk
    have hw := hw17
    clear hw17
    have hwz := hw.size
    clear S16_0
    have d17_0 : V17.cell? ⟨W16.heap.size, 0, none⟩ = some (.int .i64 d2) := by rw [hV]; first | (simp [go_sem, ↓IntWalk.iteOmega, *]; done) | (simp [go_sem, ↓IntWalk.iteOmega, *]; intros; omega)
    have d17_1 : V17.cell? ⟨W16.heap.size, 1, none⟩ = some (.slice Bf xs2.length cf2) := by rw [hV]; first | (simp [go_sem, ↓IntWalk.iteOmega, *]; done) | (simp [go_sem, ↓IntWalk.iteOmega, *]; intros; omega)
    have e17_0 : W16.heap.size < V17.heap.size := by rw [hV]; first | (simp; done) | (simp; omega)
    clear hV
    generalize htbtx : W16.heap.size = tx at *
    refine (c_impl_LastOpening d2 Bf xs2 cf2 f2 t2 _ R17_0.out.rds (by omega)).mono ?_
    simp only [HLA.out]
    rintro e W18 ⟨rfl, hb⟩
    have hk : Below V17.heap.size V17 W18 := hb
    have hkz18 := hk.size
    have c18_0 : W18.cell? ⟨tx, 0, none⟩ = some (.int .i64 d2) := (hb.cell (p := ⟨tx, 0, none⟩) (by show tx < _; omega)).trans d17_0
    have c18_1 : W18.cell? ⟨tx, 1, none⟩ = some (.slice Bf xs2.length cf2) := (hb.cell (p := ⟨tx, 1, none⟩) (by show tx < _; omega)).trans d17_1
    have b18_0 : tx < W18.heap.size := by omega
    have R18_0 := hid (FreshA.below (cf := cIv) (sz := 2) (T := 50) (B := V15.heap.size) R17_0.out hk)
    have hw18 : Below w.heap.size w W18 := Below.trans hw (Below.mono hk (by have := hw.size; omega))
    clear hw hk
    have hw := hw18
    clear hw18
    have hwz := hw.size
    clear d17_0 d17_1 R17_0
    clear hb
    go_wp2_with (fail)
    refine calls_named ?_
    intro V19 hV
    have hk : Below W18.heap.size W18 V19 := by rw [hV]; (repeat' (first | with_reducible exact Below.refl _ _ | with_reducible assumption | with_reducible refine Below.setCell ?_ ?_ _ | with_reducible refine Below.drew ?_ | with_reducible refine Below.alloc ?_ ?_ _ | with_reducible refine Below.trans ?_ (Below.mono (by assumption) ?_) | (dsimp only; omega) | (simp; done) | (simp; omega) | omega))
    have hkz19 := hk.size
    have c19_0 : V19.cell? ⟨tx, 0, none⟩ = some (.int .i64 d2) := (hk.cell (p := ⟨tx, 0, none⟩) (by show tx < _; omega)).trans c18_0
    have c19_1 : V19.cell? ⟨tx, 1, none⟩ = some (.slice Bf xs2.length cf2) := (hk.cell (p := ⟨tx, 1, none⟩) (by show tx < _; omega)).trans c18_1
    have b19_0 : tx < V19.heap.size := by omega
    have R19_0 := hid (FreshA.below (cf := cIv) (sz := 2) (T := 50) (B := V15.heap.size) R18_0.out hk)
    have hw19 : Below w.heap.size w V19 := Below.trans hw (Below.mono hk (by have := hw.size; omega))
    clear hw hk
    have hw := hw19
    clear hw19
    have hwz := hw.size
    clear c18_0 c18_1 R18_0
    clear hV
    refine (c_spec_LastOpening d2 Bf xs2 cf2 f2 t2 _ R19_0.out.rds (by omega)).mono ?_
    simp only [HLA.out]
    rintro e W20 ⟨rfl, hb⟩
    have hk : Below V19.heap.size V19 W20 := hb
    have hkz20 := hk.size
    have c20_0 : W20.cell? ⟨tx, 0, none⟩ = some (.int .i64 d2) := (hb.cell (p := ⟨tx, 0, none⟩) (by show tx < _; omega)).trans c19_0
    have c20_1 : W20.cell? ⟨tx, 1, none⟩ = some (.slice Bf xs2.length cf2) := (hb.cell (p := ⟨tx, 1, none⟩) (by show tx < _; omega)).trans c19_1
    have b20_0 : tx < W20.heap.size := by omega
    have R20_0 := hid (FreshA.below (cf := cIv) (sz := 2) (T := 50) (B := V15.heap.size) R19_0.out hk)
    have hw20 : Below w.heap.size w W20 := Below.trans hw (Below.mono hk (by have := hw.size; omega))
    clear hw hk
    have hw := hw20
    clear hw20
    have hwz := hw.size
    clear c19_0 c19_1 R19_0
    clear hb
    cases fine
    · clear c20_0
      clear c20_1
      clear R20_0
      go_wp2_with (fail)
      refine calls_named ?_
      intro V21 hV
      have hk : Below W20.heap.size W20 V21 := by rw [hV]; (repeat' (first | with_reducible exact Below.refl _ _ | with_reducible assumption | with_reducible refine Below.setCell ?_ ?_ _ | with_reducible refine Below.drew ?_ | with_reducible refine Below.alloc ?_ ?_ _ | with_reducible refine Below.trans ?_ (Below.mono (by assumption) ?_) | (dsimp only; omega) | (simp; done) | (simp; omega) | omega))
      have hkz21 := hk.size
      have hw21 : Below w.heap.size w V21 := Below.trans hw (Below.mono hk (by have := hw.size; omega))
      clear hw hk
      have hw := hw21
      clear hw21
      have hwz := hw.size
      clear hV
      refine (c_spec_DrawAddClosure A cs cap _ (Rds.below hr hw) hby (by omega)).mono ?_
      rintro e W22 ⟨d3, Cf, cf3, xs3, f3, t3, rfl, hFf, hxl3, hb⟩
      have hk : Below V21.heap.size V21 W22 := hb
      have hkz22 := hk.size
      have hw22 : Below w.heap.size w W22 := Below.trans hw (Below.mono hk (by have := hw.size; omega))
      clear hw hk
      have hw := hw22
      clear hw22
      have hwz := hw.size
      clear hb
      have S22_0 : Hid (FreshA cIv 2 50 V21.heap.size W22 Cf cf3 xs3) := hid (hFf)
      have loS22_0 := S22_0.out.lo
      have hiS22_0 := S22_0.out.hi
      clear hFf
      obtain ⟨d4, L, known, hAd⟩ : ∃ d4 L known, addV d3 xs3 (f3, t3) = ((d4, L), known) := ⟨_, _, _, rfl⟩
      have hlL := addV_bd hAd
      have hac := op_add hAd
      have HA := hid hAd; clear hAd
      go_wp2_with (fail)
      refine calls_named ?_
      intro V23 hV
      have hk : Below W22.heap.size W22 V23 := by rw [hV]; (repeat' (first | with_reducible exact Below.refl _ _ | with_reducible assumption | with_reducible refine Below.setCell ?_ ?_ _ | with_reducible refine Below.drew ?_ | with_reducible refine Below.alloc ?_ ?_ _ | with_reducible refine Below.trans ?_ (Below.mono (by assumption) ?_) | (dsimp only; omega) | (simp; done) | (simp; omega) | omega))
      have hkz23 := hk.size
      have R23_0 := hid (FreshA.below (cf := cIv) (sz := 2) (T := 50) (B := V21.heap.size) S22_0.out hk)
      have hw23 : Below w.heap.size w V23 := Below.trans hw (Below.mono hk (by have := hw.size; omega))
      clear hw hk
      have hw := hw23
      clear hw23
      have hwz := hw.size
      clear S22_0
      have d23_0 : V23.cell? ⟨W22.heap.size, 0, none⟩ = some (.int .i64 d3) := by rw [hV]; first | (simp [go_sem, ↓IntWalk.iteOmega, *]; done) | (simp [go_sem, ↓IntWalk.iteOmega, *]; intros; omega)
      have d23_1 : V23.cell? ⟨W22.heap.size, 1, none⟩ = some (.slice Cf xs3.length cf3) := by rw [hV]; first | (simp [go_sem, ↓IntWalk.iteOmega, *]; done) | (simp [go_sem, ↓IntWalk.iteOmega, *]; intros; omega)
      have e23_0 : W22.heap.size < V23.heap.size := by rw [hV]; first | (simp; done) | (simp; omega)
      have d23_2 : V23.cell? ⟨W22.heap.size + 1, 0, none⟩ = some (.int .i64 f3) := by rw [hV]; first | (simp [go_sem, ↓IntWalk.iteOmega, *]; done) | (simp [go_sem, ↓IntWalk.iteOmega, *]; intros; omega)
      have d23_3 : V23.cell? ⟨W22.heap.size + 1, 1, none⟩ = some (.int .i64 t3) := by rw [hV]; first | (simp [go_sem, ↓IntWalk.iteOmega, *]; done) | (simp [go_sem, ↓IntWalk.iteOmega, *]; intros; omega)
      have e23_1 : W22.heap.size + 1 < V23.heap.size := by rw [hV]; first | (simp; done) | (simp; omega)
      clear hV
      generalize htbty : W22.heap.size = ty at *
      refine (c_impl_AddClosure d3 Cf xs3 cf3 f3 t3 _ R23_0.out.rds (by omega)).mono ?_
      simp only [HA.out]
      rintro e W24 ⟨A8, c8, rfl, hF8, hb⟩
      have hk : Below V23.heap.size V23 W24 := hb
      have hkz24 := hk.size
      have c24_0 : W24.cell? ⟨ty, 0, none⟩ = some (.int .i64 d3) := (hb.cell (p := ⟨ty, 0, none⟩) (by show ty < _; omega)).trans d23_0
      have c24_1 : W24.cell? ⟨ty, 1, none⟩ = some (.slice Cf xs3.length cf3) := (hb.cell (p := ⟨ty, 1, none⟩) (by show ty < _; omega)).trans d23_1
      have c24_2 : W24.cell? ⟨ty + 1, 0, none⟩ = some (.int .i64 f3) := (hb.cell (p := ⟨ty + 1, 0, none⟩) (by show ty + 1 < _; omega)).trans d23_2
      have c24_3 : W24.cell? ⟨ty + 1, 1, none⟩ = some (.int .i64 t3) := (hb.cell (p := ⟨ty + 1, 1, none⟩) (by show ty + 1 < _; omega)).trans d23_3
      have b24_0 : ty < W24.heap.size := by omega
      have b24_1 : ty + 1 < W24.heap.size := by omega
      have R24_0 := hid (FreshA.below (cf := cIv) (sz := 2) (T := 50) (B := V21.heap.size) R23_0.out hk)
      have hw24 : Below w.heap.size w W24 := Below.trans hw (Below.mono hk (by have := hw.size; omega))
      clear hw hk
      have hw := hw24
      clear hw24
      have hwz := hw.size
      clear d23_0 d23_1 d23_2 d23_3 R23_0
      clear hb
      have S24_1 : Hid (FreshA cIv 2 50 V23.heap.size W24 A8 c8 L) := hid (hF8)
      have loS24_1 := S24_1.out.lo
      have hiS24_1 := S24_1.out.hi
      clear hF8
      go_wp2_with (fail)
      refine calls_named ?_
      intro V25 hV
      have hk : Below W24.heap.size W24 V25 := by rw [hV]; (repeat' (first | with_reducible exact Below.refl _ _ | with_reducible assumption | with_reducible refine Below.setCell ?_ ?_ _ | with_reducible refine Below.drew ?_ | with_reducible refine Below.alloc ?_ ?_ _ | with_reducible refine Below.trans ?_ (Below.mono (by assumption) ?_) | (dsimp only; omega) | (simp; done) | (simp; omega) | omega))
      have hkz25 := hk.size
      have c25_0 : V25.cell? ⟨ty, 0, none⟩ = some (.int .i64 d3) := (hk.cell (p := ⟨ty, 0, none⟩) (by show ty < _; omega)).trans c24_0
      have c25_1 : V25.cell? ⟨ty, 1, none⟩ = some (.slice Cf xs3.length cf3) := (hk.cell (p := ⟨ty, 1, none⟩) (by show ty < _; omega)).trans c24_1
      have c25_2 : V25.cell? ⟨ty + 1, 0, none⟩ = some (.int .i64 f3) := (hk.cell (p := ⟨ty + 1, 0, none⟩) (by show ty + 1 < _; omega)).trans c24_2
      have c25_3 : V25.cell? ⟨ty + 1, 1, none⟩ = some (.int .i64 t3) := (hk.cell (p := ⟨ty + 1, 1, none⟩) (by show ty + 1 < _; omega)).trans c24_3
      have b25_0 : ty < V25.heap.size := by omega
      have b25_1 : ty + 1 < V25.heap.size := by omega
      have R25_0 := hid (FreshA.below (cf := cIv) (sz := 2) (T := 50) (B := V21.heap.size) R24_0.out hk)
      have R25_1 := hid (FreshA.below (cf := cIv) (sz := 2) (T := 50) (B := V23.heap.size) S24_1.out hk)
      have hw25 : Below w.heap.size w V25 := Below.trans hw (Below.mono hk (by have := hw.size; omega))
      clear hw hk
      have hw := hw25
      clear hw25
      have hwz := hw.size
      clear c24_0 c24_1 c24_2 c24_3 R24_0 S24_1
      have d25_4 : V25.cell? ⟨W24.heap.size, 0, none⟩ = some (.int .i64 d4) := by rw [hV]; first | (simp [go_sem, ↓IntWalk.iteOmega, *]; done) | (simp [go_sem, ↓IntWalk.iteOmega, *]; intros; omega)
      have d25_5 : V25.cell? ⟨W24.heap.size, 1, none⟩ = some (.slice A8 L.length c8) := by rw [hV]; first | (simp [go_sem, ↓IntWalk.iteOmega, *]; done) | (simp [go_sem, ↓IntWalk.iteOmega, *]; intros; omega)
      have e25_2 : W24.heap.size < V25.heap.size := by rw [hV]; first | (simp; done) | (simp; omega)
      clear hV
      generalize htbtz : W24.heap.size = tz at *
      refine (c_spec_AddClosure d3 Cf xs3 cf3 f3 t3 _ R25_0.out.rds (by omega) (R25_0.out).capLe).mono ?_
      simp only [HA.out]
      rintro e W26 ⟨E8, e8, rfl, hF8, hb⟩
      have hk : Below V25.heap.size V25 W26 := hb
      have hkz26 := hk.size
      have c26_0 : W26.cell? ⟨ty, 0, none⟩ = some (.int .i64 d3) := (hb.cell (p := ⟨ty, 0, none⟩) (by show ty < _; omega)).trans c25_0
      have c26_1 : W26.cell? ⟨ty, 1, none⟩ = some (.slice Cf xs3.length cf3) := (hb.cell (p := ⟨ty, 1, none⟩) (by show ty < _; omega)).trans c25_1
      have c26_2 : W26.cell? ⟨ty + 1, 0, none⟩ = some (.int .i64 f3) := (hb.cell (p := ⟨ty + 1, 0, none⟩) (by show ty + 1 < _; omega)).trans c25_2
      have c26_3 : W26.cell? ⟨ty + 1, 1, none⟩ = some (.int .i64 t3) := (hb.cell (p := ⟨ty + 1, 1, none⟩) (by show ty + 1 < _; omega)).trans c25_3
      have c26_4 : W26.cell? ⟨tz, 0, none⟩ = some (.int .i64 d4) := (hb.cell (p := ⟨tz, 0, none⟩) (by show tz < _; omega)).trans d25_4
      have c26_5 : W26.cell? ⟨tz, 1, none⟩ = some (.slice A8 L.length c8) := (hb.cell (p := ⟨tz, 1, none⟩) (by show tz < _; omega)).trans d25_5
      have b26_0 : ty < W26.heap.size := by omega
      have b26_1 : ty + 1 < W26.heap.size := by omega
      have b26_2 : tz < W26.heap.size := by omega
      have R26_0 := hid (FreshA.below (cf := cIv) (sz := 2) (T := 50) (B := V21.heap.size) R25_0.out hk)
      have R26_1 := hid (FreshA.below (cf := cIv) (sz := 2) (T := 50) (B := V23.heap.size) R25_1.out hk)
      have hw26 : Below w.heap.size w W26 := Below.trans hw (Below.mono hk (by have := hw.size; omega))
      clear hw hk
      have hw := hw26
      clear hw26
      have hwz := hw.size
      clear c25_0 c25_1 c25_2 c25_3 d25_4 d25_5 R25_0 R25_1
      clear hb
      have S26_2 : Hid (FreshA cIv 2 50 V25.heap.size W26 E8 e8 L) := hid (hF8)
      have loS26_2 := S26_2.out.lo
      have hiS26_2 := S26_2.out.hi
      clear hF8
      rcases hac with rfl | ⟨rfl, hlen, hmf, hmt⟩
      · go_wp2_with (fail)
        refine calls_named ?_
        intro V27 hV
        have hk : Below W26.heap.size W26 V27 := by rw [hV]; (repeat' (first | with_reducible exact Below.refl _ _ | with_reducible assumption | with_reducible refine Below.setCell ?_ ?_ _ | with_reducible refine Below.drew ?_ | with_reducible refine Below.alloc ?_ ?_ _ | with_reducible refine Below.trans ?_ (Below.mono (by assumption) ?_) | (dsimp only; omega) | (simp; done) | (simp; omega) | omega))
        have hkz27 := hk.size
        have c27_0 : V27.cell? ⟨ty, 0, none⟩ = some (.int .i64 d3) := (hk.cell (p := ⟨ty, 0, none⟩) (by show ty < _; omega)).trans c26_0
        have c27_1 : V27.cell? ⟨ty, 1, none⟩ = some (.slice Cf xs3.length cf3) := (hk.cell (p := ⟨ty, 1, none⟩) (by show ty < _; omega)).trans c26_1
        have c27_2 : V27.cell? ⟨ty + 1, 0, none⟩ = some (.int .i64 f3) := (hk.cell (p := ⟨ty + 1, 0, none⟩) (by show ty + 1 < _; omega)).trans c26_2
        have c27_3 : V27.cell? ⟨ty + 1, 1, none⟩ = some (.int .i64 t3) := (hk.cell (p := ⟨ty + 1, 1, none⟩) (by show ty + 1 < _; omega)).trans c26_3
        have c27_4 : V27.cell? ⟨tz, 0, none⟩ = some (.int .i64 d4) := (hk.cell (p := ⟨tz, 0, none⟩) (by show tz < _; omega)).trans c26_4
        have c27_5 : V27.cell? ⟨tz, 1, none⟩ = some (.slice A8 L.length c8) := (hk.cell (p := ⟨tz, 1, none⟩) (by show tz < _; omega)).trans c26_5
        have b27_0 : ty < V27.heap.size := by omega
        have b27_1 : ty + 1 < V27.heap.size := by omega
        have b27_2 : tz < V27.heap.size := by omega
        have R27_0 := hid (FreshA.below (cf := cIv) (sz := 2) (T := 50) (B := V21.heap.size) R26_0.out hk)
        have R27_1 := hid (FreshA.below (cf := cIv) (sz := 2) (T := 50) (B := V23.heap.size) R26_1.out hk)
        have R27_2 := hid (FreshA.below (cf := cIv) (sz := 2) (T := 50) (B := V25.heap.size) S26_2.out hk)
        have hw27 : Below w.heap.size w V27 := Below.trans hw (Below.mono hk (by have := hw.size; omega))
        clear hw hk
        have hw := hw27
        clear hw27
        have hwz := hw.size
        clear c26_0 c26_1 c26_2 c26_3 c26_4 c26_5 R26_0 R26_1 S26_2
        clear hV
        refine (c_laws_vIntervals A8 E8 L c8 e8 _ R27_1.out.rds R27_2.out.rds (by omega)).mono ?_
        rintro e W28 ⟨rfl, hb⟩
        have hk : Below V27.heap.size V27 W28 := hb
        have hkz28 := hk.size
        have c28_0 : W28.cell? ⟨ty, 0, none⟩ = some (.int .i64 d3) := (hb.cell (p := ⟨ty, 0, none⟩) (by show ty < _; omega)).trans c27_0
        have c28_1 : W28.cell? ⟨ty, 1, none⟩ = some (.slice Cf xs3.length cf3) := (hb.cell (p := ⟨ty, 1, none⟩) (by show ty < _; omega)).trans c27_1
        have c28_2 : W28.cell? ⟨ty + 1, 0, none⟩ = some (.int .i64 f3) := (hb.cell (p := ⟨ty + 1, 0, none⟩) (by show ty + 1 < _; omega)).trans c27_2
        have c28_3 : W28.cell? ⟨ty + 1, 1, none⟩ = some (.int .i64 t3) := (hb.cell (p := ⟨ty + 1, 1, none⟩) (by show ty + 1 < _; omega)).trans c27_3
        have c28_4 : W28.cell? ⟨tz, 0, none⟩ = some (.int .i64 d4) := (hb.cell (p := ⟨tz, 0, none⟩) (by show tz < _; omega)).trans c27_4
        have c28_5 : W28.cell? ⟨tz, 1, none⟩ = some (.slice A8 L.length c8) := (hb.cell (p := ⟨tz, 1, none⟩) (by show tz < _; omega)).trans c27_5
        have b28_0 : ty < W28.heap.size := by omega
        have b28_1 : ty + 1 < W28.heap.size := by omega
        have b28_2 : tz < W28.heap.size := by omega
        have R28_0 := hid (FreshA.below (cf := cIv) (sz := 2) (T := 50) (B := V21.heap.size) R27_0.out hk)
        have R28_1 := hid (FreshA.below (cf := cIv) (sz := 2) (T := 50) (B := V23.heap.size) R27_1.out hk)
        have R28_2 := hid (FreshA.below (cf := cIv) (sz := 2) (T := 50) (B := V25.heap.size) R27_2.out hk)
        have hw28 : Below w.heap.size w W28 := Below.trans hw (Below.mono hk (by have := hw.size; omega))
        clear hw hk
        have hw := hw28
        clear hw28
        have hwz := hw.size
        clear c27_0 c27_1 c27_2 c27_3 c27_4 c27_5 R27_0 R27_1 R27_2
        clear hb
        go_wp2_with (fail)
        go_ret
        exact ⟨by first | rfl | exact ret_bool (by simp), by first | exact hw | (repeat' (first | with_reducible exact Below.refl _ _ | with_reducible assumption | with_reducible refine Below.setCell ?_ ?_ _ | with_reducible refine Below.drew ?_ | with_reducible refine Below.alloc ?_ ?_ _ | with_reducible refine Below.trans ?_ (Below.mono (by assumption) ?_) | (dsimp only; omega) | (simp; done) | (simp; omega) | omega))⟩
      have hln1 : L.length ≤ xs3.length + 1 := by omega
      have hln2 : xs3.length + 1 ≤ L.length := by omega
      have HMF := hid hmf; have HMT := hid hmt; clear hmf hmt hlen
      go_wp2_with (fail)
      refine calls_named ?_
      intro V27 hV
      have hk : Below W26.heap.size W26 V27 := by rw [hV]; (repeat' (first | with_reducible exact Below.refl _ _ | with_reducible assumption | with_reducible refine Below.setCell ?_ ?_ _ | with_reducible refine Below.drew ?_ | with_reducible refine Below.alloc ?_ ?_ _ | with_reducible refine Below.trans ?_ (Below.mono (by assumption) ?_) | (dsimp only; omega) | (simp; done) | (simp; omega) | omega))
      have hkz27 := hk.size
      have c27_0 : V27.cell? ⟨ty, 0, none⟩ = some (.int .i64 d3) := (hk.cell (p := ⟨ty, 0, none⟩) (by show ty < _; omega)).trans c26_0
      have c27_1 : V27.cell? ⟨ty, 1, none⟩ = some (.slice Cf xs3.length cf3) := (hk.cell (p := ⟨ty, 1, none⟩) (by show ty < _; omega)).trans c26_1
      have c27_2 : V27.cell? ⟨ty + 1, 0, none⟩ = some (.int .i64 f3) := (hk.cell (p := ⟨ty + 1, 0, none⟩) (by show ty + 1 < _; omega)).trans c26_2
      have c27_3 : V27.cell? ⟨ty + 1, 1, none⟩ = some (.int .i64 t3) := (hk.cell (p := ⟨ty + 1, 1, none⟩) (by show ty + 1 < _; omega)).trans c26_3
      have c27_4 : V27.cell? ⟨tz, 0, none⟩ = some (.int .i64 d4) := (hk.cell (p := ⟨tz, 0, none⟩) (by show tz < _; omega)).trans c26_4
      have c27_5 : V27.cell? ⟨tz, 1, none⟩ = some (.slice A8 L.length c8) := (hk.cell (p := ⟨tz, 1, none⟩) (by show tz < _; omega)).trans c26_5
      have b27_0 : ty < V27.heap.size := by omega
      have b27_1 : ty + 1 < V27.heap.size := by omega
      have b27_2 : tz < V27.heap.size := by omega
      have R27_0 := hid (FreshA.below (cf := cIv) (sz := 2) (T := 50) (B := V21.heap.size) R26_0.out hk)
      have R27_1 := hid (FreshA.below (cf := cIv) (sz := 2) (T := 50) (B := V23.heap.size) R26_1.out hk)
      have R27_2 := hid (FreshA.below (cf := cIv) (sz := 2) (T := 50) (B := V25.heap.size) S26_2.out hk)
      have hw27 : Below w.heap.size w V27 := Below.trans hw (Below.mono hk (by have := hw.size; omega))
      clear hw hk
      have hw := hw27
      clear hw27
      have hwz := hw.size
      clear c26_0 c26_1 c26_2 c26_3 c26_4 c26_5 R26_0 R26_1 S26_2
      clear hV
      refine (c_laws_vIntervals A8 E8 L c8 e8 _ R27_1.out.rds R27_2.out.rds (by omega)).mono ?_
      rintro e W28 ⟨rfl, hb⟩
      have hk : Below V27.heap.size V27 W28 := hb
      have hkz28 := hk.size
      have c28_0 : W28.cell? ⟨ty, 0, none⟩ = some (.int .i64 d3) := (hb.cell (p := ⟨ty, 0, none⟩) (by show ty < _; omega)).trans c27_0
      have c28_1 : W28.cell? ⟨ty, 1, none⟩ = some (.slice Cf xs3.length cf3) := (hb.cell (p := ⟨ty, 1, none⟩) (by show ty < _; omega)).trans c27_1
      have c28_2 : W28.cell? ⟨ty + 1, 0, none⟩ = some (.int .i64 f3) := (hb.cell (p := ⟨ty + 1, 0, none⟩) (by show ty + 1 < _; omega)).trans c27_2
      have c28_3 : W28.cell? ⟨ty + 1, 1, none⟩ = some (.int .i64 t3) := (hb.cell (p := ⟨ty + 1, 1, none⟩) (by show ty + 1 < _; omega)).trans c27_3
      have c28_4 : W28.cell? ⟨tz, 0, none⟩ = some (.int .i64 d4) := (hb.cell (p := ⟨tz, 0, none⟩) (by show tz < _; omega)).trans c27_4
      have c28_5 : W28.cell? ⟨tz, 1, none⟩ = some (.slice A8 L.length c8) := (hb.cell (p := ⟨tz, 1, none⟩) (by show tz < _; omega)).trans c27_5
      have b28_0 : ty < W28.heap.size := by omega
      have b28_1 : ty + 1 < W28.heap.size := by omega
      have b28_2 : tz < W28.heap.size := by omega
      have R28_0 := hid (FreshA.below (cf := cIv) (sz := 2) (T := 50) (B := V21.heap.size) R27_0.out hk)
      have R28_1 := hid (FreshA.below (cf := cIv) (sz := 2) (T := 50) (B := V23.heap.size) R27_1.out hk)
      have R28_2 := hid (FreshA.below (cf := cIv) (sz := 2) (T := 50) (B := V25.heap.size) R27_2.out hk)
      have hw28 : Below w.heap.size w W28 := Below.trans hw (Below.mono hk (by have := hw.size; omega))
      clear hw hk
      have hw := hw28
      clear hw28
      have hwz := hw.size
      clear c27_0 c27_1 c27_2 c27_3 c27_4 c27_5 R27_0 R27_1 R27_2
      clear hb
      go_wp2_with (fail)
      refine calls_named ?_
      intro V29 hV
      have hk : Below W28.heap.size W28 V29 := by rw [hV]; (repeat' (first | with_reducible exact Below.refl _ _ | with_reducible assumption | with_reducible refine Below.setCell ?_ ?_ _ | with_reducible refine Below.drew ?_ | with_reducible refine Below.alloc ?_ ?_ _ | with_reducible refine Below.trans ?_ (Below.mono (by assumption) ?_) | (dsimp only; omega) | (simp; done) | (simp; omega) | omega))
      have hkz29 := hk.size
      have c29_0 : V29.cell? ⟨ty, 0, none⟩ = some (.int .i64 d3) := (hk.cell (p := ⟨ty, 0, none⟩) (by show ty < _; omega)).trans c28_0
      have c29_1 : V29.cell? ⟨ty, 1, none⟩ = some (.slice Cf xs3.length cf3) := (hk.cell (p := ⟨ty, 1, none⟩) (by show ty < _; omega)).trans c28_1
      have c29_2 : V29.cell? ⟨ty + 1, 0, none⟩ = some (.int .i64 f3) := (hk.cell (p := ⟨ty + 1, 0, none⟩) (by show ty + 1 < _; omega)).trans c28_2
      have c29_3 : V29.cell? ⟨ty + 1, 1, none⟩ = some (.int .i64 t3) := (hk.cell (p := ⟨ty + 1, 1, none⟩) (by show ty + 1 < _; omega)).trans c28_3
      have c29_4 : V29.cell? ⟨tz, 0, none⟩ = some (.int .i64 d4) := (hk.cell (p := ⟨tz, 0, none⟩) (by show tz < _; omega)).trans c28_4
      have c29_5 : V29.cell? ⟨tz, 1, none⟩ = some (.slice A8 L.length c8) := (hk.cell (p := ⟨tz, 1, none⟩) (by show tz < _; omega)).trans c28_5
      have b29_0 : ty < V29.heap.size := by omega
      have b29_1 : ty + 1 < V29.heap.size := by omega
      have b29_2 : tz < V29.heap.size := by omega
      have R29_0 := hid (FreshA.below (cf := cIv) (sz := 2) (T := 50) (B := V21.heap.size) R28_0.out hk)
      have R29_1 := hid (FreshA.below (cf := cIv) (sz := 2) (T := 50) (B := V23.heap.size) R28_1.out hk)
      have R29_2 := hid (FreshA.below (cf := cIv) (sz := 2) (T := 50) (B := V25.heap.size) R28_2.out hk)
      have hw29 : Below w.heap.size w V29 := Below.trans hw (Below.mono hk (by have := hw.size; omega))
      clear hw hk
      have hw := hw29
      clear hw29
      have hwz := hw.size
      clear c28_0 c28_1 c28_2 c28_3 c28_4 c28_5 R28_0 R28_1 R28_2
      clear hV
      refine (c_impl_MayOpen d4 A8 L c8 f3 _ R29_1.out.rds (by omega)).mono ?_
      simp only [HMF.out]
      rintro e W30 ⟨rfl, hb⟩
      have hk : Below V29.heap.size V29 W30 := hb
      have hkz30 := hk.size
      have c30_0 : W30.cell? ⟨ty, 0, none⟩ = some (.int .i64 d3) := (hb.cell (p := ⟨ty, 0, none⟩) (by show ty < _; omega)).trans c29_0
      have c30_1 : W30.cell? ⟨ty, 1, none⟩ = some (.slice Cf xs3.length cf3) := (hb.cell (p := ⟨ty, 1, none⟩) (by show ty < _; omega)).trans c29_1
      have c30_2 : W30.cell? ⟨ty + 1, 0, none⟩ = some (.int .i64 f3) := (hb.cell (p := ⟨ty + 1, 0, none⟩) (by show ty + 1 < _; omega)).trans c29_2
      have c30_3 : W30.cell? ⟨ty + 1, 1, none⟩ = some (.int .i64 t3) := (hb.cell (p := ⟨ty + 1, 1, none⟩) (by show ty + 1 < _; omega)).trans c29_3
      have c30_4 : W30.cell? ⟨tz, 0, none⟩ = some (.int .i64 d4) := (hb.cell (p := ⟨tz, 0, none⟩) (by show tz < _; omega)).trans c29_4
      have c30_5 : W30.cell? ⟨tz, 1, none⟩ = some (.slice A8 L.length c8) := (hb.cell (p := ⟨tz, 1, none⟩) (by show tz < _; omega)).trans c29_5
      have b30_0 : ty < W30.heap.size := by omega
      have b30_1 : ty + 1 < W30.heap.size := by omega
      have b30_2 : tz < W30.heap.size := by omega
      have R30_0 := hid (FreshA.below (cf := cIv) (sz := 2) (T := 50) (B := V21.heap.size) R29_0.out hk)
      have R30_1 := hid (FreshA.below (cf := cIv) (sz := 2) (T := 50) (B := V23.heap.size) R29_1.out hk)
      have R30_2 := hid (FreshA.below (cf := cIv) (sz := 2) (T := 50) (B := V25.heap.size) R29_2.out hk)
      have hw30 : Below w.heap.size w W30 := Below.trans hw (Below.mono hk (by have := hw.size; omega))
      clear hw hk
      have hw := hw30
      clear hw30
      have hwz := hw.size
      clear c29_0 c29_1 c29_2 c29_3 c29_4 c29_5 R29_0 R29_1 R29_2
      clear hb
      go_wp2_with (fail)
      refine calls_named ?_
      intro V31 hV
      have hk : Below W30.heap.size W30 V31 := by rw [hV]; (repeat' (first | with_reducible exact Below.refl _ _ | with_reducible assumption | with_reducible refine Below.setCell ?_ ?_ _ | with_reducible refine Below.drew ?_ | with_reducible refine Below.alloc ?_ ?_ _ | with_reducible refine Below.trans ?_ (Below.mono (by assumption) ?_) | (dsimp only; omega) | (simp; done) | (simp; omega) | omega))
      have hkz31 := hk.size
      have c31_0 : V31.cell? ⟨ty, 0, none⟩ = some (.int .i64 d3) := (hk.cell (p := ⟨ty, 0, none⟩) (by show ty < _; omega)).trans c30_0
      have c31_1 : V31.cell? ⟨ty, 1, none⟩ = some (.slice Cf xs3.length cf3) := (hk.cell (p := ⟨ty, 1, none⟩) (by show ty < _; omega)).trans c30_1
      have c31_2 : V31.cell? ⟨ty + 1, 0, none⟩ = some (.int .i64 f3) := (hk.cell (p := ⟨ty + 1, 0, none⟩) (by show ty + 1 < _; omega)).trans c30_2
      have c31_3 : V31.cell? ⟨ty + 1, 1, none⟩ = some (.int .i64 t3) := (hk.cell (p := ⟨ty + 1, 1, none⟩) (by show ty + 1 < _; omega)).trans c30_3
      have c31_4 : V31.cell? ⟨tz, 0, none⟩ = some (.int .i64 d4) := (hk.cell (p := ⟨tz, 0, none⟩) (by show tz < _; omega)).trans c30_4
      have c31_5 : V31.cell? ⟨tz, 1, none⟩ = some (.slice A8 L.length c8) := (hk.cell (p := ⟨tz, 1, none⟩) (by show tz < _; omega)).trans c30_5
      have b31_0 : ty < V31.heap.size := by omega
      have b31_1 : ty + 1 < V31.heap.size := by omega
      have b31_2 : tz < V31.heap.size := by omega
      have R31_0 := hid (FreshA.below (cf := cIv) (sz := 2) (T := 50) (B := V21.heap.size) R30_0.out hk)
      have R31_1 := hid (FreshA.below (cf := cIv) (sz := 2) (T := 50) (B := V23.heap.size) R30_1.out hk)
      have R31_2 := hid (FreshA.below (cf := cIv) (sz := 2) (T := 50) (B := V25.heap.size) R30_2.out hk)
      have hw31 : Below w.heap.size w V31 := Below.trans hw (Below.mono hk (by have := hw.size; omega))
      clear hw hk
      have hw := hw31
      clear hw31
      have hwz := hw.size
      clear c30_0 c30_1 c30_2 c30_3 c30_4 c30_5 R30_0 R30_1 R30_2
      clear hV
      refine (c_impl_MayOpen d4 A8 L c8 t3 _ R31_1.out.rds (by omega)).mono ?_
      simp only [HMT.out]
      rintro e W32 ⟨rfl, hb⟩
      have hk : Below V31.heap.size V31 W32 := hb
      have hkz32 := hk.size
      have c32_0 : W32.cell? ⟨ty, 0, none⟩ = some (.int .i64 d3) := (hb.cell (p := ⟨ty, 0, none⟩) (by show ty < _; omega)).trans c31_0
      have c32_1 : W32.cell? ⟨ty, 1, none⟩ = some (.slice Cf xs3.length cf3) := (hb.cell (p := ⟨ty, 1, none⟩) (by show ty < _; omega)).trans c31_1
      have c32_2 : W32.cell? ⟨ty + 1, 0, none⟩ = some (.int .i64 f3) := (hb.cell (p := ⟨ty + 1, 0, none⟩) (by show ty + 1 < _; omega)).trans c31_2
      have c32_3 : W32.cell? ⟨ty + 1, 1, none⟩ = some (.int .i64 t3) := (hb.cell (p := ⟨ty + 1, 1, none⟩) (by show ty + 1 < _; omega)).trans c31_3
      have c32_4 : W32.cell? ⟨tz, 0, none⟩ = some (.int .i64 d4) := (hb.cell (p := ⟨tz, 0, none⟩) (by show tz < _; omega)).trans c31_4
      have c32_5 : W32.cell? ⟨tz, 1, none⟩ = some (.slice A8 L.length c8) := (hb.cell (p := ⟨tz, 1, none⟩) (by show tz < _; omega)).trans c31_5
      have b32_0 : ty < W32.heap.size := by omega
      have b32_1 : ty + 1 < W32.heap.size := by omega
      have b32_2 : tz < W32.heap.size := by omega
      have R32_0 := hid (FreshA.below (cf := cIv) (sz := 2) (T := 50) (B := V21.heap.size) R31_0.out hk)
      have R32_1 := hid (FreshA.below (cf := cIv) (sz := 2) (T := 50) (B := V23.heap.size) R31_1.out hk)
      have R32_2 := hid (FreshA.below (cf := cIv) (sz := 2) (T := 50) (B := V25.heap.size) R31_2.out hk)
      have hw32 : Below w.heap.size w W32 := Below.trans hw (Below.mono hk (by have := hw.size; omega))
      clear hw hk
      have hw := hw32
      clear hw32
      have hwz := hw.size
      clear c31_0 c31_1 c31_2 c31_3 c31_4 c31_5 R31_0 R31_1 R31_2
      clear hb
      go_wp2_with (fail)
      go_ret
      exact ⟨ret_bool (by simp; omega), by first | exact hw | (repeat' (first | with_reducible exact Below.refl _ _ | with_reducible assumption | with_reducible refine Below.setCell ?_ ?_ _ | with_reducible refine Below.drew ?_ | with_reducible refine Below.alloc ?_ ?_ _ | with_reducible refine Below.trans ?_ (Below.mono (by assumption) ?_) | (dsimp only; omega) | (simp; done) | (simp; omega) | omega))⟩
    obtain ⟨ho1, ho2, ho3⟩ := HOL.out rfl
    subst ho1
    go_wp2_with (fail)
    refine calls_named ?_
    intro V21 hV
    have hk : Below W20.heap.size W20 V21 := by rw [hV]; (repeat' (first | with_reducible exact Below.refl _ _ | with_reducible assumption | with_reducible refine Below.setCell ?_ ?_ _ | with_reducible refine Below.drew ?_ | with_reducible refine Below.alloc ?_ ?_ _ | with_reducible refine Below.trans ?_ (Below.mono (by assumption) ?_) | (dsimp only; omega) | (simp; done) | (simp; omega) | omega))
    have hkz21 := hk.size
    have c21_0 : V21.cell? ⟨tx, 0, none⟩ = some (.int .i64 d2) := (hk.cell (p := ⟨tx, 0, none⟩) (by show tx < _; omega)).trans c20_0
    have c21_1 : V21.cell? ⟨tx, 1, none⟩ = some (.slice Bf xs2.length cf2) := (hk.cell (p := ⟨tx, 1, none⟩) (by show tx < _; omega)).trans c20_1
    have b21_0 : tx < V21.heap.size := by omega
    have R21_0 := hid (FreshA.below (cf := cIv) (sz := 2) (T := 50) (B := V15.heap.size) R20_0.out hk)
    have hw21 : Below w.heap.size w V21 := Below.trans hw (Below.mono hk (by have := hw.size; omega))
    clear hw hk
    have hw := hw21
    clear hw21
    have hwz := hw.size
    clear c20_0 c20_1 R20_0
    clear hV
    refine (c_impl_NextOpening d2 Bf xs2 cf2 f2 _ R21_0.out.rds (by omega)).mono ?_
    simp only [HFI.out]
    rintro e W22 ⟨rfl, hb⟩
    have hk : Below V21.heap.size V21 W22 := hb
    have hkz22 := hk.size
    have c22_0 : W22.cell? ⟨tx, 0, none⟩ = some (.int .i64 d2) := (hb.cell (p := ⟨tx, 0, none⟩) (by show tx < _; omega)).trans c21_0
    have c22_1 : W22.cell? ⟨tx, 1, none⟩ = some (.slice Bf xs2.length cf2) := (hb.cell (p := ⟨tx, 1, none⟩) (by show tx < _; omega)).trans c21_1
    have b22_0 : tx < W22.heap.size := by omega
    have R22_0 := hid (FreshA.below (cf := cIv) (sz := 2) (T := 50) (B := V15.heap.size) R21_0.out hk)
    have hw22 : Below w.heap.size w W22 := Below.trans hw (Below.mono hk (by have := hw.size; omega))
    clear hw hk
    have hw := hw22
    clear hw22
    have hwz := hw.size
    clear c21_0 c21_1 R21_0
    clear hb
    clear c22_0
    clear c22_1
    clear R22_0
    go_wp2_with (fail)
    refine calls_named ?_
    intro V23 hV
    have hk : Below W22.heap.size W22 V23 := by rw [hV]; (repeat' (first | with_reducible exact Below.refl _ _ | with_reducible assumption | with_reducible refine Below.setCell ?_ ?_ _ | with_reducible refine Below.drew ?_ | with_reducible refine Below.alloc ?_ ?_ _ | with_reducible refine Below.trans ?_ (Below.mono (by assumption) ?_) | (dsimp only; omega) | (simp; done) | (simp; omega) | omega))
    have hkz23 := hk.size
    have hw23 : Below w.heap.size w V23 := Below.trans hw (Below.mono hk (by have := hw.size; omega))
    clear hw hk
    have hw := hw23
    clear hw23
    have hwz := hw.size
    clear hV
    refine (c_spec_DrawAddClosure A cs cap _ (Rds.below hr hw) hby (by omega)).mono ?_
    rintro e W24 ⟨d3, Cf, cf3, xs3, f3, t3, rfl, hFf, hxl3, hb⟩
    have hk : Below V23.heap.size V23 W24 := hb
    have hkz24 := hk.size
    have hw24 : Below w.heap.size w W24 := Below.trans hw (Below.mono hk (by have := hw.size; omega))
    clear hw hk
    have hw := hw24
    clear hw24
    have hwz := hw.size
    clear hb
    have S24_0 : Hid (FreshA cIv 2 50 V23.heap.size W24 Cf cf3 xs3) := hid (hFf)
    have loS24_0 := S24_0.out.lo
    have hiS24_0 := S24_0.out.hi
    clear hFf
    obtain ⟨d4, L, known, hAd⟩ : ∃ d4 L known, addV d3 xs3 (f3, t3) = ((d4, L), known) := ⟨_, _, _, rfl⟩
    have hlL := addV_bd hAd
    have hac := op_add hAd
    have HA := hid hAd; clear hAd
    go_wp2_with (fail)
    refine calls_named ?_
    intro V25 hV
    have hk : Below W24.heap.size W24 V25 := by rw [hV]; (repeat' (first | with_reducible exact Below.refl _ _ | with_reducible assumption | with_reducible refine Below.setCell ?_ ?_ _ | with_reducible refine Below.drew ?_ | with_reducible refine Below.alloc ?_ ?_ _ | with_reducible refine Below.trans ?_ (Below.mono (by assumption) ?_) | (dsimp only; omega) | (simp; done) | (simp; omega) | omega))
    have hkz25 := hk.size
    have R25_0 := hid (FreshA.below (cf := cIv) (sz := 2) (T := 50) (B := V23.heap.size) S24_0.out hk)
    have hw25 : Below w.heap.size w V25 := Below.trans hw (Below.mono hk (by have := hw.size; omega))
    clear hw hk
    have hw := hw25
    clear hw25
    have hwz := hw.size
    clear S24_0
    have d25_0 : V25.cell? ⟨W24.heap.size, 0, none⟩ = some (.int .i64 d3) := by rw [hV]; first | (simp [go_sem, ↓IntWalk.iteOmega, *]; done) | (simp [go_sem, ↓IntWalk.iteOmega, *]; intros; omega)
    have d25_1 : V25.cell? ⟨W24.heap.size, 1, none⟩ = some (.slice Cf xs3.length cf3) := by rw [hV]; first | (simp [go_sem, ↓IntWalk.iteOmega, *]; done) | (simp [go_sem, ↓IntWalk.iteOmega, *]; intros; omega)
    have e25_0 : W24.heap.size < V25.heap.size := by rw [hV]; first | (simp; done) | (simp; omega)
    have d25_2 : V25.cell? ⟨W24.heap.size + 1, 0, none⟩ = some (.int .i64 f3) := by rw [hV]; first | (simp [go_sem, ↓IntWalk.iteOmega, *]; done) | (simp [go_sem, ↓IntWalk.iteOmega, *]; intros; omega)
    have d25_3 : V25.cell? ⟨W24.heap.size + 1, 1, none⟩ = some (.int .i64 t3) := by rw [hV]; first | (simp [go_sem, ↓IntWalk.iteOmega, *]; done) | (simp [go_sem, ↓IntWalk.iteOmega, *]; intros; omega)
    have e25_1 : W24.heap.size + 1 < V25.heap.size := by rw [hV]; first | (simp; done) | (simp; omega)
    clear hV
    generalize htbty : W24.heap.size = ty at *
    refine (c_impl_AddClosure d3 Cf xs3 cf3 f3 t3 _ R25_0.out.rds (by omega)).mono ?_
    simp only [HA.out]
    rintro e W26 ⟨A8, c8, rfl, hF8, hb⟩
    have hk : Below V25.heap.size V25 W26 := hb
    have hkz26 := hk.size
    have c26_0 : W26.cell? ⟨ty, 0, none⟩ = some (.int .i64 d3) := (hb.cell (p := ⟨ty, 0, none⟩) (by show ty < _; omega)).trans d25_0
    have c26_1 : W26.cell? ⟨ty, 1, none⟩ = some (.slice Cf xs3.length cf3) := (hb.cell (p := ⟨ty, 1, none⟩) (by show ty < _; omega)).trans d25_1
    have c26_2 : W26.cell? ⟨ty + 1, 0, none⟩ = some (.int .i64 f3) := (hb.cell (p := ⟨ty + 1, 0, none⟩) (by show ty + 1 < _; omega)).trans d25_2
    have c26_3 : W26.cell? ⟨ty + 1, 1, none⟩ = some (.int .i64 t3) := (hb.cell (p := ⟨ty + 1, 1, none⟩) (by show ty + 1 < _; omega)).trans d25_3
    have b26_0 : ty < W26.heap.size := by omega
    have b26_1 : ty + 1 < W26.heap.size := by omega
    have R26_0 := hid (FreshA.below (cf := cIv) (sz := 2) (T := 50) (B := V23.heap.size) R25_0.out hk)
    have hw26 : Below w.heap.size w W26 := Below.trans hw (Below.mono hk (by have := hw.size; omega))
    clear hw hk
    have hw := hw26
    clear hw26
    have hwz := hw.size
    clear d25_0 d25_1 d25_2 d25_3 R25_0
    clear hb
    have S26_1 : Hid (FreshA cIv 2 50 V25.heap.size W26 A8 c8 L) := hid (hF8)
    have loS26_1 := S26_1.out.lo
    have hiS26_1 := S26_1.out.hi
    clear hF8
    go_wp2_with (fail)
    refine calls_named ?_
    intro V27 hV
    have hk : Below W26.heap.size W26 V27 := by rw [hV]; (repeat' (first | with_reducible exact Below.refl _ _ | with_reducible assumption | with_reducible refine Below.setCell ?_ ?_ _ | with_reducible refine Below.drew ?_ | with_reducible refine Below.alloc ?_ ?_ _ | with_reducible refine Below.trans ?_ (Below.mono (by assumption) ?_) | (dsimp only; omega) | (simp; done) | (simp; omega) | omega))
    have hkz27 := hk.size
    have c27_0 : V27.cell? ⟨ty, 0, none⟩ = some (.int .i64 d3) := (hk.cell (p := ⟨ty, 0, none⟩) (by show ty < _; omega)).trans c26_0
    have c27_1 : V27.cell? ⟨ty, 1, none⟩ = some (.slice Cf xs3.length cf3) := (hk.cell (p := ⟨ty, 1, none⟩) (by show ty < _; omega)).trans c26_1
    have c27_2 : V27.cell? ⟨ty + 1, 0, none⟩ = some (.int .i64 f3) := (hk.cell (p := ⟨ty + 1, 0, none⟩) (by show ty + 1 < _; omega)).trans c26_2
    have c27_3 : V27.cell? ⟨ty + 1, 1, none⟩ = some (.int .i64 t3) := (hk.cell (p := ⟨ty + 1, 1, none⟩) (by show ty + 1 < _; omega)).trans c26_3
    have b27_0 : ty < V27.heap.size := by omega
    have b27_1 : ty + 1 < V27.heap.size := by omega
    have R27_0 := hid (FreshA.below (cf := cIv) (sz := 2) (T := 50) (B := V23.heap.size) R26_0.out hk)
    have R27_1 := hid (FreshA.below (cf := cIv) (sz := 2) (T := 50) (B := V25.heap.size) S26_1.out hk)
    have hw27 : Below w.heap.size w V27 := Below.trans hw (Below.mono hk (by have := hw.size; omega))
    clear hw hk
    have hw := hw27
    clear hw27
    have hwz := hw.size
    clear c26_0 c26_1 c26_2 c26_3 R26_0 S26_1
    have d27_4 : V27.cell? ⟨W26.heap.size, 0, none⟩ = some (.int .i64 d4) := by rw [hV]; first | (simp [go_sem, ↓IntWalk.iteOmega, *]; done) | (simp [go_sem, ↓IntWalk.iteOmega, *]; intros; omega)
    have d27_5 : V27.cell? ⟨W26.heap.size, 1, none⟩ = some (.slice A8 L.length c8) := by rw [hV]; first | (simp [go_sem, ↓IntWalk.iteOmega, *]; done) | (simp [go_sem, ↓IntWalk.iteOmega, *]; intros; omega)
    have e27_2 : W26.heap.size < V27.heap.size := by rw [hV]; first | (simp; done) | (simp; omega)
    clear hV
    generalize htbtz : W26.heap.size = tz at *
    refine (c_spec_AddClosure d3 Cf xs3 cf3 f3 t3 _ R27_0.out.rds (by omega) (R27_0.out).capLe).mono ?_
    simp only [HA.out]
    rintro e W28 ⟨E8, e8, rfl, hF8, hb⟩
    have hk : Below V27.heap.size V27 W28 := hb
    have hkz28 := hk.size
    have c28_0 : W28.cell? ⟨ty, 0, none⟩ = some (.int .i64 d3) := (hb.cell (p := ⟨ty, 0, none⟩) (by show ty < _; omega)).trans c27_0
    have c28_1 : W28.cell? ⟨ty, 1, none⟩ = some (.slice Cf xs3.length cf3) := (hb.cell (p := ⟨ty, 1, none⟩) (by show ty < _; omega)).trans c27_1
    have c28_2 : W28.cell? ⟨ty + 1, 0, none⟩ = some (.int .i64 f3) := (hb.cell (p := ⟨ty + 1, 0, none⟩) (by show ty + 1 < _; omega)).trans c27_2
    have c28_3 : W28.cell? ⟨ty + 1, 1, none⟩ = some (.int .i64 t3) := (hb.cell (p := ⟨ty + 1, 1, none⟩) (by show ty + 1 < _; omega)).trans c27_3
    have c28_4 : W28.cell? ⟨tz, 0, none⟩ = some (.int .i64 d4) := (hb.cell (p := ⟨tz, 0, none⟩) (by show tz < _; omega)).trans d27_4
    have c28_5 : W28.cell? ⟨tz, 1, none⟩ = some (.slice A8 L.length c8) := (hb.cell (p := ⟨tz, 1, none⟩) (by show tz < _; omega)).trans d27_5
    have b28_0 : ty < W28.heap.size := by omega
    have b28_1 : ty + 1 < W28.heap.size := by omega
    have b28_2 : tz < W28.heap.size := by omega
    have R28_0 := hid (FreshA.below (cf := cIv) (sz := 2) (T := 50) (B := V23.heap.size) R27_0.out hk)
    have R28_1 := hid (FreshA.below (cf := cIv) (sz := 2) (T := 50) (B := V25.heap.size) R27_1.out hk)
    have hw28 : Below w.heap.size w W28 := Below.trans hw (Below.mono hk (by have := hw.size; omega))
    clear hw hk
    have hw := hw28
    clear hw28
    have hwz := hw.size
    clear c27_0 c27_1 c27_2 c27_3 d27_4 d27_5 R27_0 R27_1
    clear hb
    have S28_2 : Hid (FreshA cIv 2 50 V27.heap.size W28 E8 e8 L) := hid (hF8)
    have loS28_2 := S28_2.out.lo
    have hiS28_2 := S28_2.out.hi
    clear hF8
    rcases hac with rfl | ⟨rfl, hlen, hmf, hmt⟩
    · go_wp2_with (fail)
      refine calls_named ?_
      intro V29 hV
      have hk : Below W28.heap.size W28 V29 := by rw [hV]; (repeat' (first | with_reducible exact Below.refl _ _ | with_reducible assumption | with_reducible refine Below.setCell ?_ ?_ _ | with_reducible refine Below.drew ?_ | with_reducible refine Below.alloc ?_ ?_ _ | with_reducible refine Below.trans ?_ (Below.mono (by assumption) ?_) | (dsimp only; omega) | (simp; done) | (simp; omega) | omega))
      have hkz29 := hk.size
      have c29_0 : V29.cell? ⟨ty, 0, none⟩ = some (.int .i64 d3) := (hk.cell (p := ⟨ty, 0, none⟩) (by show ty < _; omega)).trans c28_0
      have c29_1 : V29.cell? ⟨ty, 1, none⟩ = some (.slice Cf xs3.length cf3) := (hk.cell (p := ⟨ty, 1, none⟩) (by show ty < _; omega)).trans c28_1
      have c29_2 : V29.cell? ⟨ty + 1, 0, none⟩ = some (.int .i64 f3) := (hk.cell (p := ⟨ty + 1, 0, none⟩) (by show ty + 1 < _; omega)).trans c28_2
      have c29_3 : V29.cell? ⟨ty + 1, 1, none⟩ = some (.int .i64 t3) := (hk.cell (p := ⟨ty + 1, 1, none⟩) (by show ty + 1 < _; omega)).trans c28_3
      have c29_4 : V29.cell? ⟨tz, 0, none⟩ = some (.int .i64 d4) := (hk.cell (p := ⟨tz, 0, none⟩) (by show tz < _; omega)).trans c28_4
      have c29_5 : V29.cell? ⟨tz, 1, none⟩ = some (.slice A8 L.length c8) := (hk.cell (p := ⟨tz, 1, none⟩) (by show tz < _; omega)).trans c28_5
      have b29_0 : ty < V29.heap.size := by omega
      have b29_1 : ty + 1 < V29.heap.size := by omega
      have b29_2 : tz < V29.heap.size := by omega
      have R29_0 := hid (FreshA.below (cf := cIv) (sz := 2) (T := 50) (B := V23.heap.size) R28_0.out hk)
      have R29_1 := hid (FreshA.below (cf := cIv) (sz := 2) (T := 50) (B := V25.heap.size) R28_1.out hk)
      have R29_2 := hid (FreshA.below (cf := cIv) (sz := 2) (T := 50) (B := V27.heap.size) S28_2.out hk)
      have hw29 : Below w.heap.size w V29 := Below.trans hw (Below.mono hk (by have := hw.size; omega))
      clear hw hk
      have hw := hw29
      clear hw29
      have hwz := hw.size
      clear c28_0 c28_1 c28_2 c28_3 c28_4 c28_5 R28_0 R28_1 S28_2
      clear hV
      refine (c_laws_vIntervals A8 E8 L c8 e8 _ R29_1.out.rds R29_2.out.rds (by omega)).mono ?_
      rintro e W30 ⟨rfl, hb⟩
      have hk : Below V29.heap.size V29 W30 := hb
      have hkz30 := hk.size
      have c30_0 : W30.cell? ⟨ty, 0, none⟩ = some (.int .i64 d3) := (hb.cell (p := ⟨ty, 0, none⟩) (by show ty < _; omega)).trans c29_0
      have c30_1 : W30.cell? ⟨ty, 1, none⟩ = some (.slice Cf xs3.length cf3) := (hb.cell (p := ⟨ty, 1, none⟩) (by show ty < _; omega)).trans c29_1
      have c30_2 : W30.cell? ⟨ty + 1, 0, none⟩ = some (.int .i64 f3) := (hb.cell (p := ⟨ty + 1, 0, none⟩) (by show ty + 1 < _; omega)).trans c29_2
      have c30_3 : W30.cell? ⟨ty + 1, 1, none⟩ = some (.int .i64 t3) := (hb.cell (p := ⟨ty + 1, 1, none⟩) (by show ty + 1 < _; omega)).trans c29_3
      have c30_4 : W30.cell? ⟨tz, 0, none⟩ = some (.int .i64 d4) := (hb.cell (p := ⟨tz, 0, none⟩) (by show tz < _; omega)).trans c29_4
      have c30_5 : W30.cell? ⟨tz, 1, none⟩ = some (.slice A8 L.length c8) := (hb.cell (p := ⟨tz, 1, none⟩) (by show tz < _; omega)).trans c29_5
      have b30_0 : ty < W30.heap.size := by omega
      have b30_1 : ty + 1 < W30.heap.size := by omega
      have b30_2 : tz < W30.heap.size := by omega
      have R30_0 := hid (FreshA.below (cf := cIv) (sz := 2) (T := 50) (B := V23.heap.size) R29_0.out hk)
      have R30_1 := hid (FreshA.below (cf := cIv) (sz := 2) (T := 50) (B := V25.heap.size) R29_1.out hk)
      have R30_2 := hid (FreshA.below (cf := cIv) (sz := 2) (T := 50) (B := V27.heap.size) R29_2.out hk)
      have hw30 : Below w.heap.size w W30 := Below.trans hw (Below.mono hk (by have := hw.size; omega))
      clear hw hk
      have hw := hw30
      clear hw30
      have hwz := hw.size
      clear c29_0 c29_1 c29_2 c29_3 c29_4 c29_5 R29_0 R29_1 R29_2
      clear hb
      go_wp2_with (fail)
      go_ret
      exact ⟨by first | rfl | exact ret_bool (by simp), by first | exact hw | (repeat' (first | with_reducible exact Below.refl _ _ | with_reducible assumption | with_reducible refine Below.setCell ?_ ?_ _ | with_reducible refine Below.drew ?_ | with_reducible refine Below.alloc ?_ ?_ _ | with_reducible refine Below.trans ?_ (Below.mono (by assumption) ?_) | (dsimp only; omega) | (simp; done) | (simp; omega) | omega))⟩
    have hln1 : L.length ≤ xs3.length + 1 := by omega
    have hln2 : xs3.length + 1 ≤ L.length := by omega
    have HMF := hid hmf; have HMT := hid hmt; clear hmf hmt hlen
    go_wp2_with (fail)
    refine calls_named ?_
    intro V29 hV
    have hk : Below W28.heap.size W28 V29 := by rw [hV]; (repeat' (first | with_reducible exact Below.refl _ _ | with_reducible assumption | with_reducible refine Below.setCell ?_ ?_ _ | with_reducible refine Below.drew ?_ | with_reducible refine Below.alloc ?_ ?_ _ | with_reducible refine Below.trans ?_ (Below.mono (by assumption) ?_) | (dsimp only; omega) | (simp; done) | (simp; omega) | omega))
    have hkz29 := hk.size
    have c29_0 : V29.cell? ⟨ty, 0, none⟩ = some (.int .i64 d3) := (hk.cell (p := ⟨ty, 0, none⟩) (by show ty < _; omega)).trans c28_0
    have c29_1 : V29.cell? ⟨ty, 1, none⟩ = some (.slice Cf xs3.length cf3) := (hk.cell (p := ⟨ty, 1, none⟩) (by show ty < _; omega)).trans c28_1
    have c29_2 : V29.cell? ⟨ty + 1, 0, none⟩ = some (.int .i64 f3) := (hk.cell (p := ⟨ty + 1, 0, none⟩) (by show ty + 1 < _; omega)).trans c28_2
    have c29_3 : V29.cell? ⟨ty + 1, 1, none⟩ = some (.int .i64 t3) := (hk.cell (p := ⟨ty + 1, 1, none⟩) (by show ty + 1 < _; omega)).trans c28_3
    have c29_4 : V29.cell? ⟨tz, 0, none⟩ = some (.int .i64 d4) := (hk.cell (p := ⟨tz, 0, none⟩) (by show tz < _; omega)).trans c28_4
    have c29_5 : V29.cell? ⟨tz, 1, none⟩ = some (.slice A8 L.length c8) := (hk.cell (p := ⟨tz, 1, none⟩) (by show tz < _; omega)).trans c28_5
    have b29_0 : ty < V29.heap.size := by omega
    have b29_1 : ty + 1 < V29.heap.size := by omega
    have b29_2 : tz < V29.heap.size := by omega
    have R29_0 := hid (FreshA.below (cf := cIv) (sz := 2) (T := 50) (B := V23.heap.size) R28_0.out hk)
    have R29_1 := hid (FreshA.below (cf := cIv) (sz := 2) (T := 50) (B := V25.heap.size) R28_1.out hk)
    have R29_2 := hid (FreshA.below (cf := cIv) (sz := 2) (T := 50) (B := V27.heap.size) S28_2.out hk)
    have hw29 : Below w.heap.size w V29 := Below.trans hw (Below.mono hk (by have := hw.size; omega))
    clear hw hk
    have hw := hw29
    clear hw29
    have hwz := hw.size
    clear c28_0 c28_1 c28_2 c28_3 c28_4 c28_5 R28_0 R28_1 S28_2
    clear hV
    refine (c_laws_vIntervals A8 E8 L c8 e8 _ R29_1.out.rds R29_2.out.rds (by omega)).mono ?_
    rintro e W30 ⟨rfl, hb⟩
    have hk : Below V29.heap.size V29 W30 := hb
    have hkz30 := hk.size
    have c30_0 : W30.cell? ⟨ty, 0, none⟩ = some (.int .i64 d3) := (hb.cell (p := ⟨ty, 0, none⟩) (by show ty < _; omega)).trans c29_0
    have c30_1 : W30.cell? ⟨ty, 1, none⟩ = some (.slice Cf xs3.length cf3) := (hb.cell (p := ⟨ty, 1, none⟩) (by show ty < _; omega)).trans c29_1
    have c30_2 : W30.cell? ⟨ty + 1, 0, none⟩ = some (.int .i64 f3) := (hb.cell (p := ⟨ty + 1, 0, none⟩) (by show ty + 1 < _; omega)).trans c29_2
    have c30_3 : W30.cell? ⟨ty + 1, 1, none⟩ = some (.int .i64 t3) := (hb.cell (p := ⟨ty + 1, 1, none⟩) (by show ty + 1 < _; omega)).trans c29_3
    have c30_4 : W30.cell? ⟨tz, 0, none⟩ = some (.int .i64 d4) := (hb.cell (p := ⟨tz, 0, none⟩) (by show tz < _; omega)).trans c29_4
    have c30_5 : W30.cell? ⟨tz, 1, none⟩ = some (.slice A8 L.length c8) := (hb.cell (p := ⟨tz, 1, none⟩) (by show tz < _; omega)).trans c29_5
    have b30_0 : ty < W30.heap.size := by omega
    have b30_1 : ty + 1 < W30.heap.size := by omega
    have b30_2 : tz < W30.heap.size := by omega
    have R30_0 := hid (FreshA.below (cf := cIv) (sz := 2) (T := 50) (B := V23.heap.size) R29_0.out hk)
    have R30_1 := hid (FreshA.below (cf := cIv) (sz := 2) (T := 50) (B := V25.heap.size) R29_1.out hk)
    have R30_2 := hid (FreshA.below (cf := cIv) (sz := 2) (T := 50) (B := V27.heap.size) R29_2.out hk)
    have hw30 : Below w.heap.size w W30 := Below.trans hw (Below.mono hk (by have := hw.size; omega))
    clear hw hk
    have hw := hw30
    clear hw30
    have hwz := hw.size
    clear c29_0 c29_1 c29_2 c29_3 c29_4 c29_5 R29_0 R29_1 R29_2
    clear hb
    go_wp2_with (fail)
    refine calls_named ?_
    intro V31 hV
    have hk : Below W30.heap.size W30 V31 := by rw [hV]; (repeat' (first | with_reducible exact Below.refl _ _ | with_reducible assumption | with_reducible refine Below.setCell ?_ ?_ _ | with_reducible refine Below.drew ?_ | with_reducible refine Below.alloc ?_ ?_ _ | with_reducible refine Below.trans ?_ (Below.mono (by assumption) ?_) | (dsimp only; omega) | (simp; done) | (simp; omega) | omega))
    have hkz31 := hk.size
    have c31_0 : V31.cell? ⟨ty, 0, none⟩ = some (.int .i64 d3) := (hk.cell (p := ⟨ty, 0, none⟩) (by show ty < _; omega)).trans c30_0
    have c31_1 : V31.cell? ⟨ty, 1, none⟩ = some (.slice Cf xs3.length cf3) := (hk.cell (p := ⟨ty, 1, none⟩) (by show ty < _; omega)).trans c30_1
    have c31_2 : V31.cell? ⟨ty + 1, 0, none⟩ = some (.int .i64 f3) := (hk.cell (p := ⟨ty + 1, 0, none⟩) (by show ty + 1 < _; omega)).trans c30_2
    have c31_3 : V31.cell? ⟨ty + 1, 1, none⟩ = some (.int .i64 t3) := (hk.cell (p := ⟨ty + 1, 1, none⟩) (by show ty + 1 < _; omega)).trans c30_3
    have c31_4 : V31.cell? ⟨tz, 0, none⟩ = some (.int .i64 d4) := (hk.cell (p := ⟨tz, 0, none⟩) (by show tz < _; omega)).trans c30_4
    have c31_5 : V31.cell? ⟨tz, 1, none⟩ = some (.slice A8 L.length c8) := (hk.cell (p := ⟨tz, 1, none⟩) (by show tz < _; omega)).trans c30_5
    have b31_0 : ty < V31.heap.size := by omega
    have b31_1 : ty + 1 < V31.heap.size := by omega
    have b31_2 : tz < V31.heap.size := by omega
    have R31_0 := hid (FreshA.below (cf := cIv) (sz := 2) (T := 50) (B := V23.heap.size) R30_0.out hk)
    have R31_1 := hid (FreshA.below (cf := cIv) (sz := 2) (T := 50) (B := V25.heap.size) R30_1.out hk)
    have R31_2 := hid (FreshA.below (cf := cIv) (sz := 2) (T := 50) (B := V27.heap.size) R30_2.out hk)
    have hw31 : Below w.heap.size w V31 := Below.trans hw (Below.mono hk (by have := hw.size; omega))
    clear hw hk
    have hw := hw31
    clear hw31
    have hwz := hw.size
    clear c30_0 c30_1 c30_2 c30_3 c30_4 c30_5 R30_0 R30_1 R30_2
    clear hV
    refine (c_impl_MayOpen d4 A8 L c8 f3 _ R31_1.out.rds (by omega)).mono ?_
    simp only [HMF.out]
    rintro e W32 ⟨rfl, hb⟩
    have hk : Below V31.heap.size V31 W32 := hb
    have hkz32 := hk.size
    have c32_0 : W32.cell? ⟨ty, 0, none⟩ = some (.int .i64 d3) := (hb.cell (p := ⟨ty, 0, none⟩) (by show ty < _; omega)).trans c31_0
    have c32_1 : W32.cell? ⟨ty, 1, none⟩ = some (.slice Cf xs3.length cf3) := (hb.cell (p := ⟨ty, 1, none⟩) (by show ty < _; omega)).trans c31_1
    have c32_2 : W32.cell? ⟨ty + 1, 0, none⟩ = some (.int .i64 f3) := (hb.cell (p := ⟨ty + 1, 0, none⟩) (by show ty + 1 < _; omega)).trans c31_2
    have c32_3 : W32.cell? ⟨ty + 1, 1, none⟩ = some (.int .i64 t3) := (hb.cell (p := ⟨ty + 1, 1, none⟩) (by show ty + 1 < _; omega)).trans c31_3
    have c32_4 : W32.cell? ⟨tz, 0, none⟩ = some (.int .i64 d4) := (hb.cell (p := ⟨tz, 0, none⟩) (by show tz < _; omega)).trans c31_4
    have c32_5 : W32.cell? ⟨tz, 1, none⟩ = some (.slice A8 L.length c8) := (hb.cell (p := ⟨tz, 1, none⟩) (by show tz < _; omega)).trans c31_5
    have b32_0 : ty < W32.heap.size := by omega
    have b32_1 : ty + 1 < W32.heap.size := by omega
    have b32_2 : tz < W32.heap.size := by omega
    have R32_0 := hid (FreshA.below (cf := cIv) (sz := 2) (T := 50) (B := V23.heap.size) R31_0.out hk)
    have R32_1 := hid (FreshA.below (cf := cIv) (sz := 2) (T := 50) (B := V25.heap.size) R31_1.out hk)
    have R32_2 := hid (FreshA.below (cf := cIv) (sz := 2) (T := 50) (B := V27.heap.size) R31_2.out hk)
    have hw32 : Below w.heap.size w W32 := Below.trans hw (Below.mono hk (by have := hw.size; omega))
    clear hw hk
    have hw := hw32
    clear hw32
    have hwz := hw.size
    clear c31_0 c31_1 c31_2 c31_3 c31_4 c31_5 R31_0 R31_1 R31_2
    clear hb
    go_wp2_with (fail)
    refine calls_named ?_
    intro V33 hV
    have hk : Below W32.heap.size W32 V33 := by rw [hV]; (repeat' (first | with_reducible exact Below.refl _ _ | with_reducible assumption | with_reducible refine Below.setCell ?_ ?_ _ | with_reducible refine Below.drew ?_ | with_reducible refine Below.alloc ?_ ?_ _ | with_reducible refine Below.trans ?_ (Below.mono (by assumption) ?_) | (dsimp only; omega) | (simp; done) | (simp; omega) | omega))
    have hkz33 := hk.size
    have c33_0 : V33.cell? ⟨ty, 0, none⟩ = some (.int .i64 d3) := (hk.cell (p := ⟨ty, 0, none⟩) (by show ty < _; omega)).trans c32_0
    have c33_1 : V33.cell? ⟨ty, 1, none⟩ = some (.slice Cf xs3.length cf3) := (hk.cell (p := ⟨ty, 1, none⟩) (by show ty < _; omega)).trans c32_1
    have c33_2 : V33.cell? ⟨ty + 1, 0, none⟩ = some (.int .i64 f3) := (hk.cell (p := ⟨ty + 1, 0, none⟩) (by show ty + 1 < _; omega)).trans c32_2
    have c33_3 : V33.cell? ⟨ty + 1, 1, none⟩ = some (.int .i64 t3) := (hk.cell (p := ⟨ty + 1, 1, none⟩) (by show ty + 1 < _; omega)).trans c32_3
    have c33_4 : V33.cell? ⟨tz, 0, none⟩ = some (.int .i64 d4) := (hk.cell (p := ⟨tz, 0, none⟩) (by show tz < _; omega)).trans c32_4
    have c33_5 : V33.cell? ⟨tz, 1, none⟩ = some (.slice A8 L.length c8) := (hk.cell (p := ⟨tz, 1, none⟩) (by show tz < _; omega)).trans c32_5
    have b33_0 : ty < V33.heap.size := by omega
    have b33_1 : ty + 1 < V33.heap.size := by omega
    have b33_2 : tz < V33.heap.size := by omega
    have R33_0 := hid (FreshA.below (cf := cIv) (sz := 2) (T := 50) (B := V23.heap.size) R32_0.out hk)
    have R33_1 := hid (FreshA.below (cf := cIv) (sz := 2) (T := 50) (B := V25.heap.size) R32_1.out hk)
    have R33_2 := hid (FreshA.below (cf := cIv) (sz := 2) (T := 50) (B := V27.heap.size) R32_2.out hk)
    have hw33 : Below w.heap.size w V33 := Below.trans hw (Below.mono hk (by have := hw.size; omega))
    clear hw hk
    have hw := hw33
    clear hw33
    have hwz := hw.size
    clear c32_0 c32_1 c32_2 c32_3 c32_4 c32_5 R32_0 R32_1 R32_2
    clear hV
    refine (c_impl_MayOpen d4 A8 L c8 t3 _ R33_1.out.rds (by omega)).mono ?_
    simp only [HMT.out]
    rintro e W34 ⟨rfl, hb⟩
    have hk : Below V33.heap.size V33 W34 := hb
    have hkz34 := hk.size
    have c34_0 : W34.cell? ⟨ty, 0, none⟩ = some (.int .i64 d3) := (hb.cell (p := ⟨ty, 0, none⟩) (by show ty < _; omega)).trans c33_0
    have c34_1 : W34.cell? ⟨ty, 1, none⟩ = some (.slice Cf xs3.length cf3) := (hb.cell (p := ⟨ty, 1, none⟩) (by show ty < _; omega)).trans c33_1
    have c34_2 : W34.cell? ⟨ty + 1, 0, none⟩ = some (.int .i64 f3) := (hb.cell (p := ⟨ty + 1, 0, none⟩) (by show ty + 1 < _; omega)).trans c33_2
    have c34_3 : W34.cell? ⟨ty + 1, 1, none⟩ = some (.int .i64 t3) := (hb.cell (p := ⟨ty + 1, 1, none⟩) (by show ty + 1 < _; omega)).trans c33_3
    have c34_4 : W34.cell? ⟨tz, 0, none⟩ = some (.int .i64 d4) := (hb.cell (p := ⟨tz, 0, none⟩) (by show tz < _; omega)).trans c33_4
    have c34_5 : W34.cell? ⟨tz, 1, none⟩ = some (.slice A8 L.length c8) := (hb.cell (p := ⟨tz, 1, none⟩) (by show tz < _; omega)).trans c33_5
    have b34_0 : ty < W34.heap.size := by omega
    have b34_1 : ty + 1 < W34.heap.size := by omega
    have b34_2 : tz < W34.heap.size := by omega
    have R34_0 := hid (FreshA.below (cf := cIv) (sz := 2) (T := 50) (B := V23.heap.size) R33_0.out hk)
    have R34_1 := hid (FreshA.below (cf := cIv) (sz := 2) (T := 50) (B := V25.heap.size) R33_1.out hk)
    have R34_2 := hid (FreshA.below (cf := cIv) (sz := 2) (T := 50) (B := V27.heap.size) R33_2.out hk)
    have hw34 : Below w.heap.size w W34 := Below.trans hw (Below.mono hk (by have := hw.size; omega))
    clear hw hk
    have hw := hw34
    clear hw34
    have hwz := hw.size
    clear c33_0 c33_1 c33_2 c33_3 c33_4 c33_5 R33_0 R33_1 R33_2
    clear hb
    go_wp2_with (fail)
    go_ret
    exact ⟨ret_bool (by simp; omega), by first | exact hw | (repeat' (first | with_reducible exact Below.refl _ _ | with_reducible assumption | with_reducible refine Below.setCell ?_ ?_ _ | with_reducible refine Below.drew ?_ | with_reducible refine Below.alloc ?_ ?_ _ | with_reducible refine Below.trans ?_ (Below.mono (by assumption) ?_) | (dsimp only; omega) | (simp; done) | (simp; omega) | omega))⟩
  obtain rfl : ma = false := by rw [hq2]; exact decide_eq_false hnt
  clear hq2
  have hnd : decide (nx = tt) = false := decide_eq_false hnt
  go_wp2_with (fail)
  refine calls_named ?_
  intro V11 hV
  have hk : Below W10.heap.size W10 V11 := by rw [hV]; (repeat' (first | with_reducible exact Below.refl _ _ | with_reducible assumption | with_reducible refine Below.setCell ?_ ?_ _ | with_reducible refine Below.drew ?_ | with_reducible refine Below.alloc ?_ ?_ _ | with_reducible refine Below.trans ?_ (Below.mono (by assumption) ?_) | (dsimp only; omega) | (simp; done) | (simp; omega) | omega))
  have hkz11 := hk.size
  have c11_0 : V11.cell? ⟨tb, 0, none⟩ = some (.int .i64 d) := (hk.cell (p := ⟨tb, 0, none⟩) (by show tb < _; omega)).trans c10_0
  have c11_1 : V11.cell? ⟨tb, 1, none⟩ = some (.slice Af xs.length cf) := (hk.cell (p := ⟨tb, 1, none⟩) (by show tb < _; omega)).trans c10_1
  have b11_0 : tb < V11.heap.size := by omega
  have R11_0 := hid (FreshA.below (cf := cIv) (sz := 2) (T := 50) (B := V1.heap.size) R10_0.out hk)
  have hw11 : Below w.heap.size w V11 := Below.trans hw (Below.mono hk (by have := hw.size; omega))
  clear hw hk
  have hw := hw11
  clear hw11
  have hwz := hw.size
  clear c10_0 c10_1 R10_0
  clear hV
  refine (c_impl_MayOpen d Af xs cf nx _ R11_0.out.rds (by omega)).mono ?_
  simp only [HQ3.out]
  rintro e W12 ⟨rfl, hb⟩
  have hk : Below V11.heap.size V11 W12 := hb
  have hkz12 := hk.size
  have c12_0 : W12.cell? ⟨tb, 0, none⟩ = some (.int .i64 d) := (hb.cell (p := ⟨tb, 0, none⟩) (by show tb < _; omega)).trans c11_0
  have c12_1 : W12.cell? ⟨tb, 1, none⟩ = some (.slice Af xs.length cf) := (hb.cell (p := ⟨tb, 1, none⟩) (by show tb < _; omega)).trans c11_1
  have b12_0 : tb < W12.heap.size := by omega
  have R12_0 := hid (FreshA.below (cf := cIv) (sz := 2) (T := 50) (B := V1.heap.size) R11_0.out hk)
  have hw12 : Below w.heap.size w W12 := Below.trans hw (Below.mono hk (by have := hw.size; omega))
  clear hw hk
  have hw := hw12
  clear hw12
  have hwz := hw.size
  clear c11_0 c11_1 R11_0
  clear hb
  go_wp2_with (fail)
  refine calls_named ?_
  intro V13 hV
  have hk : Below W12.heap.size W12 V13 := by rw [hV]; (repeat' (first | with_reducible exact Below.refl _ _ | with_reducible assumption | with_reducible refine Below.setCell ?_ ?_ _ | with_reducible refine Below.drew ?_ | with_reducible refine Below.alloc ?_ ?_ _ | with_reducible refine Below.trans ?_ (Below.mono (by assumption) ?_) | (dsimp only; omega) | (simp; done) | (simp; omega) | omega))
  have hkz13 := hk.size
  have c13_0 : V13.cell? ⟨tb, 0, none⟩ = some (.int .i64 d) := (hk.cell (p := ⟨tb, 0, none⟩) (by show tb < _; omega)).trans c12_0
  have c13_1 : V13.cell? ⟨tb, 1, none⟩ = some (.slice Af xs.length cf) := (hk.cell (p := ⟨tb, 1, none⟩) (by show tb < _; omega)).trans c12_1
  have b13_0 : tb < V13.heap.size := by omega
  have R13_0 := hid (FreshA.below (cf := cIv) (sz := 2) (T := 50) (B := V1.heap.size) R12_0.out hk)
  have hw13 : Below w.heap.size w V13 := Below.trans hw (Below.mono hk (by have := hw.size; omega))
  clear hw hk
  have hw := hw13
  clear hw13
  have hwz := hw.size
  clear c12_0 c12_1 R12_0
  clear hV
  refine (c_impl_LastOpening d Af xs cf tt nx _ R13_0.out.rds (by omega)).mono ?_
  simp only [HQ4.out]
  rintro e W14 ⟨rfl, hb⟩
  have hk : Below V13.heap.size V13 W14 := hb
  have hkz14 := hk.size
  have c14_0 : W14.cell? ⟨tb, 0, none⟩ = some (.int .i64 d) := (hb.cell (p := ⟨tb, 0, none⟩) (by show tb < _; omega)).trans c13_0
  have c14_1 : W14.cell? ⟨tb, 1, none⟩ = some (.slice Af xs.length cf) := (hb.cell (p := ⟨tb, 1, none⟩) (by show tb < _; omega)).trans c13_1
  have b14_0 : tb < W14.heap.size := by omega
  have R14_0 := hid (FreshA.below (cf := cIv) (sz := 2) (T := 50) (B := V1.heap.size) R13_0.out hk)
  have hw14 : Below w.heap.size w W14 := Below.trans hw (Below.mono hk (by have := hw.size; omega))
  clear hw hk
  have hw := hw14
  clear hw14
  have hwz := hw.size
  clear c13_0 c13_1 R13_0
  clear hb
  clear c14_0
  clear c14_1
  clear R14_0
  go_wp2_with (fail)
  refine calls_named ?_
  intro V15 hV
  have hk : Below W14.heap.size W14 V15 := by rw [hV]; (repeat' (first | with_reducible exact Below.refl _ _ | with_reducible assumption | with_reducible refine Below.setCell ?_ ?_ _ | with_reducible refine Below.drew ?_ | with_reducible refine Below.alloc ?_ ?_ _ | with_reducible refine Below.trans ?_ (Below.mono (by assumption) ?_) | (dsimp only; omega) | (simp; done) | (simp; omega) | omega))
  have hkz15 := hk.size
  have hw15 : Below w.heap.size w V15 := Below.trans hw (Below.mono hk (by have := hw.size; omega))
  clear hw hk
  have hw := hw15
  clear hw15
  have hwz := hw.size
  clear hV
  refine (c_spec_DrawLastOpening A cs cap _ (Rds.below hr hw) hby (by omega)).mono ?_
  rintro e W16 ⟨d2, Bf, cf2, xs2, f2, t2, rfl, hFf, hxl2, hb⟩
  have hk : Below V15.heap.size V15 W16 := hb
  have hkz16 := hk.size
  have hw16 : Below w.heap.size w W16 := Below.trans hw (Below.mono hk (by have := hw.size; omega))
  clear hw hk
  have hw := hw16
  clear hw16
  have hwz := hw.size
  clear hb
  have S16_0 : Hid (FreshA cIv 2 50 V15.heap.size W16 Bf cf2 xs2) := hid (hFf)
  have loS16_0 := S16_0.out.lo
  have hiS16_0 := S16_0.out.hi
  clear hFf
  obtain ⟨la, fine, hLa⟩ : ∃ la fine, lastV d2 xs2 f2 t2 = (la, fine) := ⟨_, _, rfl⟩
  obtain ⟨fi, one, hFi⟩ : ∃ fi one, nextV d2 xs2 f2 = (fi, one) := ⟨_, _, rfl⟩
  have hol := op_last hLa hFi
  have HLA := hid hLa; have HFI := hid hFi; have HOL := hid hol; clear hLa hFi hol
  go_wp2_with (fail)
  refine calls_named ?_
  intro V17 hV
  have hk : Below W16.heap.size W16 V17 := by rw [hV]; (repeat' (first | with_reducible exact Below.refl _ _ | with_reducible assumption | with_reducible refine Below.setCell ?_ ?_ _ | with_reducible refine Below.drew ?_ | with_reducible refine Below.alloc ?_ ?_ _ | with_reducible refine Below.trans ?_ (Below.mono (by assumption) ?_) | (dsimp only; omega) | (simp; done) | (simp; omega) | omega))
  have hkz17 := hk.size
  have R17_0 := hid (FreshA.below (cf := cIv) (sz := 2) (T := 50) (B := V15.heap.size) S16_0.out hk)
  have hw17 : Below w.heap.size w V17 := Below.trans hw (Below.mono hk (by have := hw.size; omega))
  clear hw hk
  have hw := hw17
  clear hw17
  have hwz := hw.size
  clear S16_0
  have d17_0 : V17.cell? ⟨W16.heap.size, 0, none⟩ = some (.int .i64 d2) := by rw [hV]; first | (simp [go_sem, ↓IntWalk.iteOmega, *]; done) | (simp [go_sem, ↓IntWalk.iteOmega, *]; intros; omega)
  have d17_1 : V17.cell? ⟨W16.heap.size, 1, none⟩ = some (.slice Bf xs2.length cf2) := by rw [hV]; first | (simp [go_sem, ↓IntWalk.iteOmega, *]; done) | (simp [go_sem, ↓IntWalk.iteOmega, *]; intros; omega)
  have e17_0 : W16.heap.size < V17.heap.size := by rw [hV]; first | (simp; done) | (simp; omega)
  clear hV
  generalize htbtx : W16.heap.size = tx at *
  refine (c_impl_LastOpening d2 Bf xs2 cf2 f2 t2 _ R17_0.out.rds (by omega)).mono ?_
  simp only [HLA.out]
  rintro e W18 ⟨rfl, hb⟩
  have hk : Below V17.heap.size V17 W18 := hb
  have hkz18 := hk.size
  have c18_0 : W18.cell? ⟨tx, 0, none⟩ = some (.int .i64 d2) := (hb.cell (p := ⟨tx, 0, none⟩) (by show tx < _; omega)).trans d17_0
  have c18_1 : W18.cell? ⟨tx, 1, none⟩ = some (.slice Bf xs2.length cf2) := (hb.cell (p := ⟨tx, 1, none⟩) (by show tx < _; omega)).trans d17_1
  have b18_0 : tx < W18.heap.size := by omega
  have R18_0 := hid (FreshA.below (cf := cIv) (sz := 2) (T := 50) (B := V15.heap.size) R17_0.out hk)
  have hw18 : Below w.heap.size w W18 := Below.trans hw (Below.mono hk (by have := hw.size; omega))
  clear hw hk
  have hw := hw18
  clear hw18
  have hwz := hw.size
  clear d17_0 d17_1 R17_0
  clear hb
  go_wp2_with (fail)
  refine calls_named ?_
  intro V19 hV
  have hk : Below W18.heap.size W18 V19 := by rw [hV]; (repeat' (first | with_reducible exact Below.refl _ _ | with_reducible assumption | with_reducible refine Below.setCell ?_ ?_ _ | with_reducible refine Below.drew ?_ | with_reducible refine Below.alloc ?_ ?_ _ | with_reducible refine Below.trans ?_ (Below.mono (by assumption) ?_) | (dsimp only; omega) | (simp; done) | (simp; omega) | omega))
  have hkz19 := hk.size
  have c19_0 : V19.cell? ⟨tx, 0, none⟩ = some (.int .i64 d2) := (hk.cell (p := ⟨tx, 0, none⟩) (by show tx < _; omega)).trans c18_0
  have c19_1 : V19.cell? ⟨tx, 1, none⟩ = some (.slice Bf xs2.length cf2) := (hk.cell (p := ⟨tx, 1, none⟩) (by show tx < _; omega)).trans c18_1
  have b19_0 : tx < V19.heap.size := by omega
  have R19_0 := hid (FreshA.below (cf := cIv) (sz := 2) (T := 50) (B := V15.heap.size) R18_0.out hk)
  have hw19 : Below w.heap.size w V19 := Below.trans hw (Below.mono hk (by have := hw.size; omega))
  clear hw hk
  have hw := hw19
  clear hw19
  have hwz := hw.size
  clear c18_0 c18_1 R18_0
  clear hV
  refine (c_spec_LastOpening d2 Bf xs2 cf2 f2 t2 _ R19_0.out.rds (by omega)).mono ?_
  simp only [HLA.out]
  rintro e W20 ⟨rfl, hb⟩
  have hk : Below V19.heap.size V19 W20 := hb
  have hkz20 := hk.size
  have c20_0 : W20.cell? ⟨tx, 0, none⟩ = some (.int .i64 d2) := (hb.cell (p := ⟨tx, 0, none⟩) (by show tx < _; omega)).trans c19_0
  have c20_1 : W20.cell? ⟨tx, 1, none⟩ = some (.slice Bf xs2.length cf2) := (hb.cell (p := ⟨tx, 1, none⟩) (by show tx < _; omega)).trans c19_1
  have b20_0 : tx < W20.heap.size := by omega
  have R20_0 := hid (FreshA.below (cf := cIv) (sz := 2) (T := 50) (B := V15.heap.size) R19_0.out hk)
  have hw20 : Below w.heap.size w W20 := Below.trans hw (Below.mono hk (by have := hw.size; omega))
  clear hw hk
  have hw := hw20
  clear hw20
  have hwz := hw.size
  clear c19_0 c19_1 R19_0
  clear hb
  cases fine
  · clear c20_0
    clear c20_1
    clear R20_0
    go_wp2_with (fail)
    refine calls_named ?_
    intro V21 hV
    have hk : Below W20.heap.size W20 V21 := by rw [hV]; (repeat' (first | with_reducible exact Below.refl _ _ | with_reducible assumption | with_reducible refine Below.setCell ?_ ?_ _ | with_reducible refine Below.drew ?_ | with_reducible refine Below.alloc ?_ ?_ _ | with_reducible refine Below.trans ?_ (Below.mono (by assumption) ?_) | (dsimp only; omega) | (simp; done) | (simp; omega) | omega))
    have hkz21 := hk.size
    have hw21 : Below w.heap.size w V21 := Below.trans hw (Below.mono hk (by have := hw.size; omega))
    clear hw hk
    have hw := hw21
    clear hw21
    have hwz := hw.size
    clear hV
    refine (c_spec_DrawAddClosure A cs cap _ (Rds.below hr hw) hby (by omega)).mono ?_
    rintro e W22 ⟨d3, Cf, cf3, xs3, f3, t3, rfl, hFf, hxl3, hb⟩
    have hk : Below V21.heap.size V21 W22 := hb
    have hkz22 := hk.size
    have hw22 : Below w.heap.size w W22 := Below.trans hw (Below.mono hk (by have := hw.size; omega))
    clear hw hk
    have hw := hw22
    clear hw22
    have hwz := hw.size
    clear hb
    have S22_0 : Hid (FreshA cIv 2 50 V21.heap.size W22 Cf cf3 xs3) := hid (hFf)
    have loS22_0 := S22_0.out.lo
    have hiS22_0 := S22_0.out.hi
    clear hFf
    obtain ⟨d4, L, known, hAd⟩ : ∃ d4 L known, addV d3 xs3 (f3, t3) = ((d4, L), known) := ⟨_, _, _, rfl⟩
    have hlL := addV_bd hAd
    have hac := op_add hAd
    have HA := hid hAd; clear hAd
    go_wp2_with (fail)
    refine calls_named ?_
    intro V23 hV
    have hk : Below W22.heap.size W22 V23 := by rw [hV]; (repeat' (first | with_reducible exact Below.refl _ _ | with_reducible assumption | with_reducible refine Below.setCell ?_ ?_ _ | with_reducible refine Below.drew ?_ | with_reducible refine Below.alloc ?_ ?_ _ | with_reducible refine Below.trans ?_ (Below.mono (by assumption) ?_) | (dsimp only; omega) | (simp; done) | (simp; omega) | omega))
    have hkz23 := hk.size
    have R23_0 := hid (FreshA.below (cf := cIv) (sz := 2) (T := 50) (B := V21.heap.size) S22_0.out hk)
    have hw23 : Below w.heap.size w V23 := Below.trans hw (Below.mono hk (by have := hw.size; omega))
    clear hw hk
    have hw := hw23
    clear hw23
    have hwz := hw.size
    clear S22_0
    have d23_0 : V23.cell? ⟨W22.heap.size, 0, none⟩ = some (.int .i64 d3) := by rw [hV]; first | (simp [go_sem, ↓IntWalk.iteOmega, *]; done) | (simp [go_sem, ↓IntWalk.iteOmega, *]; intros; omega)
    have d23_1 : V23.cell? ⟨W22.heap.size, 1, none⟩ = some (.slice Cf xs3.length cf3) := by rw [hV]; first | (simp [go_sem, ↓IntWalk.iteOmega, *]; done) | (simp [go_sem, ↓IntWalk.iteOmega, *]; intros; omega)
    have e23_0 : W22.heap.size < V23.heap.size := by rw [hV]; first | (simp; done) | (simp; omega)
    have d23_2 : V23.cell? ⟨W22.heap.size + 1, 0, none⟩ = some (.int .i64 f3) := by rw [hV]; first | (simp [go_sem, ↓IntWalk.iteOmega, *]; done) | (simp [go_sem, ↓IntWalk.iteOmega, *]; intros; omega)
    have d23_3 : V23.cell? ⟨W22.heap.size + 1, 1, none⟩ = some (.int .i64 t3) := by rw [hV]; first | (simp [go_sem, ↓IntWalk.iteOmega, *]; done) | (simp [go_sem, ↓IntWalk.iteOmega, *]; intros; omega)
    have e23_1 : W22.heap.size + 1 < V23.heap.size := by rw [hV]; first | (simp; done) | (simp; omega)
    clear hV
    generalize htbty : W22.heap.size = ty at *
    refine (c_impl_AddClosure d3 Cf xs3 cf3 f3 t3 _ R23_0.out.rds (by omega)).mono ?_
    simp only [HA.out]
    rintro e W24 ⟨A8, c8, rfl, hF8, hb⟩
    have hk : Below V23.heap.size V23 W24 := hb
    have hkz24 := hk.size
    have c24_0 : W24.cell? ⟨ty, 0, none⟩ = some (.int .i64 d3) := (hb.cell (p := ⟨ty, 0, none⟩) (by show ty < _; omega)).trans d23_0
    have c24_1 : W24.cell? ⟨ty, 1, none⟩ = some (.slice Cf xs3.length cf3) := (hb.cell (p := ⟨ty, 1, none⟩) (by show ty < _; omega)).trans d23_1
    have c24_2 : W24.cell? ⟨ty + 1, 0, none⟩ = some (.int .i64 f3) := (hb.cell (p := ⟨ty + 1, 0, none⟩) (by show ty + 1 < _; omega)).trans d23_2
    have c24_3 : W24.cell? ⟨ty + 1, 1, none⟩ = some (.int .i64 t3) := (hb.cell (p := ⟨ty + 1, 1, none⟩) (by show ty + 1 < _; omega)).trans d23_3
    have b24_0 : ty < W24.heap.size := by omega
    have b24_1 : ty + 1 < W24.heap.size := by omega
    have R24_0 := hid (FreshA.below (cf := cIv) (sz := 2) (T := 50) (B := V21.heap.size) R23_0.out hk)
    have hw24 : Below w.heap.size w W24 := Below.trans hw (Below.mono hk (by have := hw.size; omega))
    clear hw hk
    have hw := hw24
    clear hw24
    have hwz := hw.size
    clear d23_0 d23_1 d23_2 d23_3 R23_0
    clear hb
    have S24_1 : Hid (FreshA cIv 2 50 V23.heap.size W24 A8 c8 L) := hid (hF8)
    have loS24_1 := S24_1.out.lo
    have hiS24_1 := S24_1.out.hi
    clear hF8
    go_wp2_with (fail)
    refine calls_named ?_
    intro V25 hV
    have hk : Below W24.heap.size W24 V25 := by rw [hV]; (repeat' (first | with_reducible exact Below.refl _ _ | with_reducible assumption | with_reducible refine Below.setCell ?_ ?_ _ | with_reducible refine Below.drew ?_ | with_reducible refine Below.alloc ?_ ?_ _ | with_reducible refine Below.trans ?_ (Below.mono (by assumption) ?_) | (dsimp only; omega) | (simp; done) | (simp; omega) | omega))
    have hkz25 := hk.size
    have c25_0 : V25.cell? ⟨ty, 0, none⟩ = some (.int .i64 d3) := (hk.cell (p := ⟨ty, 0, none⟩) (by show ty < _; omega)).trans c24_0
    have c25_1 : V25.cell? ⟨ty, 1, none⟩ = some (.slice Cf xs3.length cf3) := (hk.cell (p := ⟨ty, 1, none⟩) (by show ty < _; omega)).trans c24_1
    have c25_2 : V25.cell? ⟨ty + 1, 0, none⟩ = some (.int .i64 f3) := (hk.cell (p := ⟨ty + 1, 0, none⟩) (by show ty + 1 < _; omega)).trans c24_2
    have c25_3 : V25.cell? ⟨ty + 1, 1, none⟩ = some (.int .i64 t3) := (hk.cell (p := ⟨ty + 1, 1, none⟩) (by show ty + 1 < _; omega)).trans c24_3
    have b25_0 : ty < V25.heap.size := by omega
    have b25_1 : ty + 1 < V25.heap.size := by omega
    have R25_0 := hid (FreshA.below (cf := cIv) (sz := 2) (T := 50) (B := V21.heap.size) R24_0.out hk)
    have R25_1 := hid (FreshA.below (cf := cIv) (sz := 2) (T := 50) (B := V23.heap.size) S24_1.out hk)
    have hw25 : Below w.heap.size w V25 := Below.trans hw (Below.mono hk (by have := hw.size; omega))
    clear hw hk
    have hw := hw25
    clear hw25
    have hwz := hw.size
    clear c24_0 c24_1 c24_2 c24_3 R24_0 S24_1
    have d25_4 : V25.cell? ⟨W24.heap.size, 0, none⟩ = some (.int .i64 d4) := by rw [hV]; first | (simp [go_sem, ↓IntWalk.iteOmega, *]; done) | (simp [go_sem, ↓IntWalk.iteOmega, *]; intros; omega)
    have d25_5 : V25.cell? ⟨W24.heap.size, 1, none⟩ = some (.slice A8 L.length c8) := by rw [hV]; first | (simp [go_sem, ↓IntWalk.iteOmega, *]; done) | (simp [go_sem, ↓IntWalk.iteOmega, *]; intros; omega)
    have e25_2 : W24.heap.size < V25.heap.size := by rw [hV]; first | (simp; done) | (simp; omega)
    clear hV
    generalize htbtz : W24.heap.size = tz at *
    refine (c_spec_AddClosure d3 Cf xs3 cf3 f3 t3 _ R25_0.out.rds (by omega) (R25_0.out).capLe).mono ?_
    simp only [HA.out]
    rintro e W26 ⟨E8, e8, rfl, hF8, hb⟩
    have hk : Below V25.heap.size V25 W26 := hb
    have hkz26 := hk.size
    have c26_0 : W26.cell? ⟨ty, 0, none⟩ = some (.int .i64 d3) := (hb.cell (p := ⟨ty, 0, none⟩) (by show ty < _; omega)).trans c25_0
    have c26_1 : W26.cell? ⟨ty, 1, none⟩ = some (.slice Cf xs3.length cf3) := (hb.cell (p := ⟨ty, 1, none⟩) (by show ty < _; omega)).trans c25_1
    have c26_2 : W26.cell? ⟨ty + 1, 0, none⟩ = some (.int .i64 f3) := (hb.cell (p := ⟨ty + 1, 0, none⟩) (by show ty + 1 < _; omega)).trans c25_2
    have c26_3 : W26.cell? ⟨ty + 1, 1, none⟩ = some (.int .i64 t3) := (hb.cell (p := ⟨ty + 1, 1, none⟩) (by show ty + 1 < _; omega)).trans c25_3
    have c26_4 : W26.cell? ⟨tz, 0, none⟩ = some (.int .i64 d4) := (hb.cell (p := ⟨tz, 0, none⟩) (by show tz < _; omega)).trans d25_4
    have c26_5 : W26.cell? ⟨tz, 1, none⟩ = some (.slice A8 L.length c8) := (hb.cell (p := ⟨tz, 1, none⟩) (by show tz < _; omega)).trans d25_5
    have b26_0 : ty < W26.heap.size := by omega
    have b26_1 : ty + 1 < W26.heap.size := by omega
    have b26_2 : tz < W26.heap.size := by omega
    have R26_0 := hid (FreshA.below (cf := cIv) (sz := 2) (T := 50) (B := V21.heap.size) R25_0.out hk)
    have R26_1 := hid (FreshA.below (cf := cIv) (sz := 2) (T := 50) (B := V23.heap.size) R25_1.out hk)
    have hw26 : Below w.heap.size w W26 := Below.trans hw (Below.mono hk (by have := hw.size; omega))
    clear hw hk
    have hw := hw26
    clear hw26
    have hwz := hw.size
    clear c25_0 c25_1 c25_2 c25_3 d25_4 d25_5 R25_0 R25_1
    clear hb
    have S26_2 : Hid (FreshA cIv 2 50 V25.heap.size W26 E8 e8 L) := hid (hF8)
    have loS26_2 := S26_2.out.lo
    have hiS26_2 := S26_2.out.hi
    clear hF8
    rcases hac with rfl | ⟨rfl, hlen, hmf, hmt⟩
    · go_wp2_with (fail)
      refine calls_named ?_
      intro V27 hV
      have hk : Below W26.heap.size W26 V27 := by rw [hV]; (repeat' (first | with_reducible exact Below.refl _ _ | with_reducible assumption | with_reducible refine Below.setCell ?_ ?_ _ | with_reducible refine Below.drew ?_ | with_reducible refine Below.alloc ?_ ?_ _ | with_reducible refine Below.trans ?_ (Below.mono (by assumption) ?_) | (dsimp only; omega) | (simp; done) | (simp; omega) | omega))
      have hkz27 := hk.size
      have c27_0 : V27.cell? ⟨ty, 0, none⟩ = some (.int .i64 d3) := (hk.cell (p := ⟨ty, 0, none⟩) (by show ty < _; omega)).trans c26_0
      have c27_1 : V27.cell? ⟨ty, 1, none⟩ = some (.slice Cf xs3.length cf3) := (hk.cell (p := ⟨ty, 1, none⟩) (by show ty < _; omega)).trans c26_1
      have c27_2 : V27.cell? ⟨ty + 1, 0, none⟩ = some (.int .i64 f3) := (hk.cell (p := ⟨ty + 1, 0, none⟩) (by show ty + 1 < _; omega)).trans c26_2
      have c27_3 : V27.cell? ⟨ty + 1, 1, none⟩ = some (.int .i64 t3) := (hk.cell (p := ⟨ty + 1, 1, none⟩) (by show ty + 1 < _; omega)).trans c26_3
      have c27_4 : V27.cell? ⟨tz, 0, none⟩ = some (.int .i64 d4) := (hk.cell (p := ⟨tz, 0, none⟩) (by show tz < _; omega)).trans c26_4
      have c27_5 : V27.cell? ⟨tz, 1, none⟩ = some (.slice A8 L.length c8) := (hk.cell (p := ⟨tz, 1, none⟩) (by show tz < _; omega)).trans c26_5
      have b27_0 : ty < V27.heap.size := by omega
      have b27_1 : ty + 1 < V27.heap.size := by omega
      have b27_2 : tz < V27.heap.size := by omega
      have R27_0 := hid (FreshA.below (cf := cIv) (sz := 2) (T := 50) (B := V21.heap.size) R26_0.out hk)
      have R27_1 := hid (FreshA.below (cf := cIv) (sz := 2) (T := 50) (B := V23.heap.size) R26_1.out hk)
      have R27_2 := hid (FreshA.below (cf := cIv) (sz := 2) (T := 50) (B := V25.heap.size) S26_2.out hk)
      have hw27 : Below w.heap.size w V27 := Below.trans hw (Below.mono hk (by have := hw.size; omega))
      clear hw hk
      have hw := hw27
      clear hw27
      have hwz := hw.size
      clear c26_0 c26_1 c26_2 c26_3 c26_4 c26_5 R26_0 R26_1 S26_2
      clear hV
      refine (c_laws_vIntervals A8 E8 L c8 e8 _ R27_1.out.rds R27_2.out.rds (by omega)).mono ?_
      rintro e W28 ⟨rfl, hb⟩
      have hk : Below V27.heap.size V27 W28 := hb
      have hkz28 := hk.size
      have c28_0 : W28.cell? ⟨ty, 0, none⟩ = some (.int .i64 d3) := (hb.cell (p := ⟨ty, 0, none⟩) (by show ty < _; omega)).trans c27_0
      have c28_1 : W28.cell? ⟨ty, 1, none⟩ = some (.slice Cf xs3.length cf3) := (hb.cell (p := ⟨ty, 1, none⟩) (by show ty < _; omega)).trans c27_1
      have c28_2 : W28.cell? ⟨ty + 1, 0, none⟩ = some (.int .i64 f3) := (hb.cell (p := ⟨ty + 1, 0, none⟩) (by show ty + 1 < _; omega)).trans c27_2
      have c28_3 : W28.cell? ⟨ty + 1, 1, none⟩ = some (.int .i64 t3) := (hb.cell (p := ⟨ty + 1, 1, none⟩) (by show ty + 1 < _; omega)).trans c27_3
      have c28_4 : W28.cell? ⟨tz, 0, none⟩ = some (.int .i64 d4) := (hb.cell (p := ⟨tz, 0, none⟩) (by show tz < _; omega)).trans c27_4
      have c28_5 : W28.cell? ⟨tz, 1, none⟩ = some (.slice A8 L.length c8) := (hb.cell (p := ⟨tz, 1, none⟩) (by show tz < _; omega)).trans c27_5
      have b28_0 : ty < W28.heap.size := by omega
      have b28_1 : ty + 1 < W28.heap.size := by omega
      have b28_2 : tz < W28.heap.size := by omega
      have R28_0 := hid (FreshA.below (cf := cIv) (sz := 2) (T := 50) (B := V21.heap.size) R27_0.out hk)
      have R28_1 := hid (FreshA.below (cf := cIv) (sz := 2) (T := 50) (B := V23.heap.size) R27_1.out hk)
      have R28_2 := hid (FreshA.below (cf := cIv) (sz := 2) (T := 50) (B := V25.heap.size) R27_2.out hk)
      have hw28 : Below w.heap.size w W28 := Below.trans hw (Below.mono hk (by have := hw.size; omega))
      clear hw hk
      have hw := hw28
      clear hw28
      have hwz := hw.size
      clear c27_0 c27_1 c27_2 c27_3 c27_4 c27_5 R27_0 R27_1 R27_2
      clear hb
      go_wp2_with (fail)
      go_ret
      exact ⟨by first | rfl | exact ret_bool (by simp), by first | exact hw | (repeat' (first | with_reducible exact Below.refl _ _ | with_reducible assumption | with_reducible refine Below.setCell ?_ ?_ _ | with_reducible refine Below.drew ?_ | with_reducible refine Below.alloc ?_ ?_ _ | with_reducible refine Below.trans ?_ (Below.mono (by assumption) ?_) | (dsimp only; omega) | (simp; done) | (simp; omega) | omega))⟩
    have hln1 : L.length ≤ xs3.length + 1 := by omega
    have hln2 : xs3.length + 1 ≤ L.length := by omega
    have HMF := hid hmf; have HMT := hid hmt; clear hmf hmt hlen
    go_wp2_with (fail)
    refine calls_named ?_
    intro V27 hV
    have hk : Below W26.heap.size W26 V27 := by rw [hV]; (repeat' (first | with_reducible exact Below.refl _ _ | with_reducible assumption | with_reducible refine Below.setCell ?_ ?_ _ | with_reducible refine Below.drew ?_ | with_reducible refine Below.alloc ?_ ?_ _ | with_reducible refine Below.trans ?_ (Below.mono (by assumption) ?_) | (dsimp only; omega) | (simp; done) | (simp; omega) | omega))
    have hkz27 := hk.size
    have c27_0 : V27.cell? ⟨ty, 0, none⟩ = some (.int .i64 d3) := (hk.cell (p := ⟨ty, 0, none⟩) (by show ty < _; omega)).trans c26_0
    have c27_1 : V27.cell? ⟨ty, 1, none⟩ = some (.slice Cf xs3.length cf3) := (hk.cell (p := ⟨ty, 1, none⟩) (by show ty < _; omega)).trans c26_1
    have c27_2 : V27.cell? ⟨ty + 1, 0, none⟩ = some (.int .i64 f3) := (hk.cell (p := ⟨ty + 1, 0, none⟩) (by show ty + 1 < _; omega)).trans c26_2
    have c27_3 : V27.cell? ⟨ty + 1, 1, none⟩ = some (.int .i64 t3) := (hk.cell (p := ⟨ty + 1, 1, none⟩) (by show ty + 1 < _; omega)).trans c26_3
    have c27_4 : V27.cell? ⟨tz, 0, none⟩ = some (.int .i64 d4) := (hk.cell (p := ⟨tz, 0, none⟩) (by show tz < _; omega)).trans c26_4
    have c27_5 : V27.cell? ⟨tz, 1, none⟩ = some (.slice A8 L.length c8) := (hk.cell (p := ⟨tz, 1, none⟩) (by show tz < _; omega)).trans c26_5
    have b27_0 : ty < V27.heap.size := by omega
    have b27_1 : ty + 1 < V27.heap.size := by omega
    have b27_2 : tz < V27.heap.size := by omega
    have R27_0 := hid (FreshA.below (cf := cIv) (sz := 2) (T := 50) (B := V21.heap.size) R26_0.out hk)
    have R27_1 := hid (FreshA.below (cf := cIv) (sz := 2) (T := 50) (B := V23.heap.size) R26_1.out hk)
    have R27_2 := hid (FreshA.below (cf := cIv) (sz := 2) (T := 50) (B := V25.heap.size) S26_2.out hk)
    have hw27 : Below w.heap.size w V27 := Below.trans hw (Below.mono hk (by have := hw.size; omega))
    clear hw hk
    have hw := hw27
    clear hw27
    have hwz := hw.size
    clear c26_0 c26_1 c26_2 c26_3 c26_4 c26_5 R26_0 R26_1 S26_2
    clear hV
    refine (c_laws_vIntervals A8 E8 L c8 e8 _ R27_1.out.rds R27_2.out.rds (by omega)).mono ?_
    rintro e W28 ⟨rfl, hb⟩
    have hk : Below V27.heap.size V27 W28 := hb
    have hkz28 := hk.size
    have c28_0 : W28.cell? ⟨ty, 0, none⟩ = some (.int .i64 d3) := (hb.cell (p := ⟨ty, 0, none⟩) (by show ty < _; omega)).trans c27_0
    have c28_1 : W28.cell? ⟨ty, 1, none⟩ = some (.slice Cf xs3.length cf3) := (hb.cell (p := ⟨ty, 1, none⟩) (by show ty < _; omega)).trans c27_1
    have c28_2 : W28.cell? ⟨ty + 1, 0, none⟩ = some (.int .i64 f3) := (hb.cell (p := ⟨ty + 1, 0, none⟩) (by show ty + 1 < _; omega)).trans c27_2
    have c28_3 : W28.cell? ⟨ty + 1, 1, none⟩ = some (.int .i64 t3) := (hb.cell (p := ⟨ty + 1, 1, none⟩) (by show ty + 1 < _; omega)).trans c27_3
    have c28_4 : W28.cell? ⟨tz, 0, none⟩ = some (.int .i64 d4) := (hb.cell (p := ⟨tz, 0, none⟩) (by show tz < _; omega)).trans c27_4
    have c28_5 : W28.cell? ⟨tz, 1, none⟩ = some (.slice A8 L.length c8) := (hb.cell (p := ⟨tz, 1, none⟩) (by show tz < _; omega)).trans c27_5
    have b28_0 : ty < W28.heap.size := by omega
    have b28_1 : ty + 1 < W28.heap.size := by omega
    have b28_2 : tz < W28.heap.size := by omega
    have R28_0 := hid (FreshA.below (cf := cIv) (sz := 2) (T := 50) (B := V21.heap.size) R27_0.out hk)
    have R28_1 := hid (FreshA.below (cf := cIv) (sz := 2) (T := 50) (B := V23.heap.size) R27_1.out hk)
    have R28_2 := hid (FreshA.below (cf := cIv) (sz := 2) (T := 50) (B := V25.heap.size) R27_2.out hk)
    have hw28 : Below w.heap.size w W28 := Below.trans hw (Below.mono hk (by have := hw.size; omega))
    clear hw hk
    have hw := hw28
    clear hw28
    have hwz := hw.size
    clear c27_0 c27_1 c27_2 c27_3 c27_4 c27_5 R27_0 R27_1 R27_2
    clear hb
    go_wp2_with (fail)
    refine calls_named ?_
    intro V29 hV
    have hk : Below W28.heap.size W28 V29 := by rw [hV]; (repeat' (first | with_reducible exact Below.refl _ _ | with_reducible assumption | with_reducible refine Below.setCell ?_ ?_ _ | with_reducible refine Below.drew ?_ | with_reducible refine Below.alloc ?_ ?_ _ | with_reducible refine Below.trans ?_ (Below.mono (by assumption) ?_) | (dsimp only; omega) | (simp; done) | (simp; omega) | omega))
    have hkz29 := hk.size
    have c29_0 : V29.cell? ⟨ty, 0, none⟩ = some (.int .i64 d3) := (hk.cell (p := ⟨ty, 0, none⟩) (by show ty < _; omega)).trans c28_0
    have c29_1 : V29.cell? ⟨ty, 1, none⟩ = some (.slice Cf xs3.length cf3) := (hk.cell (p := ⟨ty, 1, none⟩) (by show ty < _; omega)).trans c28_1
    have c29_2 : V29.cell? ⟨ty + 1, 0, none⟩ = some (.int .i64 f3) := (hk.cell (p := ⟨ty + 1, 0, none⟩) (by show ty + 1 < _; omega)).trans c28_2
    have c29_3 : V29.cell? ⟨ty + 1, 1, none⟩ = some (.int .i64 t3) := (hk.cell (p := ⟨ty + 1, 1, none⟩) (by show ty + 1 < _; omega)).trans c28_3
    have c29_4 : V29.cell? ⟨tz, 0, none⟩ = some (.int .i64 d4) := (hk.cell (p := ⟨tz, 0, none⟩) (by show tz < _; omega)).trans c28_4
    have c29_5 : V29.cell? ⟨tz, 1, none⟩ = some (.slice A8 L.length c8) := (hk.cell (p := ⟨tz, 1, none⟩) (by show tz < _; omega)).trans c28_5
    have b29_0 : ty < V29.heap.size := by omega
    have b29_1 : ty + 1 < V29.heap.size := by omega
    have b29_2 : tz < V29.heap.size := by omega
    have R29_0 := hid (FreshA.below (cf := cIv) (sz := 2) (T := 50) (B := V21.heap.size) R28_0.out hk)
    have R29_1 := hid (FreshA.below (cf := cIv) (sz := 2) (T := 50) (B := V23.heap.size) R28_1.out hk)
    have R29_2 := hid (FreshA.below (cf := cIv) (sz := 2) (T := 50) (B := V25.heap.size) R28_2.out hk)
    have hw29 : Below w.heap.size w V29 := Below.trans hw (Below.mono hk (by have := hw.size; omega))
    clear hw hk
    have hw := hw29
    clear hw29
    have hwz := hw.size
    clear c28_0 c28_1 c28_2 c28_3 c28_4 c28_5 R28_0 R28_1 R28_2
    clear hV
    refine (c_impl_MayOpen d4 A8 L c8 f3 _ R29_1.out.rds (by omega)).mono ?_
    simp only [HMF.out]
    rintro e W30 ⟨rfl, hb⟩
    have hk : Below V29.heap.size V29 W30 := hb
    have hkz30 := hk.size
    have c30_0 : W30.cell? ⟨ty, 0, none⟩ = some (.int .i64 d3) := (hb.cell (p := ⟨ty, 0, none⟩) (by show ty < _; omega)).trans c29_0
    have c30_1 : W30.cell? ⟨ty, 1, none⟩ = some (.slice Cf xs3.length cf3) := (hb.cell (p := ⟨ty, 1, none⟩) (by show ty < _; omega)).trans c29_1
    have c30_2 : W30.cell? ⟨ty + 1, 0, none⟩ = some (.int .i64 f3) := (hb.cell (p := ⟨ty + 1, 0, none⟩) (by show ty + 1 < _; omega)).trans c29_2
    have c30_3 : W30.cell? ⟨ty + 1, 1, none⟩ = some (.int .i64 t3) := (hb.cell (p := ⟨ty + 1, 1, none⟩) (by show ty + 1 < _; omega)).trans c29_3
    have c30_4 : W30.cell? ⟨tz, 0, none⟩ = some (.int .i64 d4) := (hb.cell (p := ⟨tz, 0, none⟩) (by show tz < _; omega)).trans c29_4
    have c30_5 : W30.cell? ⟨tz, 1, none⟩ = some (.slice A8 L.length c8) := (hb.cell (p := ⟨tz, 1, none⟩) (by show tz < _; omega)).trans c29_5
    have b30_0 : ty < W30.heap.size := by omega
    have b30_1 : ty + 1 < W30.heap.size := by omega
    have b30_2 : tz < W30.heap.size := by omega
    have R30_0 := hid (FreshA.below (cf := cIv) (sz := 2) (T := 50) (B := V21.heap.size) R29_0.out hk)
    have R30_1 := hid (FreshA.below (cf := cIv) (sz := 2) (T := 50) (B := V23.heap.size) R29_1.out hk)
    have R30_2 := hid (FreshA.below (cf := cIv) (sz := 2) (T := 50) (B := V25.heap.size) R29_2.out hk)
    have hw30 : Below w.heap.size w W30 := Below.trans hw (Below.mono hk (by have := hw.size; omega))
    clear hw hk
    have hw := hw30
    clear hw30
    have hwz := hw.size
    clear c29_0 c29_1 c29_2 c29_3 c29_4 c29_5 R29_0 R29_1 R29_2
    clear hb
    go_wp2_with (fail)
    refine calls_named ?_
    intro V31 hV
    have hk : Below W30.heap.size W30 V31 := by rw [hV]; (repeat' (first | with_reducible exact Below.refl _ _ | with_reducible assumption | with_reducible refine Below.setCell ?_ ?_ _ | with_reducible refine Below.drew ?_ | with_reducible refine Below.alloc ?_ ?_ _ | with_reducible refine Below.trans ?_ (Below.mono (by assumption) ?_) | (dsimp only; omega) | (simp; done) | (simp; omega) | omega))
    have hkz31 := hk.size
    have c31_0 : V31.cell? ⟨ty, 0, none⟩ = some (.int .i64 d3) := (hk.cell (p := ⟨ty, 0, none⟩) (by show ty < _; omega)).trans c30_0
    have c31_1 : V31.cell? ⟨ty, 1, none⟩ = some (.slice Cf xs3.length cf3) := (hk.cell (p := ⟨ty, 1, none⟩) (by show ty < _; omega)).trans c30_1
    have c31_2 : V31.cell? ⟨ty + 1, 0, none⟩ = some (.int .i64 f3) := (hk.cell (p := ⟨ty + 1, 0, none⟩) (by show ty + 1 < _; omega)).trans c30_2
    have c31_3 : V31.cell? ⟨ty + 1, 1, none⟩ = some (.int .i64 t3) := (hk.cell (p := ⟨ty + 1, 1, none⟩) (by show ty + 1 < _; omega)).trans c30_3
    have c31_4 : V31.cell? ⟨tz, 0, none⟩ = some (.int .i64 d4) := (hk.cell (p := ⟨tz, 0, none⟩) (by show tz < _; omega)).trans c30_4
    have c31_5 : V31.cell? ⟨tz, 1, none⟩ = some (.slice A8 L.length c8) := (hk.cell (p := ⟨tz, 1, none⟩) (by show tz < _; omega)).trans c30_5
    have b31_0 : ty < V31.heap.size := by omega
    have b31_1 : ty + 1 < V31.heap.size := by omega
    have b31_2 : tz < V31.heap.size := by omega
    have R31_0 := hid (FreshA.below (cf := cIv) (sz := 2) (T := 50) (B := V21.heap.size) R30_0.out hk)
    have R31_1 := hid (FreshA.below (cf := cIv) (sz := 2) (T := 50) (B := V23.heap.size) R30_1.out hk)
    have R31_2 := hid (FreshA.below (cf := cIv) (sz := 2) (T := 50) (B := V25.heap.size) R30_2.out hk)
    have hw31 : Below w.heap.size w V31 := Below.trans hw (Below.mono hk (by have := hw.size; omega))
    clear hw hk
    have hw := hw31
    clear hw31
    have hwz := hw.size
    clear c30_0 c30_1 c30_2 c30_3 c30_4 c30_5 R30_0 R30_1 R30_2
    clear hV
    refine (c_impl_MayOpen d4 A8 L c8 t3 _ R31_1.out.rds (by omega)).mono ?_
    simp only [HMT.out]
    rintro e W32 ⟨rfl, hb⟩
    have hk : Below V31.heap.size V31 W32 := hb
    have hkz32 := hk.size
    have c32_0 : W32.cell? ⟨ty, 0, none⟩ = some (.int .i64 d3) := (hb.cell (p := ⟨ty, 0, none⟩) (by show ty < _; omega)).trans c31_0
    have c32_1 : W32.cell? ⟨ty, 1, none⟩ = some (.slice Cf xs3.length cf3) := (hb.cell (p := ⟨ty, 1, none⟩) (by show ty < _; omega)).trans c31_1
    have c32_2 : W32.cell? ⟨ty + 1, 0, none⟩ = some (.int .i64 f3) := (hb.cell (p := ⟨ty + 1, 0, none⟩) (by show ty + 1 < _; omega)).trans c31_2
    have c32_3 : W32.cell? ⟨ty + 1, 1, none⟩ = some (.int .i64 t3) := (hb.cell (p := ⟨ty + 1, 1, none⟩) (by show ty + 1 < _; omega)).trans c31_3
    have c32_4 : W32.cell? ⟨tz, 0, none⟩ = some (.int .i64 d4) := (hb.cell (p := ⟨tz, 0, none⟩) (by show tz < _; omega)).trans c31_4
    have c32_5 : W32.cell? ⟨tz, 1, none⟩ = some (.slice A8 L.length c8) := (hb.cell (p := ⟨tz, 1, none⟩) (by show tz < _; omega)).trans c31_5
    have b32_0 : ty < W32.heap.size := by omega
    have b32_1 : ty + 1 < W32.heap.size := by omega
    have b32_2 : tz < W32.heap.size := by omega
    have R32_0 := hid (FreshA.below (cf := cIv) (sz := 2) (T := 50) (B := V21.heap.size) R31_0.out hk)
    have R32_1 := hid (FreshA.below (cf := cIv) (sz := 2) (T := 50) (B := V23.heap.size) R31_1.out hk)
    have R32_2 := hid (FreshA.below (cf := cIv) (sz := 2) (T := 50) (B := V25.heap.size) R31_2.out hk)
    have hw32 : Below w.heap.size w W32 := Below.trans hw (Below.mono hk (by have := hw.size; omega))
    clear hw hk
    have hw := hw32
    clear hw32
    have hwz := hw.size
    clear c31_0 c31_1 c31_2 c31_3 c31_4 c31_5 R31_0 R31_1 R31_2
    clear hb
    go_wp2_with (fail)
    go_ret
    exact ⟨ret_bool (by simp; omega), by first | exact hw | (repeat' (first | with_reducible exact Below.refl _ _ | with_reducible assumption | with_reducible refine Below.setCell ?_ ?_ _ | with_reducible refine Below.drew ?_ | with_reducible refine Below.alloc ?_ ?_ _ | with_reducible refine Below.trans ?_ (Below.mono (by assumption) ?_) | (dsimp only; omega) | (simp; done) | (simp; omega) | omega))⟩
  obtain ⟨ho1, ho2, ho3⟩ := HOL.out rfl
  subst ho1
  go_wp2_with (fail)
  refine calls_named ?_
  intro V21 hV
  have hk : Below W20.heap.size W20 V21 := by rw [hV]; (repeat' (first | with_reducible exact Below.refl _ _ | with_reducible assumption | with_reducible refine Below.setCell ?_ ?_ _ | with_reducible refine Below.drew ?_ | with_reducible refine Below.alloc ?_ ?_ _ | with_reducible refine Below.trans ?_ (Below.mono (by assumption) ?_) | (dsimp only; omega) | (simp; done) | (simp; omega) | omega))
  have hkz21 := hk.size
  have c21_0 : V21.cell? ⟨tx, 0, none⟩ = some (.int .i64 d2) := (hk.cell (p := ⟨tx, 0, none⟩) (by show tx < _; omega)).trans c20_0
  have c21_1 : V21.cell? ⟨tx, 1, none⟩ = some (.slice Bf xs2.length cf2) := (hk.cell (p := ⟨tx, 1, none⟩) (by show tx < _; omega)).trans c20_1
  have b21_0 : tx < V21.heap.size := by omega
  have R21_0 := hid (FreshA.below (cf := cIv) (sz := 2) (T := 50) (B := V15.heap.size) R20_0.out hk)
  have hw21 : Below w.heap.size w V21 := Below.trans hw (Below.mono hk (by have := hw.size; omega))
  clear hw hk
  have hw := hw21
  clear hw21
  have hwz := hw.size
  clear c20_0 c20_1 R20_0
  clear hV
  refine (c_impl_NextOpening d2 Bf xs2 cf2 f2 _ R21_0.out.rds (by omega)).mono ?_
  simp only [HFI.out]
  rintro e W22 ⟨rfl, hb⟩
  have hk : Below V21.heap.size V21 W22 := hb
  have hkz22 := hk.size
  have c22_0 : W22.cell? ⟨tx, 0, none⟩ = some (.int .i64 d2) := (hb.cell (p := ⟨tx, 0, none⟩) (by show tx < _; omega)).trans c21_0
  have c22_1 : W22.cell? ⟨tx, 1, none⟩ = some (.slice Bf xs2.length cf2) := (hb.cell (p := ⟨tx, 1, none⟩) (by show tx < _; omega)).trans c21_1
  have b22_0 : tx < W22.heap.size := by omega
  have R22_0 := hid (FreshA.below (cf := cIv) (sz := 2) (T := 50) (B := V15.heap.size) R21_0.out hk)
  have hw22 : Below w.heap.size w W22 := Below.trans hw (Below.mono hk (by have := hw.size; omega))
  clear hw hk
  have hw := hw22
  clear hw22
  have hwz := hw.size
  clear c21_0 c21_1 R21_0
  clear hb
  clear c22_0
  clear c22_1
  clear R22_0
  go_wp2_with (fail)
  refine calls_named ?_
  intro V23 hV
  have hk : Below W22.heap.size W22 V23 := by rw [hV]; (repeat' (first | with_reducible exact Below.refl _ _ | with_reducible assumption | with_reducible refine Below.setCell ?_ ?_ _ | with_reducible refine Below.drew ?_ | with_reducible refine Below.alloc ?_ ?_ _ | with_reducible refine Below.trans ?_ (Below.mono (by assumption) ?_) | (dsimp only; omega) | (simp; done) | (simp; omega) | omega))
  have hkz23 := hk.size
  have hw23 : Below w.heap.size w V23 := Below.trans hw (Below.mono hk (by have := hw.size; omega))
  clear hw hk
  have hw := hw23
  clear hw23
  have hwz := hw.size
  clear hV
  refine (c_spec_DrawAddClosure A cs cap _ (Rds.below hr hw) hby (by omega)).mono ?_
  rintro e W24 ⟨d3, Cf, cf3, xs3, f3, t3, rfl, hFf, hxl3, hb⟩
  have hk : Below V23.heap.size V23 W24 := hb
  have hkz24 := hk.size
  have hw24 : Below w.heap.size w W24 := Below.trans hw (Below.mono hk (by have := hw.size; omega))
  clear hw hk
  have hw := hw24
  clear hw24
  have hwz := hw.size
  clear hb
  have S24_0 : Hid (FreshA cIv 2 50 V23.heap.size W24 Cf cf3 xs3) := hid (hFf)
  have loS24_0 := S24_0.out.lo
  have hiS24_0 := S24_0.out.hi
  clear hFf
  obtain ⟨d4, L, known, hAd⟩ : ∃ d4 L known, addV d3 xs3 (f3, t3) = ((d4, L), known) := ⟨_, _, _, rfl⟩
  have hlL := addV_bd hAd
  have hac := op_add hAd
  have HA := hid hAd; clear hAd
  go_wp2_with (fail)
  refine calls_named ?_
  intro V25 hV
  have hk : Below W24.heap.size W24 V25 := by rw [hV]; (repeat' (first | with_reducible exact Below.refl _ _ | with_reducible assumption | with_reducible refine Below.setCell ?_ ?_ _ | with_reducible refine Below.drew ?_ | with_reducible refine Below.alloc ?_ ?_ _ | with_reducible refine Below.trans ?_ (Below.mono (by assumption) ?_) | (dsimp only; omega) | (simp; done) | (simp; omega) | omega))
  have hkz25 := hk.size
  have R25_0 := hid (FreshA.below (cf := cIv) (sz := 2) (T := 50) (B := V23.heap.size) S24_0.out hk)
  have hw25 : Below w.heap.size w V25 := Below.trans hw (Below.mono hk (by have := hw.size; omega))
  clear hw hk
  have hw := hw25
  clear hw25
  have hwz := hw.size
  clear S24_0
  have d25_0 : V25.cell? ⟨W24.heap.size, 0, none⟩ = some (.int .i64 d3) := by rw [hV]; first | (simp [go_sem, ↓IntWalk.iteOmega, *]; done) | (simp [go_sem, ↓IntWalk.iteOmega, *]; intros; omega)
  have d25_1 : V25.cell? ⟨W24.heap.size, 1, none⟩ = some (.slice Cf xs3.length cf3) := by rw [hV]; first | (simp [go_sem, ↓IntWalk.iteOmega, *]; done) | (simp [go_sem, ↓IntWalk.iteOmega, *]; intros; omega)
  have e25_0 : W24.heap.size < V25.heap.size := by rw [hV]; first | (simp; done) | (simp; omega)
  have d25_2 : V25.cell? ⟨W24.heap.size + 1, 0, none⟩ = some (.int .i64 f3) := by rw [hV]; first | (simp [go_sem, ↓IntWalk.iteOmega, *]; done) | (simp [go_sem, ↓IntWalk.iteOmega, *]; intros; omega)
  have d25_3 : V25.cell? ⟨W24.heap.size + 1, 1, none⟩ = some (.int .i64 t3) := by rw [hV]; first | (simp [go_sem, ↓IntWalk.iteOmega, *]; done) | (simp [go_sem, ↓IntWalk.iteOmega, *]; intros; omega)
  have e25_1 : W24.heap.size + 1 < V25.heap.size := by rw [hV]; first | (simp; done) | (simp; omega)
  clear hV
  generalize htbty : W24.heap.size = ty at *
  refine (c_impl_AddClosure d3 Cf xs3 cf3 f3 t3 _ R25_0.out.rds (by omega)).mono ?_
  simp only [HA.out]
  rintro e W26 ⟨A8, c8, rfl, hF8, hb⟩
  have hk : Below V25.heap.size V25 W26 := hb
  have hkz26 := hk.size
  have c26_0 : W26.cell? ⟨ty, 0, none⟩ = some (.int .i64 d3) := (hb.cell (p := ⟨ty, 0, none⟩) (by show ty < _; omega)).trans d25_0
  have c26_1 : W26.cell? ⟨ty, 1, none⟩ = some (.slice Cf xs3.length cf3) := (hb.cell (p := ⟨ty, 1, none⟩) (by show ty < _; omega)).trans d25_1
  have c26_2 : W26.cell? ⟨ty + 1, 0, none⟩ = some (.int .i64 f3) := (hb.cell (p := ⟨ty + 1, 0, none⟩) (by show ty + 1 < _; omega)).trans d25_2
  have c26_3 : W26.cell? ⟨ty + 1, 1, none⟩ = some (.int .i64 t3) := (hb.cell (p := ⟨ty + 1, 1, none⟩) (by show ty + 1 < _; omega)).trans d25_3
  have b26_0 : ty < W26.heap.size := by omega
  have b26_1 : ty + 1 < W26.heap.size := by omega
  have R26_0 := hid (FreshA.below (cf := cIv) (sz := 2) (T := 50) (B := V23.heap.size) R25_0.out hk)
  have hw26 : Below w.heap.size w W26 := Below.trans hw (Below.mono hk (by have := hw.size; omega))
  clear hw hk
  have hw := hw26
  clear hw26
  have hwz := hw.size
  clear d25_0 d25_1 d25_2 d25_3 R25_0
  clear hb
  have S26_1 : Hid (FreshA cIv 2 50 V25.heap.size W26 A8 c8 L) := hid (hF8)
  have loS26_1 := S26_1.out.lo
  have hiS26_1 := S26_1.out.hi
  clear hF8
  go_wp2_with (fail)
  refine calls_named ?_
  intro V27 hV
  have hk : Below W26.heap.size W26 V27 := by rw [hV]; (repeat' (first | with_reducible exact Below.refl _ _ | with_reducible assumption | with_reducible refine Below.setCell ?_ ?_ _ | with_reducible refine Below.drew ?_ | with_reducible refine Below.alloc ?_ ?_ _ | with_reducible refine Below.trans ?_ (Below.mono (by assumption) ?_) | (dsimp only; omega) | (simp; done) | (simp; omega) | omega))
  have hkz27 := hk.size
  have c27_0 : V27.cell? ⟨ty, 0, none⟩ = some (.int .i64 d3) := (hk.cell (p := ⟨ty, 0, none⟩) (by show ty < _; omega)).trans c26_0
  have c27_1 : V27.cell? ⟨ty, 1, none⟩ = some (.slice Cf xs3.length cf3) := (hk.cell (p := ⟨ty, 1, none⟩) (by show ty < _; omega)).trans c26_1
  have c27_2 : V27.cell? ⟨ty + 1, 0, none⟩ = some (.int .i64 f3) := (hk.cell (p := ⟨ty + 1, 0, none⟩) (by show ty + 1 < _; omega)).trans c26_2
  have c27_3 : V27.cell? ⟨ty + 1, 1, none⟩ = some (.int .i64 t3) := (hk.cell (p := ⟨ty + 1, 1, none⟩) (by show ty + 1 < _; omega)).trans c26_3
  have b27_0 : ty < V27.heap.size := by omega
  have b27_1 : ty + 1 < V27.heap.size := by omega
  have R27_0 := hid (FreshA.below (cf := cIv) (sz := 2) (T := 50) (B := V23.heap.size) R26_0.out hk)
  have R27_1 := hid (FreshA.below (cf := cIv) (sz := 2) (T := 50) (B := V25.heap.size) S26_1.out hk)
  have hw27 : Below w.heap.size w V27 := Below.trans hw (Below.mono hk (by have := hw.size; omega))
  clear hw hk
  have hw := hw27
  clear hw27
  have hwz := hw.size
  clear c26_0 c26_1 c26_2 c26_3 R26_0 S26_1
  have d27_4 : V27.cell? ⟨W26.heap.size, 0, none⟩ = some (.int .i64 d4) := by rw [hV]; first | (simp [go_sem, ↓IntWalk.iteOmega, *]; done) | (simp [go_sem, ↓IntWalk.iteOmega, *]; intros; omega)
  have d27_5 : V27.cell? ⟨W26.heap.size, 1, none⟩ = some (.slice A8 L.length c8) := by rw [hV]; first | (simp [go_sem, ↓IntWalk.iteOmega, *]; done) | (simp [go_sem, ↓IntWalk.iteOmega, *]; intros; omega)
  have e27_2 : W26.heap.size < V27.heap.size := by rw [hV]; first | (simp; done) | (simp; omega)
  clear hV
  generalize htbtz : W26.heap.size = tz at *
  refine (c_spec_AddClosure d3 Cf xs3 cf3 f3 t3 _ R27_0.out.rds (by omega) (R27_0.out).capLe).mono ?_
  simp only [HA.out]
  rintro e W28 ⟨E8, e8, rfl, hF8, hb⟩
  have hk : Below V27.heap.size V27 W28 := hb
  have hkz28 := hk.size
  have c28_0 : W28.cell? ⟨ty, 0, none⟩ = some (.int .i64 d3) := (hb.cell (p := ⟨ty, 0, none⟩) (by show ty < _; omega)).trans c27_0
  have c28_1 : W28.cell? ⟨ty, 1, none⟩ = some (.slice Cf xs3.length cf3) := (hb.cell (p := ⟨ty, 1, none⟩) (by show ty < _; omega)).trans c27_1
  have c28_2 : W28.cell? ⟨ty + 1, 0, none⟩ = some (.int .i64 f3) := (hb.cell (p := ⟨ty + 1, 0, none⟩) (by show ty + 1 < _; omega)).trans c27_2
  have c28_3 : W28.cell? ⟨ty + 1, 1, none⟩ = some (.int .i64 t3) := (hb.cell (p := ⟨ty + 1, 1, none⟩) (by show ty + 1 < _; omega)).trans c27_3
  have c28_4 : W28.cell? ⟨tz, 0, none⟩ = some (.int .i64 d4) := (hb.cell (p := ⟨tz, 0, none⟩) (by show tz < _; omega)).trans d27_4
  have c28_5 : W28.cell? ⟨tz, 1, none⟩ = some (.slice A8 L.length c8) := (hb.cell (p := ⟨tz, 1, none⟩) (by show tz < _; omega)).trans d27_5
  have b28_0 : ty < W28.heap.size := by omega
  have b28_1 : ty + 1 < W28.heap.size := by omega
  have b28_2 : tz < W28.heap.size := by omega
  have R28_0 := hid (FreshA.below (cf := cIv) (sz := 2) (T := 50) (B := V23.heap.size) R27_0.out hk)
  have R28_1 := hid (FreshA.below (cf := cIv) (sz := 2) (T := 50) (B := V25.heap.size) R27_1.out hk)
  have hw28 : Below w.heap.size w W28 := Below.trans hw (Below.mono hk (by have := hw.size; omega))
  clear hw hk
  have hw := hw28
  clear hw28
  have hwz := hw.size
  clear c27_0 c27_1 c27_2 c27_3 d27_4 d27_5 R27_0 R27_1
  clear hb
  have S28_2 : Hid (FreshA cIv 2 50 V27.heap.size W28 E8 e8 L) := hid (hF8)
  have loS28_2 := S28_2.out.lo
  have hiS28_2 := S28_2.out.hi
  clear hF8
  rcases hac with rfl | ⟨rfl, hlen, hmf, hmt⟩
  · go_wp2_with (fail)
    refine calls_named ?_
    intro V29 hV
    have hk : Below W28.heap.size W28 V29 := by rw [hV]; (repeat' (first | with_reducible exact Below.refl _ _ | with_reducible assumption | with_reducible refine Below.setCell ?_ ?_ _ | with_reducible refine Below.drew ?_ | with_reducible refine Below.alloc ?_ ?_ _ | with_reducible refine Below.trans ?_ (Below.mono (by assumption) ?_) | (dsimp only; omega) | (simp; done) | (simp; omega) | omega))
    have hkz29 := hk.size
    have c29_0 : V29.cell? ⟨ty, 0, none⟩ = some (.int .i64 d3) := (hk.cell (p := ⟨ty, 0, none⟩) (by show ty < _; omega)).trans c28_0
    have c29_1 : V29.cell? ⟨ty, 1, none⟩ = some (.slice Cf xs3.length cf3) := (hk.cell (p := ⟨ty, 1, none⟩) (by show ty < _; omega)).trans c28_1
    have c29_2 : V29.cell? ⟨ty + 1, 0, none⟩ = some (.int .i64 f3) := (hk.cell (p := ⟨ty + 1, 0, none⟩) (by show ty + 1 < _; omega)).trans c28_2
    have c29_3 : V29.cell? ⟨ty + 1, 1, none⟩ = some (.int .i64 t3) := (hk.cell (p := ⟨ty + 1, 1, none⟩) (by show ty + 1 < _; omega)).trans c28_3
    have c29_4 : V29.cell? ⟨tz, 0, none⟩ = some (.int .i64 d4) := (hk.cell (p := ⟨tz, 0, none⟩) (by show tz < _; omega)).trans c28_4
    have c29_5 : V29.cell? ⟨tz, 1, none⟩ = some (.slice A8 L.length c8) := (hk.cell (p := ⟨tz, 1, none⟩) (by show tz < _; omega)).trans c28_5
    have b29_0 : ty < V29.heap.size := by omega
    have b29_1 : ty + 1 < V29.heap.size := by omega
    have b29_2 : tz < V29.heap.size := by omega
    have R29_0 := hid (FreshA.below (cf := cIv) (sz := 2) (T := 50) (B := V23.heap.size) R28_0.out hk)
    have R29_1 := hid (FreshA.below (cf := cIv) (sz := 2) (T := 50) (B := V25.heap.size) R28_1.out hk)
    have R29_2 := hid (FreshA.below (cf := cIv) (sz := 2) (T := 50) (B := V27.heap.size) S28_2.out hk)
    have hw29 : Below w.heap.size w V29 := Below.trans hw (Below.mono hk (by have := hw.size; omega))
    clear hw hk
    have hw := hw29
    clear hw29
    have hwz := hw.size
    clear c28_0 c28_1 c28_2 c28_3 c28_4 c28_5 R28_0 R28_1 S28_2
    clear hV
    refine (c_laws_vIntervals A8 E8 L c8 e8 _ R29_1.out.rds R29_2.out.rds (by omega)).mono ?_
    rintro e W30 ⟨rfl, hb⟩
    have hk : Below V29.heap.size V29 W30 := hb
    have hkz30 := hk.size
    have c30_0 : W30.cell? ⟨ty, 0, none⟩ = some (.int .i64 d3) := (hb.cell (p := ⟨ty, 0, none⟩) (by show ty < _; omega)).trans c29_0
    have c30_1 : W30.cell? ⟨ty, 1, none⟩ = some (.slice Cf xs3.length cf3) := (hb.cell (p := ⟨ty, 1, none⟩) (by show ty < _; omega)).trans c29_1
    have c30_2 : W30.cell? ⟨ty + 1, 0, none⟩ = some (.int .i64 f3) := (hb.cell (p := ⟨ty + 1, 0, none⟩) (by show ty + 1 < _; omega)).trans c29_2
    have c30_3 : W30.cell? ⟨ty + 1, 1, none⟩ = some (.int .i64 t3) := (hb.cell (p := ⟨ty + 1, 1, none⟩) (by show ty + 1 < _; omega)).trans c29_3
    have c30_4 : W30.cell? ⟨tz, 0, none⟩ = some (.int .i64 d4) := (hb.cell (p := ⟨tz, 0, none⟩) (by show tz < _; omega)).trans c29_4
    have c30_5 : W30.cell? ⟨tz, 1, none⟩ = some (.slice A8 L.length c8) := (hb.cell (p := ⟨tz, 1, none⟩) (by show tz < _; omega)).trans c29_5
    have b30_0 : ty < W30.heap.size := by omega
    have b30_1 : ty + 1 < W30.heap.size := by omega
    have b30_2 : tz < W30.heap.size := by omega
    have R30_0 := hid (FreshA.below (cf := cIv) (sz := 2) (T := 50) (B := V23.heap.size) R29_0.out hk)
    have R30_1 := hid (FreshA.below (cf := cIv) (sz := 2) (T := 50) (B := V25.heap.size) R29_1.out hk)
    have R30_2 := hid (FreshA.below (cf := cIv) (sz := 2) (T := 50) (B := V27.heap.size) R29_2.out hk)
    have hw30 : Below w.heap.size w W30 := Below.trans hw (Below.mono hk (by have := hw.size; omega))
    clear hw hk
    have hw := hw30
    clear hw30
    have hwz := hw.size
    clear c29_0 c29_1 c29_2 c29_3 c29_4 c29_5 R29_0 R29_1 R29_2
    clear hb
    go_wp2_with (fail)
    go_ret
    exact ⟨by first | rfl | exact ret_bool (by simp), by first | exact hw | (repeat' (first | with_reducible exact Below.refl _ _ | with_reducible assumption | with_reducible refine Below.setCell ?_ ?_ _ | with_reducible refine Below.drew ?_ | with_reducible refine Below.alloc ?_ ?_ _ | with_reducible refine Below.trans ?_ (Below.mono (by assumption) ?_) | (dsimp only; omega) | (simp; done) | (simp; omega) | omega))⟩
  have hln1 : L.length ≤ xs3.length + 1 := by omega
  have hln2 : xs3.length + 1 ≤ L.length := by omega
  have HMF := hid hmf; have HMT := hid hmt; clear hmf hmt hlen
  go_wp2_with (fail)
  refine calls_named ?_
  intro V29 hV
  have hk : Below W28.heap.size W28 V29 := by rw [hV]; (repeat' (first | with_reducible exact Below.refl _ _ | with_reducible assumption | with_reducible refine Below.setCell ?_ ?_ _ | with_reducible refine Below.drew ?_ | with_reducible refine Below.alloc ?_ ?_ _ | with_reducible refine Below.trans ?_ (Below.mono (by assumption) ?_) | (dsimp only; omega) | (simp; done) | (simp; omega) | omega))
  have hkz29 := hk.size
  have c29_0 : V29.cell? ⟨ty, 0, none⟩ = some (.int .i64 d3) := (hk.cell (p := ⟨ty, 0, none⟩) (by show ty < _; omega)).trans c28_0
  have c29_1 : V29.cell? ⟨ty, 1, none⟩ = some (.slice Cf xs3.length cf3) := (hk.cell (p := ⟨ty, 1, none⟩) (by show ty < _; omega)).trans c28_1
  have c29_2 : V29.cell? ⟨ty + 1, 0, none⟩ = some (.int .i64 f3) := (hk.cell (p := ⟨ty + 1, 0, none⟩) (by show ty + 1 < _; omega)).trans c28_2
  have c29_3 : V29.cell? ⟨ty + 1, 1, none⟩ = some (.int .i64 t3) := (hk.cell (p := ⟨ty + 1, 1, none⟩) (by show ty + 1 < _; omega)).trans c28_3
  have c29_4 : V29.cell? ⟨tz, 0, none⟩ = some (.int .i64 d4) := (hk.cell (p := ⟨tz, 0, none⟩) (by show tz < _; omega)).trans c28_4
  have c29_5 : V29.cell? ⟨tz, 1, none⟩ = some (.slice A8 L.length c8) := (hk.cell (p := ⟨tz, 1, none⟩) (by show tz < _; omega)).trans c28_5
  have b29_0 : ty < V29.heap.size := by omega
  have b29_1 : ty + 1 < V29.heap.size := by omega
  have b29_2 : tz < V29.heap.size := by omega
  have R29_0 := hid (FreshA.below (cf := cIv) (sz := 2) (T := 50) (B := V23.heap.size) R28_0.out hk)
  have R29_1 := hid (FreshA.below (cf := cIv) (sz := 2) (T := 50) (B := V25.heap.size) R28_1.out hk)
  have R29_2 := hid (FreshA.below (cf := cIv) (sz := 2) (T := 50) (B := V27.heap.size) S28_2.out hk)
  have hw29 : Below w.heap.size w V29 := Below.trans hw (Below.mono hk (by have := hw.size; omega))
  clear hw hk
  have hw := hw29
  clear hw29
  have hwz := hw.size
  clear c28_0 c28_1 c28_2 c28_3 c28_4 c28_5 R28_0 R28_1 S28_2
  clear hV
  refine (c_laws_vIntervals A8 E8 L c8 e8 _ R29_1.out.rds R29_2.out.rds (by omega)).mono ?_
  rintro e W30 ⟨rfl, hb⟩
  have hk : Below V29.heap.size V29 W30 := hb
  have hkz30 := hk.size
  have c30_0 : W30.cell? ⟨ty, 0, none⟩ = some (.int .i64 d3) := (hb.cell (p := ⟨ty, 0, none⟩) (by show ty < _; omega)).trans c29_0
  have c30_1 : W30.cell? ⟨ty, 1, none⟩ = some (.slice Cf xs3.length cf3) := (hb.cell (p := ⟨ty, 1, none⟩) (by show ty < _; omega)).trans c29_1
  have c30_2 : W30.cell? ⟨ty + 1, 0, none⟩ = some (.int .i64 f3) := (hb.cell (p := ⟨ty + 1, 0, none⟩) (by show ty + 1 < _; omega)).trans c29_2
  have c30_3 : W30.cell? ⟨ty + 1, 1, none⟩ = some (.int .i64 t3) := (hb.cell (p := ⟨ty + 1, 1, none⟩) (by show ty + 1 < _; omega)).trans c29_3
  have c30_4 : W30.cell? ⟨tz, 0, none⟩ = some (.int .i64 d4) := (hb.cell (p := ⟨tz, 0, none⟩) (by show tz < _; omega)).trans c29_4
  have c30_5 : W30.cell? ⟨tz, 1, none⟩ = some (.slice A8 L.length c8) := (hb.cell (p := ⟨tz, 1, none⟩) (by show tz < _; omega)).trans c29_5
  have b30_0 : ty < W30.heap.size := by omega
  have b30_1 : ty + 1 < W30.heap.size := by omega
  have b30_2 : tz < W30.heap.size := by omega
  have R30_0 := hid (FreshA.below (cf := cIv) (sz := 2) (T := 50) (B := V23.heap.size) R29_0.out hk)
  have R30_1 := hid (FreshA.below (cf := cIv) (sz := 2) (T := 50) (B := V25.heap.size) R29_1.out hk)
  have R30_2 := hid (FreshA.below (cf := cIv) (sz := 2) (T := 50) (B := V27.heap.size) R29_2.out hk)
  have hw30 : Below w.heap.size w W30 := Below.trans hw (Below.mono hk (by have := hw.size; omega))
  clear hw hk
  have hw := hw30
  clear hw30
  have hwz := hw.size
  clear c29_0 c29_1 c29_2 c29_3 c29_4 c29_5 R29_0 R29_1 R29_2
  clear hb
  go_wp2_with (fail)
  refine calls_named ?_
  intro V31 hV
  have hk : Below W30.heap.size W30 V31 := by rw [hV]; (repeat' (first | with_reducible exact Below.refl _ _ | with_reducible assumption | with_reducible refine Below.setCell ?_ ?_ _ | with_reducible refine Below.drew ?_ | with_reducible refine Below.alloc ?_ ?_ _ | with_reducible refine Below.trans ?_ (Below.mono (by assumption) ?_) | (dsimp only; omega) | (simp; done) | (simp; omega) | omega))
  have hkz31 := hk.size
  have c31_0 : V31.cell? ⟨ty, 0, none⟩ = some (.int .i64 d3) := (hk.cell (p := ⟨ty, 0, none⟩) (by show ty < _; omega)).trans c30_0
  have c31_1 : V31.cell? ⟨ty, 1, none⟩ = some (.slice Cf xs3.length cf3) := (hk.cell (p := ⟨ty, 1, none⟩) (by show ty < _; omega)).trans c30_1
  have c31_2 : V31.cell? ⟨ty + 1, 0, none⟩ = some (.int .i64 f3) := (hk.cell (p := ⟨ty + 1, 0, none⟩) (by show ty + 1 < _; omega)).trans c30_2
  have c31_3 : V31.cell? ⟨ty + 1, 1, none⟩ = some (.int .i64 t3) := (hk.cell (p := ⟨ty + 1, 1, none⟩) (by show ty + 1 < _; omega)).trans c30_3
  have c31_4 : V31.cell? ⟨tz, 0, none⟩ = some (.int .i64 d4) := (hk.cell (p := ⟨tz, 0, none⟩) (by show tz < _; omega)).trans c30_4
  have c31_5 : V31.cell? ⟨tz, 1, none⟩ = some (.slice A8 L.length c8) := (hk.cell (p := ⟨tz, 1, none⟩) (by show tz < _; omega)).trans c30_5
  have b31_0 : ty < V31.heap.size := by omega
  have b31_1 : ty + 1 < V31.heap.size := by omega
  have b31_2 : tz < V31.heap.size := by omega
  have R31_0 := hid (FreshA.below (cf := cIv) (sz := 2) (T := 50) (B := V23.heap.size) R30_0.out hk)
  have R31_1 := hid (FreshA.below (cf := cIv) (sz := 2) (T := 50) (B := V25.heap.size) R30_1.out hk)
  have R31_2 := hid (FreshA.below (cf := cIv) (sz := 2) (T := 50) (B := V27.heap.size) R30_2.out hk)
  have hw31 : Below w.heap.size w V31 := Below.trans hw (Below.mono hk (by have := hw.size; omega))
  clear hw hk
  have hw := hw31
  clear hw31
  have hwz := hw.size
  clear c30_0 c30_1 c30_2 c30_3 c30_4 c30_5 R30_0 R30_1 R30_2
  clear hV
  refine (c_impl_MayOpen d4 A8 L c8 f3 _ R31_1.out.rds (by omega)).mono ?_
  simp only [HMF.out]
  rintro e W32 ⟨rfl, hb⟩
  have hk : Below V31.heap.size V31 W32 := hb
  have hkz32 := hk.size
  have c32_0 : W32.cell? ⟨ty, 0, none⟩ = some (.int .i64 d3) := (hb.cell (p := ⟨ty, 0, none⟩) (by show ty < _; omega)).trans c31_0
  have c32_1 : W32.cell? ⟨ty, 1, none⟩ = some (.slice Cf xs3.length cf3) := (hb.cell (p := ⟨ty, 1, none⟩) (by show ty < _; omega)).trans c31_1
  have c32_2 : W32.cell? ⟨ty + 1, 0, none⟩ = some (.int .i64 f3) := (hb.cell (p := ⟨ty + 1, 0, none⟩) (by show ty + 1 < _; omega)).trans c31_2
  have c32_3 : W32.cell? ⟨ty + 1, 1, none⟩ = some (.int .i64 t3) := (hb.cell (p := ⟨ty + 1, 1, none⟩) (by show ty + 1 < _; omega)).trans c31_3
  have c32_4 : W32.cell? ⟨tz, 0, none⟩ = some (.int .i64 d4) := (hb.cell (p := ⟨tz, 0, none⟩) (by show tz < _; omega)).trans c31_4
  have c32_5 : W32.cell? ⟨tz, 1, none⟩ = some (.slice A8 L.length c8) := (hb.cell (p := ⟨tz, 1, none⟩) (by show tz < _; omega)).trans c31_5
  have b32_0 : ty < W32.heap.size := by omega
  have b32_1 : ty + 1 < W32.heap.size := by omega
  have b32_2 : tz < W32.heap.size := by omega
  have R32_0 := hid (FreshA.below (cf := cIv) (sz := 2) (T := 50) (B := V23.heap.size) R31_0.out hk)
  have R32_1 := hid (FreshA.below (cf := cIv) (sz := 2) (T := 50) (B := V25.heap.size) R31_1.out hk)
  have R32_2 := hid (FreshA.below (cf := cIv) (sz := 2) (T := 50) (B := V27.heap.size) R31_2.out hk)
  have hw32 : Below w.heap.size w W32 := Below.trans hw (Below.mono hk (by have := hw.size; omega))
  clear hw hk
  have hw := hw32
  clear hw32
  have hwz := hw.size
  clear c31_0 c31_1 c31_2 c31_3 c31_4 c31_5 R31_0 R31_1 R31_2
  clear hb
  go_wp2_with (fail)
  refine calls_named ?_
  intro V33 hV
  have hk : Below W32.heap.size W32 V33 := by rw [hV]; (repeat' (first | with_reducible exact Below.refl _ _ | with_reducible assumption | with_reducible refine Below.setCell ?_ ?_ _ | with_reducible refine Below.drew ?_ | with_reducible refine Below.alloc ?_ ?_ _ | with_reducible refine Below.trans ?_ (Below.mono (by assumption) ?_) | (dsimp only; omega) | (simp; done) | (simp; omega) | omega))
  have hkz33 := hk.size
  have c33_0 : V33.cell? ⟨ty, 0, none⟩ = some (.int .i64 d3) := (hk.cell (p := ⟨ty, 0, none⟩) (by show ty < _; omega)).trans c32_0
  have c33_1 : V33.cell? ⟨ty, 1, none⟩ = some (.slice Cf xs3.length cf3) := (hk.cell (p := ⟨ty, 1, none⟩) (by show ty < _; omega)).trans c32_1
  have c33_2 : V33.cell? ⟨ty + 1, 0, none⟩ = some (.int .i64 f3) := (hk.cell (p := ⟨ty + 1, 0, none⟩) (by show ty + 1 < _; omega)).trans c32_2
  have c33_3 : V33.cell? ⟨ty + 1, 1, none⟩ = some (.int .i64 t3) := (hk.cell (p := ⟨ty + 1, 1, none⟩) (by show ty + 1 < _; omega)).trans c32_3
  have c33_4 : V33.cell? ⟨tz, 0, none⟩ = some (.int .i64 d4) := (hk.cell (p := ⟨tz, 0, none⟩) (by show tz < _; omega)).trans c32_4
  have c33_5 : V33.cell? ⟨tz, 1, none⟩ = some (.slice A8 L.length c8) := (hk.cell (p := ⟨tz, 1, none⟩) (by show tz < _; omega)).trans c32_5
  have b33_0 : ty < V33.heap.size := by omega
  have b33_1 : ty + 1 < V33.heap.size := by omega
  have b33_2 : tz < V33.heap.size := by omega
  have R33_0 := hid (FreshA.below (cf := cIv) (sz := 2) (T := 50) (B := V23.heap.size) R32_0.out hk)
  have R33_1 := hid (FreshA.below (cf := cIv) (sz := 2) (T := 50) (B := V25.heap.size) R32_1.out hk)
  have R33_2 := hid (FreshA.below (cf := cIv) (sz := 2) (T := 50) (B := V27.heap.size) R32_2.out hk)
  have hw33 : Below w.heap.size w V33 := Below.trans hw (Below.mono hk (by have := hw.size; omega))
  clear hw hk
  have hw := hw33
  clear hw33
  have hwz := hw.size
  clear c32_0 c32_1 c32_2 c32_3 c32_4 c32_5 R32_0 R32_1 R32_2
  clear hV
  refine (c_impl_MayOpen d4 A8 L c8 t3 _ R33_1.out.rds (by omega)).mono ?_
  simp only [HMT.out]
  rintro e W34 ⟨rfl, hb⟩
  have hk : Below V33.heap.size V33 W34 := hb
  have hkz34 := hk.size
  have c34_0 : W34.cell? ⟨ty, 0, none⟩ = some (.int .i64 d3) := (hb.cell (p := ⟨ty, 0, none⟩) (by show ty < _; omega)).trans c33_0
  have c34_1 : W34.cell? ⟨ty, 1, none⟩ = some (.slice Cf xs3.length cf3) := (hb.cell (p := ⟨ty, 1, none⟩) (by show ty < _; omega)).trans c33_1
  have c34_2 : W34.cell? ⟨ty + 1, 0, none⟩ = some (.int .i64 f3) := (hb.cell (p := ⟨ty + 1, 0, none⟩) (by show ty + 1 < _; omega)).trans c33_2
  have c34_3 : W34.cell? ⟨ty + 1, 1, none⟩ = some (.int .i64 t3) := (hb.cell (p := ⟨ty + 1, 1, none⟩) (by show ty + 1 < _; omega)).trans c33_3
  have c34_4 : W34.cell? ⟨tz, 0, none⟩ = some (.int .i64 d4) := (hb.cell (p := ⟨tz, 0, none⟩) (by show tz < _; omega)).trans c33_4
  have c34_5 : W34.cell? ⟨tz, 1, none⟩ = some (.slice A8 L.length c8) := (hb.cell (p := ⟨tz, 1, none⟩) (by show tz < _; omega)).trans c33_5
  have b34_0 : ty < W34.heap.size := by omega
  have b34_1 : ty + 1 < W34.heap.size := by omega
  have b34_2 : tz < W34.heap.size := by omega
  have R34_0 := hid (FreshA.below (cf := cIv) (sz := 2) (T := 50) (B := V23.heap.size) R33_0.out hk)
  have R34_1 := hid (FreshA.below (cf := cIv) (sz := 2) (T := 50) (B := V25.heap.size) R33_1.out hk)
  have R34_2 := hid (FreshA.below (cf := cIv) (sz := 2) (T := 50) (B := V27.heap.size) R33_2.out hk)
  have hw34 : Below w.heap.size w W34 := Below.trans hw (Below.mono hk (by have := hw.size; omega))
  clear hw hk
  have hw := hw34
  clear hw34
  have hwz := hw.size
  clear c33_0 c33_1 c33_2 c33_3 c33_4 c33_5 R33_0 R33_1 R33_2
  clear hb
  go_wp2_with (fail)
  go_ret
  exact ⟨ret_bool (by simp; omega), by first | exact hw | (repeat' (first | with_reducible exact Below.refl _ _ | with_reducible assumption | with_reducible refine Below.setCell ?_ ?_ _ | with_reducible refine Below.drew ?_ | with_reducible refine Below.alloc ?_ ?_ _ | with_reducible refine Below.trans ?_ (Below.mono (by assumption) ?_) | (dsimp only; omega) | (simp; done) | (simp; omega) | omega))⟩

end Go.Proofs.Yteciijnpfapmhaa
