import Derived.Test.YtpaclngjmdacjaaQP03
import Derived.Test.YtpaclngjmdacjaaQP05
import Derived.Test.YtpaclngjmdacjaaQP09
import Derived.Test.YtpaclngjmdacjaaQP10
import Derived.Test.YtpaclngjmdacjaaQP11
import Derived.Test.YtpaclngjmdacjaaQP12
import Derived.Test.YtpaclngjmdacjaaQP13
namespace Go.Proofs.Ytpaclngjmdacjaa
set_option linter.unusedSimpArgs false
set_option linter.unusedVariables false
open Go.RowKit

def FS12_20 (n0 : Nat) (w W0 : World) (iq : Nat) (v : Value) (w1 : World) : Prop := match iq with
  | 0 => v = .bool (false)
  | 1 => v = .bool (false)
  | 2 => v = undef
  | 3 => v = undef
  | 4 => v = undef
  | 5 => v = undef
  | 6 => v = undef
  | 7 => v = undef
  | 8 => v = undef
  | 9 => v = undef
  | 10 => v = undef
  | 11 => v = undef
  | 12 => v = undef
  | 13 => v = undef
  | 14 => v = undef
  | 15 => v = undef
  | 16 => v = undef
  | 17 => v = .bool (false)
  | _ => True

def FS12_22 (n0 : Nat) (w W0 : World) (iq : Nat) (v : Value) (w1 : World) : Prop := match iq with
  | 0 => v = .bool (false)
  | 1 => v = .bool (false)
  | 2 => v = undef
  | 3 => v = undef
  | 4 => v = undef
  | 5 => v = undef
  | 6 => v = undef
  | 7 => v = undef
  | 8 => v = undef
  | 9 => v = .bool (false)
  | 10 => v = .bool (false)
  | 11 => v = undef
  | 12 => v = undef
  | 13 => v = undef
  | 14 => v = undef
  | 15 => v = undef
  | 16 => v = undef
  | 17 => v = undef
  | 18 => v = .bool (false)
  | _ => True

def FS12_22_20 (n0 : Nat) (w W0 : World) (iq : Nat) (v : Value) (w1 : World) : Prop := match iq with
  | 0 => v = .bool (false)
  | 1 => v = .bool (false)
  | 2 => v = undef
  | 3 => v = undef
  | 4 => v = undef
  | 5 => v = undef
  | 6 => v = undef
  | 7 => v = undef
  | 8 => v = undef
  | 9 => v = .bool (false)
  | 10 => v = .bool (false)
  | 11 => v = undef
  | 12 => v = undef
  | 13 => v = undef
  | 14 => v = undef
  | 15 => v = undef
  | 16 => v = undef
  | 17 => v = undef
  | 18 => v = .bool (false)
  | _ => True

def FS12_22_21 (l u : Int) (gl j : Nat) (y : Int) (n0 cl0 tb : Nat) (w W0 : World) (iq : Nat) (v : Value) (w1 : World) : Prop := match iq with
  | 0 => v = .bool (true)
  | 1 => v = .bool (true)
  | 2 => v = .slice (some ⟨gl, 0, none⟩) n0 cl0
  | 3 => v = .int .i64 (j)
  | 4 => v = .pointer (some ⟨gl, 0 + j, none⟩)
  | 5 => v = .int .i64 (y)
  | 6 => v = .pointer (some ⟨tb, 0, none⟩)
  | 7 => v = .int .i64 (l)
  | 8 => v = .bool (false)
  | 9 => v = .bool (false)
  | 10 => v = .bool (false)
  | 11 => v = undef
  | 12 => v = undef
  | 13 => v = undef
  | 14 => v = undef
  | 15 => v = undef
  | 16 => v = undef
  | 17 => v = undef
  | 18 => v = .bool (false)
  | _ => True

set_option maxRecDepth 100000 in
set_option maxHeartbeats 16000000 in
theorem c_laws_FnPumps (A : Option Addr) (cs : List Int) (cap : Nat) (w : World) (hr : Rds cB 1 w A cs) (hby : Bytes cs) (hn : cs.length ≤ 9223372036854775807) :
    Calls Try.prog 12 #[.slice A cs.length cap] w fun e w' => e = .returned (.bool true) ∧ Below w.heap.size w w' := by
  by_cases hbig : 65536 < cs.length
  · go_enter Try.func12, Try.ntmps12
    go_wp2_with (fail)
    refine (c_laws_rBig _ _ _ _ (by omega)).mono ?_
    rintro e W1 ⟨rfl, hb1⟩
    simp only [show decide (65536 < cs.length) = true by simp; omega]
    go_wp2_with (fail)
    go_ret
    exact ⟨rfl, by (repeat' (first | exact Below.refl _ _ | assumption | refine Below.setCell ?_ ?_ _ | refine Below.drew ?_ | refine Below.alloc ?_ ?_ _ | refine Below.trans ?_ (Below.mono (by assumption) ?_) | (simp; done) | (simp; omega) | omega))⟩
  go_enter Try.func12, Try.ntmps12
  go_wp2_with (fail)
  refine (c_laws_rBig _ _ _ _ (by omega)).mono ?_
  rintro e W1 ⟨rfl, hw⟩
  simp only [show decide (65536 < cs.length) = false by simp; omega]
  have hwz := hw.size
  go_wp2_with (fail)
  refine calls_named ?_
  intro V1 hV
  have hk : Below W1.heap.size W1 V1 := by rw [hV]; (repeat' (first | with_reducible exact Below.refl _ _ | with_reducible assumption | with_reducible refine Below.setCell ?_ ?_ _ | with_reducible refine Below.drew ?_ | with_reducible refine Below.alloc ?_ ?_ _ | with_reducible refine Below.trans ?_ (Below.mono (by assumption) ?_) | (dsimp only; omega) | (simp; done) | (simp; omega) | omega))
  have hkz1 := hk.size
  have hw1 : Below w.heap.size w V1 := Below.trans hw (Below.mono hk (by have := hw.size; omega))
  clear hw hk
  have hw := hw1
  clear hw1
  have hwz := hw.size
  clear hV
  refine (c_spec_DrawLevelsWith A cs cap _ (Rds.below hr hw) hby (by omega)).mono ?_
  rintro e W2 ⟨l, u, v, Af, cf, fs, Aq, cq, ps, Ap, cp, pl, rfl, hFf, hFq, hFp, hfl, hpl, hpl3, hb⟩
  have hk : Below V1.heap.size V1 W2 := hb
  have hkz2 := hk.size
  have hw2 : Below w.heap.size w W2 := Below.trans hw (Below.mono hk (by have := hw.size; omega))
  clear hw hk
  have hw := hw2
  clear hw2
  have hwz := hw.size
  clear hb
  have S2_0 : Hid (FreshA cIn 1 3 V1.heap.size W2 Af cf fs) := hid (hFf)
  have loS2_0 := S2_0.out.lo
  have hiS2_0 := S2_0.out.hi
  have S2_1 : Hid (FreshA cPu 3 71 V1.heap.size W2 Aq cq ps) := hid (hFq)
  have loS2_1 := S2_1.out.lo
  have hiS2_1 := S2_1.out.hi
  have S2_2 : Hid (FreshA cIn 1 3 V1.heap.size W2 Ap cp pl) := hid (hFp)
  have loS2_2 := S2_2.out.lo
  have hiS2_2 := S2_2.out.hi
  clear hFf hFq hFp
  have hll := levV_len l u v fs ps pl
  obtain ⟨lv, ok, HlevV⟩ : ∃ lv ok, levV l u v fs ps pl = (lv, ok) := ⟨_, _, rfl⟩
  obtain ⟨pw, fine, HwaterV⟩ : ∃ pw fine, waterV l u v fs ps pl = (pw, fine) := ⟨_, _, rfl⟩
  obtain ⟨sf, told, HsafeV⟩ : ∃ sf told, safeV l u v fs ps pl = (sf, told) := ⟨_, _, rfl⟩
  obtain ⟨ho, uns, HunsV⟩ : ∃ ho uns, unsV l u v fs ps pl = (ho, uns) := ⟨_, _, rfl⟩
  rw [HlevV] at hll
  simp only at hll
  have hcs := fp_cases HlevV HwaterV HsafeV HunsV
  have HL := hid HlevV; have HW := hid HwaterV; have HS := hid HsafeV; have HU := hid HunsV; clear HlevV HwaterV HsafeV HunsV
  go_wp2_with (fail)
  refine calls_named ?_
  intro V3 hV
  have hk : Below W2.heap.size W2 V3 := by rw [hV]; (repeat' (first | with_reducible exact Below.refl _ _ | with_reducible assumption | with_reducible refine Below.setCell ?_ ?_ _ | with_reducible refine Below.drew ?_ | with_reducible refine Below.alloc ?_ ?_ _ | with_reducible refine Below.trans ?_ (Below.mono (by assumption) ?_) | (dsimp only; omega) | (simp; done) | (simp; omega) | omega))
  have hkz3 := hk.size
  have R3_0 := hid (FreshA.below (cf := cIn) (sz := 1) (T := 3) (B := V1.heap.size) S2_0.out hk)
  have R3_1 := hid (FreshA.below (cf := cPu) (sz := 3) (T := 71) (B := V1.heap.size) S2_1.out hk)
  have R3_2 := hid (FreshA.below (cf := cIn) (sz := 1) (T := 3) (B := V1.heap.size) S2_2.out hk)
  have hw3 : Below w.heap.size w V3 := Below.trans hw (Below.mono hk (by have := hw.size; omega))
  clear hw hk
  have hw := hw3
  clear hw3
  have hwz := hw.size
  clear S2_0 S2_1 S2_2
  have d3_0 : V3.cell? ⟨W2.heap.size, 0, none⟩ = some (.int .i64 l) := by rw [hV]; first | (simp [go_sem, ↓IntWalk.iteOmega, *]; done) | (simp [go_sem, ↓IntWalk.iteOmega, *]; intros; omega)
  have d3_1 : V3.cell? ⟨W2.heap.size, 1, none⟩ = some (.int .i64 u) := by rw [hV]; first | (simp [go_sem, ↓IntWalk.iteOmega, *]; done) | (simp [go_sem, ↓IntWalk.iteOmega, *]; intros; omega)
  have d3_2 : V3.cell? ⟨W2.heap.size, 2, none⟩ = some (.int .i64 v) := by rw [hV]; first | (simp [go_sem, ↓IntWalk.iteOmega, *]; done) | (simp [go_sem, ↓IntWalk.iteOmega, *]; intros; omega)
  have d3_3 : V3.cell? ⟨W2.heap.size, 3, none⟩ = some (.slice Af fs.length cf) := by rw [hV]; first | (simp [go_sem, ↓IntWalk.iteOmega, *]; done) | (simp [go_sem, ↓IntWalk.iteOmega, *]; intros; omega)
  have d3_4 : V3.cell? ⟨W2.heap.size, 4, none⟩ = some (.slice Aq ps.length cq) := by rw [hV]; first | (simp [go_sem, ↓IntWalk.iteOmega, *]; done) | (simp [go_sem, ↓IntWalk.iteOmega, *]; intros; omega)
  have e3_0 : W2.heap.size < V3.heap.size := by rw [hV]; first | (simp; done) | (simp; omega)
  clear hV
  generalize htb : W2.heap.size = tb at *
  refine (c_impl_LevelsWith l u v Af fs cf Aq ps cq Ap pl cp _ R3_0.out.rds (by omega) R3_1.out.rds (by omega) R3_2.out.rds (by omega)).mono ?_
  simp only [HL.out]
  rintro e W4 ⟨Al0, cl0, rfl, hFl, hb⟩
  have hk : Below V3.heap.size V3 W4 := hb
  have hkz4 := hk.size
  have c4_0 : W4.cell? ⟨tb, 0, none⟩ = some (.int .i64 l) := (hb.cell (p := ⟨tb, 0, none⟩) (by show tb < _; omega)).trans d3_0
  have c4_1 : W4.cell? ⟨tb, 1, none⟩ = some (.int .i64 u) := (hb.cell (p := ⟨tb, 1, none⟩) (by show tb < _; omega)).trans d3_1
  have c4_2 : W4.cell? ⟨tb, 2, none⟩ = some (.int .i64 v) := (hb.cell (p := ⟨tb, 2, none⟩) (by show tb < _; omega)).trans d3_2
  have c4_3 : W4.cell? ⟨tb, 3, none⟩ = some (.slice Af fs.length cf) := (hb.cell (p := ⟨tb, 3, none⟩) (by show tb < _; omega)).trans d3_3
  have c4_4 : W4.cell? ⟨tb, 4, none⟩ = some (.slice Aq ps.length cq) := (hb.cell (p := ⟨tb, 4, none⟩) (by show tb < _; omega)).trans d3_4
  have b4_0 : tb < W4.heap.size := by omega
  have R4_0 := hid (FreshA.below (cf := cIn) (sz := 1) (T := 3) (B := V1.heap.size) R3_0.out hk)
  have R4_1 := hid (FreshA.below (cf := cPu) (sz := 3) (T := 71) (B := V1.heap.size) R3_1.out hk)
  have R4_2 := hid (FreshA.below (cf := cIn) (sz := 1) (T := 3) (B := V1.heap.size) R3_2.out hk)
  have hw4 : Below w.heap.size w W4 := Below.trans hw (Below.mono hk (by have := hw.size; omega))
  clear hw hk
  have hw := hw4
  clear hw4
  have hwz := hw.size
  clear d3_0 d3_1 d3_2 d3_3 d3_4 R3_0 R3_1 R3_2
  clear hb
  have S4_3 : Hid (FreshA cIn 1 3 V3.heap.size W4 Al0 cl0 lv) := hid (hFl)
  have loS4_3 := S4_3.out.lo
  have hiS4_3 := S4_3.out.hi
  clear hFl
  go_wp2_with (fail)
  refine calls_named ?_
  intro V5 hV
  have hk : Below W4.heap.size W4 V5 := by rw [hV]; (repeat' (first | with_reducible exact Below.refl _ _ | with_reducible assumption | with_reducible refine Below.setCell ?_ ?_ _ | with_reducible refine Below.drew ?_ | with_reducible refine Below.alloc ?_ ?_ _ | with_reducible refine Below.trans ?_ (Below.mono (by assumption) ?_) | (dsimp only; omega) | (simp; done) | (simp; omega) | omega))
  have hkz5 := hk.size
  have c5_0 : V5.cell? ⟨tb, 0, none⟩ = some (.int .i64 l) := (hk.cell (p := ⟨tb, 0, none⟩) (by show tb < _; omega)).trans c4_0
  have c5_1 : V5.cell? ⟨tb, 1, none⟩ = some (.int .i64 u) := (hk.cell (p := ⟨tb, 1, none⟩) (by show tb < _; omega)).trans c4_1
  have c5_2 : V5.cell? ⟨tb, 2, none⟩ = some (.int .i64 v) := (hk.cell (p := ⟨tb, 2, none⟩) (by show tb < _; omega)).trans c4_2
  have c5_3 : V5.cell? ⟨tb, 3, none⟩ = some (.slice Af fs.length cf) := (hk.cell (p := ⟨tb, 3, none⟩) (by show tb < _; omega)).trans c4_3
  have c5_4 : V5.cell? ⟨tb, 4, none⟩ = some (.slice Aq ps.length cq) := (hk.cell (p := ⟨tb, 4, none⟩) (by show tb < _; omega)).trans c4_4
  have b5_0 : tb < V5.heap.size := by omega
  have R5_0 := hid (FreshA.below (cf := cIn) (sz := 1) (T := 3) (B := V1.heap.size) R4_0.out hk)
  have R5_1 := hid (FreshA.below (cf := cPu) (sz := 3) (T := 71) (B := V1.heap.size) R4_1.out hk)
  have R5_2 := hid (FreshA.below (cf := cIn) (sz := 1) (T := 3) (B := V1.heap.size) R4_2.out hk)
  have R5_3 := hid (FreshA.below (cf := cIn) (sz := 1) (T := 3) (B := V3.heap.size) S4_3.out hk)
  have hw5 : Below w.heap.size w V5 := Below.trans hw (Below.mono hk (by have := hw.size; omega))
  clear hw hk
  have hw := hw5
  clear hw5
  have hwz := hw.size
  clear c4_0 c4_1 c4_2 c4_3 c4_4 R4_0 R4_1 R4_2 S4_3
  clear hV
  refine (c_spec_LevelsWith l u v Af fs cf Aq ps cq Ap pl cp _ R5_0.out.rds (by omega) R5_1.out.rds (by omega) R5_2.out.rds (by omega)).mono ?_
  simp only [HL.out]
  rintro e W6 ⟨Al1, cl1, rfl, hFl, hb⟩
  have hk : Below V5.heap.size V5 W6 := hb
  have hkz6 := hk.size
  have c6_0 : W6.cell? ⟨tb, 0, none⟩ = some (.int .i64 l) := (hb.cell (p := ⟨tb, 0, none⟩) (by show tb < _; omega)).trans c5_0
  have c6_1 : W6.cell? ⟨tb, 1, none⟩ = some (.int .i64 u) := (hb.cell (p := ⟨tb, 1, none⟩) (by show tb < _; omega)).trans c5_1
  have c6_2 : W6.cell? ⟨tb, 2, none⟩ = some (.int .i64 v) := (hb.cell (p := ⟨tb, 2, none⟩) (by show tb < _; omega)).trans c5_2
  have c6_3 : W6.cell? ⟨tb, 3, none⟩ = some (.slice Af fs.length cf) := (hb.cell (p := ⟨tb, 3, none⟩) (by show tb < _; omega)).trans c5_3
  have c6_4 : W6.cell? ⟨tb, 4, none⟩ = some (.slice Aq ps.length cq) := (hb.cell (p := ⟨tb, 4, none⟩) (by show tb < _; omega)).trans c5_4
  have b6_0 : tb < W6.heap.size := by omega
  have R6_0 := hid (FreshA.below (cf := cIn) (sz := 1) (T := 3) (B := V1.heap.size) R5_0.out hk)
  have R6_1 := hid (FreshA.below (cf := cPu) (sz := 3) (T := 71) (B := V1.heap.size) R5_1.out hk)
  have R6_2 := hid (FreshA.below (cf := cIn) (sz := 1) (T := 3) (B := V1.heap.size) R5_2.out hk)
  have R6_3 := hid (FreshA.below (cf := cIn) (sz := 1) (T := 3) (B := V3.heap.size) R5_3.out hk)
  have hw6 : Below w.heap.size w W6 := Below.trans hw (Below.mono hk (by have := hw.size; omega))
  clear hw hk
  have hw := hw6
  clear hw6
  have hwz := hw.size
  clear c5_0 c5_1 c5_2 c5_3 c5_4 R5_0 R5_1 R5_2 R5_3
  clear hb
  have S6_4 : Hid (FreshA cIn 1 3 V5.heap.size W6 Al1 cl1 lv) := hid (hFl)
  have loS6_4 := S6_4.out.lo
  have hiS6_4 := S6_4.out.hi
  clear hFl
  have hllb : lv.length ≤ 5 := by omega
  rcases hcs with ⟨rfl, rfl, rfl, rfl⟩ | ⟨rfl, rfl, rfl, hfl5, hfb, hvb, hpb, hsb, n, hln, hn5, hlast, hcs⟩
  · have HX := hid R6_0.out.rds; have HY := hid R6_1.out.rds; have HA := hid R6_3.out.rds; have HB := hid S6_4.out.rds
    have HKQ : Hid (∀ w' : World, Below W6.heap.size W6 w' → w'.cell? ⟨tb, 0, none⟩ = some (.int .i64 l) ∧ w'.cell? ⟨tb, 1, none⟩ = some (.int .i64 u) ∧ w'.cell? ⟨tb, 2, none⟩ = some (.int .i64 v) ∧ w'.cell? ⟨tb, 3, none⟩ = some (.slice Af fs.length cf) ∧ w'.cell? ⟨tb, 4, none⟩ = some (.slice Aq ps.length cq)) := fun w' hbv => ⟨(hbv.cell (p := ⟨tb, 0, none⟩) (by show tb < _; omega)).trans c6_0, (hbv.cell (p := ⟨tb, 1, none⟩) (by show tb < _; omega)).trans c6_1, (hbv.cell (p := ⟨tb, 2, none⟩) (by show tb < _; omega)).trans c6_2, (hbv.cell (p := ⟨tb, 3, none⟩) (by show tb < _; omega)).trans c6_3, (hbv.cell (p := ⟨tb, 4, none⟩) (by show tb < _; omega)).trans c6_4⟩
    have hbq : Below W6.heap.size W6 W6 := Below.refl _ _
    go_wp2_with (fail)
    go_region_held3 (fun w' => w'.cell? ⟨tb, 0, none⟩ = some (.int .i64 l) ∧ w'.cell? ⟨tb, 1, none⟩ = some (.int .i64 u) ∧ w'.cell? ⟨tb, 2, none⟩ = some (.int .i64 v) ∧ w'.cell? ⟨tb, 3, none⟩ = some (.slice Af fs.length cf) ∧ w'.cell? ⟨tb, 4, none⟩ = some (.slice Aq ps.length cq)) (first | assumption | exact HKQ.out _ (by (repeat' (first | with_reducible exact Below.refl _ _ | with_reducible assumption | with_reducible refine Below.setCell ?_ ?_ _ | with_reducible refine Below.drew ?_ | with_reducible refine Below.alloc ?_ ?_ _ | with_reducible refine Below.trans ?_ (Below.mono (by assumption) ?_) | (dsimp only; omega) | (simp; done) | (simp; omega) | omega)))) (first | (go_at_call 40; refine (c_laws_rInts _ _ lv _ _ _ (Rds.below HA.out (by (repeat' (first | with_reducible exact Below.refl _ _ | with_reducible assumption | with_reducible refine Below.setCell ?_ ?_ _ | with_reducible refine Below.drew ?_ | with_reducible refine Below.alloc ?_ ?_ _ | with_reducible refine Below.trans ?_ (Below.mono (by assumption) ?_) | (dsimp only; omega) | (simp; done) | (simp; omega) | omega)))) (Rds.below HB.out (by (repeat' (first | with_reducible exact Below.refl _ _ | with_reducible assumption | with_reducible refine Below.setCell ?_ ?_ _ | with_reducible refine Below.drew ?_ | with_reducible refine Below.alloc ?_ ?_ _ | with_reducible refine Below.trans ?_ (Below.mono (by assumption) ?_) | (dsimp only; omega) | (simp; done) | (simp; omega) | omega)))) (by omega)).mono ?_; rintro e w' ⟨rfl, hb⟩; have hz := hb.size; (try simp at hz)) | (go_at_call 42; refine (c_impl_IsPumpTask l u v _ fs _ _ ps _ _ (Rds.below HX.out (by (repeat' (first | with_reducible exact Below.refl _ _ | with_reducible assumption | with_reducible refine Below.setCell ?_ ?_ _ | with_reducible refine Below.drew ?_ | with_reducible refine Below.alloc ?_ ?_ _ | with_reducible refine Below.trans ?_ (Below.mono (by assumption) ?_) | (dsimp only; omega) | (simp; done) | (simp; omega) | omega)))) (by omega) (Rds.below HY.out (by (repeat' (first | with_reducible exact Below.refl _ _ | with_reducible assumption | with_reducible refine Below.setCell ?_ ?_ _ | with_reducible refine Below.drew ?_ | with_reducible refine Below.alloc ?_ ?_ _ | with_reducible refine Below.trans ?_ (Below.mono (by assumption) ?_) | (dsimp only; omega) | (simp; done) | (simp; omega) | omega)))) (by omega)).mono ?_; rintro e w' ⟨rfl, hb⟩; have hz := hb.size; (try simp at hz)) | (go_at_call 43; refine (c_spec_IsPumpTask l u v _ fs _ _ ps _ _ (Rds.below HX.out (by (repeat' (first | with_reducible exact Below.refl _ _ | with_reducible assumption | with_reducible refine Below.setCell ?_ ?_ _ | with_reducible refine Below.drew ?_ | with_reducible refine Below.alloc ?_ ?_ _ | with_reducible refine Below.trans ?_ (Below.mono (by assumption) ?_) | (dsimp only; omega) | (simp; done) | (simp; omega) | omega)))) (by omega) (Rds.below HY.out (by (repeat' (first | with_reducible exact Below.refl _ _ | with_reducible assumption | with_reducible refine Below.setCell ?_ ?_ _ | with_reducible refine Below.drew ?_ | with_reducible refine Below.alloc ?_ ?_ _ | with_reducible refine Below.trans ?_ (Below.mono (by assumption) ?_) | (dsimp only; omega) | (simp; done) | (simp; omega) | omega)))) (by omega)).mono ?_; rintro e w' ⟨rfl, hb⟩; have hz := hb.size; (try simp at hz)))
    clear HX HY HA HB HKQ hbq
    go_wp2_with (fail)
    refine calls_named ?_
    intro V7 hV
    have hk : Below W6.heap.size W6 V7 := by rw [hV]; (repeat' (first | with_reducible exact Below.refl _ _ | with_reducible assumption | with_reducible refine Below.setCell ?_ ?_ _ | with_reducible refine Below.drew ?_ | with_reducible refine Below.alloc ?_ ?_ _ | with_reducible refine Below.trans ?_ (Below.mono (by assumption) ?_) | (dsimp only; omega) | (simp; done) | (simp; omega) | omega))
    have hkz7 := hk.size
    have c7_0 : V7.cell? ⟨tb, 0, none⟩ = some (.int .i64 l) := (hk.cell (p := ⟨tb, 0, none⟩) (by show tb < _; omega)).trans c6_0
    have c7_1 : V7.cell? ⟨tb, 1, none⟩ = some (.int .i64 u) := (hk.cell (p := ⟨tb, 1, none⟩) (by show tb < _; omega)).trans c6_1
    have c7_2 : V7.cell? ⟨tb, 2, none⟩ = some (.int .i64 v) := (hk.cell (p := ⟨tb, 2, none⟩) (by show tb < _; omega)).trans c6_2
    have c7_3 : V7.cell? ⟨tb, 3, none⟩ = some (.slice Af fs.length cf) := (hk.cell (p := ⟨tb, 3, none⟩) (by show tb < _; omega)).trans c6_3
    have c7_4 : V7.cell? ⟨tb, 4, none⟩ = some (.slice Aq ps.length cq) := (hk.cell (p := ⟨tb, 4, none⟩) (by show tb < _; omega)).trans c6_4
    have b7_0 : tb < V7.heap.size := by omega
    have R7_0 := hid (FreshA.below (cf := cIn) (sz := 1) (T := 3) (B := V1.heap.size) R6_0.out hk)
    have R7_1 := hid (FreshA.below (cf := cPu) (sz := 3) (T := 71) (B := V1.heap.size) R6_1.out hk)
    have R7_2 := hid (FreshA.below (cf := cIn) (sz := 1) (T := 3) (B := V1.heap.size) R6_2.out hk)
    have R7_3 := hid (FreshA.below (cf := cIn) (sz := 1) (T := 3) (B := V3.heap.size) R6_3.out hk)
    have R7_4 := hid (FreshA.below (cf := cIn) (sz := 1) (T := 3) (B := V5.heap.size) S6_4.out hk)
    have hw7 : Below w.heap.size w V7 := Below.trans hw (Below.mono hk (by have := hw.size; omega))
    clear hw hk
    have hw := hw7
    clear hw7
    have hwz := hw.size
    clear c6_0 c6_1 c6_2 c6_3 c6_4 R6_0 R6_1 R6_2 R6_3 S6_4
    clear hV
    refine (c_impl_PumpedWater l u v Af fs cf Aq ps cq Ap pl cp _ R7_0.out.rds (by omega) R7_1.out.rds (by omega) R7_2.out.rds (by omega)).mono ?_
    simp only [HW.out]
    rintro e W8 ⟨rfl, hb⟩
    have hk : Below V7.heap.size V7 W8 := hb
    have hkz8 := hk.size
    have c8_0 : W8.cell? ⟨tb, 0, none⟩ = some (.int .i64 l) := (hb.cell (p := ⟨tb, 0, none⟩) (by show tb < _; omega)).trans c7_0
    have c8_1 : W8.cell? ⟨tb, 1, none⟩ = some (.int .i64 u) := (hb.cell (p := ⟨tb, 1, none⟩) (by show tb < _; omega)).trans c7_1
    have c8_2 : W8.cell? ⟨tb, 2, none⟩ = some (.int .i64 v) := (hb.cell (p := ⟨tb, 2, none⟩) (by show tb < _; omega)).trans c7_2
    have c8_3 : W8.cell? ⟨tb, 3, none⟩ = some (.slice Af fs.length cf) := (hb.cell (p := ⟨tb, 3, none⟩) (by show tb < _; omega)).trans c7_3
    have c8_4 : W8.cell? ⟨tb, 4, none⟩ = some (.slice Aq ps.length cq) := (hb.cell (p := ⟨tb, 4, none⟩) (by show tb < _; omega)).trans c7_4
    have b8_0 : tb < W8.heap.size := by omega
    have R8_0 := hid (FreshA.below (cf := cIn) (sz := 1) (T := 3) (B := V1.heap.size) R7_0.out hk)
    have R8_1 := hid (FreshA.below (cf := cPu) (sz := 3) (T := 71) (B := V1.heap.size) R7_1.out hk)
    have R8_2 := hid (FreshA.below (cf := cIn) (sz := 1) (T := 3) (B := V1.heap.size) R7_2.out hk)
    have R8_3 := hid (FreshA.below (cf := cIn) (sz := 1) (T := 3) (B := V3.heap.size) R7_3.out hk)
    have R8_4 := hid (FreshA.below (cf := cIn) (sz := 1) (T := 3) (B := V5.heap.size) R7_4.out hk)
    have hw8 : Below w.heap.size w W8 := Below.trans hw (Below.mono hk (by have := hw.size; omega))
    clear hw hk
    have hw := hw8
    clear hw8
    have hwz := hw.size
    clear c7_0 c7_1 c7_2 c7_3 c7_4 R7_0 R7_1 R7_2 R7_3 R7_4
    clear hb
    go_wp2_with (fail)
    refine calls_named ?_
    intro V9 hV
    have hk : Below W8.heap.size W8 V9 := by rw [hV]; (repeat' (first | with_reducible exact Below.refl _ _ | with_reducible assumption | with_reducible refine Below.setCell ?_ ?_ _ | with_reducible refine Below.drew ?_ | with_reducible refine Below.alloc ?_ ?_ _ | with_reducible refine Below.trans ?_ (Below.mono (by assumption) ?_) | (dsimp only; omega) | (simp; done) | (simp; omega) | omega))
    have hkz9 := hk.size
    have c9_0 : V9.cell? ⟨tb, 0, none⟩ = some (.int .i64 l) := (hk.cell (p := ⟨tb, 0, none⟩) (by show tb < _; omega)).trans c8_0
    have c9_1 : V9.cell? ⟨tb, 1, none⟩ = some (.int .i64 u) := (hk.cell (p := ⟨tb, 1, none⟩) (by show tb < _; omega)).trans c8_1
    have c9_2 : V9.cell? ⟨tb, 2, none⟩ = some (.int .i64 v) := (hk.cell (p := ⟨tb, 2, none⟩) (by show tb < _; omega)).trans c8_2
    have c9_3 : V9.cell? ⟨tb, 3, none⟩ = some (.slice Af fs.length cf) := (hk.cell (p := ⟨tb, 3, none⟩) (by show tb < _; omega)).trans c8_3
    have c9_4 : V9.cell? ⟨tb, 4, none⟩ = some (.slice Aq ps.length cq) := (hk.cell (p := ⟨tb, 4, none⟩) (by show tb < _; omega)).trans c8_4
    have b9_0 : tb < V9.heap.size := by omega
    have R9_0 := hid (FreshA.below (cf := cIn) (sz := 1) (T := 3) (B := V1.heap.size) R8_0.out hk)
    have R9_1 := hid (FreshA.below (cf := cPu) (sz := 3) (T := 71) (B := V1.heap.size) R8_1.out hk)
    have R9_2 := hid (FreshA.below (cf := cIn) (sz := 1) (T := 3) (B := V1.heap.size) R8_2.out hk)
    have R9_3 := hid (FreshA.below (cf := cIn) (sz := 1) (T := 3) (B := V3.heap.size) R8_3.out hk)
    have R9_4 := hid (FreshA.below (cf := cIn) (sz := 1) (T := 3) (B := V5.heap.size) R8_4.out hk)
    have hw9 : Below w.heap.size w V9 := Below.trans hw (Below.mono hk (by have := hw.size; omega))
    clear hw hk
    have hw := hw9
    clear hw9
    have hwz := hw.size
    clear c8_0 c8_1 c8_2 c8_3 c8_4 R8_0 R8_1 R8_2 R8_3 R8_4
    clear hV
    refine (c_impl_IsSafePlan l u v Af fs cf Aq ps cq Ap pl cp _ R9_0.out.rds (by omega) R9_1.out.rds (by omega) R9_2.out.rds (by omega)).mono ?_
    simp only [HS.out]
    rintro e W10 ⟨rfl, hb⟩
    have hk : Below V9.heap.size V9 W10 := hb
    have hkz10 := hk.size
    have c10_0 : W10.cell? ⟨tb, 0, none⟩ = some (.int .i64 l) := (hb.cell (p := ⟨tb, 0, none⟩) (by show tb < _; omega)).trans c9_0
    have c10_1 : W10.cell? ⟨tb, 1, none⟩ = some (.int .i64 u) := (hb.cell (p := ⟨tb, 1, none⟩) (by show tb < _; omega)).trans c9_1
    have c10_2 : W10.cell? ⟨tb, 2, none⟩ = some (.int .i64 v) := (hb.cell (p := ⟨tb, 2, none⟩) (by show tb < _; omega)).trans c9_2
    have c10_3 : W10.cell? ⟨tb, 3, none⟩ = some (.slice Af fs.length cf) := (hb.cell (p := ⟨tb, 3, none⟩) (by show tb < _; omega)).trans c9_3
    have c10_4 : W10.cell? ⟨tb, 4, none⟩ = some (.slice Aq ps.length cq) := (hb.cell (p := ⟨tb, 4, none⟩) (by show tb < _; omega)).trans c9_4
    have b10_0 : tb < W10.heap.size := by omega
    have R10_0 := hid (FreshA.below (cf := cIn) (sz := 1) (T := 3) (B := V1.heap.size) R9_0.out hk)
    have R10_1 := hid (FreshA.below (cf := cPu) (sz := 3) (T := 71) (B := V1.heap.size) R9_1.out hk)
    have R10_2 := hid (FreshA.below (cf := cIn) (sz := 1) (T := 3) (B := V1.heap.size) R9_2.out hk)
    have R10_3 := hid (FreshA.below (cf := cIn) (sz := 1) (T := 3) (B := V3.heap.size) R9_3.out hk)
    have R10_4 := hid (FreshA.below (cf := cIn) (sz := 1) (T := 3) (B := V5.heap.size) R9_4.out hk)
    have hw10 : Below w.heap.size w W10 := Below.trans hw (Below.mono hk (by have := hw.size; omega))
    clear hw hk
    have hw := hw10
    clear hw10
    have hwz := hw.size
    clear c9_0 c9_1 c9_2 c9_3 c9_4 R9_0 R9_1 R9_2 R9_3 R9_4
    clear hb
    go_wp2_with (fail)
    refine calls_named ?_
    intro V11 hV
    have hk : Below W10.heap.size W10 V11 := by rw [hV]; (repeat' (first | with_reducible exact Below.refl _ _ | with_reducible assumption | with_reducible refine Below.setCell ?_ ?_ _ | with_reducible refine Below.drew ?_ | with_reducible refine Below.alloc ?_ ?_ _ | with_reducible refine Below.trans ?_ (Below.mono (by assumption) ?_) | (dsimp only; omega) | (simp; done) | (simp; omega) | omega))
    have hkz11 := hk.size
    have c11_0 : V11.cell? ⟨tb, 0, none⟩ = some (.int .i64 l) := (hk.cell (p := ⟨tb, 0, none⟩) (by show tb < _; omega)).trans c10_0
    have c11_1 : V11.cell? ⟨tb, 1, none⟩ = some (.int .i64 u) := (hk.cell (p := ⟨tb, 1, none⟩) (by show tb < _; omega)).trans c10_1
    have c11_2 : V11.cell? ⟨tb, 2, none⟩ = some (.int .i64 v) := (hk.cell (p := ⟨tb, 2, none⟩) (by show tb < _; omega)).trans c10_2
    have c11_3 : V11.cell? ⟨tb, 3, none⟩ = some (.slice Af fs.length cf) := (hk.cell (p := ⟨tb, 3, none⟩) (by show tb < _; omega)).trans c10_3
    have c11_4 : V11.cell? ⟨tb, 4, none⟩ = some (.slice Aq ps.length cq) := (hk.cell (p := ⟨tb, 4, none⟩) (by show tb < _; omega)).trans c10_4
    have b11_0 : tb < V11.heap.size := by omega
    have R11_0 := hid (FreshA.below (cf := cIn) (sz := 1) (T := 3) (B := V1.heap.size) R10_0.out hk)
    have R11_1 := hid (FreshA.below (cf := cPu) (sz := 3) (T := 71) (B := V1.heap.size) R10_1.out hk)
    have R11_2 := hid (FreshA.below (cf := cIn) (sz := 1) (T := 3) (B := V1.heap.size) R10_2.out hk)
    have R11_3 := hid (FreshA.below (cf := cIn) (sz := 1) (T := 3) (B := V3.heap.size) R10_3.out hk)
    have R11_4 := hid (FreshA.below (cf := cIn) (sz := 1) (T := 3) (B := V5.heap.size) R10_4.out hk)
    have hw11 : Below w.heap.size w V11 := Below.trans hw (Below.mono hk (by have := hw.size; omega))
    clear hw hk
    have hw := hw11
    clear hw11
    have hwz := hw.size
    clear c10_0 c10_1 c10_2 c10_3 c10_4 R10_0 R10_1 R10_2 R10_3 R10_4
    clear hV
    refine (c_impl_FirstUnsafe l u v Af fs cf Aq ps cq Ap pl cp _ R11_0.out.rds (by omega) R11_1.out.rds (by omega) R11_2.out.rds (by omega)).mono ?_
    simp only [HU.out]
    rintro e W12 ⟨rfl, hb⟩
    have hk : Below V11.heap.size V11 W12 := hb
    have hkz12 := hk.size
    have c12_0 : W12.cell? ⟨tb, 0, none⟩ = some (.int .i64 l) := (hb.cell (p := ⟨tb, 0, none⟩) (by show tb < _; omega)).trans c11_0
    have c12_1 : W12.cell? ⟨tb, 1, none⟩ = some (.int .i64 u) := (hb.cell (p := ⟨tb, 1, none⟩) (by show tb < _; omega)).trans c11_1
    have c12_2 : W12.cell? ⟨tb, 2, none⟩ = some (.int .i64 v) := (hb.cell (p := ⟨tb, 2, none⟩) (by show tb < _; omega)).trans c11_2
    have c12_3 : W12.cell? ⟨tb, 3, none⟩ = some (.slice Af fs.length cf) := (hb.cell (p := ⟨tb, 3, none⟩) (by show tb < _; omega)).trans c11_3
    have c12_4 : W12.cell? ⟨tb, 4, none⟩ = some (.slice Aq ps.length cq) := (hb.cell (p := ⟨tb, 4, none⟩) (by show tb < _; omega)).trans c11_4
    have b12_0 : tb < W12.heap.size := by omega
    have R12_0 := hid (FreshA.below (cf := cIn) (sz := 1) (T := 3) (B := V1.heap.size) R11_0.out hk)
    have R12_1 := hid (FreshA.below (cf := cPu) (sz := 3) (T := 71) (B := V1.heap.size) R11_1.out hk)
    have R12_2 := hid (FreshA.below (cf := cIn) (sz := 1) (T := 3) (B := V1.heap.size) R11_2.out hk)
    have R12_3 := hid (FreshA.below (cf := cIn) (sz := 1) (T := 3) (B := V3.heap.size) R11_3.out hk)
    have R12_4 := hid (FreshA.below (cf := cIn) (sz := 1) (T := 3) (B := V5.heap.size) R11_4.out hk)
    have hw12 : Below w.heap.size w W12 := Below.trans hw (Below.mono hk (by have := hw.size; omega))
    clear hw hk
    have hw := hw12
    clear hw12
    have hwz := hw.size
    clear c11_0 c11_1 c11_2 c11_3 c11_4 R11_0 R11_1 R11_2 R11_3 R11_4
    clear hb
    go_wp2_with (fail)
    refine calls_named ?_
    intro V13 hV
    have hk : Below W12.heap.size W12 V13 := by rw [hV]; (repeat' (first | with_reducible exact Below.refl _ _ | with_reducible assumption | with_reducible refine Below.setCell ?_ ?_ _ | with_reducible refine Below.drew ?_ | with_reducible refine Below.alloc ?_ ?_ _ | with_reducible refine Below.trans ?_ (Below.mono (by assumption) ?_) | (dsimp only; omega) | (simp; done) | (simp; omega) | omega))
    have hkz13 := hk.size
    have c13_0 : V13.cell? ⟨tb, 0, none⟩ = some (.int .i64 l) := (hk.cell (p := ⟨tb, 0, none⟩) (by show tb < _; omega)).trans c12_0
    have c13_1 : V13.cell? ⟨tb, 1, none⟩ = some (.int .i64 u) := (hk.cell (p := ⟨tb, 1, none⟩) (by show tb < _; omega)).trans c12_1
    have c13_2 : V13.cell? ⟨tb, 2, none⟩ = some (.int .i64 v) := (hk.cell (p := ⟨tb, 2, none⟩) (by show tb < _; omega)).trans c12_2
    have c13_3 : V13.cell? ⟨tb, 3, none⟩ = some (.slice Af fs.length cf) := (hk.cell (p := ⟨tb, 3, none⟩) (by show tb < _; omega)).trans c12_3
    have c13_4 : V13.cell? ⟨tb, 4, none⟩ = some (.slice Aq ps.length cq) := (hk.cell (p := ⟨tb, 4, none⟩) (by show tb < _; omega)).trans c12_4
    have b13_0 : tb < V13.heap.size := by omega
    have R13_0 := hid (FreshA.below (cf := cIn) (sz := 1) (T := 3) (B := V1.heap.size) R12_0.out hk)
    have R13_1 := hid (FreshA.below (cf := cPu) (sz := 3) (T := 71) (B := V1.heap.size) R12_1.out hk)
    have R13_2 := hid (FreshA.below (cf := cIn) (sz := 1) (T := 3) (B := V1.heap.size) R12_2.out hk)
    have R13_3 := hid (FreshA.below (cf := cIn) (sz := 1) (T := 3) (B := V3.heap.size) R12_3.out hk)
    have R13_4 := hid (FreshA.below (cf := cIn) (sz := 1) (T := 3) (B := V5.heap.size) R12_4.out hk)
    have hw13 : Below w.heap.size w V13 := Below.trans hw (Below.mono hk (by have := hw.size; omega))
    clear hw hk
    have hw := hw13
    clear hw13
    have hwz := hw.size
    clear c12_0 c12_1 c12_2 c12_3 c12_4 R12_0 R12_1 R12_2 R12_3 R12_4
    clear hV
    refine (c_spec_PumpedWater l u v Af fs cf Aq ps cq Ap pl cp _ R13_0.out.rds (by omega) R13_1.out.rds (by omega) R13_2.out.rds (by omega)).mono ?_
    simp only [HW.out]
    rintro e W14 ⟨rfl, hb⟩
    have hk : Below V13.heap.size V13 W14 := hb
    have hkz14 := hk.size
    have c14_0 : W14.cell? ⟨tb, 0, none⟩ = some (.int .i64 l) := (hb.cell (p := ⟨tb, 0, none⟩) (by show tb < _; omega)).trans c13_0
    have c14_1 : W14.cell? ⟨tb, 1, none⟩ = some (.int .i64 u) := (hb.cell (p := ⟨tb, 1, none⟩) (by show tb < _; omega)).trans c13_1
    have c14_2 : W14.cell? ⟨tb, 2, none⟩ = some (.int .i64 v) := (hb.cell (p := ⟨tb, 2, none⟩) (by show tb < _; omega)).trans c13_2
    have c14_3 : W14.cell? ⟨tb, 3, none⟩ = some (.slice Af fs.length cf) := (hb.cell (p := ⟨tb, 3, none⟩) (by show tb < _; omega)).trans c13_3
    have c14_4 : W14.cell? ⟨tb, 4, none⟩ = some (.slice Aq ps.length cq) := (hb.cell (p := ⟨tb, 4, none⟩) (by show tb < _; omega)).trans c13_4
    have b14_0 : tb < W14.heap.size := by omega
    have R14_0 := hid (FreshA.below (cf := cIn) (sz := 1) (T := 3) (B := V1.heap.size) R13_0.out hk)
    have R14_1 := hid (FreshA.below (cf := cPu) (sz := 3) (T := 71) (B := V1.heap.size) R13_1.out hk)
    have R14_2 := hid (FreshA.below (cf := cIn) (sz := 1) (T := 3) (B := V1.heap.size) R13_2.out hk)
    have R14_3 := hid (FreshA.below (cf := cIn) (sz := 1) (T := 3) (B := V3.heap.size) R13_3.out hk)
    have R14_4 := hid (FreshA.below (cf := cIn) (sz := 1) (T := 3) (B := V5.heap.size) R13_4.out hk)
    have hw14 : Below w.heap.size w W14 := Below.trans hw (Below.mono hk (by have := hw.size; omega))
    clear hw hk
    have hw := hw14
    clear hw14
    have hwz := hw.size
    clear c13_0 c13_1 c13_2 c13_3 c13_4 R13_0 R13_1 R13_2 R13_3 R13_4
    clear hb
    go_wp2_with (fail)
    refine calls_named ?_
    intro V15 hV
    have hk : Below W14.heap.size W14 V15 := by rw [hV]; (repeat' (first | with_reducible exact Below.refl _ _ | with_reducible assumption | with_reducible refine Below.setCell ?_ ?_ _ | with_reducible refine Below.drew ?_ | with_reducible refine Below.alloc ?_ ?_ _ | with_reducible refine Below.trans ?_ (Below.mono (by assumption) ?_) | (dsimp only; omega) | (simp; done) | (simp; omega) | omega))
    have hkz15 := hk.size
    have c15_0 : V15.cell? ⟨tb, 0, none⟩ = some (.int .i64 l) := (hk.cell (p := ⟨tb, 0, none⟩) (by show tb < _; omega)).trans c14_0
    have c15_1 : V15.cell? ⟨tb, 1, none⟩ = some (.int .i64 u) := (hk.cell (p := ⟨tb, 1, none⟩) (by show tb < _; omega)).trans c14_1
    have c15_2 : V15.cell? ⟨tb, 2, none⟩ = some (.int .i64 v) := (hk.cell (p := ⟨tb, 2, none⟩) (by show tb < _; omega)).trans c14_2
    have c15_3 : V15.cell? ⟨tb, 3, none⟩ = some (.slice Af fs.length cf) := (hk.cell (p := ⟨tb, 3, none⟩) (by show tb < _; omega)).trans c14_3
    have c15_4 : V15.cell? ⟨tb, 4, none⟩ = some (.slice Aq ps.length cq) := (hk.cell (p := ⟨tb, 4, none⟩) (by show tb < _; omega)).trans c14_4
    have b15_0 : tb < V15.heap.size := by omega
    have R15_0 := hid (FreshA.below (cf := cIn) (sz := 1) (T := 3) (B := V1.heap.size) R14_0.out hk)
    have R15_1 := hid (FreshA.below (cf := cPu) (sz := 3) (T := 71) (B := V1.heap.size) R14_1.out hk)
    have R15_2 := hid (FreshA.below (cf := cIn) (sz := 1) (T := 3) (B := V1.heap.size) R14_2.out hk)
    have R15_3 := hid (FreshA.below (cf := cIn) (sz := 1) (T := 3) (B := V3.heap.size) R14_3.out hk)
    have R15_4 := hid (FreshA.below (cf := cIn) (sz := 1) (T := 3) (B := V5.heap.size) R14_4.out hk)
    have hw15 : Below w.heap.size w V15 := Below.trans hw (Below.mono hk (by have := hw.size; omega))
    clear hw hk
    have hw := hw15
    clear hw15
    have hwz := hw.size
    clear c14_0 c14_1 c14_2 c14_3 c14_4 R14_0 R14_1 R14_2 R14_3 R14_4
    clear hV
    refine (c_spec_IsSafePlan l u v Af fs cf Aq ps cq Ap pl cp _ R15_0.out.rds (by omega) R15_1.out.rds (by omega) R15_2.out.rds (by omega)).mono ?_
    simp only [HS.out]
    rintro e W16 ⟨rfl, hb⟩
    have hk : Below V15.heap.size V15 W16 := hb
    have hkz16 := hk.size
    have c16_0 : W16.cell? ⟨tb, 0, none⟩ = some (.int .i64 l) := (hb.cell (p := ⟨tb, 0, none⟩) (by show tb < _; omega)).trans c15_0
    have c16_1 : W16.cell? ⟨tb, 1, none⟩ = some (.int .i64 u) := (hb.cell (p := ⟨tb, 1, none⟩) (by show tb < _; omega)).trans c15_1
    have c16_2 : W16.cell? ⟨tb, 2, none⟩ = some (.int .i64 v) := (hb.cell (p := ⟨tb, 2, none⟩) (by show tb < _; omega)).trans c15_2
    have c16_3 : W16.cell? ⟨tb, 3, none⟩ = some (.slice Af fs.length cf) := (hb.cell (p := ⟨tb, 3, none⟩) (by show tb < _; omega)).trans c15_3
    have c16_4 : W16.cell? ⟨tb, 4, none⟩ = some (.slice Aq ps.length cq) := (hb.cell (p := ⟨tb, 4, none⟩) (by show tb < _; omega)).trans c15_4
    have b16_0 : tb < W16.heap.size := by omega
    have R16_0 := hid (FreshA.below (cf := cIn) (sz := 1) (T := 3) (B := V1.heap.size) R15_0.out hk)
    have R16_1 := hid (FreshA.below (cf := cPu) (sz := 3) (T := 71) (B := V1.heap.size) R15_1.out hk)
    have R16_2 := hid (FreshA.below (cf := cIn) (sz := 1) (T := 3) (B := V1.heap.size) R15_2.out hk)
    have R16_3 := hid (FreshA.below (cf := cIn) (sz := 1) (T := 3) (B := V3.heap.size) R15_3.out hk)
    have R16_4 := hid (FreshA.below (cf := cIn) (sz := 1) (T := 3) (B := V5.heap.size) R15_4.out hk)
    have hw16 : Below w.heap.size w W16 := Below.trans hw (Below.mono hk (by have := hw.size; omega))
    clear hw hk
    have hw := hw16
    clear hw16
    have hwz := hw.size
    clear c15_0 c15_1 c15_2 c15_3 c15_4 R15_0 R15_1 R15_2 R15_3 R15_4
    clear hb
    go_wp2_with (fail)
    refine calls_named ?_
    intro V17 hV
    have hk : Below W16.heap.size W16 V17 := by rw [hV]; (repeat' (first | with_reducible exact Below.refl _ _ | with_reducible assumption | with_reducible refine Below.setCell ?_ ?_ _ | with_reducible refine Below.drew ?_ | with_reducible refine Below.alloc ?_ ?_ _ | with_reducible refine Below.trans ?_ (Below.mono (by assumption) ?_) | (dsimp only; omega) | (simp; done) | (simp; omega) | omega))
    have hkz17 := hk.size
    have c17_0 : V17.cell? ⟨tb, 0, none⟩ = some (.int .i64 l) := (hk.cell (p := ⟨tb, 0, none⟩) (by show tb < _; omega)).trans c16_0
    have c17_1 : V17.cell? ⟨tb, 1, none⟩ = some (.int .i64 u) := (hk.cell (p := ⟨tb, 1, none⟩) (by show tb < _; omega)).trans c16_1
    have c17_2 : V17.cell? ⟨tb, 2, none⟩ = some (.int .i64 v) := (hk.cell (p := ⟨tb, 2, none⟩) (by show tb < _; omega)).trans c16_2
    have c17_3 : V17.cell? ⟨tb, 3, none⟩ = some (.slice Af fs.length cf) := (hk.cell (p := ⟨tb, 3, none⟩) (by show tb < _; omega)).trans c16_3
    have c17_4 : V17.cell? ⟨tb, 4, none⟩ = some (.slice Aq ps.length cq) := (hk.cell (p := ⟨tb, 4, none⟩) (by show tb < _; omega)).trans c16_4
    have b17_0 : tb < V17.heap.size := by omega
    have R17_0 := hid (FreshA.below (cf := cIn) (sz := 1) (T := 3) (B := V1.heap.size) R16_0.out hk)
    have R17_1 := hid (FreshA.below (cf := cPu) (sz := 3) (T := 71) (B := V1.heap.size) R16_1.out hk)
    have R17_2 := hid (FreshA.below (cf := cIn) (sz := 1) (T := 3) (B := V1.heap.size) R16_2.out hk)
    have R17_3 := hid (FreshA.below (cf := cIn) (sz := 1) (T := 3) (B := V3.heap.size) R16_3.out hk)
    have R17_4 := hid (FreshA.below (cf := cIn) (sz := 1) (T := 3) (B := V5.heap.size) R16_4.out hk)
    have hw17 : Below w.heap.size w V17 := Below.trans hw (Below.mono hk (by have := hw.size; omega))
    clear hw hk
    have hw := hw17
    clear hw17
    have hwz := hw.size
    clear c16_0 c16_1 c16_2 c16_3 c16_4 R16_0 R16_1 R16_2 R16_3 R16_4
    clear hV
    refine (c_spec_FirstUnsafe l u v Af fs cf Aq ps cq Ap pl cp _ R17_0.out.rds (by omega) R17_1.out.rds (by omega) R17_2.out.rds (by omega)).mono ?_
    simp only [HU.out]
    rintro e W18 ⟨rfl, hb⟩
    have hk : Below V17.heap.size V17 W18 := hb
    have hkz18 := hk.size
    have c18_0 : W18.cell? ⟨tb, 0, none⟩ = some (.int .i64 l) := (hb.cell (p := ⟨tb, 0, none⟩) (by show tb < _; omega)).trans c17_0
    have c18_1 : W18.cell? ⟨tb, 1, none⟩ = some (.int .i64 u) := (hb.cell (p := ⟨tb, 1, none⟩) (by show tb < _; omega)).trans c17_1
    have c18_2 : W18.cell? ⟨tb, 2, none⟩ = some (.int .i64 v) := (hb.cell (p := ⟨tb, 2, none⟩) (by show tb < _; omega)).trans c17_2
    have c18_3 : W18.cell? ⟨tb, 3, none⟩ = some (.slice Af fs.length cf) := (hb.cell (p := ⟨tb, 3, none⟩) (by show tb < _; omega)).trans c17_3
    have c18_4 : W18.cell? ⟨tb, 4, none⟩ = some (.slice Aq ps.length cq) := (hb.cell (p := ⟨tb, 4, none⟩) (by show tb < _; omega)).trans c17_4
    have b18_0 : tb < W18.heap.size := by omega
    have R18_0 := hid (FreshA.below (cf := cIn) (sz := 1) (T := 3) (B := V1.heap.size) R17_0.out hk)
    have R18_1 := hid (FreshA.below (cf := cPu) (sz := 3) (T := 71) (B := V1.heap.size) R17_1.out hk)
    have R18_2 := hid (FreshA.below (cf := cIn) (sz := 1) (T := 3) (B := V1.heap.size) R17_2.out hk)
    have R18_3 := hid (FreshA.below (cf := cIn) (sz := 1) (T := 3) (B := V3.heap.size) R17_3.out hk)
    have R18_4 := hid (FreshA.below (cf := cIn) (sz := 1) (T := 3) (B := V5.heap.size) R17_4.out hk)
    have hw18 : Below w.heap.size w W18 := Below.trans hw (Below.mono hk (by have := hw.size; omega))
    clear hw hk
    have hw := hw18
    clear hw18
    have hwz := hw.size
    clear c17_0 c17_1 c17_2 c17_3 c17_4 R17_0 R17_1 R17_2 R17_3 R17_4
    clear hb
    clear R18_2
    clear R18_4
    go_wp2_with (fail)
    refine wp_named ?_
    intro V19 hV
    have hk : Below W18.heap.size W18 V19 := by rw [hV]; (repeat' (first | with_reducible exact Below.refl _ _ | with_reducible assumption | with_reducible refine Below.setCell ?_ ?_ _ | with_reducible refine Below.drew ?_ | with_reducible refine Below.alloc ?_ ?_ _ | with_reducible refine Below.trans ?_ (Below.mono (by assumption) ?_) | (dsimp only; omega) | (simp; done) | (simp; omega) | omega))
    have hkz19 := hk.size
    have c19_0 : V19.cell? ⟨tb, 0, none⟩ = some (.int .i64 l) := by rw [hV]; first | exact c18_0 | (first | (simp [go_sem, ↓IntWalk.iteOmega, *]; done) | (simp [go_sem, ↓IntWalk.iteOmega, *]; intros; omega))
    have c19_1 : V19.cell? ⟨tb, 1, none⟩ = some (.int .i64 u) := by rw [hV]; first | exact c18_1 | (first | (simp [go_sem, ↓IntWalk.iteOmega, *]; done) | (simp [go_sem, ↓IntWalk.iteOmega, *]; intros; omega))
    have c19_2 : V19.cell? ⟨tb, 2, none⟩ = some (.int .i64 v) := by rw [hV]; first | exact c18_2 | (first | (simp [go_sem, ↓IntWalk.iteOmega, *]; done) | (simp [go_sem, ↓IntWalk.iteOmega, *]; intros; omega))
    have c19_3 : V19.cell? ⟨tb, 3, none⟩ = some (.slice Af fs.length cf) := by rw [hV]; first | exact c18_3 | (first | (simp [go_sem, ↓IntWalk.iteOmega, *]; done) | (simp [go_sem, ↓IntWalk.iteOmega, *]; intros; omega))
    have c19_4 : V19.cell? ⟨tb, 4, none⟩ = some (.slice Aq ps.length cq) := by rw [hV]; first | exact c18_4 | (first | (simp [go_sem, ↓IntWalk.iteOmega, *]; done) | (simp [go_sem, ↓IntWalk.iteOmega, *]; intros; omega))
    have b19_0 : tb < V19.heap.size := by omega
    have R19_0 := hid (FreshA.below (cf := cIn) (sz := 1) (T := 3) (B := V1.heap.size) R18_0.out hk)
    have R19_1 := hid (FreshA.below (cf := cPu) (sz := 3) (T := 71) (B := V1.heap.size) R18_1.out hk)
    have R19_2 := hid (FreshA.below (cf := cIn) (sz := 1) (T := 3) (B := V3.heap.size) R18_3.out hk)
    have hw19 : Below w.heap.size w V19 := Below.trans hw (Below.mono hk (by have := hw.size; omega))
    clear hw hk
    have hw := hw19
    clear hw19
    have hwz := hw.size
    clear c18_0 c18_1 c18_2 c18_3 c18_4 R18_0 R18_1 R18_3
    clear hV
    refine wp_region_w (n := 18) [] [] (FS12_20 lv.length w) rfl (by kernel_rfl) (fun _ _ d _ _ h => by cases d <;> exact h) ?_ ?_ ?_ ?_ ?_ ?_
    · intro iq
      match iq with
      | 0 | 1 | 2 | 3 | 4 | 5 | 6 | 7 | 8 | 9 | 10 | 11 | 12 | 13 | 14 | 15 | 16 | 17 => exact Stable.const _
      | n + 18 => exact Stable.const _
    · intro iq hi
      exact absurd hi (by simp)
    · intro iq hi
      exact absurd hi (by simp)
    · intro iq o hi hl ho vals w1 hb1 hf
      exact absurd hl (by simp)
    · intro iq o hi hl ho vals w1 hb1 hf
      match iq, hi with
      | 0, _ =>
        injection ho with ho
        subst ho
        clear hl
        simp only [fillA, List.take, List.drop, put_none, Act.put, List.setIfInBounds_toArray, List.set_cons_zero, List.set_cons_succ, Nat.reduceAdd]
        clear hf
        go_wp2_with (fail)
        exact RQ.mk rfl ⟨(by first | rfl | (simp [FS12_20]; done) | (simp [FS12_20, *]; done) | (simp [FS12_20, gotV]; done) | (simp [FS12_20, gotV]; omega)), fun h => absurd h (by decide)⟩ (Below.refl _ _)
      | 1, _ =>
        injection ho with ho
        subst ho
        clear hl
        simp only [fillA, List.take, List.drop, put_none, Act.put, List.setIfInBounds_toArray, List.set_cons_zero, List.set_cons_succ, Nat.reduceAdd]
        have f0 := hf 0 (by decide) (by kernel_rfl)
        generalize vals 0 = v0 at *
        subst f0
        clear hf
        go_wp2_with (fail)
        exact RQ.mk rfl ⟨(by first | rfl | (simp [FS12_20]; done) | (simp [FS12_20, *]; done) | (simp [FS12_20, gotV]; done) | (simp [FS12_20, gotV]; omega)), fun h => absurd h (by decide)⟩ (Below.refl _ _)
      | 2, _ =>
        injection ho with ho
        subst ho
        clear hl
        simp only [fillA, List.take, List.drop, put_none, Act.put, List.setIfInBounds_toArray, List.set_cons_zero, List.set_cons_succ, Nat.reduceAdd]
        have f1 := hf 1 (by decide) (by kernel_rfl)
        generalize vals 1 = v1 at *
        subst f1
        clear hf
        go_wp2_with (fail)
        exact RQ.mk rfl ⟨(by first | rfl | (simp [FS12_20]; done) | (simp [FS12_20, *]; done) | (simp [FS12_20, gotV]; done) | (simp [FS12_20, gotV]; omega)), fun h => absurd h (by decide)⟩ (Below.refl _ _)
      | 3, _ =>
        injection ho with ho
        subst ho
        clear hl
        simp only [fillA, List.take, List.drop, put_none, Act.put, List.setIfInBounds_toArray, List.set_cons_zero, List.set_cons_succ, Nat.reduceAdd]
        have f1 := hf 1 (by decide) (by kernel_rfl)
        generalize vals 1 = v1 at *
        subst f1
        clear hf
        go_wp2_with (fail)
        exact RQ.mk rfl ⟨(by first | rfl | (simp [FS12_20]; done) | (simp [FS12_20, *]; done) | (simp [FS12_20, gotV]; done) | (simp [FS12_20, gotV]; omega)), fun h => absurd h (by decide)⟩ (Below.refl _ _)
      | 4, _ =>
        injection ho with ho
        subst ho
        clear hl
        simp only [fillA, List.take, List.drop, put_none, Act.put, List.setIfInBounds_toArray, List.set_cons_zero, List.set_cons_succ, Nat.reduceAdd]
        have f3 := hf 3 (by decide) (by kernel_rfl)
        generalize vals 3 = v3 at *
        subst f3
        have f1 := hf 1 (by decide) (by kernel_rfl)
        generalize vals 1 = v1 at *
        subst f1
        clear hf
        go_wp2_with (fail)
        exact RQ.mk rfl ⟨(by first | rfl | (simp [FS12_20]; done) | (simp [FS12_20, *]; done) | (simp [FS12_20, gotV]; done) | (simp [FS12_20, gotV]; omega)), fun h => absurd h (by decide)⟩ (Below.refl _ _)
      | 5, _ =>
        injection ho with ho
        subst ho
        clear hl
        simp only [fillA, List.take, List.drop, put_none, Act.put, List.setIfInBounds_toArray, List.set_cons_zero, List.set_cons_succ, Nat.reduceAdd]
        have f4 := hf 4 (by decide) (by kernel_rfl)
        generalize vals 4 = v4 at *
        subst f4
        have f1 := hf 1 (by decide) (by kernel_rfl)
        generalize vals 1 = v1 at *
        subst f1
        clear hf
        go_wp2_with (fail)
        exact RQ.mk rfl ⟨(by first | rfl | (simp [FS12_20]; done) | (simp [FS12_20, *]; done) | (simp [FS12_20, gotV]; done) | (simp [FS12_20, gotV]; omega)), fun h => absurd h (by decide)⟩ (Below.refl _ _)
      | 6, _ =>
        injection ho with ho
        subst ho
        clear hl
        simp only [fillA, List.take, List.drop, put_none, Act.put, List.setIfInBounds_toArray, List.set_cons_zero, List.set_cons_succ, Nat.reduceAdd]
        have f2 := hf 2 (by decide) (by kernel_rfl)
        generalize vals 2 = v2 at *
        subst f2
        have f5 := hf 5 (by decide) (by kernel_rfl)
        generalize vals 5 = v5 at *
        subst f5
        have f1 := hf 1 (by decide) (by kernel_rfl)
        generalize vals 1 = v1 at *
        subst f1
        clear hf
        go_wp2_with (fail)
        exact RQ.mk rfl ⟨(by first | rfl | (simp [FS12_20]; done) | (simp [FS12_20, *]; done) | (simp [FS12_20, gotV]; done) | (simp [FS12_20, gotV]; omega)), fun h => absurd h (by decide)⟩ (Below.refl _ _)
      | 7, _ =>
        injection ho with ho
        subst ho
        clear hl
        simp only [fillA, List.take, List.drop, put_none, Act.put, List.setIfInBounds_toArray, List.set_cons_zero, List.set_cons_succ, Nat.reduceAdd]
        have f6 := hf 6 (by decide) (by kernel_rfl)
        generalize vals 6 = v6 at *
        subst f6
        have f1 := hf 1 (by decide) (by kernel_rfl)
        generalize vals 1 = v1 at *
        subst f1
        clear hf
        go_wp2_with (fail)
        exact RQ.mk rfl ⟨(by first | rfl | (simp [FS12_20]; done) | (simp [FS12_20, *]; done) | (simp [FS12_20, gotV]; done) | (simp [FS12_20, gotV]; omega)), fun h => absurd h (by decide)⟩ (Below.refl _ _)
      | 8, _ =>
        injection ho with ho
        subst ho
        clear hl
        simp only [fillA, List.take, List.drop, put_none, Act.put, List.setIfInBounds_toArray, List.set_cons_zero, List.set_cons_succ, Nat.reduceAdd]
        have f1 := hf 1 (by decide) (by kernel_rfl)
        generalize vals 1 = v1 at *
        subst f1
        clear hf
        go_wp2_with (fail)
        exact RQ.mk rfl ⟨(by first | rfl | (simp [FS12_20]; done) | (simp [FS12_20, *]; done) | (simp [FS12_20, gotV]; done) | (simp [FS12_20, gotV]; omega)), fun h => absurd h (by decide)⟩ (Below.refl _ _)
      | 9, _ =>
        injection ho with ho
        subst ho
        clear hl
        simp only [fillA, List.take, List.drop, put_none, Act.put, List.setIfInBounds_toArray, List.set_cons_zero, List.set_cons_succ, Nat.reduceAdd]
        have f8 := hf 8 (by decide) (by kernel_rfl)
        generalize vals 8 = v8 at *
        subst f8
        have f1 := hf 1 (by decide) (by kernel_rfl)
        generalize vals 1 = v1 at *
        subst f1
        clear hf
        go_wp2_with (fail)
        exact RQ.mk rfl ⟨(by first | rfl | (simp [FS12_20]; done) | (simp [FS12_20, *]; done) | (simp [FS12_20, gotV]; done) | (simp [FS12_20, gotV]; omega)), fun h => absurd h (by decide)⟩ (Below.refl _ _)
      | 10, _ =>
        injection ho with ho
        subst ho
        clear hl
        simp only [fillA, List.take, List.drop, put_none, Act.put, List.setIfInBounds_toArray, List.set_cons_zero, List.set_cons_succ, Nat.reduceAdd]
        have f1 := hf 1 (by decide) (by kernel_rfl)
        generalize vals 1 = v1 at *
        subst f1
        clear hf
        go_wp2_with (fail)
        exact RQ.mk rfl ⟨(by first | rfl | (simp [FS12_20]; done) | (simp [FS12_20, *]; done) | (simp [FS12_20, gotV]; done) | (simp [FS12_20, gotV]; omega)), fun h => absurd h (by decide)⟩ (Below.refl _ _)
      | 11, _ =>
        injection ho with ho
        subst ho
        clear hl
        simp only [fillA, List.take, List.drop, put_none, Act.put, List.setIfInBounds_toArray, List.set_cons_zero, List.set_cons_succ, Nat.reduceAdd]
        have f10 := hf 10 (by decide) (by kernel_rfl)
        generalize vals 10 = v10 at *
        subst f10
        have f1 := hf 1 (by decide) (by kernel_rfl)
        generalize vals 1 = v1 at *
        subst f1
        clear hf
        go_wp2_with (fail)
        exact RQ.mk rfl ⟨(by first | rfl | (simp [FS12_20]; done) | (simp [FS12_20, *]; done) | (simp [FS12_20, gotV]; done) | (simp [FS12_20, gotV]; omega)), fun h => absurd h (by decide)⟩ (Below.refl _ _)
      | 12, _ =>
        injection ho with ho
        subst ho
        clear hl
        simp only [fillA, List.take, List.drop, put_none, Act.put, List.setIfInBounds_toArray, List.set_cons_zero, List.set_cons_succ, Nat.reduceAdd]
        have f11 := hf 11 (by decide) (by kernel_rfl)
        generalize vals 11 = v11 at *
        subst f11
        have f1 := hf 1 (by decide) (by kernel_rfl)
        generalize vals 1 = v1 at *
        subst f1
        clear hf
        go_wp2_with (fail)
        exact RQ.mk rfl ⟨(by first | rfl | (simp [FS12_20]; done) | (simp [FS12_20, *]; done) | (simp [FS12_20, gotV]; done) | (simp [FS12_20, gotV]; omega)), fun h => absurd h (by decide)⟩ (Below.refl _ _)
      | 13, _ =>
        injection ho with ho
        subst ho
        clear hl
        simp only [fillA, List.take, List.drop, put_none, Act.put, List.setIfInBounds_toArray, List.set_cons_zero, List.set_cons_succ, Nat.reduceAdd]
        have f9 := hf 9 (by decide) (by kernel_rfl)
        generalize vals 9 = v9 at *
        subst f9
        have f12 := hf 12 (by decide) (by kernel_rfl)
        generalize vals 12 = v12 at *
        subst f12
        have f1 := hf 1 (by decide) (by kernel_rfl)
        generalize vals 1 = v1 at *
        subst f1
        clear hf
        go_wp2_with (fail)
        exact RQ.mk rfl ⟨(by first | rfl | (simp [FS12_20]; done) | (simp [FS12_20, *]; done) | (simp [FS12_20, gotV]; done) | (simp [FS12_20, gotV]; omega)), fun h => absurd h (by decide)⟩ (Below.refl _ _)
      | 14, _ =>
        injection ho with ho
        subst ho
        clear hl
        simp only [fillA, List.take, List.drop, put_none, Act.put, List.setIfInBounds_toArray, List.set_cons_zero, List.set_cons_succ, Nat.reduceAdd]
        have f1 := hf 1 (by decide) (by kernel_rfl)
        generalize vals 1 = v1 at *
        subst f1
        clear hf
        go_wp2_with (fail)
        exact RQ.mk rfl ⟨(by first | rfl | (simp [FS12_20]; done) | (simp [FS12_20, *]; done) | (simp [FS12_20, gotV]; done) | (simp [FS12_20, gotV]; omega)), fun h => absurd h (by decide)⟩ (Below.refl _ _)
      | 15, _ =>
        injection ho with ho
        subst ho
        clear hl
        simp only [fillA, List.take, List.drop, put_none, Act.put, List.setIfInBounds_toArray, List.set_cons_zero, List.set_cons_succ, Nat.reduceAdd]
        have f13 := hf 13 (by decide) (by kernel_rfl)
        generalize vals 13 = v13 at *
        subst f13
        have f14 := hf 14 (by decide) (by kernel_rfl)
        generalize vals 14 = v14 at *
        subst f14
        have f1 := hf 1 (by decide) (by kernel_rfl)
        generalize vals 1 = v1 at *
        subst f1
        clear hf
        go_wp2_with (fail)
        exact RQ.mk rfl ⟨(by first | rfl | (simp [FS12_20]; done) | (simp [FS12_20, *]; done) | (simp [FS12_20, gotV]; done) | (simp [FS12_20, gotV]; omega)), fun h => absurd h (by decide)⟩ (Below.refl _ _)
      | 16, _ =>
        injection ho with ho
        subst ho
        clear hl
        simp only [fillA, List.take, List.drop, put_none, Act.put, List.setIfInBounds_toArray, List.set_cons_zero, List.set_cons_succ, Nat.reduceAdd]
        have f7 := hf 7 (by decide) (by kernel_rfl)
        generalize vals 7 = v7 at *
        subst f7
        have f15 := hf 15 (by decide) (by kernel_rfl)
        generalize vals 15 = v15 at *
        subst f15
        have f1 := hf 1 (by decide) (by kernel_rfl)
        generalize vals 1 = v1 at *
        subst f1
        clear hf
        go_wp2_with (fail)
        exact RQ.mk rfl ⟨(by first | rfl | (simp [FS12_20]; done) | (simp [FS12_20, *]; done) | (simp [FS12_20, gotV]; done) | (simp [FS12_20, gotV]; omega)), fun h => absurd h (by decide)⟩ (Below.refl _ _)
      | 17, _ =>
        injection ho with ho
        subst ho
        clear hl
        simp only [fillA, List.take, List.drop, put_none, Act.put, List.setIfInBounds_toArray, List.set_cons_zero, List.set_cons_succ, Nat.reduceAdd]
        have f1 := hf 1 (by decide) (by kernel_rfl)
        generalize vals 1 = v1 at *
        subst f1
        have f16 := hf 16 (by decide) (by kernel_rfl)
        generalize vals 16 = v16 at *
        subst f16
        clear hf
        go_wp2_with (fail)
        exact RQ.mk rfl ⟨(by first | rfl | (simp [FS12_20]; done) | (simp [FS12_20, *]; done) | (simp [FS12_20, gotV]; done) | (simp [FS12_20, gotV]; omega)), fun h => absurd h (by decide)⟩ (Below.refl _ _)
      | m + 18, h => exact absurd h (by omega)
    · intro vals Z19q hb1 hf hd
      simp only [fillA, List.take, List.drop, put_none, Act.put, List.setIfInBounds_toArray, List.set_cons_zero, List.set_cons_succ, Nat.reduceAdd]
      clear hd
      have f0 := hf 0 (by decide)
      generalize vals 0 = v0 at *
      subst f0
      have f1 := hf 1 (by decide)
      generalize vals 1 = v1 at *
      subst f1
      have f2 := hf 2 (by decide)
      generalize vals 2 = v2 at *
      subst f2
      have f3 := hf 3 (by decide)
      generalize vals 3 = v3 at *
      subst f3
      have f4 := hf 4 (by decide)
      generalize vals 4 = v4 at *
      subst f4
      have f5 := hf 5 (by decide)
      generalize vals 5 = v5 at *
      subst f5
      have f6 := hf 6 (by decide)
      generalize vals 6 = v6 at *
      subst f6
      have f7 := hf 7 (by decide)
      generalize vals 7 = v7 at *
      subst f7
      have f8 := hf 8 (by decide)
      generalize vals 8 = v8 at *
      subst f8
      have f9 := hf 9 (by decide)
      generalize vals 9 = v9 at *
      subst f9
      have f10 := hf 10 (by decide)
      generalize vals 10 = v10 at *
      subst f10
      have f11 := hf 11 (by decide)
      generalize vals 11 = v11 at *
      subst f11
      have f12 := hf 12 (by decide)
      generalize vals 12 = v12 at *
      subst f12
      have f13 := hf 13 (by decide)
      generalize vals 13 = v13 at *
      subst f13
      have f14 := hf 14 (by decide)
      generalize vals 14 = v14 at *
      subst f14
      have f15 := hf 15 (by decide)
      generalize vals 15 = v15 at *
      subst f15
      have f16 := hf 16 (by decide)
      generalize vals 16 = v16 at *
      subst f16
      have f17 := hf 17 (by decide)
      generalize vals 17 = v17 at *
      subst f17
      clear hf
      have hc1 := cellOf hb1
      have hf1 := frozOf hb1
      have hz1 := sizeOf hb1
      try simp at hz1
      clear hc1 hf1
      have hk : Below V19.heap.size V19 Z19q := hb1
      have hkz20 := hk.size
      have c20_0 : Z19q.cell? ⟨tb, 0, none⟩ = some (.int .i64 l) := (hb1.cell (p := ⟨tb, 0, none⟩) (by show tb < _; omega)).trans c19_0
      have c20_1 : Z19q.cell? ⟨tb, 1, none⟩ = some (.int .i64 u) := (hb1.cell (p := ⟨tb, 1, none⟩) (by show tb < _; omega)).trans c19_1
      have c20_2 : Z19q.cell? ⟨tb, 2, none⟩ = some (.int .i64 v) := (hb1.cell (p := ⟨tb, 2, none⟩) (by show tb < _; omega)).trans c19_2
      have c20_3 : Z19q.cell? ⟨tb, 3, none⟩ = some (.slice Af fs.length cf) := (hb1.cell (p := ⟨tb, 3, none⟩) (by show tb < _; omega)).trans c19_3
      have c20_4 : Z19q.cell? ⟨tb, 4, none⟩ = some (.slice Aq ps.length cq) := (hb1.cell (p := ⟨tb, 4, none⟩) (by show tb < _; omega)).trans c19_4
      have b20_0 : tb < Z19q.heap.size := by omega
      have R20_0 := hid (FreshA.below (cf := cIn) (sz := 1) (T := 3) (B := V1.heap.size) R19_0.out hk)
      have R20_1 := hid (FreshA.below (cf := cPu) (sz := 3) (T := 71) (B := V1.heap.size) R19_1.out hk)
      have R20_2 := hid (FreshA.below (cf := cIn) (sz := 1) (T := 3) (B := V3.heap.size) R19_2.out hk)
      have hw20 : Below w.heap.size w Z19q := Below.trans hw (Below.mono hk (by have := hw.size; omega))
      clear hw hk
      have hw := hw20
      clear hw20
      have hwz := hw.size
      clear c19_0 c19_1 c19_2 c19_3 c19_4 R19_0 R19_1 R19_2
      clear hb1
      go_wp2_with (fail)
      refine wp_named ?_
      intro V21 hV
      have hk : Below Z19q.heap.size Z19q V21 := by rw [hV]; (repeat' (first | with_reducible exact Below.refl _ _ | with_reducible assumption | with_reducible refine Below.setCell ?_ ?_ _ | with_reducible refine Below.drew ?_ | with_reducible refine Below.alloc ?_ ?_ _ | with_reducible refine Below.trans ?_ (Below.mono (by assumption) ?_) | (dsimp only; omega) | (simp; done) | (simp; omega) | omega))
      have hkz21 := hk.size
      have c21_0 : V21.cell? ⟨tb, 0, none⟩ = some (.int .i64 l) := by rw [hV]; first | exact c20_0 | (first | (simp [go_sem, ↓IntWalk.iteOmega, *]; done) | (simp [go_sem, ↓IntWalk.iteOmega, *]; intros; omega))
      have c21_1 : V21.cell? ⟨tb, 1, none⟩ = some (.int .i64 u) := by rw [hV]; first | exact c20_1 | (first | (simp [go_sem, ↓IntWalk.iteOmega, *]; done) | (simp [go_sem, ↓IntWalk.iteOmega, *]; intros; omega))
      have c21_2 : V21.cell? ⟨tb, 2, none⟩ = some (.int .i64 v) := by rw [hV]; first | exact c20_2 | (first | (simp [go_sem, ↓IntWalk.iteOmega, *]; done) | (simp [go_sem, ↓IntWalk.iteOmega, *]; intros; omega))
      have c21_3 : V21.cell? ⟨tb, 3, none⟩ = some (.slice Af fs.length cf) := by rw [hV]; first | exact c20_3 | (first | (simp [go_sem, ↓IntWalk.iteOmega, *]; done) | (simp [go_sem, ↓IntWalk.iteOmega, *]; intros; omega))
      have c21_4 : V21.cell? ⟨tb, 4, none⟩ = some (.slice Aq ps.length cq) := by rw [hV]; first | exact c20_4 | (first | (simp [go_sem, ↓IntWalk.iteOmega, *]; done) | (simp [go_sem, ↓IntWalk.iteOmega, *]; intros; omega))
      have b21_0 : tb < V21.heap.size := by omega
      have R21_0 := hid (FreshA.below (cf := cIn) (sz := 1) (T := 3) (B := V1.heap.size) R20_0.out hk)
      have R21_1 := hid (FreshA.below (cf := cPu) (sz := 3) (T := 71) (B := V1.heap.size) R20_1.out hk)
      have R21_2 := hid (FreshA.below (cf := cIn) (sz := 1) (T := 3) (B := V3.heap.size) R20_2.out hk)
      have hw21 : Below w.heap.size w V21 := Below.trans hw (Below.mono hk (by have := hw.size; omega))
      clear hw hk
      have hw := hw21
      clear hw21
      have hwz := hw.size
      clear c20_0 c20_1 c20_2 c20_3 c20_4 R20_0 R20_1 R20_2
      clear hV
      refine wp_region_w (n := 19) [] [] (FS12_22 lv.length w) rfl (by kernel_rfl) (fun _ _ d _ _ h => by cases d <;> exact h) ?_ ?_ ?_ ?_ ?_ ?_
      · intro iq
        match iq with
        | 0 | 1 | 2 | 3 | 4 | 5 | 6 | 7 | 8 | 9 | 10 | 11 | 12 | 13 | 14 | 15 | 16 | 17 | 18 => exact Stable.const _
        | n + 19 => exact Stable.const _
      · intro iq hi
        exact absurd hi (by simp)
      · intro iq hi
        exact absurd hi (by simp)
      · intro iq o hi hl ho vals w1 hb1 hf
        exact absurd hl (by simp)
      · intro iq o hi hl ho vals w1 hb1 hf
        match iq, hi with
        | 0, _ =>
          injection ho with ho
          subst ho
          clear hl
          simp only [fillA, List.take, List.drop, put_none, Act.put, List.setIfInBounds_toArray, List.set_cons_zero, List.set_cons_succ, Nat.reduceAdd]
          clear hf
          go_wp2_with (fail)
          exact RQ.mk rfl ⟨(by first | rfl | (simp [FS12_22]; done) | (simp [FS12_22, *]; done) | (simp [FS12_22, gotV]; done) | (simp [FS12_22, gotV]; omega)), fun h => absurd h (by decide)⟩ (Below.refl _ _)
        | 1, _ =>
          injection ho with ho
          subst ho
          clear hl
          simp only [fillA, List.take, List.drop, put_none, Act.put, List.setIfInBounds_toArray, List.set_cons_zero, List.set_cons_succ, Nat.reduceAdd]
          have f0 := hf 0 (by decide) (by kernel_rfl)
          generalize vals 0 = v0 at *
          subst f0
          clear hf
          go_wp2_with (fail)
          exact RQ.mk rfl ⟨(by first | rfl | (simp [FS12_22]; done) | (simp [FS12_22, *]; done) | (simp [FS12_22, gotV]; done) | (simp [FS12_22, gotV]; omega)), fun h => absurd h (by decide)⟩ (Below.refl _ _)
        | 2, _ =>
          injection ho with ho
          subst ho
          clear hl
          simp only [fillA, List.take, List.drop, put_none, Act.put, List.setIfInBounds_toArray, List.set_cons_zero, List.set_cons_succ, Nat.reduceAdd]
          have f1 := hf 1 (by decide) (by kernel_rfl)
          generalize vals 1 = v1 at *
          subst f1
          clear hf
          go_wp2_with (fail)
          exact RQ.mk rfl ⟨(by first | rfl | (simp [FS12_22]; done) | (simp [FS12_22, *]; done) | (simp [FS12_22, gotV]; done) | (simp [FS12_22, gotV]; omega)), fun h => absurd h (by decide)⟩ (Below.refl _ _)
        | 3, _ =>
          injection ho with ho
          subst ho
          clear hl
          simp only [fillA, List.take, List.drop, put_none, Act.put, List.setIfInBounds_toArray, List.set_cons_zero, List.set_cons_succ, Nat.reduceAdd]
          have f1 := hf 1 (by decide) (by kernel_rfl)
          generalize vals 1 = v1 at *
          subst f1
          clear hf
          go_wp2_with (fail)
          exact RQ.mk rfl ⟨(by first | rfl | (simp [FS12_22]; done) | (simp [FS12_22, *]; done) | (simp [FS12_22, gotV]; done) | (simp [FS12_22, gotV]; omega)), fun h => absurd h (by decide)⟩ (Below.refl _ _)
        | 4, _ =>
          injection ho with ho
          subst ho
          clear hl
          simp only [fillA, List.take, List.drop, put_none, Act.put, List.setIfInBounds_toArray, List.set_cons_zero, List.set_cons_succ, Nat.reduceAdd]
          have f2 := hf 2 (by decide) (by kernel_rfl)
          generalize vals 2 = v2 at *
          subst f2
          have f3 := hf 3 (by decide) (by kernel_rfl)
          generalize vals 3 = v3 at *
          subst f3
          have f1 := hf 1 (by decide) (by kernel_rfl)
          generalize vals 1 = v1 at *
          subst f1
          clear hf
          go_wp2_with (fail)
          exact RQ.mk rfl ⟨(by first | rfl | (simp [FS12_22]; done) | (simp [FS12_22, *]; done) | (simp [FS12_22, gotV]; done) | (simp [FS12_22, gotV]; omega)), fun h => absurd h (by decide)⟩ (Below.refl _ _)
        | 5, _ =>
          injection ho with ho
          subst ho
          clear hl
          simp only [fillA, List.take, List.drop, put_none, Act.put, List.setIfInBounds_toArray, List.set_cons_zero, List.set_cons_succ, Nat.reduceAdd]
          have f4 := hf 4 (by decide) (by kernel_rfl)
          generalize vals 4 = v4 at *
          subst f4
          have f1 := hf 1 (by decide) (by kernel_rfl)
          generalize vals 1 = v1 at *
          subst f1
          clear hf
          go_wp2_with (fail)
          exact RQ.mk rfl ⟨(by first | rfl | (simp [FS12_22]; done) | (simp [FS12_22, *]; done) | (simp [FS12_22, gotV]; done) | (simp [FS12_22, gotV]; omega)), fun h => absurd h (by decide)⟩ (Below.refl _ _)
        | 6, _ =>
          injection ho with ho
          subst ho
          clear hl
          simp only [fillA, List.take, List.drop, put_none, Act.put, List.setIfInBounds_toArray, List.set_cons_zero, List.set_cons_succ, Nat.reduceAdd]
          have f1 := hf 1 (by decide) (by kernel_rfl)
          generalize vals 1 = v1 at *
          subst f1
          clear hf
          go_wp2_with (fail)
          exact RQ.mk rfl ⟨(by first | rfl | (simp [FS12_22]; done) | (simp [FS12_22, *]; done) | (simp [FS12_22, gotV]; done) | (simp [FS12_22, gotV]; omega)), fun h => absurd h (by decide)⟩ (Below.refl _ _)
        | 7, _ =>
          injection ho with ho
          subst ho
          clear hl
          simp only [fillA, List.take, List.drop, put_none, Act.put, List.setIfInBounds_toArray, List.set_cons_zero, List.set_cons_succ, Nat.reduceAdd]
          have f6 := hf 6 (by decide) (by kernel_rfl)
          generalize vals 6 = v6 at *
          subst f6
          have f1 := hf 1 (by decide) (by kernel_rfl)
          generalize vals 1 = v1 at *
          subst f1
          clear hf
          go_wp2_with (fail)
          exact RQ.mk rfl ⟨(by first | rfl | (simp [FS12_22]; done) | (simp [FS12_22, *]; done) | (simp [FS12_22, gotV]; done) | (simp [FS12_22, gotV]; omega)), fun h => absurd h (by decide)⟩ (Below.refl _ _)
        | 8, _ =>
          injection ho with ho
          subst ho
          clear hl
          simp only [fillA, List.take, List.drop, put_none, Act.put, List.setIfInBounds_toArray, List.set_cons_zero, List.set_cons_succ, Nat.reduceAdd]
          have f5 := hf 5 (by decide) (by kernel_rfl)
          generalize vals 5 = v5 at *
          subst f5
          have f7 := hf 7 (by decide) (by kernel_rfl)
          generalize vals 7 = v7 at *
          subst f7
          have f1 := hf 1 (by decide) (by kernel_rfl)
          generalize vals 1 = v1 at *
          subst f1
          clear hf
          go_wp2_with (fail)
          exact RQ.mk rfl ⟨(by first | rfl | (simp [FS12_22]; done) | (simp [FS12_22, *]; done) | (simp [FS12_22, gotV]; done) | (simp [FS12_22, gotV]; omega)), fun h => absurd h (by decide)⟩ (Below.refl _ _)
        | 9, _ =>
          injection ho with ho
          subst ho
          clear hl
          simp only [fillA, List.take, List.drop, put_none, Act.put, List.setIfInBounds_toArray, List.set_cons_zero, List.set_cons_succ, Nat.reduceAdd]
          have f1 := hf 1 (by decide) (by kernel_rfl)
          generalize vals 1 = v1 at *
          subst f1
          have f8 := hf 8 (by decide) (by kernel_rfl)
          generalize vals 8 = v8 at *
          subst f8
          clear hf
          go_wp2_with (fail)
          exact RQ.mk rfl ⟨(by first | rfl | (simp [FS12_22]; done) | (simp [FS12_22, *]; done) | (simp [FS12_22, gotV]; done) | (simp [FS12_22, gotV]; omega)), fun h => absurd h (by decide)⟩ (Below.refl _ _)
        | 10, _ =>
          injection ho with ho
          subst ho
          clear hl
          simp only [fillA, List.take, List.drop, put_none, Act.put, List.setIfInBounds_toArray, List.set_cons_zero, List.set_cons_succ, Nat.reduceAdd]
          have f9 := hf 9 (by decide) (by kernel_rfl)
          generalize vals 9 = v9 at *
          subst f9
          have f1 := hf 1 (by decide) (by kernel_rfl)
          generalize vals 1 = v1 at *
          subst f1
          clear hf
          go_wp2_with (fail)
          exact RQ.mk rfl ⟨(by first | rfl | (simp [FS12_22]; done) | (simp [FS12_22, *]; done) | (simp [FS12_22, gotV]; done) | (simp [FS12_22, gotV]; omega)), fun h => absurd h (by decide)⟩ (Below.refl _ _)
        | 11, _ =>
          injection ho with ho
          subst ho
          clear hl
          simp only [fillA, List.take, List.drop, put_none, Act.put, List.setIfInBounds_toArray, List.set_cons_zero, List.set_cons_succ, Nat.reduceAdd]
          have f10 := hf 10 (by decide) (by kernel_rfl)
          generalize vals 10 = v10 at *
          subst f10
          clear hf
          go_wp2_with (fail)
          exact RQ.mk rfl ⟨(by first | rfl | (simp [FS12_22]; done) | (simp [FS12_22, *]; done) | (simp [FS12_22, gotV]; done) | (simp [FS12_22, gotV]; omega)), fun h => absurd h (by decide)⟩ (Below.refl _ _)
        | 12, _ =>
          injection ho with ho
          subst ho
          clear hl
          simp only [fillA, List.take, List.drop, put_none, Act.put, List.setIfInBounds_toArray, List.set_cons_zero, List.set_cons_succ, Nat.reduceAdd]
          have f10 := hf 10 (by decide) (by kernel_rfl)
          generalize vals 10 = v10 at *
          subst f10
          clear hf
          go_wp2_with (fail)
          exact RQ.mk rfl ⟨(by first | rfl | (simp [FS12_22]; done) | (simp [FS12_22, *]; done) | (simp [FS12_22, gotV]; done) | (simp [FS12_22, gotV]; omega)), fun h => absurd h (by decide)⟩ (Below.refl _ _)
        | 13, _ =>
          injection ho with ho
          subst ho
          clear hl
          simp only [fillA, List.take, List.drop, put_none, Act.put, List.setIfInBounds_toArray, List.set_cons_zero, List.set_cons_succ, Nat.reduceAdd]
          have f11 := hf 11 (by decide) (by kernel_rfl)
          generalize vals 11 = v11 at *
          subst f11
          have f12 := hf 12 (by decide) (by kernel_rfl)
          generalize vals 12 = v12 at *
          subst f12
          have f10 := hf 10 (by decide) (by kernel_rfl)
          generalize vals 10 = v10 at *
          subst f10
          clear hf
          go_wp2_with (fail)
          exact RQ.mk rfl ⟨(by first | rfl | (simp [FS12_22]; done) | (simp [FS12_22, *]; done) | (simp [FS12_22, gotV]; done) | (simp [FS12_22, gotV]; omega)), fun h => absurd h (by decide)⟩ (Below.refl _ _)
        | 14, _ =>
          injection ho with ho
          subst ho
          clear hl
          simp only [fillA, List.take, List.drop, put_none, Act.put, List.setIfInBounds_toArray, List.set_cons_zero, List.set_cons_succ, Nat.reduceAdd]
          have f13 := hf 13 (by decide) (by kernel_rfl)
          generalize vals 13 = v13 at *
          subst f13
          have f10 := hf 10 (by decide) (by kernel_rfl)
          generalize vals 10 = v10 at *
          subst f10
          clear hf
          go_wp2_with (fail)
          exact RQ.mk rfl ⟨(by first | rfl | (simp [FS12_22]; done) | (simp [FS12_22, *]; done) | (simp [FS12_22, gotV]; done) | (simp [FS12_22, gotV]; omega)), fun h => absurd h (by decide)⟩ (Below.refl _ _)
        | 15, _ =>
          injection ho with ho
          subst ho
          clear hl
          simp only [fillA, List.take, List.drop, put_none, Act.put, List.setIfInBounds_toArray, List.set_cons_zero, List.set_cons_succ, Nat.reduceAdd]
          have f10 := hf 10 (by decide) (by kernel_rfl)
          generalize vals 10 = v10 at *
          subst f10
          clear hf
          go_wp2_with (fail)
          exact RQ.mk rfl ⟨(by first | rfl | (simp [FS12_22]; done) | (simp [FS12_22, *]; done) | (simp [FS12_22, gotV]; done) | (simp [FS12_22, gotV]; omega)), fun h => absurd h (by decide)⟩ (Below.refl _ _)
        | 16, _ =>
          injection ho with ho
          subst ho
          clear hl
          simp only [fillA, List.take, List.drop, put_none, Act.put, List.setIfInBounds_toArray, List.set_cons_zero, List.set_cons_succ, Nat.reduceAdd]
          have f15 := hf 15 (by decide) (by kernel_rfl)
          generalize vals 15 = v15 at *
          subst f15
          have f10 := hf 10 (by decide) (by kernel_rfl)
          generalize vals 10 = v10 at *
          subst f10
          clear hf
          go_wp2_with (fail)
          exact RQ.mk rfl ⟨(by first | rfl | (simp [FS12_22]; done) | (simp [FS12_22, *]; done) | (simp [FS12_22, gotV]; done) | (simp [FS12_22, gotV]; omega)), fun h => absurd h (by decide)⟩ (Below.refl _ _)
        | 17, _ =>
          injection ho with ho
          subst ho
          clear hl
          simp only [fillA, List.take, List.drop, put_none, Act.put, List.setIfInBounds_toArray, List.set_cons_zero, List.set_cons_succ, Nat.reduceAdd]
          have f14 := hf 14 (by decide) (by kernel_rfl)
          generalize vals 14 = v14 at *
          subst f14
          have f16 := hf 16 (by decide) (by kernel_rfl)
          generalize vals 16 = v16 at *
          subst f16
          have f10 := hf 10 (by decide) (by kernel_rfl)
          generalize vals 10 = v10 at *
          subst f10
          clear hf
          go_wp2_with (fail)
          exact RQ.mk rfl ⟨(by first | rfl | (simp [FS12_22]; done) | (simp [FS12_22, *]; done) | (simp [FS12_22, gotV]; done) | (simp [FS12_22, gotV]; omega)), fun h => absurd h (by decide)⟩ (Below.refl _ _)
        | 18, _ =>
          injection ho with ho
          subst ho
          clear hl
          simp only [fillA, List.take, List.drop, put_none, Act.put, List.setIfInBounds_toArray, List.set_cons_zero, List.set_cons_succ, Nat.reduceAdd]
          have f10 := hf 10 (by decide) (by kernel_rfl)
          generalize vals 10 = v10 at *
          subst f10
          have f17 := hf 17 (by decide) (by kernel_rfl)
          generalize vals 17 = v17 at *
          subst f17
          clear hf
          go_wp2_with (fail)
          exact RQ.mk rfl ⟨(by first | rfl | (simp [FS12_22]; done) | (simp [FS12_22, *]; done) | (simp [FS12_22, gotV]; done) | (simp [FS12_22, gotV]; omega)), fun h => absurd h (by decide)⟩ (Below.refl _ _)
        | m + 19, h => exact absurd h (by omega)
      · intro vals Z21q hb1 hf hd
        simp only [fillA, List.take, List.drop, put_none, Act.put, List.setIfInBounds_toArray, List.set_cons_zero, List.set_cons_succ, Nat.reduceAdd]
        clear hd
        have f0 := hf 0 (by decide)
        generalize vals 0 = v0 at *
        subst f0
        have f1 := hf 1 (by decide)
        generalize vals 1 = v1 at *
        subst f1
        have f2 := hf 2 (by decide)
        generalize vals 2 = v2 at *
        subst f2
        have f3 := hf 3 (by decide)
        generalize vals 3 = v3 at *
        subst f3
        have f4 := hf 4 (by decide)
        generalize vals 4 = v4 at *
        subst f4
        have f5 := hf 5 (by decide)
        generalize vals 5 = v5 at *
        subst f5
        have f6 := hf 6 (by decide)
        generalize vals 6 = v6 at *
        subst f6
        have f7 := hf 7 (by decide)
        generalize vals 7 = v7 at *
        subst f7
        have f8 := hf 8 (by decide)
        generalize vals 8 = v8 at *
        subst f8
        have f9 := hf 9 (by decide)
        generalize vals 9 = v9 at *
        subst f9
        have f10 := hf 10 (by decide)
        generalize vals 10 = v10 at *
        subst f10
        have f11 := hf 11 (by decide)
        generalize vals 11 = v11 at *
        subst f11
        have f12 := hf 12 (by decide)
        generalize vals 12 = v12 at *
        subst f12
        have f13 := hf 13 (by decide)
        generalize vals 13 = v13 at *
        subst f13
        have f14 := hf 14 (by decide)
        generalize vals 14 = v14 at *
        subst f14
        have f15 := hf 15 (by decide)
        generalize vals 15 = v15 at *
        subst f15
        have f16 := hf 16 (by decide)
        generalize vals 16 = v16 at *
        subst f16
        have f17 := hf 17 (by decide)
        generalize vals 17 = v17 at *
        subst f17
        have f18 := hf 18 (by decide)
        generalize vals 18 = v18 at *
        subst f18
        clear hf
        have hc1 := cellOf hb1
        have hf1 := frozOf hb1
        have hz1 := sizeOf hb1
        try simp at hz1
        clear hc1 hf1
        have hk : Below V21.heap.size V21 Z21q := hb1
        have hkz22 := hk.size
        have c22_0 : Z21q.cell? ⟨tb, 0, none⟩ = some (.int .i64 l) := (hb1.cell (p := ⟨tb, 0, none⟩) (by show tb < _; omega)).trans c21_0
        have c22_1 : Z21q.cell? ⟨tb, 1, none⟩ = some (.int .i64 u) := (hb1.cell (p := ⟨tb, 1, none⟩) (by show tb < _; omega)).trans c21_1
        have c22_2 : Z21q.cell? ⟨tb, 2, none⟩ = some (.int .i64 v) := (hb1.cell (p := ⟨tb, 2, none⟩) (by show tb < _; omega)).trans c21_2
        have c22_3 : Z21q.cell? ⟨tb, 3, none⟩ = some (.slice Af fs.length cf) := (hb1.cell (p := ⟨tb, 3, none⟩) (by show tb < _; omega)).trans c21_3
        have c22_4 : Z21q.cell? ⟨tb, 4, none⟩ = some (.slice Aq ps.length cq) := (hb1.cell (p := ⟨tb, 4, none⟩) (by show tb < _; omega)).trans c21_4
        have b22_0 : tb < Z21q.heap.size := by omega
        have R22_0 := hid (FreshA.below (cf := cIn) (sz := 1) (T := 3) (B := V1.heap.size) R21_0.out hk)
        have R22_1 := hid (FreshA.below (cf := cPu) (sz := 3) (T := 71) (B := V1.heap.size) R21_1.out hk)
        have R22_2 := hid (FreshA.below (cf := cIn) (sz := 1) (T := 3) (B := V3.heap.size) R21_2.out hk)
        have hw22 : Below w.heap.size w Z21q := Below.trans hw (Below.mono hk (by have := hw.size; omega))
        clear hw hk
        have hw := hw22
        clear hw22
        have hwz := hw.size
        clear c21_0 c21_1 c21_2 c21_3 c21_4 R21_0 R21_1 R21_2
        clear hb1
        clear c22_0
        clear c22_1
        clear c22_2
        clear c22_3
        clear c22_4
        clear R22_0
        clear R22_1
        clear R22_2
        go_wp2_with (fail)
        refine calls_named ?_
        intro V23 hV
        have hk : Below Z21q.heap.size Z21q V23 := by rw [hV]; (repeat' (first | with_reducible exact Below.refl _ _ | with_reducible assumption | with_reducible refine Below.setCell ?_ ?_ _ | with_reducible refine Below.drew ?_ | with_reducible refine Below.alloc ?_ ?_ _ | with_reducible refine Below.trans ?_ (Below.mono (by assumption) ?_) | (dsimp only; omega) | (simp; done) | (simp; omega) | omega))
        have hkz23 := hk.size
        have hw23 : Below w.heap.size w V23 := Below.trans hw (Below.mono hk (by have := hw.size; omega))
        clear hw hk
        have hw := hw23
        clear hw23
        have hwz := hw.size
        clear hV
        refine (c_spec_DrawWithoutPump A cs cap _ (Rds.below hr hw) hby (by omega)).mono ?_
        rintro e W24 ⟨l2, u2, v2, Bf, df, fs2, Bq, dq, ps2, i, rfl, hFf, hFq, hfl2, hpl2, hi1, hi2, hb⟩
        have hk : Below V23.heap.size V23 W24 := hb
        have hkz24 := hk.size
        have hw24 : Below w.heap.size w W24 := Below.trans hw (Below.mono hk (by have := hw.size; omega))
        clear hw hk
        have hw := hw24
        clear hw24
        have hwz := hw.size
        clear hb
        have S24_0 : Hid (FreshA cIn 1 3 V23.heap.size W24 Bf df fs2) := hid (hFf)
        have loS24_0 := S24_0.out.lo
        have hiS24_0 := S24_0.out.hi
        have S24_1 : Hid (FreshA cPu 3 71 V23.heap.size W24 Bq dq ps2) := hid (hFq)
        have loS24_1 := S24_1.out.lo
        have hiS24_1 := S24_1.out.hi
        clear hFf hFq
        have hcq := (S24_1.out).capLe
        have hwl := woV_len l2 u2 v2 fs2 ps2 i
        obtain ⟨l3, u3, v3, fs3, ps3, known, hWo⟩ : ∃ l3 u3 v3 fs3 ps3 known, woV l2 u2 v2 fs2 ps2 i = ((l3, u3, v3, fs3, ps3), known) := ⟨_, _, _, _, _, _, rfl⟩
        rw [hWo] at hwl
        simp only at hwl
        have hwc := fp_wo hWo
        have HWO := hid hWo; clear hWo
        go_wp2_with (fail)
        refine calls_named ?_
        intro V25 hV
        have hk : Below W24.heap.size W24 V25 := by rw [hV]; (repeat' (first | with_reducible exact Below.refl _ _ | with_reducible assumption | with_reducible refine Below.setCell ?_ ?_ _ | with_reducible refine Below.drew ?_ | with_reducible refine Below.alloc ?_ ?_ _ | with_reducible refine Below.trans ?_ (Below.mono (by assumption) ?_) | (dsimp only; omega) | (simp; done) | (simp; omega) | omega))
        have hkz25 := hk.size
        have R25_0 := hid (FreshA.below (cf := cIn) (sz := 1) (T := 3) (B := V23.heap.size) S24_0.out hk)
        have R25_1 := hid (FreshA.below (cf := cPu) (sz := 3) (T := 71) (B := V23.heap.size) S24_1.out hk)
        have hw25 : Below w.heap.size w V25 := Below.trans hw (Below.mono hk (by have := hw.size; omega))
        clear hw hk
        have hw := hw25
        clear hw25
        have hwz := hw.size
        clear S24_0 S24_1
        have d25_0 : V25.cell? ⟨W24.heap.size, 0, none⟩ = some (.int .i64 l2) := by rw [hV]; first | (simp [go_sem, ↓IntWalk.iteOmega, *]; done) | (simp [go_sem, ↓IntWalk.iteOmega, *]; intros; omega)
        have d25_1 : V25.cell? ⟨W24.heap.size, 1, none⟩ = some (.int .i64 u2) := by rw [hV]; first | (simp [go_sem, ↓IntWalk.iteOmega, *]; done) | (simp [go_sem, ↓IntWalk.iteOmega, *]; intros; omega)
        have d25_2 : V25.cell? ⟨W24.heap.size, 2, none⟩ = some (.int .i64 v2) := by rw [hV]; first | (simp [go_sem, ↓IntWalk.iteOmega, *]; done) | (simp [go_sem, ↓IntWalk.iteOmega, *]; intros; omega)
        have d25_3 : V25.cell? ⟨W24.heap.size, 3, none⟩ = some (.slice Bf fs2.length df) := by rw [hV]; first | (simp [go_sem, ↓IntWalk.iteOmega, *]; done) | (simp [go_sem, ↓IntWalk.iteOmega, *]; intros; omega)
        have d25_4 : V25.cell? ⟨W24.heap.size, 4, none⟩ = some (.slice Bq ps2.length dq) := by rw [hV]; first | (simp [go_sem, ↓IntWalk.iteOmega, *]; done) | (simp [go_sem, ↓IntWalk.iteOmega, *]; intros; omega)
        have e25_0 : W24.heap.size < V25.heap.size := by rw [hV]; first | (simp; done) | (simp; omega)
        clear hV
        generalize htbtx : W24.heap.size = tx at *
        refine (c_impl_WithoutPump l2 u2 v2 Bf fs2 df Bq ps2 dq i _ R25_0.out.rds (by omega) R25_1.out.rds (by omega)).mono ?_
        simp only [HWO.out]
        rintro e W26 ⟨C8, c8, C9, c9, rfl, hF8, hF9, hb⟩
        have hk : Below V25.heap.size V25 W26 := hb
        have hkz26 := hk.size
        have c26_0 : W26.cell? ⟨tx, 0, none⟩ = some (.int .i64 l2) := (hb.cell (p := ⟨tx, 0, none⟩) (by show tx < _; omega)).trans d25_0
        have c26_1 : W26.cell? ⟨tx, 1, none⟩ = some (.int .i64 u2) := (hb.cell (p := ⟨tx, 1, none⟩) (by show tx < _; omega)).trans d25_1
        have c26_2 : W26.cell? ⟨tx, 2, none⟩ = some (.int .i64 v2) := (hb.cell (p := ⟨tx, 2, none⟩) (by show tx < _; omega)).trans d25_2
        have c26_3 : W26.cell? ⟨tx, 3, none⟩ = some (.slice Bf fs2.length df) := (hb.cell (p := ⟨tx, 3, none⟩) (by show tx < _; omega)).trans d25_3
        have c26_4 : W26.cell? ⟨tx, 4, none⟩ = some (.slice Bq ps2.length dq) := (hb.cell (p := ⟨tx, 4, none⟩) (by show tx < _; omega)).trans d25_4
        have b26_0 : tx < W26.heap.size := by omega
        have R26_0 := hid (FreshA.below (cf := cIn) (sz := 1) (T := 3) (B := V23.heap.size) R25_0.out hk)
        have R26_1 := hid (FreshA.below (cf := cPu) (sz := 3) (T := 71) (B := V23.heap.size) R25_1.out hk)
        have hw26 : Below w.heap.size w W26 := Below.trans hw (Below.mono hk (by have := hw.size; omega))
        clear hw hk
        have hw := hw26
        clear hw26
        have hwz := hw.size
        clear d25_0 d25_1 d25_2 d25_3 d25_4 R25_0 R25_1
        clear hb
        have S26_2 : Hid (FreshA cIn 1 3 V25.heap.size W26 C8 c8 fs3) := hid (hF8)
        have loS26_2 := S26_2.out.lo
        have hiS26_2 := S26_2.out.hi
        have S26_3 : Hid (FreshA cPu 3 71 V25.heap.size W26 C9 c9 ps3) := hid (hF9)
        have loS26_3 := S26_3.out.lo
        have hiS26_3 := S26_3.out.hi
        clear hF8 hF9
        go_wp2_with (fail)
        refine calls_named ?_
        intro V27 hV
        have hk : Below W26.heap.size W26 V27 := by rw [hV]; (repeat' (first | with_reducible exact Below.refl _ _ | with_reducible assumption | with_reducible refine Below.setCell ?_ ?_ _ | with_reducible refine Below.drew ?_ | with_reducible refine Below.alloc ?_ ?_ _ | with_reducible refine Below.trans ?_ (Below.mono (by assumption) ?_) | (dsimp only; omega) | (simp; done) | (simp; omega) | omega))
        have hkz27 := hk.size
        have c27_0 : V27.cell? ⟨tx, 0, none⟩ = some (.int .i64 l2) := (hk.cell (p := ⟨tx, 0, none⟩) (by show tx < _; omega)).trans c26_0
        have c27_1 : V27.cell? ⟨tx, 1, none⟩ = some (.int .i64 u2) := (hk.cell (p := ⟨tx, 1, none⟩) (by show tx < _; omega)).trans c26_1
        have c27_2 : V27.cell? ⟨tx, 2, none⟩ = some (.int .i64 v2) := (hk.cell (p := ⟨tx, 2, none⟩) (by show tx < _; omega)).trans c26_2
        have c27_3 : V27.cell? ⟨tx, 3, none⟩ = some (.slice Bf fs2.length df) := (hk.cell (p := ⟨tx, 3, none⟩) (by show tx < _; omega)).trans c26_3
        have c27_4 : V27.cell? ⟨tx, 4, none⟩ = some (.slice Bq ps2.length dq) := (hk.cell (p := ⟨tx, 4, none⟩) (by show tx < _; omega)).trans c26_4
        have b27_0 : tx < V27.heap.size := by omega
        have R27_0 := hid (FreshA.below (cf := cIn) (sz := 1) (T := 3) (B := V23.heap.size) R26_0.out hk)
        have R27_1 := hid (FreshA.below (cf := cPu) (sz := 3) (T := 71) (B := V23.heap.size) R26_1.out hk)
        have R27_2 := hid (FreshA.below (cf := cIn) (sz := 1) (T := 3) (B := V25.heap.size) S26_2.out hk)
        have R27_3 := hid (FreshA.below (cf := cPu) (sz := 3) (T := 71) (B := V25.heap.size) S26_3.out hk)
        have hw27 : Below w.heap.size w V27 := Below.trans hw (Below.mono hk (by have := hw.size; omega))
        clear hw hk
        have hw := hw27
        clear hw27
        have hwz := hw.size
        clear c26_0 c26_1 c26_2 c26_3 c26_4 R26_0 R26_1 S26_2 S26_3
        have d27_5 : V27.cell? ⟨W26.heap.size, 0, none⟩ = some (.int .i64 l3) := by rw [hV]; first | (simp [go_sem, ↓IntWalk.iteOmega, *]; done) | (simp [go_sem, ↓IntWalk.iteOmega, *]; intros; omega)
        have d27_6 : V27.cell? ⟨W26.heap.size, 1, none⟩ = some (.int .i64 u3) := by rw [hV]; first | (simp [go_sem, ↓IntWalk.iteOmega, *]; done) | (simp [go_sem, ↓IntWalk.iteOmega, *]; intros; omega)
        have d27_7 : V27.cell? ⟨W26.heap.size, 2, none⟩ = some (.int .i64 v3) := by rw [hV]; first | (simp [go_sem, ↓IntWalk.iteOmega, *]; done) | (simp [go_sem, ↓IntWalk.iteOmega, *]; intros; omega)
        have d27_8 : V27.cell? ⟨W26.heap.size, 3, none⟩ = some (.slice C8 fs3.length c8) := by rw [hV]; first | (simp [go_sem, ↓IntWalk.iteOmega, *]; done) | (simp [go_sem, ↓IntWalk.iteOmega, *]; intros; omega)
        have d27_9 : V27.cell? ⟨W26.heap.size, 4, none⟩ = some (.slice C9 ps3.length c9) := by rw [hV]; first | (simp [go_sem, ↓IntWalk.iteOmega, *]; done) | (simp [go_sem, ↓IntWalk.iteOmega, *]; intros; omega)
        have e27_1 : W26.heap.size < V27.heap.size := by rw [hV]; first | (simp; done) | (simp; omega)
        clear hV
        generalize htbty : W26.heap.size = ty at *
        refine (c_spec_WithoutPump l2 u2 v2 Bf fs2 df Bq ps2 dq i _ R27_0.out.rds (by omega) R27_1.out.rds (by omega) hcq).mono ?_
        simp only [HWO.out]
        rintro e W28 ⟨E8, e8, E9, e9, rfl, hF8, hF9, hb⟩
        have hk : Below V27.heap.size V27 W28 := hb
        have hkz28 := hk.size
        have c28_0 : W28.cell? ⟨tx, 0, none⟩ = some (.int .i64 l2) := (hb.cell (p := ⟨tx, 0, none⟩) (by show tx < _; omega)).trans c27_0
        have c28_1 : W28.cell? ⟨tx, 1, none⟩ = some (.int .i64 u2) := (hb.cell (p := ⟨tx, 1, none⟩) (by show tx < _; omega)).trans c27_1
        have c28_2 : W28.cell? ⟨tx, 2, none⟩ = some (.int .i64 v2) := (hb.cell (p := ⟨tx, 2, none⟩) (by show tx < _; omega)).trans c27_2
        have c28_3 : W28.cell? ⟨tx, 3, none⟩ = some (.slice Bf fs2.length df) := (hb.cell (p := ⟨tx, 3, none⟩) (by show tx < _; omega)).trans c27_3
        have c28_4 : W28.cell? ⟨tx, 4, none⟩ = some (.slice Bq ps2.length dq) := (hb.cell (p := ⟨tx, 4, none⟩) (by show tx < _; omega)).trans c27_4
        have c28_5 : W28.cell? ⟨ty, 0, none⟩ = some (.int .i64 l3) := (hb.cell (p := ⟨ty, 0, none⟩) (by show ty < _; omega)).trans d27_5
        have c28_6 : W28.cell? ⟨ty, 1, none⟩ = some (.int .i64 u3) := (hb.cell (p := ⟨ty, 1, none⟩) (by show ty < _; omega)).trans d27_6
        have c28_7 : W28.cell? ⟨ty, 2, none⟩ = some (.int .i64 v3) := (hb.cell (p := ⟨ty, 2, none⟩) (by show ty < _; omega)).trans d27_7
        have c28_8 : W28.cell? ⟨ty, 3, none⟩ = some (.slice C8 fs3.length c8) := (hb.cell (p := ⟨ty, 3, none⟩) (by show ty < _; omega)).trans d27_8
        have c28_9 : W28.cell? ⟨ty, 4, none⟩ = some (.slice C9 ps3.length c9) := (hb.cell (p := ⟨ty, 4, none⟩) (by show ty < _; omega)).trans d27_9
        have b28_0 : tx < W28.heap.size := by omega
        have b28_1 : ty < W28.heap.size := by omega
        have R28_0 := hid (FreshA.below (cf := cIn) (sz := 1) (T := 3) (B := V23.heap.size) R27_0.out hk)
        have R28_1 := hid (FreshA.below (cf := cPu) (sz := 3) (T := 71) (B := V23.heap.size) R27_1.out hk)
        have R28_2 := hid (FreshA.below (cf := cIn) (sz := 1) (T := 3) (B := V25.heap.size) R27_2.out hk)
        have R28_3 := hid (FreshA.below (cf := cPu) (sz := 3) (T := 71) (B := V25.heap.size) R27_3.out hk)
        have hw28 : Below w.heap.size w W28 := Below.trans hw (Below.mono hk (by have := hw.size; omega))
        clear hw hk
        have hw := hw28
        clear hw28
        have hwz := hw.size
        clear c27_0 c27_1 c27_2 c27_3 c27_4 d27_5 d27_6 d27_7 d27_8 d27_9 R27_0 R27_1 R27_2 R27_3
        clear hb
        have S28_4 : Hid (FreshA cIn 1 3 V27.heap.size W28 E8 e8 fs3) := hid (hF8)
        have loS28_4 := S28_4.out.lo
        have hiS28_4 := S28_4.out.hi
        have S28_5 : Hid (FreshA cPu 3 71 V27.heap.size W28 E9 e9 ps3) := hid (hF9)
        have loS28_5 := S28_5.out.lo
        have hiS28_5 := S28_5.out.hi
        clear hF8 hF9 HWO
        have hl3 : fs3.length ≤ 1000 ∧ ps3.length ≤ 1000 := by omega
        rcases hwc with rfl | ⟨rfl, hlen, htk⟩
        · go_wp2_with (fail)
          refine calls_named ?_
          intro V29 hV
          have hk : Below W28.heap.size W28 V29 := by rw [hV]; (repeat' (first | with_reducible exact Below.refl _ _ | with_reducible assumption | with_reducible refine Below.setCell ?_ ?_ _ | with_reducible refine Below.drew ?_ | with_reducible refine Below.alloc ?_ ?_ _ | with_reducible refine Below.trans ?_ (Below.mono (by assumption) ?_) | (dsimp only; omega) | (simp; done) | (simp; omega) | omega))
          have hkz29 := hk.size
          have c29_0 : V29.cell? ⟨tx, 0, none⟩ = some (.int .i64 l2) := (hk.cell (p := ⟨tx, 0, none⟩) (by show tx < _; omega)).trans c28_0
          have c29_1 : V29.cell? ⟨tx, 1, none⟩ = some (.int .i64 u2) := (hk.cell (p := ⟨tx, 1, none⟩) (by show tx < _; omega)).trans c28_1
          have c29_2 : V29.cell? ⟨tx, 2, none⟩ = some (.int .i64 v2) := (hk.cell (p := ⟨tx, 2, none⟩) (by show tx < _; omega)).trans c28_2
          have c29_3 : V29.cell? ⟨tx, 3, none⟩ = some (.slice Bf fs2.length df) := (hk.cell (p := ⟨tx, 3, none⟩) (by show tx < _; omega)).trans c28_3
          have c29_4 : V29.cell? ⟨tx, 4, none⟩ = some (.slice Bq ps2.length dq) := (hk.cell (p := ⟨tx, 4, none⟩) (by show tx < _; omega)).trans c28_4
          have c29_5 : V29.cell? ⟨ty, 0, none⟩ = some (.int .i64 l3) := (hk.cell (p := ⟨ty, 0, none⟩) (by show ty < _; omega)).trans c28_5
          have c29_6 : V29.cell? ⟨ty, 1, none⟩ = some (.int .i64 u3) := (hk.cell (p := ⟨ty, 1, none⟩) (by show ty < _; omega)).trans c28_6
          have c29_7 : V29.cell? ⟨ty, 2, none⟩ = some (.int .i64 v3) := (hk.cell (p := ⟨ty, 2, none⟩) (by show ty < _; omega)).trans c28_7
          have c29_8 : V29.cell? ⟨ty, 3, none⟩ = some (.slice C8 fs3.length c8) := (hk.cell (p := ⟨ty, 3, none⟩) (by show ty < _; omega)).trans c28_8
          have c29_9 : V29.cell? ⟨ty, 4, none⟩ = some (.slice C9 ps3.length c9) := (hk.cell (p := ⟨ty, 4, none⟩) (by show ty < _; omega)).trans c28_9
          have b29_0 : tx < V29.heap.size := by omega
          have b29_1 : ty < V29.heap.size := by omega
          have R29_0 := hid (FreshA.below (cf := cIn) (sz := 1) (T := 3) (B := V23.heap.size) R28_0.out hk)
          have R29_1 := hid (FreshA.below (cf := cPu) (sz := 3) (T := 71) (B := V23.heap.size) R28_1.out hk)
          have R29_2 := hid (FreshA.below (cf := cIn) (sz := 1) (T := 3) (B := V25.heap.size) R28_2.out hk)
          have R29_3 := hid (FreshA.below (cf := cPu) (sz := 3) (T := 71) (B := V25.heap.size) R28_3.out hk)
          have R29_4 := hid (FreshA.below (cf := cIn) (sz := 1) (T := 3) (B := V27.heap.size) S28_4.out hk)
          have R29_5 := hid (FreshA.below (cf := cPu) (sz := 3) (T := 71) (B := V27.heap.size) S28_5.out hk)
          have hw29 : Below w.heap.size w V29 := Below.trans hw (Below.mono hk (by have := hw.size; omega))
          clear hw hk
          have hw := hw29
          clear hw29
          have hwz := hw.size
          clear c28_0 c28_1 c28_2 c28_3 c28_4 c28_5 c28_6 c28_7 c28_8 c28_9 R28_0 R28_1 R28_2 R28_3 S28_4 S28_5
          clear hV
          refine (c_laws_rPumpTasks l3 u3 v3 C8 fs3 c8 C9 ps3 c9 E8 e8 E9 e9 _ R29_2.out.rds R29_4.out.rds R29_3.out.rds R29_5.out.rds (by omega) (by omega)).mono ?_
          rintro e W30 ⟨rfl, hb⟩
          have hk : Below V29.heap.size V29 W30 := hb
          have hkz30 := hk.size
          have c30_0 : W30.cell? ⟨tx, 0, none⟩ = some (.int .i64 l2) := (hb.cell (p := ⟨tx, 0, none⟩) (by show tx < _; omega)).trans c29_0
          have c30_1 : W30.cell? ⟨tx, 1, none⟩ = some (.int .i64 u2) := (hb.cell (p := ⟨tx, 1, none⟩) (by show tx < _; omega)).trans c29_1
          have c30_2 : W30.cell? ⟨tx, 2, none⟩ = some (.int .i64 v2) := (hb.cell (p := ⟨tx, 2, none⟩) (by show tx < _; omega)).trans c29_2
          have c30_3 : W30.cell? ⟨tx, 3, none⟩ = some (.slice Bf fs2.length df) := (hb.cell (p := ⟨tx, 3, none⟩) (by show tx < _; omega)).trans c29_3
          have c30_4 : W30.cell? ⟨tx, 4, none⟩ = some (.slice Bq ps2.length dq) := (hb.cell (p := ⟨tx, 4, none⟩) (by show tx < _; omega)).trans c29_4
          have c30_5 : W30.cell? ⟨ty, 0, none⟩ = some (.int .i64 l3) := (hb.cell (p := ⟨ty, 0, none⟩) (by show ty < _; omega)).trans c29_5
          have c30_6 : W30.cell? ⟨ty, 1, none⟩ = some (.int .i64 u3) := (hb.cell (p := ⟨ty, 1, none⟩) (by show ty < _; omega)).trans c29_6
          have c30_7 : W30.cell? ⟨ty, 2, none⟩ = some (.int .i64 v3) := (hb.cell (p := ⟨ty, 2, none⟩) (by show ty < _; omega)).trans c29_7
          have c30_8 : W30.cell? ⟨ty, 3, none⟩ = some (.slice C8 fs3.length c8) := (hb.cell (p := ⟨ty, 3, none⟩) (by show ty < _; omega)).trans c29_8
          have c30_9 : W30.cell? ⟨ty, 4, none⟩ = some (.slice C9 ps3.length c9) := (hb.cell (p := ⟨ty, 4, none⟩) (by show ty < _; omega)).trans c29_9
          have b30_0 : tx < W30.heap.size := by omega
          have b30_1 : ty < W30.heap.size := by omega
          have R30_0 := hid (FreshA.below (cf := cIn) (sz := 1) (T := 3) (B := V23.heap.size) R29_0.out hk)
          have R30_1 := hid (FreshA.below (cf := cPu) (sz := 3) (T := 71) (B := V23.heap.size) R29_1.out hk)
          have R30_2 := hid (FreshA.below (cf := cIn) (sz := 1) (T := 3) (B := V25.heap.size) R29_2.out hk)
          have R30_3 := hid (FreshA.below (cf := cPu) (sz := 3) (T := 71) (B := V25.heap.size) R29_3.out hk)
          have R30_4 := hid (FreshA.below (cf := cIn) (sz := 1) (T := 3) (B := V27.heap.size) R29_4.out hk)
          have R30_5 := hid (FreshA.below (cf := cPu) (sz := 3) (T := 71) (B := V27.heap.size) R29_5.out hk)
          have hw30 : Below w.heap.size w W30 := Below.trans hw (Below.mono hk (by have := hw.size; omega))
          clear hw hk
          have hw := hw30
          clear hw30
          have hwz := hw.size
          clear c29_0 c29_1 c29_2 c29_3 c29_4 c29_5 c29_6 c29_7 c29_8 c29_9 R29_0 R29_1 R29_2 R29_3 R29_4 R29_5
          clear hb
          go_wp2_with (fail)
          go_ret
          exact ⟨by first | rfl | exact ret_bool (by simp), by first | exact hw | (repeat' (first | with_reducible exact Below.refl _ _ | with_reducible assumption | with_reducible refine Below.setCell ?_ ?_ _ | with_reducible refine Below.drew ?_ | with_reducible refine Below.alloc ?_ ?_ _ | with_reducible refine Below.trans ?_ (Below.mono (by assumption) ?_) | (dsimp only; omega) | (simp; done) | (simp; omega) | omega))⟩
        have HTK := hid htk; clear htk
        go_wp2_with (fail)
        refine calls_named ?_
        intro V29 hV
        have hk : Below W28.heap.size W28 V29 := by rw [hV]; (repeat' (first | with_reducible exact Below.refl _ _ | with_reducible assumption | with_reducible refine Below.setCell ?_ ?_ _ | with_reducible refine Below.drew ?_ | with_reducible refine Below.alloc ?_ ?_ _ | with_reducible refine Below.trans ?_ (Below.mono (by assumption) ?_) | (dsimp only; omega) | (simp; done) | (simp; omega) | omega))
        have hkz29 := hk.size
        have c29_0 : V29.cell? ⟨tx, 0, none⟩ = some (.int .i64 l2) := (hk.cell (p := ⟨tx, 0, none⟩) (by show tx < _; omega)).trans c28_0
        have c29_1 : V29.cell? ⟨tx, 1, none⟩ = some (.int .i64 u2) := (hk.cell (p := ⟨tx, 1, none⟩) (by show tx < _; omega)).trans c28_1
        have c29_2 : V29.cell? ⟨tx, 2, none⟩ = some (.int .i64 v2) := (hk.cell (p := ⟨tx, 2, none⟩) (by show tx < _; omega)).trans c28_2
        have c29_3 : V29.cell? ⟨tx, 3, none⟩ = some (.slice Bf fs2.length df) := (hk.cell (p := ⟨tx, 3, none⟩) (by show tx < _; omega)).trans c28_3
        have c29_4 : V29.cell? ⟨tx, 4, none⟩ = some (.slice Bq ps2.length dq) := (hk.cell (p := ⟨tx, 4, none⟩) (by show tx < _; omega)).trans c28_4
        have c29_5 : V29.cell? ⟨ty, 0, none⟩ = some (.int .i64 l3) := (hk.cell (p := ⟨ty, 0, none⟩) (by show ty < _; omega)).trans c28_5
        have c29_6 : V29.cell? ⟨ty, 1, none⟩ = some (.int .i64 u3) := (hk.cell (p := ⟨ty, 1, none⟩) (by show ty < _; omega)).trans c28_6
        have c29_7 : V29.cell? ⟨ty, 2, none⟩ = some (.int .i64 v3) := (hk.cell (p := ⟨ty, 2, none⟩) (by show ty < _; omega)).trans c28_7
        have c29_8 : V29.cell? ⟨ty, 3, none⟩ = some (.slice C8 fs3.length c8) := (hk.cell (p := ⟨ty, 3, none⟩) (by show ty < _; omega)).trans c28_8
        have c29_9 : V29.cell? ⟨ty, 4, none⟩ = some (.slice C9 ps3.length c9) := (hk.cell (p := ⟨ty, 4, none⟩) (by show ty < _; omega)).trans c28_9
        have b29_0 : tx < V29.heap.size := by omega
        have b29_1 : ty < V29.heap.size := by omega
        have R29_0 := hid (FreshA.below (cf := cIn) (sz := 1) (T := 3) (B := V23.heap.size) R28_0.out hk)
        have R29_1 := hid (FreshA.below (cf := cPu) (sz := 3) (T := 71) (B := V23.heap.size) R28_1.out hk)
        have R29_2 := hid (FreshA.below (cf := cIn) (sz := 1) (T := 3) (B := V25.heap.size) R28_2.out hk)
        have R29_3 := hid (FreshA.below (cf := cPu) (sz := 3) (T := 71) (B := V25.heap.size) R28_3.out hk)
        have R29_4 := hid (FreshA.below (cf := cIn) (sz := 1) (T := 3) (B := V27.heap.size) S28_4.out hk)
        have R29_5 := hid (FreshA.below (cf := cPu) (sz := 3) (T := 71) (B := V27.heap.size) S28_5.out hk)
        have hw29 : Below w.heap.size w V29 := Below.trans hw (Below.mono hk (by have := hw.size; omega))
        clear hw hk
        have hw := hw29
        clear hw29
        have hwz := hw.size
        clear c28_0 c28_1 c28_2 c28_3 c28_4 c28_5 c28_6 c28_7 c28_8 c28_9 R28_0 R28_1 R28_2 R28_3 S28_4 S28_5
        clear hV
        refine (c_laws_rPumpTasks l3 u3 v3 C8 fs3 c8 C9 ps3 c9 E8 e8 E9 e9 _ R29_2.out.rds R29_4.out.rds R29_3.out.rds R29_5.out.rds (by omega) (by omega)).mono ?_
        rintro e W30 ⟨rfl, hb⟩
        have hk : Below V29.heap.size V29 W30 := hb
        have hkz30 := hk.size
        have c30_0 : W30.cell? ⟨tx, 0, none⟩ = some (.int .i64 l2) := (hb.cell (p := ⟨tx, 0, none⟩) (by show tx < _; omega)).trans c29_0
        have c30_1 : W30.cell? ⟨tx, 1, none⟩ = some (.int .i64 u2) := (hb.cell (p := ⟨tx, 1, none⟩) (by show tx < _; omega)).trans c29_1
        have c30_2 : W30.cell? ⟨tx, 2, none⟩ = some (.int .i64 v2) := (hb.cell (p := ⟨tx, 2, none⟩) (by show tx < _; omega)).trans c29_2
        have c30_3 : W30.cell? ⟨tx, 3, none⟩ = some (.slice Bf fs2.length df) := (hb.cell (p := ⟨tx, 3, none⟩) (by show tx < _; omega)).trans c29_3
        have c30_4 : W30.cell? ⟨tx, 4, none⟩ = some (.slice Bq ps2.length dq) := (hb.cell (p := ⟨tx, 4, none⟩) (by show tx < _; omega)).trans c29_4
        have c30_5 : W30.cell? ⟨ty, 0, none⟩ = some (.int .i64 l3) := (hb.cell (p := ⟨ty, 0, none⟩) (by show ty < _; omega)).trans c29_5
        have c30_6 : W30.cell? ⟨ty, 1, none⟩ = some (.int .i64 u3) := (hb.cell (p := ⟨ty, 1, none⟩) (by show ty < _; omega)).trans c29_6
        have c30_7 : W30.cell? ⟨ty, 2, none⟩ = some (.int .i64 v3) := (hb.cell (p := ⟨ty, 2, none⟩) (by show ty < _; omega)).trans c29_7
        have c30_8 : W30.cell? ⟨ty, 3, none⟩ = some (.slice C8 fs3.length c8) := (hb.cell (p := ⟨ty, 3, none⟩) (by show ty < _; omega)).trans c29_8
        have c30_9 : W30.cell? ⟨ty, 4, none⟩ = some (.slice C9 ps3.length c9) := (hb.cell (p := ⟨ty, 4, none⟩) (by show ty < _; omega)).trans c29_9
        have b30_0 : tx < W30.heap.size := by omega
        have b30_1 : ty < W30.heap.size := by omega
        have R30_0 := hid (FreshA.below (cf := cIn) (sz := 1) (T := 3) (B := V23.heap.size) R29_0.out hk)
        have R30_1 := hid (FreshA.below (cf := cPu) (sz := 3) (T := 71) (B := V23.heap.size) R29_1.out hk)
        have R30_2 := hid (FreshA.below (cf := cIn) (sz := 1) (T := 3) (B := V25.heap.size) R29_2.out hk)
        have R30_3 := hid (FreshA.below (cf := cPu) (sz := 3) (T := 71) (B := V25.heap.size) R29_3.out hk)
        have R30_4 := hid (FreshA.below (cf := cIn) (sz := 1) (T := 3) (B := V27.heap.size) R29_4.out hk)
        have R30_5 := hid (FreshA.below (cf := cPu) (sz := 3) (T := 71) (B := V27.heap.size) R29_5.out hk)
        have hw30 : Below w.heap.size w W30 := Below.trans hw (Below.mono hk (by have := hw.size; omega))
        clear hw hk
        have hw := hw30
        clear hw30
        have hwz := hw.size
        clear c29_0 c29_1 c29_2 c29_3 c29_4 c29_5 c29_6 c29_7 c29_8 c29_9 R29_0 R29_1 R29_2 R29_3 R29_4 R29_5
        clear hb
        go_wp2_with (fail)
        refine calls_named ?_
        intro V31 hV
        have hk : Below W30.heap.size W30 V31 := by rw [hV]; (repeat' (first | with_reducible exact Below.refl _ _ | with_reducible assumption | with_reducible refine Below.setCell ?_ ?_ _ | with_reducible refine Below.drew ?_ | with_reducible refine Below.alloc ?_ ?_ _ | with_reducible refine Below.trans ?_ (Below.mono (by assumption) ?_) | (dsimp only; omega) | (simp; done) | (simp; omega) | omega))
        have hkz31 := hk.size
        have c31_0 : V31.cell? ⟨tx, 0, none⟩ = some (.int .i64 l2) := (hk.cell (p := ⟨tx, 0, none⟩) (by show tx < _; omega)).trans c30_0
        have c31_1 : V31.cell? ⟨tx, 1, none⟩ = some (.int .i64 u2) := (hk.cell (p := ⟨tx, 1, none⟩) (by show tx < _; omega)).trans c30_1
        have c31_2 : V31.cell? ⟨tx, 2, none⟩ = some (.int .i64 v2) := (hk.cell (p := ⟨tx, 2, none⟩) (by show tx < _; omega)).trans c30_2
        have c31_3 : V31.cell? ⟨tx, 3, none⟩ = some (.slice Bf fs2.length df) := (hk.cell (p := ⟨tx, 3, none⟩) (by show tx < _; omega)).trans c30_3
        have c31_4 : V31.cell? ⟨tx, 4, none⟩ = some (.slice Bq ps2.length dq) := (hk.cell (p := ⟨tx, 4, none⟩) (by show tx < _; omega)).trans c30_4
        have c31_5 : V31.cell? ⟨ty, 0, none⟩ = some (.int .i64 l3) := (hk.cell (p := ⟨ty, 0, none⟩) (by show ty < _; omega)).trans c30_5
        have c31_6 : V31.cell? ⟨ty, 1, none⟩ = some (.int .i64 u3) := (hk.cell (p := ⟨ty, 1, none⟩) (by show ty < _; omega)).trans c30_6
        have c31_7 : V31.cell? ⟨ty, 2, none⟩ = some (.int .i64 v3) := (hk.cell (p := ⟨ty, 2, none⟩) (by show ty < _; omega)).trans c30_7
        have c31_8 : V31.cell? ⟨ty, 3, none⟩ = some (.slice C8 fs3.length c8) := (hk.cell (p := ⟨ty, 3, none⟩) (by show ty < _; omega)).trans c30_8
        have c31_9 : V31.cell? ⟨ty, 4, none⟩ = some (.slice C9 ps3.length c9) := (hk.cell (p := ⟨ty, 4, none⟩) (by show ty < _; omega)).trans c30_9
        have b31_0 : tx < V31.heap.size := by omega
        have b31_1 : ty < V31.heap.size := by omega
        have R31_0 := hid (FreshA.below (cf := cIn) (sz := 1) (T := 3) (B := V23.heap.size) R30_0.out hk)
        have R31_1 := hid (FreshA.below (cf := cPu) (sz := 3) (T := 71) (B := V23.heap.size) R30_1.out hk)
        have R31_2 := hid (FreshA.below (cf := cIn) (sz := 1) (T := 3) (B := V25.heap.size) R30_2.out hk)
        have R31_3 := hid (FreshA.below (cf := cPu) (sz := 3) (T := 71) (B := V25.heap.size) R30_3.out hk)
        have R31_4 := hid (FreshA.below (cf := cIn) (sz := 1) (T := 3) (B := V27.heap.size) R30_4.out hk)
        have R31_5 := hid (FreshA.below (cf := cPu) (sz := 3) (T := 71) (B := V27.heap.size) R30_5.out hk)
        have hw31 : Below w.heap.size w V31 := Below.trans hw (Below.mono hk (by have := hw.size; omega))
        clear hw hk
        have hw := hw31
        clear hw31
        have hwz := hw.size
        clear c30_0 c30_1 c30_2 c30_3 c30_4 c30_5 c30_6 c30_7 c30_8 c30_9 R30_0 R30_1 R30_2 R30_3 R30_4 R30_5
        clear hV
        refine (c_impl_IsPumpTask l3 u3 v3 C8 fs3 c8 C9 ps3 c9 _ R31_2.out.rds (by omega) R31_3.out.rds (by omega)).mono ?_
        simp only [HTK.out]
        rintro e W32 ⟨rfl, hb⟩
        have hk : Below V31.heap.size V31 W32 := hb
        have hkz32 := hk.size
        have c32_0 : W32.cell? ⟨tx, 0, none⟩ = some (.int .i64 l2) := (hb.cell (p := ⟨tx, 0, none⟩) (by show tx < _; omega)).trans c31_0
        have c32_1 : W32.cell? ⟨tx, 1, none⟩ = some (.int .i64 u2) := (hb.cell (p := ⟨tx, 1, none⟩) (by show tx < _; omega)).trans c31_1
        have c32_2 : W32.cell? ⟨tx, 2, none⟩ = some (.int .i64 v2) := (hb.cell (p := ⟨tx, 2, none⟩) (by show tx < _; omega)).trans c31_2
        have c32_3 : W32.cell? ⟨tx, 3, none⟩ = some (.slice Bf fs2.length df) := (hb.cell (p := ⟨tx, 3, none⟩) (by show tx < _; omega)).trans c31_3
        have c32_4 : W32.cell? ⟨tx, 4, none⟩ = some (.slice Bq ps2.length dq) := (hb.cell (p := ⟨tx, 4, none⟩) (by show tx < _; omega)).trans c31_4
        have c32_5 : W32.cell? ⟨ty, 0, none⟩ = some (.int .i64 l3) := (hb.cell (p := ⟨ty, 0, none⟩) (by show ty < _; omega)).trans c31_5
        have c32_6 : W32.cell? ⟨ty, 1, none⟩ = some (.int .i64 u3) := (hb.cell (p := ⟨ty, 1, none⟩) (by show ty < _; omega)).trans c31_6
        have c32_7 : W32.cell? ⟨ty, 2, none⟩ = some (.int .i64 v3) := (hb.cell (p := ⟨ty, 2, none⟩) (by show ty < _; omega)).trans c31_7
        have c32_8 : W32.cell? ⟨ty, 3, none⟩ = some (.slice C8 fs3.length c8) := (hb.cell (p := ⟨ty, 3, none⟩) (by show ty < _; omega)).trans c31_8
        have c32_9 : W32.cell? ⟨ty, 4, none⟩ = some (.slice C9 ps3.length c9) := (hb.cell (p := ⟨ty, 4, none⟩) (by show ty < _; omega)).trans c31_9
        have b32_0 : tx < W32.heap.size := by omega
        have b32_1 : ty < W32.heap.size := by omega
        have R32_0 := hid (FreshA.below (cf := cIn) (sz := 1) (T := 3) (B := V23.heap.size) R31_0.out hk)
        have R32_1 := hid (FreshA.below (cf := cPu) (sz := 3) (T := 71) (B := V23.heap.size) R31_1.out hk)
        have R32_2 := hid (FreshA.below (cf := cIn) (sz := 1) (T := 3) (B := V25.heap.size) R31_2.out hk)
        have R32_3 := hid (FreshA.below (cf := cPu) (sz := 3) (T := 71) (B := V25.heap.size) R31_3.out hk)
        have R32_4 := hid (FreshA.below (cf := cIn) (sz := 1) (T := 3) (B := V27.heap.size) R31_4.out hk)
        have R32_5 := hid (FreshA.below (cf := cPu) (sz := 3) (T := 71) (B := V27.heap.size) R31_5.out hk)
        have hw32 : Below w.heap.size w W32 := Below.trans hw (Below.mono hk (by have := hw.size; omega))
        clear hw hk
        have hw := hw32
        clear hw32
        have hwz := hw.size
        clear c31_0 c31_1 c31_2 c31_3 c31_4 c31_5 c31_6 c31_7 c31_8 c31_9 R31_0 R31_1 R31_2 R31_3 R31_4 R31_5
        clear hb
        go_wp2_with (fail)
        go_ret
        exact ⟨by first | rfl | exact ret_bool (by simp), by first | exact hw | (repeat' (first | with_reducible exact Below.refl _ _ | with_reducible assumption | with_reducible refine Below.setCell ?_ ?_ _ | with_reducible refine Below.drew ?_ | with_reducible refine Below.alloc ?_ ?_ _ | with_reducible refine Below.trans ?_ (Below.mono (by assumption) ?_) | (dsimp only; omega) | (simp; done) | (simp; omega) | omega))⟩
  have HFL := hid hfb; clear hfb
  have hln1 : n + 1 ≤ lv.length := by omega
  have hln2 : lv.length ≤ n + 1 := by omega
  clear hln
  obtain ⟨gl, rfl, hgl, hOl⟩ := FreshA.row R6_3.out (by omega)
  have hgl2 : gl < W6.heap.size := hOl.lt
  clear hOl
  have HX := hid R6_0.out.rds; have HY := hid R6_1.out.rds; have HA := hid R6_3.out.rds; have HB := hid S6_4.out.rds
  have HKQ : Hid (∀ w' : World, Below W6.heap.size W6 w' → w'.cell? ⟨tb, 0, none⟩ = some (.int .i64 l) ∧ w'.cell? ⟨tb, 1, none⟩ = some (.int .i64 u) ∧ w'.cell? ⟨tb, 2, none⟩ = some (.int .i64 v) ∧ w'.cell? ⟨tb, 3, none⟩ = some (.slice Af fs.length cf) ∧ w'.cell? ⟨tb, 4, none⟩ = some (.slice Aq ps.length cq)) := fun w' hbv => ⟨(hbv.cell (p := ⟨tb, 0, none⟩) (by show tb < _; omega)).trans c6_0, (hbv.cell (p := ⟨tb, 1, none⟩) (by show tb < _; omega)).trans c6_1, (hbv.cell (p := ⟨tb, 2, none⟩) (by show tb < _; omega)).trans c6_2, (hbv.cell (p := ⟨tb, 3, none⟩) (by show tb < _; omega)).trans c6_3, (hbv.cell (p := ⟨tb, 4, none⟩) (by show tb < _; omega)).trans c6_4⟩
  have hbq : Below W6.heap.size W6 W6 := Below.refl _ _
  go_wp2_with (fail)
  go_region_held3 (fun w' => w'.cell? ⟨tb, 0, none⟩ = some (.int .i64 l) ∧ w'.cell? ⟨tb, 1, none⟩ = some (.int .i64 u) ∧ w'.cell? ⟨tb, 2, none⟩ = some (.int .i64 v) ∧ w'.cell? ⟨tb, 3, none⟩ = some (.slice Af fs.length cf) ∧ w'.cell? ⟨tb, 4, none⟩ = some (.slice Aq ps.length cq)) (first | assumption | exact HKQ.out _ (by (repeat' (first | with_reducible exact Below.refl _ _ | with_reducible assumption | with_reducible refine Below.setCell ?_ ?_ _ | with_reducible refine Below.drew ?_ | with_reducible refine Below.alloc ?_ ?_ _ | with_reducible refine Below.trans ?_ (Below.mono (by assumption) ?_) | (dsimp only; omega) | (simp; done) | (simp; omega) | omega)))) (first | (go_at_call 40; refine (c_laws_rInts _ _ lv _ _ _ (Rds.below HA.out (by (repeat' (first | with_reducible exact Below.refl _ _ | with_reducible assumption | with_reducible refine Below.setCell ?_ ?_ _ | with_reducible refine Below.drew ?_ | with_reducible refine Below.alloc ?_ ?_ _ | with_reducible refine Below.trans ?_ (Below.mono (by assumption) ?_) | (dsimp only; omega) | (simp; done) | (simp; omega) | omega)))) (Rds.below HB.out (by (repeat' (first | with_reducible exact Below.refl _ _ | with_reducible assumption | with_reducible refine Below.setCell ?_ ?_ _ | with_reducible refine Below.drew ?_ | with_reducible refine Below.alloc ?_ ?_ _ | with_reducible refine Below.trans ?_ (Below.mono (by assumption) ?_) | (dsimp only; omega) | (simp; done) | (simp; omega) | omega)))) (by omega)).mono ?_; rintro e w' ⟨rfl, hb⟩; have hz := hb.size; (try simp at hz)) | (go_at_call 42; refine (c_impl_IsPumpTask l u v _ fs _ _ ps _ _ (Rds.below HX.out (by (repeat' (first | with_reducible exact Below.refl _ _ | with_reducible assumption | with_reducible refine Below.setCell ?_ ?_ _ | with_reducible refine Below.drew ?_ | with_reducible refine Below.alloc ?_ ?_ _ | with_reducible refine Below.trans ?_ (Below.mono (by assumption) ?_) | (dsimp only; omega) | (simp; done) | (simp; omega) | omega)))) (by omega) (Rds.below HY.out (by (repeat' (first | with_reducible exact Below.refl _ _ | with_reducible assumption | with_reducible refine Below.setCell ?_ ?_ _ | with_reducible refine Below.drew ?_ | with_reducible refine Below.alloc ?_ ?_ _ | with_reducible refine Below.trans ?_ (Below.mono (by assumption) ?_) | (dsimp only; omega) | (simp; done) | (simp; omega) | omega)))) (by omega)).mono ?_; rintro e w' ⟨rfl, hb⟩; have hz := hb.size; (try simp at hz)) | (go_at_call 43; refine (c_spec_IsPumpTask l u v _ fs _ _ ps _ _ (Rds.below HX.out (by (repeat' (first | with_reducible exact Below.refl _ _ | with_reducible assumption | with_reducible refine Below.setCell ?_ ?_ _ | with_reducible refine Below.drew ?_ | with_reducible refine Below.alloc ?_ ?_ _ | with_reducible refine Below.trans ?_ (Below.mono (by assumption) ?_) | (dsimp only; omega) | (simp; done) | (simp; omega) | omega)))) (by omega) (Rds.below HY.out (by (repeat' (first | with_reducible exact Below.refl _ _ | with_reducible assumption | with_reducible refine Below.setCell ?_ ?_ _ | with_reducible refine Below.drew ?_ | with_reducible refine Below.alloc ?_ ?_ _ | with_reducible refine Below.trans ?_ (Below.mono (by assumption) ?_) | (dsimp only; omega) | (simp; done) | (simp; omega) | omega)))) (by omega)).mono ?_; rintro e w' ⟨rfl, hb⟩; have hz := hb.size; (try simp at hz)))
  clear HX HY HA HB HKQ hbq
  go_wp2_with (fail)
  refine calls_named ?_
  intro V7 hV
  have hk : Below W6.heap.size W6 V7 := by rw [hV]; (repeat' (first | with_reducible exact Below.refl _ _ | with_reducible assumption | with_reducible refine Below.setCell ?_ ?_ _ | with_reducible refine Below.drew ?_ | with_reducible refine Below.alloc ?_ ?_ _ | with_reducible refine Below.trans ?_ (Below.mono (by assumption) ?_) | (dsimp only; omega) | (simp; done) | (simp; omega) | omega))
  have hkz7 := hk.size
  have c7_0 : V7.cell? ⟨tb, 0, none⟩ = some (.int .i64 l) := (hk.cell (p := ⟨tb, 0, none⟩) (by show tb < _; omega)).trans c6_0
  have c7_1 : V7.cell? ⟨tb, 1, none⟩ = some (.int .i64 u) := (hk.cell (p := ⟨tb, 1, none⟩) (by show tb < _; omega)).trans c6_1
  have c7_2 : V7.cell? ⟨tb, 2, none⟩ = some (.int .i64 v) := (hk.cell (p := ⟨tb, 2, none⟩) (by show tb < _; omega)).trans c6_2
  have c7_3 : V7.cell? ⟨tb, 3, none⟩ = some (.slice Af fs.length cf) := (hk.cell (p := ⟨tb, 3, none⟩) (by show tb < _; omega)).trans c6_3
  have c7_4 : V7.cell? ⟨tb, 4, none⟩ = some (.slice Aq ps.length cq) := (hk.cell (p := ⟨tb, 4, none⟩) (by show tb < _; omega)).trans c6_4
  have b7_0 : tb < V7.heap.size := by omega
  have R7_0 := hid (FreshA.below (cf := cIn) (sz := 1) (T := 3) (B := V1.heap.size) R6_0.out hk)
  have R7_1 := hid (FreshA.below (cf := cPu) (sz := 3) (T := 71) (B := V1.heap.size) R6_1.out hk)
  have R7_2 := hid (FreshA.below (cf := cIn) (sz := 1) (T := 3) (B := V1.heap.size) R6_2.out hk)
  have R7_3 := hid (FreshA.below (cf := cIn) (sz := 1) (T := 3) (B := V3.heap.size) R6_3.out hk)
  have R7_4 := hid (FreshA.below (cf := cIn) (sz := 1) (T := 3) (B := V5.heap.size) S6_4.out hk)
  have hw7 : Below w.heap.size w V7 := Below.trans hw (Below.mono hk (by have := hw.size; omega))
  clear hw hk
  have hw := hw7
  clear hw7
  have hwz := hw.size
  clear c6_0 c6_1 c6_2 c6_3 c6_4 R6_0 R6_1 R6_2 R6_3 S6_4
  clear hV
  refine (c_impl_PumpedWater l u v Af fs cf Aq ps cq Ap pl cp _ R7_0.out.rds (by omega) R7_1.out.rds (by omega) R7_2.out.rds (by omega)).mono ?_
  simp only [HW.out]
  rintro e W8 ⟨rfl, hb⟩
  have hk : Below V7.heap.size V7 W8 := hb
  have hkz8 := hk.size
  have c8_0 : W8.cell? ⟨tb, 0, none⟩ = some (.int .i64 l) := (hb.cell (p := ⟨tb, 0, none⟩) (by show tb < _; omega)).trans c7_0
  have c8_1 : W8.cell? ⟨tb, 1, none⟩ = some (.int .i64 u) := (hb.cell (p := ⟨tb, 1, none⟩) (by show tb < _; omega)).trans c7_1
  have c8_2 : W8.cell? ⟨tb, 2, none⟩ = some (.int .i64 v) := (hb.cell (p := ⟨tb, 2, none⟩) (by show tb < _; omega)).trans c7_2
  have c8_3 : W8.cell? ⟨tb, 3, none⟩ = some (.slice Af fs.length cf) := (hb.cell (p := ⟨tb, 3, none⟩) (by show tb < _; omega)).trans c7_3
  have c8_4 : W8.cell? ⟨tb, 4, none⟩ = some (.slice Aq ps.length cq) := (hb.cell (p := ⟨tb, 4, none⟩) (by show tb < _; omega)).trans c7_4
  have b8_0 : tb < W8.heap.size := by omega
  have R8_0 := hid (FreshA.below (cf := cIn) (sz := 1) (T := 3) (B := V1.heap.size) R7_0.out hk)
  have R8_1 := hid (FreshA.below (cf := cPu) (sz := 3) (T := 71) (B := V1.heap.size) R7_1.out hk)
  have R8_2 := hid (FreshA.below (cf := cIn) (sz := 1) (T := 3) (B := V1.heap.size) R7_2.out hk)
  have R8_3 := hid (FreshA.below (cf := cIn) (sz := 1) (T := 3) (B := V3.heap.size) R7_3.out hk)
  have R8_4 := hid (FreshA.below (cf := cIn) (sz := 1) (T := 3) (B := V5.heap.size) R7_4.out hk)
  have hw8 : Below w.heap.size w W8 := Below.trans hw (Below.mono hk (by have := hw.size; omega))
  clear hw hk
  have hw := hw8
  clear hw8
  have hwz := hw.size
  clear c7_0 c7_1 c7_2 c7_3 c7_4 R7_0 R7_1 R7_2 R7_3 R7_4
  clear hb
  go_wp2_with (fail)
  refine calls_named ?_
  intro V9 hV
  have hk : Below W8.heap.size W8 V9 := by rw [hV]; (repeat' (first | with_reducible exact Below.refl _ _ | with_reducible assumption | with_reducible refine Below.setCell ?_ ?_ _ | with_reducible refine Below.drew ?_ | with_reducible refine Below.alloc ?_ ?_ _ | with_reducible refine Below.trans ?_ (Below.mono (by assumption) ?_) | (dsimp only; omega) | (simp; done) | (simp; omega) | omega))
  have hkz9 := hk.size
  have c9_0 : V9.cell? ⟨tb, 0, none⟩ = some (.int .i64 l) := (hk.cell (p := ⟨tb, 0, none⟩) (by show tb < _; omega)).trans c8_0
  have c9_1 : V9.cell? ⟨tb, 1, none⟩ = some (.int .i64 u) := (hk.cell (p := ⟨tb, 1, none⟩) (by show tb < _; omega)).trans c8_1
  have c9_2 : V9.cell? ⟨tb, 2, none⟩ = some (.int .i64 v) := (hk.cell (p := ⟨tb, 2, none⟩) (by show tb < _; omega)).trans c8_2
  have c9_3 : V9.cell? ⟨tb, 3, none⟩ = some (.slice Af fs.length cf) := (hk.cell (p := ⟨tb, 3, none⟩) (by show tb < _; omega)).trans c8_3
  have c9_4 : V9.cell? ⟨tb, 4, none⟩ = some (.slice Aq ps.length cq) := (hk.cell (p := ⟨tb, 4, none⟩) (by show tb < _; omega)).trans c8_4
  have b9_0 : tb < V9.heap.size := by omega
  have R9_0 := hid (FreshA.below (cf := cIn) (sz := 1) (T := 3) (B := V1.heap.size) R8_0.out hk)
  have R9_1 := hid (FreshA.below (cf := cPu) (sz := 3) (T := 71) (B := V1.heap.size) R8_1.out hk)
  have R9_2 := hid (FreshA.below (cf := cIn) (sz := 1) (T := 3) (B := V1.heap.size) R8_2.out hk)
  have R9_3 := hid (FreshA.below (cf := cIn) (sz := 1) (T := 3) (B := V3.heap.size) R8_3.out hk)
  have R9_4 := hid (FreshA.below (cf := cIn) (sz := 1) (T := 3) (B := V5.heap.size) R8_4.out hk)
  have hw9 : Below w.heap.size w V9 := Below.trans hw (Below.mono hk (by have := hw.size; omega))
  clear hw hk
  have hw := hw9
  clear hw9
  have hwz := hw.size
  clear c8_0 c8_1 c8_2 c8_3 c8_4 R8_0 R8_1 R8_2 R8_3 R8_4
  clear hV
  refine (c_impl_IsSafePlan l u v Af fs cf Aq ps cq Ap pl cp _ R9_0.out.rds (by omega) R9_1.out.rds (by omega) R9_2.out.rds (by omega)).mono ?_
  simp only [HS.out]
  rintro e W10 ⟨rfl, hb⟩
  have hk : Below V9.heap.size V9 W10 := hb
  have hkz10 := hk.size
  have c10_0 : W10.cell? ⟨tb, 0, none⟩ = some (.int .i64 l) := (hb.cell (p := ⟨tb, 0, none⟩) (by show tb < _; omega)).trans c9_0
  have c10_1 : W10.cell? ⟨tb, 1, none⟩ = some (.int .i64 u) := (hb.cell (p := ⟨tb, 1, none⟩) (by show tb < _; omega)).trans c9_1
  have c10_2 : W10.cell? ⟨tb, 2, none⟩ = some (.int .i64 v) := (hb.cell (p := ⟨tb, 2, none⟩) (by show tb < _; omega)).trans c9_2
  have c10_3 : W10.cell? ⟨tb, 3, none⟩ = some (.slice Af fs.length cf) := (hb.cell (p := ⟨tb, 3, none⟩) (by show tb < _; omega)).trans c9_3
  have c10_4 : W10.cell? ⟨tb, 4, none⟩ = some (.slice Aq ps.length cq) := (hb.cell (p := ⟨tb, 4, none⟩) (by show tb < _; omega)).trans c9_4
  have b10_0 : tb < W10.heap.size := by omega
  have R10_0 := hid (FreshA.below (cf := cIn) (sz := 1) (T := 3) (B := V1.heap.size) R9_0.out hk)
  have R10_1 := hid (FreshA.below (cf := cPu) (sz := 3) (T := 71) (B := V1.heap.size) R9_1.out hk)
  have R10_2 := hid (FreshA.below (cf := cIn) (sz := 1) (T := 3) (B := V1.heap.size) R9_2.out hk)
  have R10_3 := hid (FreshA.below (cf := cIn) (sz := 1) (T := 3) (B := V3.heap.size) R9_3.out hk)
  have R10_4 := hid (FreshA.below (cf := cIn) (sz := 1) (T := 3) (B := V5.heap.size) R9_4.out hk)
  have hw10 : Below w.heap.size w W10 := Below.trans hw (Below.mono hk (by have := hw.size; omega))
  clear hw hk
  have hw := hw10
  clear hw10
  have hwz := hw.size
  clear c9_0 c9_1 c9_2 c9_3 c9_4 R9_0 R9_1 R9_2 R9_3 R9_4
  clear hb
  go_wp2_with (fail)
  refine calls_named ?_
  intro V11 hV
  have hk : Below W10.heap.size W10 V11 := by rw [hV]; (repeat' (first | with_reducible exact Below.refl _ _ | with_reducible assumption | with_reducible refine Below.setCell ?_ ?_ _ | with_reducible refine Below.drew ?_ | with_reducible refine Below.alloc ?_ ?_ _ | with_reducible refine Below.trans ?_ (Below.mono (by assumption) ?_) | (dsimp only; omega) | (simp; done) | (simp; omega) | omega))
  have hkz11 := hk.size
  have c11_0 : V11.cell? ⟨tb, 0, none⟩ = some (.int .i64 l) := (hk.cell (p := ⟨tb, 0, none⟩) (by show tb < _; omega)).trans c10_0
  have c11_1 : V11.cell? ⟨tb, 1, none⟩ = some (.int .i64 u) := (hk.cell (p := ⟨tb, 1, none⟩) (by show tb < _; omega)).trans c10_1
  have c11_2 : V11.cell? ⟨tb, 2, none⟩ = some (.int .i64 v) := (hk.cell (p := ⟨tb, 2, none⟩) (by show tb < _; omega)).trans c10_2
  have c11_3 : V11.cell? ⟨tb, 3, none⟩ = some (.slice Af fs.length cf) := (hk.cell (p := ⟨tb, 3, none⟩) (by show tb < _; omega)).trans c10_3
  have c11_4 : V11.cell? ⟨tb, 4, none⟩ = some (.slice Aq ps.length cq) := (hk.cell (p := ⟨tb, 4, none⟩) (by show tb < _; omega)).trans c10_4
  have b11_0 : tb < V11.heap.size := by omega
  have R11_0 := hid (FreshA.below (cf := cIn) (sz := 1) (T := 3) (B := V1.heap.size) R10_0.out hk)
  have R11_1 := hid (FreshA.below (cf := cPu) (sz := 3) (T := 71) (B := V1.heap.size) R10_1.out hk)
  have R11_2 := hid (FreshA.below (cf := cIn) (sz := 1) (T := 3) (B := V1.heap.size) R10_2.out hk)
  have R11_3 := hid (FreshA.below (cf := cIn) (sz := 1) (T := 3) (B := V3.heap.size) R10_3.out hk)
  have R11_4 := hid (FreshA.below (cf := cIn) (sz := 1) (T := 3) (B := V5.heap.size) R10_4.out hk)
  have hw11 : Below w.heap.size w V11 := Below.trans hw (Below.mono hk (by have := hw.size; omega))
  clear hw hk
  have hw := hw11
  clear hw11
  have hwz := hw.size
  clear c10_0 c10_1 c10_2 c10_3 c10_4 R10_0 R10_1 R10_2 R10_3 R10_4
  clear hV
  refine (c_impl_FirstUnsafe l u v Af fs cf Aq ps cq Ap pl cp _ R11_0.out.rds (by omega) R11_1.out.rds (by omega) R11_2.out.rds (by omega)).mono ?_
  simp only [HU.out]
  rintro e W12 ⟨rfl, hb⟩
  have hk : Below V11.heap.size V11 W12 := hb
  have hkz12 := hk.size
  have c12_0 : W12.cell? ⟨tb, 0, none⟩ = some (.int .i64 l) := (hb.cell (p := ⟨tb, 0, none⟩) (by show tb < _; omega)).trans c11_0
  have c12_1 : W12.cell? ⟨tb, 1, none⟩ = some (.int .i64 u) := (hb.cell (p := ⟨tb, 1, none⟩) (by show tb < _; omega)).trans c11_1
  have c12_2 : W12.cell? ⟨tb, 2, none⟩ = some (.int .i64 v) := (hb.cell (p := ⟨tb, 2, none⟩) (by show tb < _; omega)).trans c11_2
  have c12_3 : W12.cell? ⟨tb, 3, none⟩ = some (.slice Af fs.length cf) := (hb.cell (p := ⟨tb, 3, none⟩) (by show tb < _; omega)).trans c11_3
  have c12_4 : W12.cell? ⟨tb, 4, none⟩ = some (.slice Aq ps.length cq) := (hb.cell (p := ⟨tb, 4, none⟩) (by show tb < _; omega)).trans c11_4
  have b12_0 : tb < W12.heap.size := by omega
  have R12_0 := hid (FreshA.below (cf := cIn) (sz := 1) (T := 3) (B := V1.heap.size) R11_0.out hk)
  have R12_1 := hid (FreshA.below (cf := cPu) (sz := 3) (T := 71) (B := V1.heap.size) R11_1.out hk)
  have R12_2 := hid (FreshA.below (cf := cIn) (sz := 1) (T := 3) (B := V1.heap.size) R11_2.out hk)
  have R12_3 := hid (FreshA.below (cf := cIn) (sz := 1) (T := 3) (B := V3.heap.size) R11_3.out hk)
  have R12_4 := hid (FreshA.below (cf := cIn) (sz := 1) (T := 3) (B := V5.heap.size) R11_4.out hk)
  have hw12 : Below w.heap.size w W12 := Below.trans hw (Below.mono hk (by have := hw.size; omega))
  clear hw hk
  have hw := hw12
  clear hw12
  have hwz := hw.size
  clear c11_0 c11_1 c11_2 c11_3 c11_4 R11_0 R11_1 R11_2 R11_3 R11_4
  clear hb
  go_wp2_with (fail)
  refine calls_named ?_
  intro V13 hV
  have hk : Below W12.heap.size W12 V13 := by rw [hV]; (repeat' (first | with_reducible exact Below.refl _ _ | with_reducible assumption | with_reducible refine Below.setCell ?_ ?_ _ | with_reducible refine Below.drew ?_ | with_reducible refine Below.alloc ?_ ?_ _ | with_reducible refine Below.trans ?_ (Below.mono (by assumption) ?_) | (dsimp only; omega) | (simp; done) | (simp; omega) | omega))
  have hkz13 := hk.size
  have c13_0 : V13.cell? ⟨tb, 0, none⟩ = some (.int .i64 l) := (hk.cell (p := ⟨tb, 0, none⟩) (by show tb < _; omega)).trans c12_0
  have c13_1 : V13.cell? ⟨tb, 1, none⟩ = some (.int .i64 u) := (hk.cell (p := ⟨tb, 1, none⟩) (by show tb < _; omega)).trans c12_1
  have c13_2 : V13.cell? ⟨tb, 2, none⟩ = some (.int .i64 v) := (hk.cell (p := ⟨tb, 2, none⟩) (by show tb < _; omega)).trans c12_2
  have c13_3 : V13.cell? ⟨tb, 3, none⟩ = some (.slice Af fs.length cf) := (hk.cell (p := ⟨tb, 3, none⟩) (by show tb < _; omega)).trans c12_3
  have c13_4 : V13.cell? ⟨tb, 4, none⟩ = some (.slice Aq ps.length cq) := (hk.cell (p := ⟨tb, 4, none⟩) (by show tb < _; omega)).trans c12_4
  have b13_0 : tb < V13.heap.size := by omega
  have R13_0 := hid (FreshA.below (cf := cIn) (sz := 1) (T := 3) (B := V1.heap.size) R12_0.out hk)
  have R13_1 := hid (FreshA.below (cf := cPu) (sz := 3) (T := 71) (B := V1.heap.size) R12_1.out hk)
  have R13_2 := hid (FreshA.below (cf := cIn) (sz := 1) (T := 3) (B := V1.heap.size) R12_2.out hk)
  have R13_3 := hid (FreshA.below (cf := cIn) (sz := 1) (T := 3) (B := V3.heap.size) R12_3.out hk)
  have R13_4 := hid (FreshA.below (cf := cIn) (sz := 1) (T := 3) (B := V5.heap.size) R12_4.out hk)
  have hw13 : Below w.heap.size w V13 := Below.trans hw (Below.mono hk (by have := hw.size; omega))
  clear hw hk
  have hw := hw13
  clear hw13
  have hwz := hw.size
  clear c12_0 c12_1 c12_2 c12_3 c12_4 R12_0 R12_1 R12_2 R12_3 R12_4
  clear hV
  refine (c_spec_PumpedWater l u v Af fs cf Aq ps cq Ap pl cp _ R13_0.out.rds (by omega) R13_1.out.rds (by omega) R13_2.out.rds (by omega)).mono ?_
  simp only [HW.out]
  rintro e W14 ⟨rfl, hb⟩
  have hk : Below V13.heap.size V13 W14 := hb
  have hkz14 := hk.size
  have c14_0 : W14.cell? ⟨tb, 0, none⟩ = some (.int .i64 l) := (hb.cell (p := ⟨tb, 0, none⟩) (by show tb < _; omega)).trans c13_0
  have c14_1 : W14.cell? ⟨tb, 1, none⟩ = some (.int .i64 u) := (hb.cell (p := ⟨tb, 1, none⟩) (by show tb < _; omega)).trans c13_1
  have c14_2 : W14.cell? ⟨tb, 2, none⟩ = some (.int .i64 v) := (hb.cell (p := ⟨tb, 2, none⟩) (by show tb < _; omega)).trans c13_2
  have c14_3 : W14.cell? ⟨tb, 3, none⟩ = some (.slice Af fs.length cf) := (hb.cell (p := ⟨tb, 3, none⟩) (by show tb < _; omega)).trans c13_3
  have c14_4 : W14.cell? ⟨tb, 4, none⟩ = some (.slice Aq ps.length cq) := (hb.cell (p := ⟨tb, 4, none⟩) (by show tb < _; omega)).trans c13_4
  have b14_0 : tb < W14.heap.size := by omega
  have R14_0 := hid (FreshA.below (cf := cIn) (sz := 1) (T := 3) (B := V1.heap.size) R13_0.out hk)
  have R14_1 := hid (FreshA.below (cf := cPu) (sz := 3) (T := 71) (B := V1.heap.size) R13_1.out hk)
  have R14_2 := hid (FreshA.below (cf := cIn) (sz := 1) (T := 3) (B := V1.heap.size) R13_2.out hk)
  have R14_3 := hid (FreshA.below (cf := cIn) (sz := 1) (T := 3) (B := V3.heap.size) R13_3.out hk)
  have R14_4 := hid (FreshA.below (cf := cIn) (sz := 1) (T := 3) (B := V5.heap.size) R13_4.out hk)
  have hw14 : Below w.heap.size w W14 := Below.trans hw (Below.mono hk (by have := hw.size; omega))
  clear hw hk
  have hw := hw14
  clear hw14
  have hwz := hw.size
  clear c13_0 c13_1 c13_2 c13_3 c13_4 R13_0 R13_1 R13_2 R13_3 R13_4
  clear hb
  go_wp2_with (fail)
  refine calls_named ?_
  intro V15 hV
  have hk : Below W14.heap.size W14 V15 := by rw [hV]; (repeat' (first | with_reducible exact Below.refl _ _ | with_reducible assumption | with_reducible refine Below.setCell ?_ ?_ _ | with_reducible refine Below.drew ?_ | with_reducible refine Below.alloc ?_ ?_ _ | with_reducible refine Below.trans ?_ (Below.mono (by assumption) ?_) | (dsimp only; omega) | (simp; done) | (simp; omega) | omega))
  have hkz15 := hk.size
  have c15_0 : V15.cell? ⟨tb, 0, none⟩ = some (.int .i64 l) := (hk.cell (p := ⟨tb, 0, none⟩) (by show tb < _; omega)).trans c14_0
  have c15_1 : V15.cell? ⟨tb, 1, none⟩ = some (.int .i64 u) := (hk.cell (p := ⟨tb, 1, none⟩) (by show tb < _; omega)).trans c14_1
  have c15_2 : V15.cell? ⟨tb, 2, none⟩ = some (.int .i64 v) := (hk.cell (p := ⟨tb, 2, none⟩) (by show tb < _; omega)).trans c14_2
  have c15_3 : V15.cell? ⟨tb, 3, none⟩ = some (.slice Af fs.length cf) := (hk.cell (p := ⟨tb, 3, none⟩) (by show tb < _; omega)).trans c14_3
  have c15_4 : V15.cell? ⟨tb, 4, none⟩ = some (.slice Aq ps.length cq) := (hk.cell (p := ⟨tb, 4, none⟩) (by show tb < _; omega)).trans c14_4
  have b15_0 : tb < V15.heap.size := by omega
  have R15_0 := hid (FreshA.below (cf := cIn) (sz := 1) (T := 3) (B := V1.heap.size) R14_0.out hk)
  have R15_1 := hid (FreshA.below (cf := cPu) (sz := 3) (T := 71) (B := V1.heap.size) R14_1.out hk)
  have R15_2 := hid (FreshA.below (cf := cIn) (sz := 1) (T := 3) (B := V1.heap.size) R14_2.out hk)
  have R15_3 := hid (FreshA.below (cf := cIn) (sz := 1) (T := 3) (B := V3.heap.size) R14_3.out hk)
  have R15_4 := hid (FreshA.below (cf := cIn) (sz := 1) (T := 3) (B := V5.heap.size) R14_4.out hk)
  have hw15 : Below w.heap.size w V15 := Below.trans hw (Below.mono hk (by have := hw.size; omega))
  clear hw hk
  have hw := hw15
  clear hw15
  have hwz := hw.size
  clear c14_0 c14_1 c14_2 c14_3 c14_4 R14_0 R14_1 R14_2 R14_3 R14_4
  clear hV
  refine (c_spec_IsSafePlan l u v Af fs cf Aq ps cq Ap pl cp _ R15_0.out.rds (by omega) R15_1.out.rds (by omega) R15_2.out.rds (by omega)).mono ?_
  simp only [HS.out]
  rintro e W16 ⟨rfl, hb⟩
  have hk : Below V15.heap.size V15 W16 := hb
  have hkz16 := hk.size
  have c16_0 : W16.cell? ⟨tb, 0, none⟩ = some (.int .i64 l) := (hb.cell (p := ⟨tb, 0, none⟩) (by show tb < _; omega)).trans c15_0
  have c16_1 : W16.cell? ⟨tb, 1, none⟩ = some (.int .i64 u) := (hb.cell (p := ⟨tb, 1, none⟩) (by show tb < _; omega)).trans c15_1
  have c16_2 : W16.cell? ⟨tb, 2, none⟩ = some (.int .i64 v) := (hb.cell (p := ⟨tb, 2, none⟩) (by show tb < _; omega)).trans c15_2
  have c16_3 : W16.cell? ⟨tb, 3, none⟩ = some (.slice Af fs.length cf) := (hb.cell (p := ⟨tb, 3, none⟩) (by show tb < _; omega)).trans c15_3
  have c16_4 : W16.cell? ⟨tb, 4, none⟩ = some (.slice Aq ps.length cq) := (hb.cell (p := ⟨tb, 4, none⟩) (by show tb < _; omega)).trans c15_4
  have b16_0 : tb < W16.heap.size := by omega
  have R16_0 := hid (FreshA.below (cf := cIn) (sz := 1) (T := 3) (B := V1.heap.size) R15_0.out hk)
  have R16_1 := hid (FreshA.below (cf := cPu) (sz := 3) (T := 71) (B := V1.heap.size) R15_1.out hk)
  have R16_2 := hid (FreshA.below (cf := cIn) (sz := 1) (T := 3) (B := V1.heap.size) R15_2.out hk)
  have R16_3 := hid (FreshA.below (cf := cIn) (sz := 1) (T := 3) (B := V3.heap.size) R15_3.out hk)
  have R16_4 := hid (FreshA.below (cf := cIn) (sz := 1) (T := 3) (B := V5.heap.size) R15_4.out hk)
  have hw16 : Below w.heap.size w W16 := Below.trans hw (Below.mono hk (by have := hw.size; omega))
  clear hw hk
  have hw := hw16
  clear hw16
  have hwz := hw.size
  clear c15_0 c15_1 c15_2 c15_3 c15_4 R15_0 R15_1 R15_2 R15_3 R15_4
  clear hb
  go_wp2_with (fail)
  refine calls_named ?_
  intro V17 hV
  have hk : Below W16.heap.size W16 V17 := by rw [hV]; (repeat' (first | with_reducible exact Below.refl _ _ | with_reducible assumption | with_reducible refine Below.setCell ?_ ?_ _ | with_reducible refine Below.drew ?_ | with_reducible refine Below.alloc ?_ ?_ _ | with_reducible refine Below.trans ?_ (Below.mono (by assumption) ?_) | (dsimp only; omega) | (simp; done) | (simp; omega) | omega))
  have hkz17 := hk.size
  have c17_0 : V17.cell? ⟨tb, 0, none⟩ = some (.int .i64 l) := (hk.cell (p := ⟨tb, 0, none⟩) (by show tb < _; omega)).trans c16_0
  have c17_1 : V17.cell? ⟨tb, 1, none⟩ = some (.int .i64 u) := (hk.cell (p := ⟨tb, 1, none⟩) (by show tb < _; omega)).trans c16_1
  have c17_2 : V17.cell? ⟨tb, 2, none⟩ = some (.int .i64 v) := (hk.cell (p := ⟨tb, 2, none⟩) (by show tb < _; omega)).trans c16_2
  have c17_3 : V17.cell? ⟨tb, 3, none⟩ = some (.slice Af fs.length cf) := (hk.cell (p := ⟨tb, 3, none⟩) (by show tb < _; omega)).trans c16_3
  have c17_4 : V17.cell? ⟨tb, 4, none⟩ = some (.slice Aq ps.length cq) := (hk.cell (p := ⟨tb, 4, none⟩) (by show tb < _; omega)).trans c16_4
  have b17_0 : tb < V17.heap.size := by omega
  have R17_0 := hid (FreshA.below (cf := cIn) (sz := 1) (T := 3) (B := V1.heap.size) R16_0.out hk)
  have R17_1 := hid (FreshA.below (cf := cPu) (sz := 3) (T := 71) (B := V1.heap.size) R16_1.out hk)
  have R17_2 := hid (FreshA.below (cf := cIn) (sz := 1) (T := 3) (B := V1.heap.size) R16_2.out hk)
  have R17_3 := hid (FreshA.below (cf := cIn) (sz := 1) (T := 3) (B := V3.heap.size) R16_3.out hk)
  have R17_4 := hid (FreshA.below (cf := cIn) (sz := 1) (T := 3) (B := V5.heap.size) R16_4.out hk)
  have hw17 : Below w.heap.size w V17 := Below.trans hw (Below.mono hk (by have := hw.size; omega))
  clear hw hk
  have hw := hw17
  clear hw17
  have hwz := hw.size
  clear c16_0 c16_1 c16_2 c16_3 c16_4 R16_0 R16_1 R16_2 R16_3 R16_4
  clear hV
  refine (c_spec_FirstUnsafe l u v Af fs cf Aq ps cq Ap pl cp _ R17_0.out.rds (by omega) R17_1.out.rds (by omega) R17_2.out.rds (by omega)).mono ?_
  simp only [HU.out]
  rintro e W18 ⟨rfl, hb⟩
  have hk : Below V17.heap.size V17 W18 := hb
  have hkz18 := hk.size
  have c18_0 : W18.cell? ⟨tb, 0, none⟩ = some (.int .i64 l) := (hb.cell (p := ⟨tb, 0, none⟩) (by show tb < _; omega)).trans c17_0
  have c18_1 : W18.cell? ⟨tb, 1, none⟩ = some (.int .i64 u) := (hb.cell (p := ⟨tb, 1, none⟩) (by show tb < _; omega)).trans c17_1
  have c18_2 : W18.cell? ⟨tb, 2, none⟩ = some (.int .i64 v) := (hb.cell (p := ⟨tb, 2, none⟩) (by show tb < _; omega)).trans c17_2
  have c18_3 : W18.cell? ⟨tb, 3, none⟩ = some (.slice Af fs.length cf) := (hb.cell (p := ⟨tb, 3, none⟩) (by show tb < _; omega)).trans c17_3
  have c18_4 : W18.cell? ⟨tb, 4, none⟩ = some (.slice Aq ps.length cq) := (hb.cell (p := ⟨tb, 4, none⟩) (by show tb < _; omega)).trans c17_4
  have b18_0 : tb < W18.heap.size := by omega
  have R18_0 := hid (FreshA.below (cf := cIn) (sz := 1) (T := 3) (B := V1.heap.size) R17_0.out hk)
  have R18_1 := hid (FreshA.below (cf := cPu) (sz := 3) (T := 71) (B := V1.heap.size) R17_1.out hk)
  have R18_2 := hid (FreshA.below (cf := cIn) (sz := 1) (T := 3) (B := V1.heap.size) R17_2.out hk)
  have R18_3 := hid (FreshA.below (cf := cIn) (sz := 1) (T := 3) (B := V3.heap.size) R17_3.out hk)
  have R18_4 := hid (FreshA.below (cf := cIn) (sz := 1) (T := 3) (B := V5.heap.size) R17_4.out hk)
  have hw18 : Below w.heap.size w W18 := Below.trans hw (Below.mono hk (by have := hw.size; omega))
  clear hw hk
  have hw := hw18
  clear hw18
  have hwz := hw.size
  clear c17_0 c17_1 c17_2 c17_3 c17_4 R17_0 R17_1 R17_2 R17_3 R17_4
  clear hb
  clear R18_2
  clear R18_4
  rcases hcs with ⟨rfl, rfl⟩ | ⟨rfl, rfl, j, y, rfl, hjn, hyj, hyo⟩
  · have hnq : (n : Int) < (lv.length : Int) := by omega
    have HX := hid R18_0.out.rds
    obtain ⟨b9, o9, hge9, hb9, hc9⟩ := R18_3.out.rds n _ hlast
    cases hge9
    have hyn := hc9 0 _ rfl
    simp only [Nat.add_zero, Nat.mul_one, Nat.zero_add] at hyn
    clear hc9
    change _ = some (Value.int IntKind.i64 (v + sumL fs - pw)) at hyn
    have hwi : IntKind.i64.wrap ((lv.length : Int) - 1) = (n : Int) := by rw [wr_id2 (by omega)]; omega
    have hw1 : IntKind.i64.wrap (v + sumL fs) = v + sumL fs := wr_id2 (by omega)
    have hw2 : IntKind.i64.wrap (v + sumL fs - pw) = v + sumL fs - pw := wr_id2 (by omega)
    have HKQ : Hid (∀ w' : World, Below W18.heap.size W18 w' → w'.cell? ⟨tb, 0, none⟩ = some (.int .i64 l) ∧ w'.cell? ⟨tb, 1, none⟩ = some (.int .i64 u) ∧ w'.cell? ⟨tb, 2, none⟩ = some (.int .i64 v) ∧ w'.cell? ⟨tb, 3, none⟩ = some (.slice Af fs.length cf) ∧ w'.cell? ⟨tb, 4, none⟩ = some (.slice Aq ps.length cq) ∧ w'.cell? ⟨gl, n, none⟩ = some (.int .i64 (v + sumL fs - pw))) := fun w' hbv => ⟨(hbv.cell (p := ⟨tb, 0, none⟩) (by show tb < _; omega)).trans c18_0, (hbv.cell (p := ⟨tb, 1, none⟩) (by show tb < _; omega)).trans c18_1, (hbv.cell (p := ⟨tb, 2, none⟩) (by show tb < _; omega)).trans c18_2, (hbv.cell (p := ⟨tb, 3, none⟩) (by show tb < _; omega)).trans c18_3, (hbv.cell (p := ⟨tb, 4, none⟩) (by show tb < _; omega)).trans c18_4, (hbv.cell (p := ⟨gl, n, none⟩) (by show gl < _; omega)).trans hyn⟩
    have hbq : Below W18.heap.size W18 W18 := Below.refl _ _
    go_wp2_with (fail)
    go_region_held3 (fun w' => w'.cell? ⟨tb, 0, none⟩ = some (.int .i64 l) ∧ w'.cell? ⟨tb, 1, none⟩ = some (.int .i64 u) ∧ w'.cell? ⟨tb, 2, none⟩ = some (.int .i64 v) ∧ w'.cell? ⟨tb, 3, none⟩ = some (.slice Af fs.length cf) ∧ w'.cell? ⟨tb, 4, none⟩ = some (.slice Aq ps.length cq) ∧ w'.cell? ⟨gl, n, none⟩ = some (.int .i64 (v + sumL fs - pw))) (first | assumption | exact HKQ.out _ (by (repeat' (first | with_reducible exact Below.refl _ _ | with_reducible assumption | with_reducible refine Below.setCell ?_ ?_ _ | with_reducible refine Below.drew ?_ | with_reducible refine Below.alloc ?_ ?_ _ | with_reducible refine Below.trans ?_ (Below.mono (by assumption) ?_) | (dsimp only; omega) | (simp; done) | (simp; omega) | omega)))) (first | (go_at_call 44; refine (c_laws_rSum _ fs _ _ (Rds.below HX.out (by (repeat' (first | with_reducible exact Below.refl _ _ | with_reducible assumption | with_reducible refine Below.setCell ?_ ?_ _ | with_reducible refine Below.drew ?_ | with_reducible refine Below.alloc ?_ ?_ _ | with_reducible refine Below.trans ?_ (Below.mono (by assumption) ?_) | (dsimp only; omega) | (simp; done) | (simp; omega) | omega)))) (by omega) HFL.out).mono ?_; rintro e w' ⟨rfl, hb⟩; have hz := hb.size; (try simp at hz)))
    all_goals
      try simp only [hw1, hw2]
      clear HX HKQ hbq hyn
      go_wp2_with (fail)
      refine wp_named ?_
      intro V19 hV
      have hk : Below W18.heap.size W18 V19 := by rw [hV]; (repeat' (first | with_reducible exact Below.refl _ _ | with_reducible assumption | with_reducible refine Below.setCell ?_ ?_ _ | with_reducible refine Below.drew ?_ | with_reducible refine Below.alloc ?_ ?_ _ | with_reducible refine Below.trans ?_ (Below.mono (by assumption) ?_) | (dsimp only; omega) | (simp; done) | (simp; omega) | omega))
      have hkz19 := hk.size
      have c19_0 : V19.cell? ⟨tb, 0, none⟩ = some (.int .i64 l) := by rw [hV]; first | exact c18_0 | (first | (simp [go_sem, ↓IntWalk.iteOmega, *]; done) | (simp [go_sem, ↓IntWalk.iteOmega, *]; intros; omega))
      have c19_1 : V19.cell? ⟨tb, 1, none⟩ = some (.int .i64 u) := by rw [hV]; first | exact c18_1 | (first | (simp [go_sem, ↓IntWalk.iteOmega, *]; done) | (simp [go_sem, ↓IntWalk.iteOmega, *]; intros; omega))
      have c19_2 : V19.cell? ⟨tb, 2, none⟩ = some (.int .i64 v) := by rw [hV]; first | exact c18_2 | (first | (simp [go_sem, ↓IntWalk.iteOmega, *]; done) | (simp [go_sem, ↓IntWalk.iteOmega, *]; intros; omega))
      have c19_3 : V19.cell? ⟨tb, 3, none⟩ = some (.slice Af fs.length cf) := by rw [hV]; first | exact c18_3 | (first | (simp [go_sem, ↓IntWalk.iteOmega, *]; done) | (simp [go_sem, ↓IntWalk.iteOmega, *]; intros; omega))
      have c19_4 : V19.cell? ⟨tb, 4, none⟩ = some (.slice Aq ps.length cq) := by rw [hV]; first | exact c18_4 | (first | (simp [go_sem, ↓IntWalk.iteOmega, *]; done) | (simp [go_sem, ↓IntWalk.iteOmega, *]; intros; omega))
      have b19_0 : tb < V19.heap.size := by omega
      have R19_0 := hid (FreshA.below (cf := cIn) (sz := 1) (T := 3) (B := V1.heap.size) R18_0.out hk)
      have R19_1 := hid (FreshA.below (cf := cPu) (sz := 3) (T := 71) (B := V1.heap.size) R18_1.out hk)
      have R19_2 := hid (FreshA.below (cf := cIn) (sz := 1) (T := 3) (B := V3.heap.size) R18_3.out hk)
      have hw19 : Below w.heap.size w V19 := Below.trans hw (Below.mono hk (by have := hw.size; omega))
      clear hw hk
      have hw := hw19
      clear hw19
      have hwz := hw.size
      clear c18_0 c18_1 c18_2 c18_3 c18_4 R18_0 R18_1 R18_3
      clear hV
      refine wp_region_w (n := 19) [] [] (FS12_22_20 lv.length w) rfl (by kernel_rfl) (fun _ _ d _ _ h => by cases d <;> exact h) ?_ ?_ ?_ ?_ ?_ ?_
      · intro iq
        match iq with
        | 0 | 1 | 2 | 3 | 4 | 5 | 6 | 7 | 8 | 9 | 10 | 11 | 12 | 13 | 14 | 15 | 16 | 17 | 18 => exact Stable.const _
        | n + 19 => exact Stable.const _
      · intro iq hi
        exact absurd hi (by simp)
      · intro iq hi
        exact absurd hi (by simp)
      · intro iq o hi hl ho vals w1 hb1 hf
        exact absurd hl (by simp)
      · intro iq o hi hl ho vals w1 hb1 hf
        match iq, hi with
        | 0, _ =>
          injection ho with ho
          subst ho
          clear hl
          simp only [fillA, List.take, List.drop, put_none, Act.put, List.setIfInBounds_toArray, List.set_cons_zero, List.set_cons_succ, Nat.reduceAdd]
          clear hf
          go_wp2_with (fail)
          exact RQ.mk rfl ⟨(by first | rfl | (simp [FS12_22_20]; done) | (simp [FS12_22_20, *]; done) | (simp [FS12_22_20, gotV]; done) | (simp [FS12_22_20, gotV]; omega)), fun h => absurd h (by decide)⟩ (Below.refl _ _)
        | 1, _ =>
          injection ho with ho
          subst ho
          clear hl
          simp only [fillA, List.take, List.drop, put_none, Act.put, List.setIfInBounds_toArray, List.set_cons_zero, List.set_cons_succ, Nat.reduceAdd]
          have f0 := hf 0 (by decide) (by kernel_rfl)
          generalize vals 0 = v0 at *
          subst f0
          clear hf
          go_wp2_with (fail)
          exact RQ.mk rfl ⟨(by first | rfl | (simp [FS12_22_20]; done) | (simp [FS12_22_20, *]; done) | (simp [FS12_22_20, gotV]; done) | (simp [FS12_22_20, gotV]; omega)), fun h => absurd h (by decide)⟩ (Below.refl _ _)
        | 2, _ =>
          injection ho with ho
          subst ho
          clear hl
          simp only [fillA, List.take, List.drop, put_none, Act.put, List.setIfInBounds_toArray, List.set_cons_zero, List.set_cons_succ, Nat.reduceAdd]
          have f1 := hf 1 (by decide) (by kernel_rfl)
          generalize vals 1 = v1 at *
          subst f1
          clear hf
          go_wp2_with (fail)
          exact RQ.mk rfl ⟨(by first | rfl | (simp [FS12_22_20]; done) | (simp [FS12_22_20, *]; done) | (simp [FS12_22_20, gotV]; done) | (simp [FS12_22_20, gotV]; omega)), fun h => absurd h (by decide)⟩ (Below.refl _ _)
        | 3, _ =>
          injection ho with ho
          subst ho
          clear hl
          simp only [fillA, List.take, List.drop, put_none, Act.put, List.setIfInBounds_toArray, List.set_cons_zero, List.set_cons_succ, Nat.reduceAdd]
          have f1 := hf 1 (by decide) (by kernel_rfl)
          generalize vals 1 = v1 at *
          subst f1
          clear hf
          go_wp2_with (fail)
          exact RQ.mk rfl ⟨(by first | rfl | (simp [FS12_22_20]; done) | (simp [FS12_22_20, *]; done) | (simp [FS12_22_20, gotV]; done) | (simp [FS12_22_20, gotV]; omega)), fun h => absurd h (by decide)⟩ (Below.refl _ _)
        | 4, _ =>
          injection ho with ho
          subst ho
          clear hl
          simp only [fillA, List.take, List.drop, put_none, Act.put, List.setIfInBounds_toArray, List.set_cons_zero, List.set_cons_succ, Nat.reduceAdd]
          have f2 := hf 2 (by decide) (by kernel_rfl)
          generalize vals 2 = v2 at *
          subst f2
          have f3 := hf 3 (by decide) (by kernel_rfl)
          generalize vals 3 = v3 at *
          subst f3
          have f1 := hf 1 (by decide) (by kernel_rfl)
          generalize vals 1 = v1 at *
          subst f1
          clear hf
          go_wp2_with (fail)
          exact RQ.mk rfl ⟨(by first | rfl | (simp [FS12_22_20]; done) | (simp [FS12_22_20, *]; done) | (simp [FS12_22_20, gotV]; done) | (simp [FS12_22_20, gotV]; omega)), fun h => absurd h (by decide)⟩ (Below.refl _ _)
        | 5, _ =>
          injection ho with ho
          subst ho
          clear hl
          simp only [fillA, List.take, List.drop, put_none, Act.put, List.setIfInBounds_toArray, List.set_cons_zero, List.set_cons_succ, Nat.reduceAdd]
          have f4 := hf 4 (by decide) (by kernel_rfl)
          generalize vals 4 = v4 at *
          subst f4
          have f1 := hf 1 (by decide) (by kernel_rfl)
          generalize vals 1 = v1 at *
          subst f1
          clear hf
          go_wp2_with (fail)
          exact RQ.mk rfl ⟨(by first | rfl | (simp [FS12_22_20]; done) | (simp [FS12_22_20, *]; done) | (simp [FS12_22_20, gotV]; done) | (simp [FS12_22_20, gotV]; omega)), fun h => absurd h (by decide)⟩ (Below.refl _ _)
        | 6, _ =>
          injection ho with ho
          subst ho
          clear hl
          simp only [fillA, List.take, List.drop, put_none, Act.put, List.setIfInBounds_toArray, List.set_cons_zero, List.set_cons_succ, Nat.reduceAdd]
          have f1 := hf 1 (by decide) (by kernel_rfl)
          generalize vals 1 = v1 at *
          subst f1
          clear hf
          go_wp2_with (fail)
          exact RQ.mk rfl ⟨(by first | rfl | (simp [FS12_22_20]; done) | (simp [FS12_22_20, *]; done) | (simp [FS12_22_20, gotV]; done) | (simp [FS12_22_20, gotV]; omega)), fun h => absurd h (by decide)⟩ (Below.refl _ _)
        | 7, _ =>
          injection ho with ho
          subst ho
          clear hl
          simp only [fillA, List.take, List.drop, put_none, Act.put, List.setIfInBounds_toArray, List.set_cons_zero, List.set_cons_succ, Nat.reduceAdd]
          have f6 := hf 6 (by decide) (by kernel_rfl)
          generalize vals 6 = v6 at *
          subst f6
          have f1 := hf 1 (by decide) (by kernel_rfl)
          generalize vals 1 = v1 at *
          subst f1
          clear hf
          go_wp2_with (fail)
          exact RQ.mk rfl ⟨(by first | rfl | (simp [FS12_22_20]; done) | (simp [FS12_22_20, *]; done) | (simp [FS12_22_20, gotV]; done) | (simp [FS12_22_20, gotV]; omega)), fun h => absurd h (by decide)⟩ (Below.refl _ _)
        | 8, _ =>
          injection ho with ho
          subst ho
          clear hl
          simp only [fillA, List.take, List.drop, put_none, Act.put, List.setIfInBounds_toArray, List.set_cons_zero, List.set_cons_succ, Nat.reduceAdd]
          have f5 := hf 5 (by decide) (by kernel_rfl)
          generalize vals 5 = v5 at *
          subst f5
          have f7 := hf 7 (by decide) (by kernel_rfl)
          generalize vals 7 = v7 at *
          subst f7
          have f1 := hf 1 (by decide) (by kernel_rfl)
          generalize vals 1 = v1 at *
          subst f1
          clear hf
          go_wp2_with (fail)
          exact RQ.mk rfl ⟨(by first | rfl | (simp [FS12_22_20]; done) | (simp [FS12_22_20, *]; done) | (simp [FS12_22_20, gotV]; done) | (simp [FS12_22_20, gotV]; omega)), fun h => absurd h (by decide)⟩ (Below.refl _ _)
        | 9, _ =>
          injection ho with ho
          subst ho
          clear hl
          simp only [fillA, List.take, List.drop, put_none, Act.put, List.setIfInBounds_toArray, List.set_cons_zero, List.set_cons_succ, Nat.reduceAdd]
          have f1 := hf 1 (by decide) (by kernel_rfl)
          generalize vals 1 = v1 at *
          subst f1
          have f8 := hf 8 (by decide) (by kernel_rfl)
          generalize vals 8 = v8 at *
          subst f8
          clear hf
          go_wp2_with (fail)
          exact RQ.mk rfl ⟨(by first | rfl | (simp [FS12_22_20]; done) | (simp [FS12_22_20, *]; done) | (simp [FS12_22_20, gotV]; done) | (simp [FS12_22_20, gotV]; omega)), fun h => absurd h (by decide)⟩ (Below.refl _ _)
        | 10, _ =>
          injection ho with ho
          subst ho
          clear hl
          simp only [fillA, List.take, List.drop, put_none, Act.put, List.setIfInBounds_toArray, List.set_cons_zero, List.set_cons_succ, Nat.reduceAdd]
          have f9 := hf 9 (by decide) (by kernel_rfl)
          generalize vals 9 = v9 at *
          subst f9
          have f1 := hf 1 (by decide) (by kernel_rfl)
          generalize vals 1 = v1 at *
          subst f1
          clear hf
          go_wp2_with (fail)
          exact RQ.mk rfl ⟨(by first | rfl | (simp [FS12_22_20]; done) | (simp [FS12_22_20, *]; done) | (simp [FS12_22_20, gotV]; done) | (simp [FS12_22_20, gotV]; omega)), fun h => absurd h (by decide)⟩ (Below.refl _ _)
        | 11, _ =>
          injection ho with ho
          subst ho
          clear hl
          simp only [fillA, List.take, List.drop, put_none, Act.put, List.setIfInBounds_toArray, List.set_cons_zero, List.set_cons_succ, Nat.reduceAdd]
          have f10 := hf 10 (by decide) (by kernel_rfl)
          generalize vals 10 = v10 at *
          subst f10
          clear hf
          go_wp2_with (fail)
          exact RQ.mk rfl ⟨(by first | rfl | (simp [FS12_22_20]; done) | (simp [FS12_22_20, *]; done) | (simp [FS12_22_20, gotV]; done) | (simp [FS12_22_20, gotV]; omega)), fun h => absurd h (by decide)⟩ (Below.refl _ _)
        | 12, _ =>
          injection ho with ho
          subst ho
          clear hl
          simp only [fillA, List.take, List.drop, put_none, Act.put, List.setIfInBounds_toArray, List.set_cons_zero, List.set_cons_succ, Nat.reduceAdd]
          have f10 := hf 10 (by decide) (by kernel_rfl)
          generalize vals 10 = v10 at *
          subst f10
          clear hf
          go_wp2_with (fail)
          exact RQ.mk rfl ⟨(by first | rfl | (simp [FS12_22_20]; done) | (simp [FS12_22_20, *]; done) | (simp [FS12_22_20, gotV]; done) | (simp [FS12_22_20, gotV]; omega)), fun h => absurd h (by decide)⟩ (Below.refl _ _)
        | 13, _ =>
          injection ho with ho
          subst ho
          clear hl
          simp only [fillA, List.take, List.drop, put_none, Act.put, List.setIfInBounds_toArray, List.set_cons_zero, List.set_cons_succ, Nat.reduceAdd]
          have f11 := hf 11 (by decide) (by kernel_rfl)
          generalize vals 11 = v11 at *
          subst f11
          have f12 := hf 12 (by decide) (by kernel_rfl)
          generalize vals 12 = v12 at *
          subst f12
          have f10 := hf 10 (by decide) (by kernel_rfl)
          generalize vals 10 = v10 at *
          subst f10
          clear hf
          go_wp2_with (fail)
          exact RQ.mk rfl ⟨(by first | rfl | (simp [FS12_22_20]; done) | (simp [FS12_22_20, *]; done) | (simp [FS12_22_20, gotV]; done) | (simp [FS12_22_20, gotV]; omega)), fun h => absurd h (by decide)⟩ (Below.refl _ _)
        | 14, _ =>
          injection ho with ho
          subst ho
          clear hl
          simp only [fillA, List.take, List.drop, put_none, Act.put, List.setIfInBounds_toArray, List.set_cons_zero, List.set_cons_succ, Nat.reduceAdd]
          have f13 := hf 13 (by decide) (by kernel_rfl)
          generalize vals 13 = v13 at *
          subst f13
          have f10 := hf 10 (by decide) (by kernel_rfl)
          generalize vals 10 = v10 at *
          subst f10
          clear hf
          go_wp2_with (fail)
          exact RQ.mk rfl ⟨(by first | rfl | (simp [FS12_22_20]; done) | (simp [FS12_22_20, *]; done) | (simp [FS12_22_20, gotV]; done) | (simp [FS12_22_20, gotV]; omega)), fun h => absurd h (by decide)⟩ (Below.refl _ _)
        | 15, _ =>
          injection ho with ho
          subst ho
          clear hl
          simp only [fillA, List.take, List.drop, put_none, Act.put, List.setIfInBounds_toArray, List.set_cons_zero, List.set_cons_succ, Nat.reduceAdd]
          have f10 := hf 10 (by decide) (by kernel_rfl)
          generalize vals 10 = v10 at *
          subst f10
          clear hf
          go_wp2_with (fail)
          exact RQ.mk rfl ⟨(by first | rfl | (simp [FS12_22_20]; done) | (simp [FS12_22_20, *]; done) | (simp [FS12_22_20, gotV]; done) | (simp [FS12_22_20, gotV]; omega)), fun h => absurd h (by decide)⟩ (Below.refl _ _)
        | 16, _ =>
          injection ho with ho
          subst ho
          clear hl
          simp only [fillA, List.take, List.drop, put_none, Act.put, List.setIfInBounds_toArray, List.set_cons_zero, List.set_cons_succ, Nat.reduceAdd]
          have f15 := hf 15 (by decide) (by kernel_rfl)
          generalize vals 15 = v15 at *
          subst f15
          have f10 := hf 10 (by decide) (by kernel_rfl)
          generalize vals 10 = v10 at *
          subst f10
          clear hf
          go_wp2_with (fail)
          exact RQ.mk rfl ⟨(by first | rfl | (simp [FS12_22_20]; done) | (simp [FS12_22_20, *]; done) | (simp [FS12_22_20, gotV]; done) | (simp [FS12_22_20, gotV]; omega)), fun h => absurd h (by decide)⟩ (Below.refl _ _)
        | 17, _ =>
          injection ho with ho
          subst ho
          clear hl
          simp only [fillA, List.take, List.drop, put_none, Act.put, List.setIfInBounds_toArray, List.set_cons_zero, List.set_cons_succ, Nat.reduceAdd]
          have f14 := hf 14 (by decide) (by kernel_rfl)
          generalize vals 14 = v14 at *
          subst f14
          have f16 := hf 16 (by decide) (by kernel_rfl)
          generalize vals 16 = v16 at *
          subst f16
          have f10 := hf 10 (by decide) (by kernel_rfl)
          generalize vals 10 = v10 at *
          subst f10
          clear hf
          go_wp2_with (fail)
          exact RQ.mk rfl ⟨(by first | rfl | (simp [FS12_22_20]; done) | (simp [FS12_22_20, *]; done) | (simp [FS12_22_20, gotV]; done) | (simp [FS12_22_20, gotV]; omega)), fun h => absurd h (by decide)⟩ (Below.refl _ _)
        | 18, _ =>
          injection ho with ho
          subst ho
          clear hl
          simp only [fillA, List.take, List.drop, put_none, Act.put, List.setIfInBounds_toArray, List.set_cons_zero, List.set_cons_succ, Nat.reduceAdd]
          have f10 := hf 10 (by decide) (by kernel_rfl)
          generalize vals 10 = v10 at *
          subst f10
          have f17 := hf 17 (by decide) (by kernel_rfl)
          generalize vals 17 = v17 at *
          subst f17
          clear hf
          go_wp2_with (fail)
          exact RQ.mk rfl ⟨(by first | rfl | (simp [FS12_22_20]; done) | (simp [FS12_22_20, *]; done) | (simp [FS12_22_20, gotV]; done) | (simp [FS12_22_20, gotV]; omega)), fun h => absurd h (by decide)⟩ (Below.refl _ _)
        | m + 19, h => exact absurd h (by omega)
      · intro vals Z19q hb1 hf hd
        simp only [fillA, List.take, List.drop, put_none, Act.put, List.setIfInBounds_toArray, List.set_cons_zero, List.set_cons_succ, Nat.reduceAdd]
        clear hd
        have f0 := hf 0 (by decide)
        generalize vals 0 = v0 at *
        subst f0
        have f1 := hf 1 (by decide)
        generalize vals 1 = v1 at *
        subst f1
        have f2 := hf 2 (by decide)
        generalize vals 2 = v2 at *
        subst f2
        have f3 := hf 3 (by decide)
        generalize vals 3 = v3 at *
        subst f3
        have f4 := hf 4 (by decide)
        generalize vals 4 = v4 at *
        subst f4
        have f5 := hf 5 (by decide)
        generalize vals 5 = v5 at *
        subst f5
        have f6 := hf 6 (by decide)
        generalize vals 6 = v6 at *
        subst f6
        have f7 := hf 7 (by decide)
        generalize vals 7 = v7 at *
        subst f7
        have f8 := hf 8 (by decide)
        generalize vals 8 = v8 at *
        subst f8
        have f9 := hf 9 (by decide)
        generalize vals 9 = v9 at *
        subst f9
        have f10 := hf 10 (by decide)
        generalize vals 10 = v10 at *
        subst f10
        have f11 := hf 11 (by decide)
        generalize vals 11 = v11 at *
        subst f11
        have f12 := hf 12 (by decide)
        generalize vals 12 = v12 at *
        subst f12
        have f13 := hf 13 (by decide)
        generalize vals 13 = v13 at *
        subst f13
        have f14 := hf 14 (by decide)
        generalize vals 14 = v14 at *
        subst f14
        have f15 := hf 15 (by decide)
        generalize vals 15 = v15 at *
        subst f15
        have f16 := hf 16 (by decide)
        generalize vals 16 = v16 at *
        subst f16
        have f17 := hf 17 (by decide)
        generalize vals 17 = v17 at *
        subst f17
        have f18 := hf 18 (by decide)
        generalize vals 18 = v18 at *
        subst f18
        clear hf
        have hc1 := cellOf hb1
        have hf1 := frozOf hb1
        have hz1 := sizeOf hb1
        try simp at hz1
        clear hc1 hf1
        have hk : Below V19.heap.size V19 Z19q := hb1
        have hkz20 := hk.size
        have c20_0 : Z19q.cell? ⟨tb, 0, none⟩ = some (.int .i64 l) := (hb1.cell (p := ⟨tb, 0, none⟩) (by show tb < _; omega)).trans c19_0
        have c20_1 : Z19q.cell? ⟨tb, 1, none⟩ = some (.int .i64 u) := (hb1.cell (p := ⟨tb, 1, none⟩) (by show tb < _; omega)).trans c19_1
        have c20_2 : Z19q.cell? ⟨tb, 2, none⟩ = some (.int .i64 v) := (hb1.cell (p := ⟨tb, 2, none⟩) (by show tb < _; omega)).trans c19_2
        have c20_3 : Z19q.cell? ⟨tb, 3, none⟩ = some (.slice Af fs.length cf) := (hb1.cell (p := ⟨tb, 3, none⟩) (by show tb < _; omega)).trans c19_3
        have c20_4 : Z19q.cell? ⟨tb, 4, none⟩ = some (.slice Aq ps.length cq) := (hb1.cell (p := ⟨tb, 4, none⟩) (by show tb < _; omega)).trans c19_4
        have b20_0 : tb < Z19q.heap.size := by omega
        have R20_0 := hid (FreshA.below (cf := cIn) (sz := 1) (T := 3) (B := V1.heap.size) R19_0.out hk)
        have R20_1 := hid (FreshA.below (cf := cPu) (sz := 3) (T := 71) (B := V1.heap.size) R19_1.out hk)
        have R20_2 := hid (FreshA.below (cf := cIn) (sz := 1) (T := 3) (B := V3.heap.size) R19_2.out hk)
        have hw20 : Below w.heap.size w Z19q := Below.trans hw (Below.mono hk (by have := hw.size; omega))
        clear hw hk
        have hw := hw20
        clear hw20
        have hwz := hw.size
        clear c19_0 c19_1 c19_2 c19_3 c19_4 R19_0 R19_1 R19_2
        clear hb1
        clear c20_0
        clear c20_1
        clear c20_2
        clear c20_3
        clear c20_4
        clear R20_0
        clear R20_1
        clear R20_2
        go_wp2_with (fail)
        refine calls_named ?_
        intro V21 hV
        have hk : Below Z19q.heap.size Z19q V21 := by rw [hV]; (repeat' (first | with_reducible exact Below.refl _ _ | with_reducible assumption | with_reducible refine Below.setCell ?_ ?_ _ | with_reducible refine Below.drew ?_ | with_reducible refine Below.alloc ?_ ?_ _ | with_reducible refine Below.trans ?_ (Below.mono (by assumption) ?_) | (dsimp only; omega) | (simp; done) | (simp; omega) | omega))
        have hkz21 := hk.size
        have hw21 : Below w.heap.size w V21 := Below.trans hw (Below.mono hk (by have := hw.size; omega))
        clear hw hk
        have hw := hw21
        clear hw21
        have hwz := hw.size
        clear hV
        refine (c_spec_DrawWithoutPump A cs cap _ (Rds.below hr hw) hby (by omega)).mono ?_
        rintro e W22 ⟨l2, u2, v2, Bf, df, fs2, Bq, dq, ps2, i, rfl, hFf, hFq, hfl2, hpl2, hi1, hi2, hb⟩
        have hk : Below V21.heap.size V21 W22 := hb
        have hkz22 := hk.size
        have hw22 : Below w.heap.size w W22 := Below.trans hw (Below.mono hk (by have := hw.size; omega))
        clear hw hk
        have hw := hw22
        clear hw22
        have hwz := hw.size
        clear hb
        have S22_0 : Hid (FreshA cIn 1 3 V21.heap.size W22 Bf df fs2) := hid (hFf)
        have loS22_0 := S22_0.out.lo
        have hiS22_0 := S22_0.out.hi
        have S22_1 : Hid (FreshA cPu 3 71 V21.heap.size W22 Bq dq ps2) := hid (hFq)
        have loS22_1 := S22_1.out.lo
        have hiS22_1 := S22_1.out.hi
        clear hFf hFq
        have hcq := (S22_1.out).capLe
        have hwl := woV_len l2 u2 v2 fs2 ps2 i
        obtain ⟨l3, u3, v3, fs3, ps3, known, hWo⟩ : ∃ l3 u3 v3 fs3 ps3 known, woV l2 u2 v2 fs2 ps2 i = ((l3, u3, v3, fs3, ps3), known) := ⟨_, _, _, _, _, _, rfl⟩
        rw [hWo] at hwl
        simp only at hwl
        have hwc := fp_wo hWo
        have HWO := hid hWo; clear hWo
        go_wp2_with (fail)
        refine calls_named ?_
        intro V23 hV
        have hk : Below W22.heap.size W22 V23 := by rw [hV]; (repeat' (first | with_reducible exact Below.refl _ _ | with_reducible assumption | with_reducible refine Below.setCell ?_ ?_ _ | with_reducible refine Below.drew ?_ | with_reducible refine Below.alloc ?_ ?_ _ | with_reducible refine Below.trans ?_ (Below.mono (by assumption) ?_) | (dsimp only; omega) | (simp; done) | (simp; omega) | omega))
        have hkz23 := hk.size
        have R23_0 := hid (FreshA.below (cf := cIn) (sz := 1) (T := 3) (B := V21.heap.size) S22_0.out hk)
        have R23_1 := hid (FreshA.below (cf := cPu) (sz := 3) (T := 71) (B := V21.heap.size) S22_1.out hk)
        have hw23 : Below w.heap.size w V23 := Below.trans hw (Below.mono hk (by have := hw.size; omega))
        clear hw hk
        have hw := hw23
        clear hw23
        have hwz := hw.size
        clear S22_0 S22_1
        have d23_0 : V23.cell? ⟨W22.heap.size, 0, none⟩ = some (.int .i64 l2) := by rw [hV]; first | (simp [go_sem, ↓IntWalk.iteOmega, *]; done) | (simp [go_sem, ↓IntWalk.iteOmega, *]; intros; omega)
        have d23_1 : V23.cell? ⟨W22.heap.size, 1, none⟩ = some (.int .i64 u2) := by rw [hV]; first | (simp [go_sem, ↓IntWalk.iteOmega, *]; done) | (simp [go_sem, ↓IntWalk.iteOmega, *]; intros; omega)
        have d23_2 : V23.cell? ⟨W22.heap.size, 2, none⟩ = some (.int .i64 v2) := by rw [hV]; first | (simp [go_sem, ↓IntWalk.iteOmega, *]; done) | (simp [go_sem, ↓IntWalk.iteOmega, *]; intros; omega)
        have d23_3 : V23.cell? ⟨W22.heap.size, 3, none⟩ = some (.slice Bf fs2.length df) := by rw [hV]; first | (simp [go_sem, ↓IntWalk.iteOmega, *]; done) | (simp [go_sem, ↓IntWalk.iteOmega, *]; intros; omega)
        have d23_4 : V23.cell? ⟨W22.heap.size, 4, none⟩ = some (.slice Bq ps2.length dq) := by rw [hV]; first | (simp [go_sem, ↓IntWalk.iteOmega, *]; done) | (simp [go_sem, ↓IntWalk.iteOmega, *]; intros; omega)
        have e23_0 : W22.heap.size < V23.heap.size := by rw [hV]; first | (simp; done) | (simp; omega)
        clear hV
        generalize htbtx : W22.heap.size = tx at *
        refine (c_impl_WithoutPump l2 u2 v2 Bf fs2 df Bq ps2 dq i _ R23_0.out.rds (by omega) R23_1.out.rds (by omega)).mono ?_
        simp only [HWO.out]
        rintro e W24 ⟨C8, c8, C9, c9, rfl, hF8, hF9, hb⟩
        have hk : Below V23.heap.size V23 W24 := hb
        have hkz24 := hk.size
        have c24_0 : W24.cell? ⟨tx, 0, none⟩ = some (.int .i64 l2) := (hb.cell (p := ⟨tx, 0, none⟩) (by show tx < _; omega)).trans d23_0
        have c24_1 : W24.cell? ⟨tx, 1, none⟩ = some (.int .i64 u2) := (hb.cell (p := ⟨tx, 1, none⟩) (by show tx < _; omega)).trans d23_1
        have c24_2 : W24.cell? ⟨tx, 2, none⟩ = some (.int .i64 v2) := (hb.cell (p := ⟨tx, 2, none⟩) (by show tx < _; omega)).trans d23_2
        have c24_3 : W24.cell? ⟨tx, 3, none⟩ = some (.slice Bf fs2.length df) := (hb.cell (p := ⟨tx, 3, none⟩) (by show tx < _; omega)).trans d23_3
        have c24_4 : W24.cell? ⟨tx, 4, none⟩ = some (.slice Bq ps2.length dq) := (hb.cell (p := ⟨tx, 4, none⟩) (by show tx < _; omega)).trans d23_4
        have b24_0 : tx < W24.heap.size := by omega
        have R24_0 := hid (FreshA.below (cf := cIn) (sz := 1) (T := 3) (B := V21.heap.size) R23_0.out hk)
        have R24_1 := hid (FreshA.below (cf := cPu) (sz := 3) (T := 71) (B := V21.heap.size) R23_1.out hk)
        have hw24 : Below w.heap.size w W24 := Below.trans hw (Below.mono hk (by have := hw.size; omega))
        clear hw hk
        have hw := hw24
        clear hw24
        have hwz := hw.size
        clear d23_0 d23_1 d23_2 d23_3 d23_4 R23_0 R23_1
        clear hb
        have S24_2 : Hid (FreshA cIn 1 3 V23.heap.size W24 C8 c8 fs3) := hid (hF8)
        have loS24_2 := S24_2.out.lo
        have hiS24_2 := S24_2.out.hi
        have S24_3 : Hid (FreshA cPu 3 71 V23.heap.size W24 C9 c9 ps3) := hid (hF9)
        have loS24_3 := S24_3.out.lo
        have hiS24_3 := S24_3.out.hi
        clear hF8 hF9
        go_wp2_with (fail)
        refine calls_named ?_
        intro V25 hV
        have hk : Below W24.heap.size W24 V25 := by rw [hV]; (repeat' (first | with_reducible exact Below.refl _ _ | with_reducible assumption | with_reducible refine Below.setCell ?_ ?_ _ | with_reducible refine Below.drew ?_ | with_reducible refine Below.alloc ?_ ?_ _ | with_reducible refine Below.trans ?_ (Below.mono (by assumption) ?_) | (dsimp only; omega) | (simp; done) | (simp; omega) | omega))
        have hkz25 := hk.size
        have c25_0 : V25.cell? ⟨tx, 0, none⟩ = some (.int .i64 l2) := (hk.cell (p := ⟨tx, 0, none⟩) (by show tx < _; omega)).trans c24_0
        have c25_1 : V25.cell? ⟨tx, 1, none⟩ = some (.int .i64 u2) := (hk.cell (p := ⟨tx, 1, none⟩) (by show tx < _; omega)).trans c24_1
        have c25_2 : V25.cell? ⟨tx, 2, none⟩ = some (.int .i64 v2) := (hk.cell (p := ⟨tx, 2, none⟩) (by show tx < _; omega)).trans c24_2
        have c25_3 : V25.cell? ⟨tx, 3, none⟩ = some (.slice Bf fs2.length df) := (hk.cell (p := ⟨tx, 3, none⟩) (by show tx < _; omega)).trans c24_3
        have c25_4 : V25.cell? ⟨tx, 4, none⟩ = some (.slice Bq ps2.length dq) := (hk.cell (p := ⟨tx, 4, none⟩) (by show tx < _; omega)).trans c24_4
        have b25_0 : tx < V25.heap.size := by omega
        have R25_0 := hid (FreshA.below (cf := cIn) (sz := 1) (T := 3) (B := V21.heap.size) R24_0.out hk)
        have R25_1 := hid (FreshA.below (cf := cPu) (sz := 3) (T := 71) (B := V21.heap.size) R24_1.out hk)
        have R25_2 := hid (FreshA.below (cf := cIn) (sz := 1) (T := 3) (B := V23.heap.size) S24_2.out hk)
        have R25_3 := hid (FreshA.below (cf := cPu) (sz := 3) (T := 71) (B := V23.heap.size) S24_3.out hk)
        have hw25 : Below w.heap.size w V25 := Below.trans hw (Below.mono hk (by have := hw.size; omega))
        clear hw hk
        have hw := hw25
        clear hw25
        have hwz := hw.size
        clear c24_0 c24_1 c24_2 c24_3 c24_4 R24_0 R24_1 S24_2 S24_3
        have d25_5 : V25.cell? ⟨W24.heap.size, 0, none⟩ = some (.int .i64 l3) := by rw [hV]; first | (simp [go_sem, ↓IntWalk.iteOmega, *]; done) | (simp [go_sem, ↓IntWalk.iteOmega, *]; intros; omega)
        have d25_6 : V25.cell? ⟨W24.heap.size, 1, none⟩ = some (.int .i64 u3) := by rw [hV]; first | (simp [go_sem, ↓IntWalk.iteOmega, *]; done) | (simp [go_sem, ↓IntWalk.iteOmega, *]; intros; omega)
        have d25_7 : V25.cell? ⟨W24.heap.size, 2, none⟩ = some (.int .i64 v3) := by rw [hV]; first | (simp [go_sem, ↓IntWalk.iteOmega, *]; done) | (simp [go_sem, ↓IntWalk.iteOmega, *]; intros; omega)
        have d25_8 : V25.cell? ⟨W24.heap.size, 3, none⟩ = some (.slice C8 fs3.length c8) := by rw [hV]; first | (simp [go_sem, ↓IntWalk.iteOmega, *]; done) | (simp [go_sem, ↓IntWalk.iteOmega, *]; intros; omega)
        have d25_9 : V25.cell? ⟨W24.heap.size, 4, none⟩ = some (.slice C9 ps3.length c9) := by rw [hV]; first | (simp [go_sem, ↓IntWalk.iteOmega, *]; done) | (simp [go_sem, ↓IntWalk.iteOmega, *]; intros; omega)
        have e25_1 : W24.heap.size < V25.heap.size := by rw [hV]; first | (simp; done) | (simp; omega)
        clear hV
        generalize htbty : W24.heap.size = ty at *
        refine (c_spec_WithoutPump l2 u2 v2 Bf fs2 df Bq ps2 dq i _ R25_0.out.rds (by omega) R25_1.out.rds (by omega) hcq).mono ?_
        simp only [HWO.out]
        rintro e W26 ⟨E8, e8, E9, e9, rfl, hF8, hF9, hb⟩
        have hk : Below V25.heap.size V25 W26 := hb
        have hkz26 := hk.size
        have c26_0 : W26.cell? ⟨tx, 0, none⟩ = some (.int .i64 l2) := (hb.cell (p := ⟨tx, 0, none⟩) (by show tx < _; omega)).trans c25_0
        have c26_1 : W26.cell? ⟨tx, 1, none⟩ = some (.int .i64 u2) := (hb.cell (p := ⟨tx, 1, none⟩) (by show tx < _; omega)).trans c25_1
        have c26_2 : W26.cell? ⟨tx, 2, none⟩ = some (.int .i64 v2) := (hb.cell (p := ⟨tx, 2, none⟩) (by show tx < _; omega)).trans c25_2
        have c26_3 : W26.cell? ⟨tx, 3, none⟩ = some (.slice Bf fs2.length df) := (hb.cell (p := ⟨tx, 3, none⟩) (by show tx < _; omega)).trans c25_3
        have c26_4 : W26.cell? ⟨tx, 4, none⟩ = some (.slice Bq ps2.length dq) := (hb.cell (p := ⟨tx, 4, none⟩) (by show tx < _; omega)).trans c25_4
        have c26_5 : W26.cell? ⟨ty, 0, none⟩ = some (.int .i64 l3) := (hb.cell (p := ⟨ty, 0, none⟩) (by show ty < _; omega)).trans d25_5
        have c26_6 : W26.cell? ⟨ty, 1, none⟩ = some (.int .i64 u3) := (hb.cell (p := ⟨ty, 1, none⟩) (by show ty < _; omega)).trans d25_6
        have c26_7 : W26.cell? ⟨ty, 2, none⟩ = some (.int .i64 v3) := (hb.cell (p := ⟨ty, 2, none⟩) (by show ty < _; omega)).trans d25_7
        have c26_8 : W26.cell? ⟨ty, 3, none⟩ = some (.slice C8 fs3.length c8) := (hb.cell (p := ⟨ty, 3, none⟩) (by show ty < _; omega)).trans d25_8
        have c26_9 : W26.cell? ⟨ty, 4, none⟩ = some (.slice C9 ps3.length c9) := (hb.cell (p := ⟨ty, 4, none⟩) (by show ty < _; omega)).trans d25_9
        have b26_0 : tx < W26.heap.size := by omega
        have b26_1 : ty < W26.heap.size := by omega
        have R26_0 := hid (FreshA.below (cf := cIn) (sz := 1) (T := 3) (B := V21.heap.size) R25_0.out hk)
        have R26_1 := hid (FreshA.below (cf := cPu) (sz := 3) (T := 71) (B := V21.heap.size) R25_1.out hk)
        have R26_2 := hid (FreshA.below (cf := cIn) (sz := 1) (T := 3) (B := V23.heap.size) R25_2.out hk)
        have R26_3 := hid (FreshA.below (cf := cPu) (sz := 3) (T := 71) (B := V23.heap.size) R25_3.out hk)
        have hw26 : Below w.heap.size w W26 := Below.trans hw (Below.mono hk (by have := hw.size; omega))
        clear hw hk
        have hw := hw26
        clear hw26
        have hwz := hw.size
        clear c25_0 c25_1 c25_2 c25_3 c25_4 d25_5 d25_6 d25_7 d25_8 d25_9 R25_0 R25_1 R25_2 R25_3
        clear hb
        have S26_4 : Hid (FreshA cIn 1 3 V25.heap.size W26 E8 e8 fs3) := hid (hF8)
        have loS26_4 := S26_4.out.lo
        have hiS26_4 := S26_4.out.hi
        have S26_5 : Hid (FreshA cPu 3 71 V25.heap.size W26 E9 e9 ps3) := hid (hF9)
        have loS26_5 := S26_5.out.lo
        have hiS26_5 := S26_5.out.hi
        clear hF8 hF9 HWO
        have hl3 : fs3.length ≤ 1000 ∧ ps3.length ≤ 1000 := by omega
        rcases hwc with rfl | ⟨rfl, hlen, htk⟩
        · go_wp2_with (fail)
          refine calls_named ?_
          intro V27 hV
          have hk : Below W26.heap.size W26 V27 := by rw [hV]; (repeat' (first | with_reducible exact Below.refl _ _ | with_reducible assumption | with_reducible refine Below.setCell ?_ ?_ _ | with_reducible refine Below.drew ?_ | with_reducible refine Below.alloc ?_ ?_ _ | with_reducible refine Below.trans ?_ (Below.mono (by assumption) ?_) | (dsimp only; omega) | (simp; done) | (simp; omega) | omega))
          have hkz27 := hk.size
          have c27_0 : V27.cell? ⟨tx, 0, none⟩ = some (.int .i64 l2) := (hk.cell (p := ⟨tx, 0, none⟩) (by show tx < _; omega)).trans c26_0
          have c27_1 : V27.cell? ⟨tx, 1, none⟩ = some (.int .i64 u2) := (hk.cell (p := ⟨tx, 1, none⟩) (by show tx < _; omega)).trans c26_1
          have c27_2 : V27.cell? ⟨tx, 2, none⟩ = some (.int .i64 v2) := (hk.cell (p := ⟨tx, 2, none⟩) (by show tx < _; omega)).trans c26_2
          have c27_3 : V27.cell? ⟨tx, 3, none⟩ = some (.slice Bf fs2.length df) := (hk.cell (p := ⟨tx, 3, none⟩) (by show tx < _; omega)).trans c26_3
          have c27_4 : V27.cell? ⟨tx, 4, none⟩ = some (.slice Bq ps2.length dq) := (hk.cell (p := ⟨tx, 4, none⟩) (by show tx < _; omega)).trans c26_4
          have c27_5 : V27.cell? ⟨ty, 0, none⟩ = some (.int .i64 l3) := (hk.cell (p := ⟨ty, 0, none⟩) (by show ty < _; omega)).trans c26_5
          have c27_6 : V27.cell? ⟨ty, 1, none⟩ = some (.int .i64 u3) := (hk.cell (p := ⟨ty, 1, none⟩) (by show ty < _; omega)).trans c26_6
          have c27_7 : V27.cell? ⟨ty, 2, none⟩ = some (.int .i64 v3) := (hk.cell (p := ⟨ty, 2, none⟩) (by show ty < _; omega)).trans c26_7
          have c27_8 : V27.cell? ⟨ty, 3, none⟩ = some (.slice C8 fs3.length c8) := (hk.cell (p := ⟨ty, 3, none⟩) (by show ty < _; omega)).trans c26_8
          have c27_9 : V27.cell? ⟨ty, 4, none⟩ = some (.slice C9 ps3.length c9) := (hk.cell (p := ⟨ty, 4, none⟩) (by show ty < _; omega)).trans c26_9
          have b27_0 : tx < V27.heap.size := by omega
          have b27_1 : ty < V27.heap.size := by omega
          have R27_0 := hid (FreshA.below (cf := cIn) (sz := 1) (T := 3) (B := V21.heap.size) R26_0.out hk)
          have R27_1 := hid (FreshA.below (cf := cPu) (sz := 3) (T := 71) (B := V21.heap.size) R26_1.out hk)
          have R27_2 := hid (FreshA.below (cf := cIn) (sz := 1) (T := 3) (B := V23.heap.size) R26_2.out hk)
          have R27_3 := hid (FreshA.below (cf := cPu) (sz := 3) (T := 71) (B := V23.heap.size) R26_3.out hk)
          have R27_4 := hid (FreshA.below (cf := cIn) (sz := 1) (T := 3) (B := V25.heap.size) S26_4.out hk)
          have R27_5 := hid (FreshA.below (cf := cPu) (sz := 3) (T := 71) (B := V25.heap.size) S26_5.out hk)
          have hw27 : Below w.heap.size w V27 := Below.trans hw (Below.mono hk (by have := hw.size; omega))
          clear hw hk
          have hw := hw27
          clear hw27
          have hwz := hw.size
          clear c26_0 c26_1 c26_2 c26_3 c26_4 c26_5 c26_6 c26_7 c26_8 c26_9 R26_0 R26_1 R26_2 R26_3 S26_4 S26_5
          clear hV
          refine (c_laws_rPumpTasks l3 u3 v3 C8 fs3 c8 C9 ps3 c9 E8 e8 E9 e9 _ R27_2.out.rds R27_4.out.rds R27_3.out.rds R27_5.out.rds (by omega) (by omega)).mono ?_
          rintro e W28 ⟨rfl, hb⟩
          have hk : Below V27.heap.size V27 W28 := hb
          have hkz28 := hk.size
          have c28_0 : W28.cell? ⟨tx, 0, none⟩ = some (.int .i64 l2) := (hb.cell (p := ⟨tx, 0, none⟩) (by show tx < _; omega)).trans c27_0
          have c28_1 : W28.cell? ⟨tx, 1, none⟩ = some (.int .i64 u2) := (hb.cell (p := ⟨tx, 1, none⟩) (by show tx < _; omega)).trans c27_1
          have c28_2 : W28.cell? ⟨tx, 2, none⟩ = some (.int .i64 v2) := (hb.cell (p := ⟨tx, 2, none⟩) (by show tx < _; omega)).trans c27_2
          have c28_3 : W28.cell? ⟨tx, 3, none⟩ = some (.slice Bf fs2.length df) := (hb.cell (p := ⟨tx, 3, none⟩) (by show tx < _; omega)).trans c27_3
          have c28_4 : W28.cell? ⟨tx, 4, none⟩ = some (.slice Bq ps2.length dq) := (hb.cell (p := ⟨tx, 4, none⟩) (by show tx < _; omega)).trans c27_4
          have c28_5 : W28.cell? ⟨ty, 0, none⟩ = some (.int .i64 l3) := (hb.cell (p := ⟨ty, 0, none⟩) (by show ty < _; omega)).trans c27_5
          have c28_6 : W28.cell? ⟨ty, 1, none⟩ = some (.int .i64 u3) := (hb.cell (p := ⟨ty, 1, none⟩) (by show ty < _; omega)).trans c27_6
          have c28_7 : W28.cell? ⟨ty, 2, none⟩ = some (.int .i64 v3) := (hb.cell (p := ⟨ty, 2, none⟩) (by show ty < _; omega)).trans c27_7
          have c28_8 : W28.cell? ⟨ty, 3, none⟩ = some (.slice C8 fs3.length c8) := (hb.cell (p := ⟨ty, 3, none⟩) (by show ty < _; omega)).trans c27_8
          have c28_9 : W28.cell? ⟨ty, 4, none⟩ = some (.slice C9 ps3.length c9) := (hb.cell (p := ⟨ty, 4, none⟩) (by show ty < _; omega)).trans c27_9
          have b28_0 : tx < W28.heap.size := by omega
          have b28_1 : ty < W28.heap.size := by omega
          have R28_0 := hid (FreshA.below (cf := cIn) (sz := 1) (T := 3) (B := V21.heap.size) R27_0.out hk)
          have R28_1 := hid (FreshA.below (cf := cPu) (sz := 3) (T := 71) (B := V21.heap.size) R27_1.out hk)
          have R28_2 := hid (FreshA.below (cf := cIn) (sz := 1) (T := 3) (B := V23.heap.size) R27_2.out hk)
          have R28_3 := hid (FreshA.below (cf := cPu) (sz := 3) (T := 71) (B := V23.heap.size) R27_3.out hk)
          have R28_4 := hid (FreshA.below (cf := cIn) (sz := 1) (T := 3) (B := V25.heap.size) R27_4.out hk)
          have R28_5 := hid (FreshA.below (cf := cPu) (sz := 3) (T := 71) (B := V25.heap.size) R27_5.out hk)
          have hw28 : Below w.heap.size w W28 := Below.trans hw (Below.mono hk (by have := hw.size; omega))
          clear hw hk
          have hw := hw28
          clear hw28
          have hwz := hw.size
          clear c27_0 c27_1 c27_2 c27_3 c27_4 c27_5 c27_6 c27_7 c27_8 c27_9 R27_0 R27_1 R27_2 R27_3 R27_4 R27_5
          clear hb
          go_wp2_with (fail)
          go_ret
          exact ⟨by first | rfl | exact ret_bool (by simp), by first | exact hw | (repeat' (first | with_reducible exact Below.refl _ _ | with_reducible assumption | with_reducible refine Below.setCell ?_ ?_ _ | with_reducible refine Below.drew ?_ | with_reducible refine Below.alloc ?_ ?_ _ | with_reducible refine Below.trans ?_ (Below.mono (by assumption) ?_) | (dsimp only; omega) | (simp; done) | (simp; omega) | omega))⟩
        have HTK := hid htk; clear htk
        go_wp2_with (fail)
        refine calls_named ?_
        intro V27 hV
        have hk : Below W26.heap.size W26 V27 := by rw [hV]; (repeat' (first | with_reducible exact Below.refl _ _ | with_reducible assumption | with_reducible refine Below.setCell ?_ ?_ _ | with_reducible refine Below.drew ?_ | with_reducible refine Below.alloc ?_ ?_ _ | with_reducible refine Below.trans ?_ (Below.mono (by assumption) ?_) | (dsimp only; omega) | (simp; done) | (simp; omega) | omega))
        have hkz27 := hk.size
        have c27_0 : V27.cell? ⟨tx, 0, none⟩ = some (.int .i64 l2) := (hk.cell (p := ⟨tx, 0, none⟩) (by show tx < _; omega)).trans c26_0
        have c27_1 : V27.cell? ⟨tx, 1, none⟩ = some (.int .i64 u2) := (hk.cell (p := ⟨tx, 1, none⟩) (by show tx < _; omega)).trans c26_1
        have c27_2 : V27.cell? ⟨tx, 2, none⟩ = some (.int .i64 v2) := (hk.cell (p := ⟨tx, 2, none⟩) (by show tx < _; omega)).trans c26_2
        have c27_3 : V27.cell? ⟨tx, 3, none⟩ = some (.slice Bf fs2.length df) := (hk.cell (p := ⟨tx, 3, none⟩) (by show tx < _; omega)).trans c26_3
        have c27_4 : V27.cell? ⟨tx, 4, none⟩ = some (.slice Bq ps2.length dq) := (hk.cell (p := ⟨tx, 4, none⟩) (by show tx < _; omega)).trans c26_4
        have c27_5 : V27.cell? ⟨ty, 0, none⟩ = some (.int .i64 l3) := (hk.cell (p := ⟨ty, 0, none⟩) (by show ty < _; omega)).trans c26_5
        have c27_6 : V27.cell? ⟨ty, 1, none⟩ = some (.int .i64 u3) := (hk.cell (p := ⟨ty, 1, none⟩) (by show ty < _; omega)).trans c26_6
        have c27_7 : V27.cell? ⟨ty, 2, none⟩ = some (.int .i64 v3) := (hk.cell (p := ⟨ty, 2, none⟩) (by show ty < _; omega)).trans c26_7
        have c27_8 : V27.cell? ⟨ty, 3, none⟩ = some (.slice C8 fs3.length c8) := (hk.cell (p := ⟨ty, 3, none⟩) (by show ty < _; omega)).trans c26_8
        have c27_9 : V27.cell? ⟨ty, 4, none⟩ = some (.slice C9 ps3.length c9) := (hk.cell (p := ⟨ty, 4, none⟩) (by show ty < _; omega)).trans c26_9
        have b27_0 : tx < V27.heap.size := by omega
        have b27_1 : ty < V27.heap.size := by omega
        have R27_0 := hid (FreshA.below (cf := cIn) (sz := 1) (T := 3) (B := V21.heap.size) R26_0.out hk)
        have R27_1 := hid (FreshA.below (cf := cPu) (sz := 3) (T := 71) (B := V21.heap.size) R26_1.out hk)
        have R27_2 := hid (FreshA.below (cf := cIn) (sz := 1) (T := 3) (B := V23.heap.size) R26_2.out hk)
        have R27_3 := hid (FreshA.below (cf := cPu) (sz := 3) (T := 71) (B := V23.heap.size) R26_3.out hk)
        have R27_4 := hid (FreshA.below (cf := cIn) (sz := 1) (T := 3) (B := V25.heap.size) S26_4.out hk)
        have R27_5 := hid (FreshA.below (cf := cPu) (sz := 3) (T := 71) (B := V25.heap.size) S26_5.out hk)
        have hw27 : Below w.heap.size w V27 := Below.trans hw (Below.mono hk (by have := hw.size; omega))
        clear hw hk
        have hw := hw27
        clear hw27
        have hwz := hw.size
        clear c26_0 c26_1 c26_2 c26_3 c26_4 c26_5 c26_6 c26_7 c26_8 c26_9 R26_0 R26_1 R26_2 R26_3 S26_4 S26_5
        clear hV
        refine (c_laws_rPumpTasks l3 u3 v3 C8 fs3 c8 C9 ps3 c9 E8 e8 E9 e9 _ R27_2.out.rds R27_4.out.rds R27_3.out.rds R27_5.out.rds (by omega) (by omega)).mono ?_
        rintro e W28 ⟨rfl, hb⟩
        have hk : Below V27.heap.size V27 W28 := hb
        have hkz28 := hk.size
        have c28_0 : W28.cell? ⟨tx, 0, none⟩ = some (.int .i64 l2) := (hb.cell (p := ⟨tx, 0, none⟩) (by show tx < _; omega)).trans c27_0
        have c28_1 : W28.cell? ⟨tx, 1, none⟩ = some (.int .i64 u2) := (hb.cell (p := ⟨tx, 1, none⟩) (by show tx < _; omega)).trans c27_1
        have c28_2 : W28.cell? ⟨tx, 2, none⟩ = some (.int .i64 v2) := (hb.cell (p := ⟨tx, 2, none⟩) (by show tx < _; omega)).trans c27_2
        have c28_3 : W28.cell? ⟨tx, 3, none⟩ = some (.slice Bf fs2.length df) := (hb.cell (p := ⟨tx, 3, none⟩) (by show tx < _; omega)).trans c27_3
        have c28_4 : W28.cell? ⟨tx, 4, none⟩ = some (.slice Bq ps2.length dq) := (hb.cell (p := ⟨tx, 4, none⟩) (by show tx < _; omega)).trans c27_4
        have c28_5 : W28.cell? ⟨ty, 0, none⟩ = some (.int .i64 l3) := (hb.cell (p := ⟨ty, 0, none⟩) (by show ty < _; omega)).trans c27_5
        have c28_6 : W28.cell? ⟨ty, 1, none⟩ = some (.int .i64 u3) := (hb.cell (p := ⟨ty, 1, none⟩) (by show ty < _; omega)).trans c27_6
        have c28_7 : W28.cell? ⟨ty, 2, none⟩ = some (.int .i64 v3) := (hb.cell (p := ⟨ty, 2, none⟩) (by show ty < _; omega)).trans c27_7
        have c28_8 : W28.cell? ⟨ty, 3, none⟩ = some (.slice C8 fs3.length c8) := (hb.cell (p := ⟨ty, 3, none⟩) (by show ty < _; omega)).trans c27_8
        have c28_9 : W28.cell? ⟨ty, 4, none⟩ = some (.slice C9 ps3.length c9) := (hb.cell (p := ⟨ty, 4, none⟩) (by show ty < _; omega)).trans c27_9
        have b28_0 : tx < W28.heap.size := by omega
        have b28_1 : ty < W28.heap.size := by omega
        have R28_0 := hid (FreshA.below (cf := cIn) (sz := 1) (T := 3) (B := V21.heap.size) R27_0.out hk)
        have R28_1 := hid (FreshA.below (cf := cPu) (sz := 3) (T := 71) (B := V21.heap.size) R27_1.out hk)
        have R28_2 := hid (FreshA.below (cf := cIn) (sz := 1) (T := 3) (B := V23.heap.size) R27_2.out hk)
        have R28_3 := hid (FreshA.below (cf := cPu) (sz := 3) (T := 71) (B := V23.heap.size) R27_3.out hk)
        have R28_4 := hid (FreshA.below (cf := cIn) (sz := 1) (T := 3) (B := V25.heap.size) R27_4.out hk)
        have R28_5 := hid (FreshA.below (cf := cPu) (sz := 3) (T := 71) (B := V25.heap.size) R27_5.out hk)
        have hw28 : Below w.heap.size w W28 := Below.trans hw (Below.mono hk (by have := hw.size; omega))
        clear hw hk
        have hw := hw28
        clear hw28
        have hwz := hw.size
        clear c27_0 c27_1 c27_2 c27_3 c27_4 c27_5 c27_6 c27_7 c27_8 c27_9 R27_0 R27_1 R27_2 R27_3 R27_4 R27_5
        clear hb
        go_wp2_with (fail)
        refine calls_named ?_
        intro V29 hV
        have hk : Below W28.heap.size W28 V29 := by rw [hV]; (repeat' (first | with_reducible exact Below.refl _ _ | with_reducible assumption | with_reducible refine Below.setCell ?_ ?_ _ | with_reducible refine Below.drew ?_ | with_reducible refine Below.alloc ?_ ?_ _ | with_reducible refine Below.trans ?_ (Below.mono (by assumption) ?_) | (dsimp only; omega) | (simp; done) | (simp; omega) | omega))
        have hkz29 := hk.size
        have c29_0 : V29.cell? ⟨tx, 0, none⟩ = some (.int .i64 l2) := (hk.cell (p := ⟨tx, 0, none⟩) (by show tx < _; omega)).trans c28_0
        have c29_1 : V29.cell? ⟨tx, 1, none⟩ = some (.int .i64 u2) := (hk.cell (p := ⟨tx, 1, none⟩) (by show tx < _; omega)).trans c28_1
        have c29_2 : V29.cell? ⟨tx, 2, none⟩ = some (.int .i64 v2) := (hk.cell (p := ⟨tx, 2, none⟩) (by show tx < _; omega)).trans c28_2
        have c29_3 : V29.cell? ⟨tx, 3, none⟩ = some (.slice Bf fs2.length df) := (hk.cell (p := ⟨tx, 3, none⟩) (by show tx < _; omega)).trans c28_3
        have c29_4 : V29.cell? ⟨tx, 4, none⟩ = some (.slice Bq ps2.length dq) := (hk.cell (p := ⟨tx, 4, none⟩) (by show tx < _; omega)).trans c28_4
        have c29_5 : V29.cell? ⟨ty, 0, none⟩ = some (.int .i64 l3) := (hk.cell (p := ⟨ty, 0, none⟩) (by show ty < _; omega)).trans c28_5
        have c29_6 : V29.cell? ⟨ty, 1, none⟩ = some (.int .i64 u3) := (hk.cell (p := ⟨ty, 1, none⟩) (by show ty < _; omega)).trans c28_6
        have c29_7 : V29.cell? ⟨ty, 2, none⟩ = some (.int .i64 v3) := (hk.cell (p := ⟨ty, 2, none⟩) (by show ty < _; omega)).trans c28_7
        have c29_8 : V29.cell? ⟨ty, 3, none⟩ = some (.slice C8 fs3.length c8) := (hk.cell (p := ⟨ty, 3, none⟩) (by show ty < _; omega)).trans c28_8
        have c29_9 : V29.cell? ⟨ty, 4, none⟩ = some (.slice C9 ps3.length c9) := (hk.cell (p := ⟨ty, 4, none⟩) (by show ty < _; omega)).trans c28_9
        have b29_0 : tx < V29.heap.size := by omega
        have b29_1 : ty < V29.heap.size := by omega
        have R29_0 := hid (FreshA.below (cf := cIn) (sz := 1) (T := 3) (B := V21.heap.size) R28_0.out hk)
        have R29_1 := hid (FreshA.below (cf := cPu) (sz := 3) (T := 71) (B := V21.heap.size) R28_1.out hk)
        have R29_2 := hid (FreshA.below (cf := cIn) (sz := 1) (T := 3) (B := V23.heap.size) R28_2.out hk)
        have R29_3 := hid (FreshA.below (cf := cPu) (sz := 3) (T := 71) (B := V23.heap.size) R28_3.out hk)
        have R29_4 := hid (FreshA.below (cf := cIn) (sz := 1) (T := 3) (B := V25.heap.size) R28_4.out hk)
        have R29_5 := hid (FreshA.below (cf := cPu) (sz := 3) (T := 71) (B := V25.heap.size) R28_5.out hk)
        have hw29 : Below w.heap.size w V29 := Below.trans hw (Below.mono hk (by have := hw.size; omega))
        clear hw hk
        have hw := hw29
        clear hw29
        have hwz := hw.size
        clear c28_0 c28_1 c28_2 c28_3 c28_4 c28_5 c28_6 c28_7 c28_8 c28_9 R28_0 R28_1 R28_2 R28_3 R28_4 R28_5
        clear hV
        refine (c_impl_IsPumpTask l3 u3 v3 C8 fs3 c8 C9 ps3 c9 _ R29_2.out.rds (by omega) R29_3.out.rds (by omega)).mono ?_
        simp only [HTK.out]
        rintro e W30 ⟨rfl, hb⟩
        have hk : Below V29.heap.size V29 W30 := hb
        have hkz30 := hk.size
        have c30_0 : W30.cell? ⟨tx, 0, none⟩ = some (.int .i64 l2) := (hb.cell (p := ⟨tx, 0, none⟩) (by show tx < _; omega)).trans c29_0
        have c30_1 : W30.cell? ⟨tx, 1, none⟩ = some (.int .i64 u2) := (hb.cell (p := ⟨tx, 1, none⟩) (by show tx < _; omega)).trans c29_1
        have c30_2 : W30.cell? ⟨tx, 2, none⟩ = some (.int .i64 v2) := (hb.cell (p := ⟨tx, 2, none⟩) (by show tx < _; omega)).trans c29_2
        have c30_3 : W30.cell? ⟨tx, 3, none⟩ = some (.slice Bf fs2.length df) := (hb.cell (p := ⟨tx, 3, none⟩) (by show tx < _; omega)).trans c29_3
        have c30_4 : W30.cell? ⟨tx, 4, none⟩ = some (.slice Bq ps2.length dq) := (hb.cell (p := ⟨tx, 4, none⟩) (by show tx < _; omega)).trans c29_4
        have c30_5 : W30.cell? ⟨ty, 0, none⟩ = some (.int .i64 l3) := (hb.cell (p := ⟨ty, 0, none⟩) (by show ty < _; omega)).trans c29_5
        have c30_6 : W30.cell? ⟨ty, 1, none⟩ = some (.int .i64 u3) := (hb.cell (p := ⟨ty, 1, none⟩) (by show ty < _; omega)).trans c29_6
        have c30_7 : W30.cell? ⟨ty, 2, none⟩ = some (.int .i64 v3) := (hb.cell (p := ⟨ty, 2, none⟩) (by show ty < _; omega)).trans c29_7
        have c30_8 : W30.cell? ⟨ty, 3, none⟩ = some (.slice C8 fs3.length c8) := (hb.cell (p := ⟨ty, 3, none⟩) (by show ty < _; omega)).trans c29_8
        have c30_9 : W30.cell? ⟨ty, 4, none⟩ = some (.slice C9 ps3.length c9) := (hb.cell (p := ⟨ty, 4, none⟩) (by show ty < _; omega)).trans c29_9
        have b30_0 : tx < W30.heap.size := by omega
        have b30_1 : ty < W30.heap.size := by omega
        have R30_0 := hid (FreshA.below (cf := cIn) (sz := 1) (T := 3) (B := V21.heap.size) R29_0.out hk)
        have R30_1 := hid (FreshA.below (cf := cPu) (sz := 3) (T := 71) (B := V21.heap.size) R29_1.out hk)
        have R30_2 := hid (FreshA.below (cf := cIn) (sz := 1) (T := 3) (B := V23.heap.size) R29_2.out hk)
        have R30_3 := hid (FreshA.below (cf := cPu) (sz := 3) (T := 71) (B := V23.heap.size) R29_3.out hk)
        have R30_4 := hid (FreshA.below (cf := cIn) (sz := 1) (T := 3) (B := V25.heap.size) R29_4.out hk)
        have R30_5 := hid (FreshA.below (cf := cPu) (sz := 3) (T := 71) (B := V25.heap.size) R29_5.out hk)
        have hw30 : Below w.heap.size w W30 := Below.trans hw (Below.mono hk (by have := hw.size; omega))
        clear hw hk
        have hw := hw30
        clear hw30
        have hwz := hw.size
        clear c29_0 c29_1 c29_2 c29_3 c29_4 c29_5 c29_6 c29_7 c29_8 c29_9 R29_0 R29_1 R29_2 R29_3 R29_4 R29_5
        clear hb
        go_wp2_with (fail)
        go_ret
        exact ⟨by first | rfl | exact ret_bool (by simp), by first | exact hw | (repeat' (first | with_reducible exact Below.refl _ _ | with_reducible assumption | with_reducible refine Below.setCell ?_ ?_ _ | with_reducible refine Below.drew ?_ | with_reducible refine Below.alloc ?_ ?_ _ | with_reducible refine Below.trans ?_ (Below.mono (by assumption) ?_) | (dsimp only; omega) | (simp; done) | (simp; omega) | omega))⟩
  have hnq : (n : Int) < (lv.length : Int) := by omega
  have HX := hid R18_0.out.rds
  obtain ⟨b9, o9, hge9, hb9, hc9⟩ := R18_3.out.rds n _ hlast
  cases hge9
  have hyn := hc9 0 _ rfl
  simp only [Nat.add_zero, Nat.mul_one, Nat.zero_add] at hyn
  clear hc9
  change _ = some (Value.int IntKind.i64 (v + sumL fs - pw)) at hyn
  have hwi : IntKind.i64.wrap ((lv.length : Int) - 1) = (n : Int) := by rw [wr_id2 (by omega)]; omega
  have hw1 : IntKind.i64.wrap (v + sumL fs) = v + sumL fs := wr_id2 (by omega)
  have hw2 : IntKind.i64.wrap (v + sumL fs - pw) = v + sumL fs - pw := wr_id2 (by omega)
  have HKQ : Hid (∀ w' : World, Below W18.heap.size W18 w' → w'.cell? ⟨tb, 0, none⟩ = some (.int .i64 l) ∧ w'.cell? ⟨tb, 1, none⟩ = some (.int .i64 u) ∧ w'.cell? ⟨tb, 2, none⟩ = some (.int .i64 v) ∧ w'.cell? ⟨tb, 3, none⟩ = some (.slice Af fs.length cf) ∧ w'.cell? ⟨tb, 4, none⟩ = some (.slice Aq ps.length cq) ∧ w'.cell? ⟨gl, n, none⟩ = some (.int .i64 (v + sumL fs - pw))) := fun w' hbv => ⟨(hbv.cell (p := ⟨tb, 0, none⟩) (by show tb < _; omega)).trans c18_0, (hbv.cell (p := ⟨tb, 1, none⟩) (by show tb < _; omega)).trans c18_1, (hbv.cell (p := ⟨tb, 2, none⟩) (by show tb < _; omega)).trans c18_2, (hbv.cell (p := ⟨tb, 3, none⟩) (by show tb < _; omega)).trans c18_3, (hbv.cell (p := ⟨tb, 4, none⟩) (by show tb < _; omega)).trans c18_4, (hbv.cell (p := ⟨gl, n, none⟩) (by show gl < _; omega)).trans hyn⟩
  have hbq : Below W18.heap.size W18 W18 := Below.refl _ _
  go_wp2_with (fail)
  go_region_held3 (fun w' => w'.cell? ⟨tb, 0, none⟩ = some (.int .i64 l) ∧ w'.cell? ⟨tb, 1, none⟩ = some (.int .i64 u) ∧ w'.cell? ⟨tb, 2, none⟩ = some (.int .i64 v) ∧ w'.cell? ⟨tb, 3, none⟩ = some (.slice Af fs.length cf) ∧ w'.cell? ⟨tb, 4, none⟩ = some (.slice Aq ps.length cq) ∧ w'.cell? ⟨gl, n, none⟩ = some (.int .i64 (v + sumL fs - pw))) (first | assumption | exact HKQ.out _ (by (repeat' (first | with_reducible exact Below.refl _ _ | with_reducible assumption | with_reducible refine Below.setCell ?_ ?_ _ | with_reducible refine Below.drew ?_ | with_reducible refine Below.alloc ?_ ?_ _ | with_reducible refine Below.trans ?_ (Below.mono (by assumption) ?_) | (dsimp only; omega) | (simp; done) | (simp; omega) | omega)))) (first | (go_at_call 44; refine (c_laws_rSum _ fs _ _ (Rds.below HX.out (by (repeat' (first | with_reducible exact Below.refl _ _ | with_reducible assumption | with_reducible refine Below.setCell ?_ ?_ _ | with_reducible refine Below.drew ?_ | with_reducible refine Below.alloc ?_ ?_ _ | with_reducible refine Below.trans ?_ (Below.mono (by assumption) ?_) | (dsimp only; omega) | (simp; done) | (simp; omega) | omega)))) (by omega) HFL.out).mono ?_; rintro e w' ⟨rfl, hb⟩; have hz := hb.size; (try simp at hz)))
  all_goals
    try simp only [hw1, hw2]
    clear HX HKQ hbq hyn
    go_wp2_with (fail)
    refine wp_named ?_
    intro V19 hV
    have hk : Below W18.heap.size W18 V19 := by rw [hV]; (repeat' (first | with_reducible exact Below.refl _ _ | with_reducible assumption | with_reducible refine Below.setCell ?_ ?_ _ | with_reducible refine Below.drew ?_ | with_reducible refine Below.alloc ?_ ?_ _ | with_reducible refine Below.trans ?_ (Below.mono (by assumption) ?_) | (dsimp only; omega) | (simp; done) | (simp; omega) | omega))
    have hkz19 := hk.size
    have c19_0 : V19.cell? ⟨tb, 0, none⟩ = some (.int .i64 l) := (hk.cell (p := ⟨tb, 0, none⟩) (by show tb < _; omega)).trans c18_0
    have c19_1 : V19.cell? ⟨tb, 1, none⟩ = some (.int .i64 u) := (hk.cell (p := ⟨tb, 1, none⟩) (by show tb < _; omega)).trans c18_1
    have c19_2 : V19.cell? ⟨tb, 2, none⟩ = some (.int .i64 v) := (hk.cell (p := ⟨tb, 2, none⟩) (by show tb < _; omega)).trans c18_2
    have c19_3 : V19.cell? ⟨tb, 3, none⟩ = some (.slice Af fs.length cf) := (hk.cell (p := ⟨tb, 3, none⟩) (by show tb < _; omega)).trans c18_3
    have c19_4 : V19.cell? ⟨tb, 4, none⟩ = some (.slice Aq ps.length cq) := (hk.cell (p := ⟨tb, 4, none⟩) (by show tb < _; omega)).trans c18_4
    have b19_0 : tb < V19.heap.size := by omega
    have R19_0 := hid (FreshA.below (cf := cIn) (sz := 1) (T := 3) (B := V1.heap.size) R18_0.out hk)
    have R19_1 := hid (FreshA.below (cf := cPu) (sz := 3) (T := 71) (B := V1.heap.size) R18_1.out hk)
    have R19_2 := hid (FreshA.below (cf := cIn) (sz := 1) (T := 3) (B := V3.heap.size) R18_3.out hk)
    have hw19 : Below w.heap.size w V19 := Below.trans hw (Below.mono hk (by have := hw.size; omega))
    clear hw hk
    have hw := hw19
    clear hw19
    have hwz := hw.size
    clear c18_0 c18_1 c18_2 c18_3 c18_4 R18_0 R18_1 R18_3
    clear hV
    rcases Int.lt_or_le y l with hyl | hyl
    · go_wp2_with (fail)
      refine wp_named ?_
      intro V20 hV
      have hk : Below V19.heap.size V19 V20 := by rw [hV]; (repeat' (first | with_reducible exact Below.refl _ _ | with_reducible assumption | with_reducible refine Below.setCell ?_ ?_ _ | with_reducible refine Below.drew ?_ | with_reducible refine Below.alloc ?_ ?_ _ | with_reducible refine Below.trans ?_ (Below.mono (by assumption) ?_) | (dsimp only; omega) | (simp; done) | (simp; omega) | omega))
      have hkz20 := hk.size
      have c20_0 : V20.cell? ⟨tb, 0, none⟩ = some (.int .i64 l) := by rw [hV]; first | exact c19_0 | (first | (simp [go_sem, ↓IntWalk.iteOmega, *]; done) | (simp [go_sem, ↓IntWalk.iteOmega, *]; intros; omega))
      have c20_1 : V20.cell? ⟨tb, 1, none⟩ = some (.int .i64 u) := by rw [hV]; first | exact c19_1 | (first | (simp [go_sem, ↓IntWalk.iteOmega, *]; done) | (simp [go_sem, ↓IntWalk.iteOmega, *]; intros; omega))
      have c20_2 : V20.cell? ⟨tb, 2, none⟩ = some (.int .i64 v) := by rw [hV]; first | exact c19_2 | (first | (simp [go_sem, ↓IntWalk.iteOmega, *]; done) | (simp [go_sem, ↓IntWalk.iteOmega, *]; intros; omega))
      have c20_3 : V20.cell? ⟨tb, 3, none⟩ = some (.slice Af fs.length cf) := by rw [hV]; first | exact c19_3 | (first | (simp [go_sem, ↓IntWalk.iteOmega, *]; done) | (simp [go_sem, ↓IntWalk.iteOmega, *]; intros; omega))
      have c20_4 : V20.cell? ⟨tb, 4, none⟩ = some (.slice Aq ps.length cq) := by rw [hV]; first | exact c19_4 | (first | (simp [go_sem, ↓IntWalk.iteOmega, *]; done) | (simp [go_sem, ↓IntWalk.iteOmega, *]; intros; omega))
      have b20_0 : tb < V20.heap.size := by omega
      have R20_0 := hid (FreshA.below (cf := cIn) (sz := 1) (T := 3) (B := V1.heap.size) R19_0.out hk)
      have R20_1 := hid (FreshA.below (cf := cPu) (sz := 3) (T := 71) (B := V1.heap.size) R19_1.out hk)
      have R20_2 := hid (FreshA.below (cf := cIn) (sz := 1) (T := 3) (B := V3.heap.size) R19_2.out hk)
      have hw20 : Below w.heap.size w V20 := Below.trans hw (Below.mono hk (by have := hw.size; omega))
      clear hw hk
      have hw := hw20
      clear hw20
      have hwz := hw.size
      clear c19_0 c19_1 c19_2 c19_3 c19_4 R19_0 R19_1 R19_2
      clear hV
      obtain ⟨b9, o9, hge9, hb9, hc9⟩ := R20_2.out.rds j _ hyj
      cases hge9
      have hyj := hc9 0 _ rfl
      simp only [Nat.add_zero, Nat.mul_one, Nat.zero_add] at hyj
      clear hc9
      change _ = some (Value.int IntKind.i64 y) at hyj
      have hjq : (j : Int) < (lv.length : Int) := by omega
      have hyf : decide (y ≥ l) = false := by simp; omega
      refine wp_region_w (n := 19) [] [] (FS12_22_21 l u gl j y lv.length cl0 tb w) rfl (by kernel_rfl) (fun _ _ d _ _ h => by cases d <;> exact h) ?_ ?_ ?_ ?_ ?_ ?_
      · intro iq
        match iq with
        | 0 | 1 | 2 | 3 | 4 | 5 | 6 | 7 | 8 | 9 | 10 | 11 | 12 | 13 | 14 | 15 | 16 | 17 | 18 => exact Stable.const _
        | n + 19 => exact Stable.const _
      · intro iq hi
        exact absurd hi (by simp)
      · intro iq hi
        exact absurd hi (by simp)
      · intro iq o hi hl ho vals w1 hb1 hf
        exact absurd hl (by simp)
      · intro iq o hi hl ho vals w1 hb1 hf
        match iq, hi with
        | 0, _ =>
          injection ho with ho
          subst ho
          clear hl
          simp only [fillA, List.take, List.drop, put_none, Act.put, List.setIfInBounds_toArray, List.set_cons_zero, List.set_cons_succ, Nat.reduceAdd]
          clear hf
          go_wp2_with (fail)
          exact RQ.mk rfl ⟨(by first | rfl | (simp [FS12_22_21]; done) | (simp [FS12_22_21, *]; done) | (simp [FS12_22_21, gotV]; done) | (simp [FS12_22_21, gotV]; omega)), fun h => absurd h (by decide)⟩ (Below.refl _ _)
        | 1, _ =>
          injection ho with ho
          subst ho
          clear hl
          simp only [fillA, List.take, List.drop, put_none, Act.put, List.setIfInBounds_toArray, List.set_cons_zero, List.set_cons_succ, Nat.reduceAdd]
          have f0 := hf 0 (by decide) (by kernel_rfl)
          generalize vals 0 = v0 at *
          subst f0
          clear hf
          go_wp2_with (fail)
          exact RQ.mk rfl ⟨(by first | rfl | (simp [FS12_22_21]; done) | (simp [FS12_22_21, *]; done) | (simp [FS12_22_21, gotV]; done) | (simp [FS12_22_21, gotV]; omega)), fun h => absurd h (by decide)⟩ (Below.refl _ _)
        | 2, _ =>
          injection ho with ho
          subst ho
          clear hl
          simp only [fillA, List.take, List.drop, put_none, Act.put, List.setIfInBounds_toArray, List.set_cons_zero, List.set_cons_succ, Nat.reduceAdd]
          have f1 := hf 1 (by decide) (by kernel_rfl)
          generalize vals 1 = v1 at *
          subst f1
          clear hf
          go_wp2_with (fail)
          exact RQ.mk rfl ⟨(by first | rfl | (simp [FS12_22_21]; done) | (simp [FS12_22_21, *]; done) | (simp [FS12_22_21, gotV]; done) | (simp [FS12_22_21, gotV]; omega)), fun h => absurd h (by decide)⟩ (Below.refl _ _)
        | 3, _ =>
          injection ho with ho
          subst ho
          clear hl
          simp only [fillA, List.take, List.drop, put_none, Act.put, List.setIfInBounds_toArray, List.set_cons_zero, List.set_cons_succ, Nat.reduceAdd]
          have f1 := hf 1 (by decide) (by kernel_rfl)
          generalize vals 1 = v1 at *
          subst f1
          clear hf
          go_wp2_with (fail)
          exact RQ.mk rfl ⟨(by first | rfl | (simp [FS12_22_21]; done) | (simp [FS12_22_21, *]; done) | (simp [FS12_22_21, gotV]; done) | (simp [FS12_22_21, gotV]; omega)), fun h => absurd h (by decide)⟩ (Below.refl _ _)
        | 4, _ =>
          injection ho with ho
          subst ho
          clear hl
          simp only [fillA, List.take, List.drop, put_none, Act.put, List.setIfInBounds_toArray, List.set_cons_zero, List.set_cons_succ, Nat.reduceAdd]
          have f2 := hf 2 (by decide) (by kernel_rfl)
          generalize vals 2 = v2 at *
          subst f2
          have f3 := hf 3 (by decide) (by kernel_rfl)
          generalize vals 3 = v3 at *
          subst f3
          have f1 := hf 1 (by decide) (by kernel_rfl)
          generalize vals 1 = v1 at *
          subst f1
          clear hf
          go_wp2_with (fail)
          exact RQ.mk rfl ⟨(by first | rfl | (simp [FS12_22_21]; done) | (simp [FS12_22_21, *]; done) | (simp [FS12_22_21, gotV]; done) | (simp [FS12_22_21, gotV]; omega)), fun h => absurd h (by decide)⟩ (Below.refl _ _)
        | 5, _ =>
          injection ho with ho
          subst ho
          clear hl
          simp only [fillA, List.take, List.drop, put_none, Act.put, List.setIfInBounds_toArray, List.set_cons_zero, List.set_cons_succ, Nat.reduceAdd]
          have f4 := hf 4 (by decide) (by kernel_rfl)
          generalize vals 4 = v4 at *
          subst f4
          have f1 := hf 1 (by decide) (by kernel_rfl)
          generalize vals 1 = v1 at *
          subst f1
          clear hf
          have hc1 := cellOf hb1
          have hf1 := frozOf hb1
          have hz1 := sizeOf hb1
          try simp at hz1
          go_wp2_with (fail)
          exact RQ.mk rfl ⟨(by first | rfl | (simp [FS12_22_21]; done) | (simp [FS12_22_21, *]; done) | (simp [FS12_22_21, gotV]; done) | (simp [FS12_22_21, gotV]; omega)), fun h => absurd h (by decide)⟩ (Below.refl _ _)
        | 6, _ =>
          injection ho with ho
          subst ho
          clear hl
          simp only [fillA, List.take, List.drop, put_none, Act.put, List.setIfInBounds_toArray, List.set_cons_zero, List.set_cons_succ, Nat.reduceAdd]
          have f1 := hf 1 (by decide) (by kernel_rfl)
          generalize vals 1 = v1 at *
          subst f1
          clear hf
          go_wp2_with (fail)
          exact RQ.mk rfl ⟨(by first | rfl | (simp [FS12_22_21]; done) | (simp [FS12_22_21, *]; done) | (simp [FS12_22_21, gotV]; done) | (simp [FS12_22_21, gotV]; omega)), fun h => absurd h (by decide)⟩ (Below.refl _ _)
        | 7, _ =>
          injection ho with ho
          subst ho
          clear hl
          simp only [fillA, List.take, List.drop, put_none, Act.put, List.setIfInBounds_toArray, List.set_cons_zero, List.set_cons_succ, Nat.reduceAdd]
          have f6 := hf 6 (by decide) (by kernel_rfl)
          generalize vals 6 = v6 at *
          subst f6
          have f1 := hf 1 (by decide) (by kernel_rfl)
          generalize vals 1 = v1 at *
          subst f1
          clear hf
          have hc1 := cellOf hb1
          have hf1 := frozOf hb1
          have hz1 := sizeOf hb1
          try simp at hz1
          go_wp2_with (fail)
          exact RQ.mk rfl ⟨(by first | rfl | (simp [FS12_22_21]; done) | (simp [FS12_22_21, *]; done) | (simp [FS12_22_21, gotV]; done) | (simp [FS12_22_21, gotV]; omega)), fun h => absurd h (by decide)⟩ (Below.refl _ _)
        | 8, _ =>
          injection ho with ho
          subst ho
          clear hl
          simp only [fillA, List.take, List.drop, put_none, Act.put, List.setIfInBounds_toArray, List.set_cons_zero, List.set_cons_succ, Nat.reduceAdd]
          have f5 := hf 5 (by decide) (by kernel_rfl)
          generalize vals 5 = v5 at *
          subst f5
          have f7 := hf 7 (by decide) (by kernel_rfl)
          generalize vals 7 = v7 at *
          subst f7
          have f1 := hf 1 (by decide) (by kernel_rfl)
          generalize vals 1 = v1 at *
          subst f1
          clear hf
          go_wp2_with (fail)
          exact RQ.mk rfl ⟨(by first | rfl | (simp [FS12_22_21]; done) | (simp [FS12_22_21, *]; done) | (simp [FS12_22_21, gotV]; done) | (simp [FS12_22_21, gotV]; omega)), fun h => absurd h (by decide)⟩ (Below.refl _ _)
        | 9, _ =>
          injection ho with ho
          subst ho
          clear hl
          simp only [fillA, List.take, List.drop, put_none, Act.put, List.setIfInBounds_toArray, List.set_cons_zero, List.set_cons_succ, Nat.reduceAdd]
          have f1 := hf 1 (by decide) (by kernel_rfl)
          generalize vals 1 = v1 at *
          subst f1
          have f8 := hf 8 (by decide) (by kernel_rfl)
          generalize vals 8 = v8 at *
          subst f8
          clear hf
          go_wp2_with (fail)
          exact RQ.mk rfl ⟨(by first | rfl | (simp [FS12_22_21]; done) | (simp [FS12_22_21, *]; done) | (simp [FS12_22_21, gotV]; done) | (simp [FS12_22_21, gotV]; omega)), fun h => absurd h (by decide)⟩ (Below.refl _ _)
        | 10, _ =>
          injection ho with ho
          subst ho
          clear hl
          simp only [fillA, List.take, List.drop, put_none, Act.put, List.setIfInBounds_toArray, List.set_cons_zero, List.set_cons_succ, Nat.reduceAdd]
          have f9 := hf 9 (by decide) (by kernel_rfl)
          generalize vals 9 = v9 at *
          subst f9
          have f1 := hf 1 (by decide) (by kernel_rfl)
          generalize vals 1 = v1 at *
          subst f1
          clear hf
          go_wp2_with (fail)
          exact RQ.mk rfl ⟨(by first | rfl | (simp [FS12_22_21]; done) | (simp [FS12_22_21, *]; done) | (simp [FS12_22_21, gotV]; done) | (simp [FS12_22_21, gotV]; omega)), fun h => absurd h (by decide)⟩ (Below.refl _ _)
        | 11, _ =>
          injection ho with ho
          subst ho
          clear hl
          simp only [fillA, List.take, List.drop, put_none, Act.put, List.setIfInBounds_toArray, List.set_cons_zero, List.set_cons_succ, Nat.reduceAdd]
          have f10 := hf 10 (by decide) (by kernel_rfl)
          generalize vals 10 = v10 at *
          subst f10
          clear hf
          go_wp2_with (fail)
          exact RQ.mk rfl ⟨(by first | rfl | (simp [FS12_22_21]; done) | (simp [FS12_22_21, *]; done) | (simp [FS12_22_21, gotV]; done) | (simp [FS12_22_21, gotV]; omega)), fun h => absurd h (by decide)⟩ (Below.refl _ _)
        | 12, _ =>
          injection ho with ho
          subst ho
          clear hl
          simp only [fillA, List.take, List.drop, put_none, Act.put, List.setIfInBounds_toArray, List.set_cons_zero, List.set_cons_succ, Nat.reduceAdd]
          have f10 := hf 10 (by decide) (by kernel_rfl)
          generalize vals 10 = v10 at *
          subst f10
          clear hf
          go_wp2_with (fail)
          exact RQ.mk rfl ⟨(by first | rfl | (simp [FS12_22_21]; done) | (simp [FS12_22_21, *]; done) | (simp [FS12_22_21, gotV]; done) | (simp [FS12_22_21, gotV]; omega)), fun h => absurd h (by decide)⟩ (Below.refl _ _)
        | 13, _ =>
          injection ho with ho
          subst ho
          clear hl
          simp only [fillA, List.take, List.drop, put_none, Act.put, List.setIfInBounds_toArray, List.set_cons_zero, List.set_cons_succ, Nat.reduceAdd]
          have f11 := hf 11 (by decide) (by kernel_rfl)
          generalize vals 11 = v11 at *
          subst f11
          have f12 := hf 12 (by decide) (by kernel_rfl)
          generalize vals 12 = v12 at *
          subst f12
          have f10 := hf 10 (by decide) (by kernel_rfl)
          generalize vals 10 = v10 at *
          subst f10
          clear hf
          go_wp2_with (fail)
          exact RQ.mk rfl ⟨(by first | rfl | (simp [FS12_22_21]; done) | (simp [FS12_22_21, *]; done) | (simp [FS12_22_21, gotV]; done) | (simp [FS12_22_21, gotV]; omega)), fun h => absurd h (by decide)⟩ (Below.refl _ _)
        | 14, _ =>
          injection ho with ho
          subst ho
          clear hl
          simp only [fillA, List.take, List.drop, put_none, Act.put, List.setIfInBounds_toArray, List.set_cons_zero, List.set_cons_succ, Nat.reduceAdd]
          have f13 := hf 13 (by decide) (by kernel_rfl)
          generalize vals 13 = v13 at *
          subst f13
          have f10 := hf 10 (by decide) (by kernel_rfl)
          generalize vals 10 = v10 at *
          subst f10
          clear hf
          go_wp2_with (fail)
          exact RQ.mk rfl ⟨(by first | rfl | (simp [FS12_22_21]; done) | (simp [FS12_22_21, *]; done) | (simp [FS12_22_21, gotV]; done) | (simp [FS12_22_21, gotV]; omega)), fun h => absurd h (by decide)⟩ (Below.refl _ _)
        | 15, _ =>
          injection ho with ho
          subst ho
          clear hl
          simp only [fillA, List.take, List.drop, put_none, Act.put, List.setIfInBounds_toArray, List.set_cons_zero, List.set_cons_succ, Nat.reduceAdd]
          have f10 := hf 10 (by decide) (by kernel_rfl)
          generalize vals 10 = v10 at *
          subst f10
          clear hf
          go_wp2_with (fail)
          exact RQ.mk rfl ⟨(by first | rfl | (simp [FS12_22_21]; done) | (simp [FS12_22_21, *]; done) | (simp [FS12_22_21, gotV]; done) | (simp [FS12_22_21, gotV]; omega)), fun h => absurd h (by decide)⟩ (Below.refl _ _)
        | 16, _ =>
          injection ho with ho
          subst ho
          clear hl
          simp only [fillA, List.take, List.drop, put_none, Act.put, List.setIfInBounds_toArray, List.set_cons_zero, List.set_cons_succ, Nat.reduceAdd]
          have f15 := hf 15 (by decide) (by kernel_rfl)
          generalize vals 15 = v15 at *
          subst f15
          have f10 := hf 10 (by decide) (by kernel_rfl)
          generalize vals 10 = v10 at *
          subst f10
          clear hf
          go_wp2_with (fail)
          exact RQ.mk rfl ⟨(by first | rfl | (simp [FS12_22_21]; done) | (simp [FS12_22_21, *]; done) | (simp [FS12_22_21, gotV]; done) | (simp [FS12_22_21, gotV]; omega)), fun h => absurd h (by decide)⟩ (Below.refl _ _)
        | 17, _ =>
          injection ho with ho
          subst ho
          clear hl
          simp only [fillA, List.take, List.drop, put_none, Act.put, List.setIfInBounds_toArray, List.set_cons_zero, List.set_cons_succ, Nat.reduceAdd]
          have f14 := hf 14 (by decide) (by kernel_rfl)
          generalize vals 14 = v14 at *
          subst f14
          have f16 := hf 16 (by decide) (by kernel_rfl)
          generalize vals 16 = v16 at *
          subst f16
          have f10 := hf 10 (by decide) (by kernel_rfl)
          generalize vals 10 = v10 at *
          subst f10
          clear hf
          go_wp2_with (fail)
          exact RQ.mk rfl ⟨(by first | rfl | (simp [FS12_22_21]; done) | (simp [FS12_22_21, *]; done) | (simp [FS12_22_21, gotV]; done) | (simp [FS12_22_21, gotV]; omega)), fun h => absurd h (by decide)⟩ (Below.refl _ _)
        | 18, _ =>
          injection ho with ho
          subst ho
          clear hl
          simp only [fillA, List.take, List.drop, put_none, Act.put, List.setIfInBounds_toArray, List.set_cons_zero, List.set_cons_succ, Nat.reduceAdd]
          have f10 := hf 10 (by decide) (by kernel_rfl)
          generalize vals 10 = v10 at *
          subst f10
          have f17 := hf 17 (by decide) (by kernel_rfl)
          generalize vals 17 = v17 at *
          subst f17
          clear hf
          go_wp2_with (fail)
          exact RQ.mk rfl ⟨(by first | rfl | (simp [FS12_22_21]; done) | (simp [FS12_22_21, *]; done) | (simp [FS12_22_21, gotV]; done) | (simp [FS12_22_21, gotV]; omega)), fun h => absurd h (by decide)⟩ (Below.refl _ _)
        | m + 19, h => exact absurd h (by omega)
      · intro vals Z20q hb1 hf hd
        simp only [fillA, List.take, List.drop, put_none, Act.put, List.setIfInBounds_toArray, List.set_cons_zero, List.set_cons_succ, Nat.reduceAdd]
        clear hd
        have f0 := hf 0 (by decide)
        generalize vals 0 = v0 at *
        subst f0
        have f1 := hf 1 (by decide)
        generalize vals 1 = v1 at *
        subst f1
        have f2 := hf 2 (by decide)
        generalize vals 2 = v2 at *
        subst f2
        have f3 := hf 3 (by decide)
        generalize vals 3 = v3 at *
        subst f3
        have f4 := hf 4 (by decide)
        generalize vals 4 = v4 at *
        subst f4
        have f5 := hf 5 (by decide)
        generalize vals 5 = v5 at *
        subst f5
        have f6 := hf 6 (by decide)
        generalize vals 6 = v6 at *
        subst f6
        have f7 := hf 7 (by decide)
        generalize vals 7 = v7 at *
        subst f7
        have f8 := hf 8 (by decide)
        generalize vals 8 = v8 at *
        subst f8
        have f9 := hf 9 (by decide)
        generalize vals 9 = v9 at *
        subst f9
        have f10 := hf 10 (by decide)
        generalize vals 10 = v10 at *
        subst f10
        have f11 := hf 11 (by decide)
        generalize vals 11 = v11 at *
        subst f11
        have f12 := hf 12 (by decide)
        generalize vals 12 = v12 at *
        subst f12
        have f13 := hf 13 (by decide)
        generalize vals 13 = v13 at *
        subst f13
        have f14 := hf 14 (by decide)
        generalize vals 14 = v14 at *
        subst f14
        have f15 := hf 15 (by decide)
        generalize vals 15 = v15 at *
        subst f15
        have f16 := hf 16 (by decide)
        generalize vals 16 = v16 at *
        subst f16
        have f17 := hf 17 (by decide)
        generalize vals 17 = v17 at *
        subst f17
        have f18 := hf 18 (by decide)
        generalize vals 18 = v18 at *
        subst f18
        clear hf
        have hc1 := cellOf hb1
        have hf1 := frozOf hb1
        have hz1 := sizeOf hb1
        try simp at hz1
        clear hc1 hf1
        have hk : Below V20.heap.size V20 Z20q := hb1
        have hkz21 := hk.size
        have c21_0 : Z20q.cell? ⟨tb, 0, none⟩ = some (.int .i64 l) := (hb1.cell (p := ⟨tb, 0, none⟩) (by show tb < _; omega)).trans c20_0
        have c21_1 : Z20q.cell? ⟨tb, 1, none⟩ = some (.int .i64 u) := (hb1.cell (p := ⟨tb, 1, none⟩) (by show tb < _; omega)).trans c20_1
        have c21_2 : Z20q.cell? ⟨tb, 2, none⟩ = some (.int .i64 v) := (hb1.cell (p := ⟨tb, 2, none⟩) (by show tb < _; omega)).trans c20_2
        have c21_3 : Z20q.cell? ⟨tb, 3, none⟩ = some (.slice Af fs.length cf) := (hb1.cell (p := ⟨tb, 3, none⟩) (by show tb < _; omega)).trans c20_3
        have c21_4 : Z20q.cell? ⟨tb, 4, none⟩ = some (.slice Aq ps.length cq) := (hb1.cell (p := ⟨tb, 4, none⟩) (by show tb < _; omega)).trans c20_4
        have b21_0 : tb < Z20q.heap.size := by omega
        have R21_0 := hid (FreshA.below (cf := cIn) (sz := 1) (T := 3) (B := V1.heap.size) R20_0.out hk)
        have R21_1 := hid (FreshA.below (cf := cPu) (sz := 3) (T := 71) (B := V1.heap.size) R20_1.out hk)
        have R21_2 := hid (FreshA.below (cf := cIn) (sz := 1) (T := 3) (B := V3.heap.size) R20_2.out hk)
        have hw21 : Below w.heap.size w Z20q := Below.trans hw (Below.mono hk (by have := hw.size; omega))
        clear hw hk
        have hw := hw21
        clear hw21
        have hwz := hw.size
        clear c20_0 c20_1 c20_2 c20_3 c20_4 R20_0 R20_1 R20_2
        clear hb1
        clear c21_0
        clear c21_1
        clear c21_2
        clear c21_3
        clear c21_4
        clear R21_0
        clear R21_1
        clear R21_2
        go_wp2_with (fail)
        refine calls_named ?_
        intro V22 hV
        have hk : Below Z20q.heap.size Z20q V22 := by rw [hV]; (repeat' (first | with_reducible exact Below.refl _ _ | with_reducible assumption | with_reducible refine Below.setCell ?_ ?_ _ | with_reducible refine Below.drew ?_ | with_reducible refine Below.alloc ?_ ?_ _ | with_reducible refine Below.trans ?_ (Below.mono (by assumption) ?_) | (dsimp only; omega) | (simp; done) | (simp; omega) | omega))
        have hkz22 := hk.size
        have hw22 : Below w.heap.size w V22 := Below.trans hw (Below.mono hk (by have := hw.size; omega))
        clear hw hk
        have hw := hw22
        clear hw22
        have hwz := hw.size
        clear hV
        refine (c_spec_DrawWithoutPump A cs cap _ (Rds.below hr hw) hby (by omega)).mono ?_
        rintro e W23 ⟨l2, u2, v2, Bf, df, fs2, Bq, dq, ps2, i, rfl, hFf, hFq, hfl2, hpl2, hi1, hi2, hb⟩
        have hk : Below V22.heap.size V22 W23 := hb
        have hkz23 := hk.size
        have hw23 : Below w.heap.size w W23 := Below.trans hw (Below.mono hk (by have := hw.size; omega))
        clear hw hk
        have hw := hw23
        clear hw23
        have hwz := hw.size
        clear hb
        have S23_0 : Hid (FreshA cIn 1 3 V22.heap.size W23 Bf df fs2) := hid (hFf)
        have loS23_0 := S23_0.out.lo
        have hiS23_0 := S23_0.out.hi
        have S23_1 : Hid (FreshA cPu 3 71 V22.heap.size W23 Bq dq ps2) := hid (hFq)
        have loS23_1 := S23_1.out.lo
        have hiS23_1 := S23_1.out.hi
        clear hFf hFq
        have hcq := (S23_1.out).capLe
        have hwl := woV_len l2 u2 v2 fs2 ps2 i
        obtain ⟨l3, u3, v3, fs3, ps3, known, hWo⟩ : ∃ l3 u3 v3 fs3 ps3 known, woV l2 u2 v2 fs2 ps2 i = ((l3, u3, v3, fs3, ps3), known) := ⟨_, _, _, _, _, _, rfl⟩
        rw [hWo] at hwl
        simp only at hwl
        have hwc := fp_wo hWo
        have HWO := hid hWo; clear hWo
        go_wp2_with (fail)
        refine calls_named ?_
        intro V24 hV
        have hk : Below W23.heap.size W23 V24 := by rw [hV]; (repeat' (first | with_reducible exact Below.refl _ _ | with_reducible assumption | with_reducible refine Below.setCell ?_ ?_ _ | with_reducible refine Below.drew ?_ | with_reducible refine Below.alloc ?_ ?_ _ | with_reducible refine Below.trans ?_ (Below.mono (by assumption) ?_) | (dsimp only; omega) | (simp; done) | (simp; omega) | omega))
        have hkz24 := hk.size
        have R24_0 := hid (FreshA.below (cf := cIn) (sz := 1) (T := 3) (B := V22.heap.size) S23_0.out hk)
        have R24_1 := hid (FreshA.below (cf := cPu) (sz := 3) (T := 71) (B := V22.heap.size) S23_1.out hk)
        have hw24 : Below w.heap.size w V24 := Below.trans hw (Below.mono hk (by have := hw.size; omega))
        clear hw hk
        have hw := hw24
        clear hw24
        have hwz := hw.size
        clear S23_0 S23_1
        have d24_0 : V24.cell? ⟨W23.heap.size, 0, none⟩ = some (.int .i64 l2) := by rw [hV]; first | (simp [go_sem, ↓IntWalk.iteOmega, *]; done) | (simp [go_sem, ↓IntWalk.iteOmega, *]; intros; omega)
        have d24_1 : V24.cell? ⟨W23.heap.size, 1, none⟩ = some (.int .i64 u2) := by rw [hV]; first | (simp [go_sem, ↓IntWalk.iteOmega, *]; done) | (simp [go_sem, ↓IntWalk.iteOmega, *]; intros; omega)
        have d24_2 : V24.cell? ⟨W23.heap.size, 2, none⟩ = some (.int .i64 v2) := by rw [hV]; first | (simp [go_sem, ↓IntWalk.iteOmega, *]; done) | (simp [go_sem, ↓IntWalk.iteOmega, *]; intros; omega)
        have d24_3 : V24.cell? ⟨W23.heap.size, 3, none⟩ = some (.slice Bf fs2.length df) := by rw [hV]; first | (simp [go_sem, ↓IntWalk.iteOmega, *]; done) | (simp [go_sem, ↓IntWalk.iteOmega, *]; intros; omega)
        have d24_4 : V24.cell? ⟨W23.heap.size, 4, none⟩ = some (.slice Bq ps2.length dq) := by rw [hV]; first | (simp [go_sem, ↓IntWalk.iteOmega, *]; done) | (simp [go_sem, ↓IntWalk.iteOmega, *]; intros; omega)
        have e24_0 : W23.heap.size < V24.heap.size := by rw [hV]; first | (simp; done) | (simp; omega)
        clear hV
        generalize htbtx : W23.heap.size = tx at *
        refine (c_impl_WithoutPump l2 u2 v2 Bf fs2 df Bq ps2 dq i _ R24_0.out.rds (by omega) R24_1.out.rds (by omega)).mono ?_
        simp only [HWO.out]
        rintro e W25 ⟨C8, c8, C9, c9, rfl, hF8, hF9, hb⟩
        have hk : Below V24.heap.size V24 W25 := hb
        have hkz25 := hk.size
        have c25_0 : W25.cell? ⟨tx, 0, none⟩ = some (.int .i64 l2) := (hb.cell (p := ⟨tx, 0, none⟩) (by show tx < _; omega)).trans d24_0
        have c25_1 : W25.cell? ⟨tx, 1, none⟩ = some (.int .i64 u2) := (hb.cell (p := ⟨tx, 1, none⟩) (by show tx < _; omega)).trans d24_1
        have c25_2 : W25.cell? ⟨tx, 2, none⟩ = some (.int .i64 v2) := (hb.cell (p := ⟨tx, 2, none⟩) (by show tx < _; omega)).trans d24_2
        have c25_3 : W25.cell? ⟨tx, 3, none⟩ = some (.slice Bf fs2.length df) := (hb.cell (p := ⟨tx, 3, none⟩) (by show tx < _; omega)).trans d24_3
        have c25_4 : W25.cell? ⟨tx, 4, none⟩ = some (.slice Bq ps2.length dq) := (hb.cell (p := ⟨tx, 4, none⟩) (by show tx < _; omega)).trans d24_4
        have b25_0 : tx < W25.heap.size := by omega
        have R25_0 := hid (FreshA.below (cf := cIn) (sz := 1) (T := 3) (B := V22.heap.size) R24_0.out hk)
        have R25_1 := hid (FreshA.below (cf := cPu) (sz := 3) (T := 71) (B := V22.heap.size) R24_1.out hk)
        have hw25 : Below w.heap.size w W25 := Below.trans hw (Below.mono hk (by have := hw.size; omega))
        clear hw hk
        have hw := hw25
        clear hw25
        have hwz := hw.size
        clear d24_0 d24_1 d24_2 d24_3 d24_4 R24_0 R24_1
        clear hb
        have S25_2 : Hid (FreshA cIn 1 3 V24.heap.size W25 C8 c8 fs3) := hid (hF8)
        have loS25_2 := S25_2.out.lo
        have hiS25_2 := S25_2.out.hi
        have S25_3 : Hid (FreshA cPu 3 71 V24.heap.size W25 C9 c9 ps3) := hid (hF9)
        have loS25_3 := S25_3.out.lo
        have hiS25_3 := S25_3.out.hi
        clear hF8 hF9
        go_wp2_with (fail)
        refine calls_named ?_
        intro V26 hV
        have hk : Below W25.heap.size W25 V26 := by rw [hV]; (repeat' (first | with_reducible exact Below.refl _ _ | with_reducible assumption | with_reducible refine Below.setCell ?_ ?_ _ | with_reducible refine Below.drew ?_ | with_reducible refine Below.alloc ?_ ?_ _ | with_reducible refine Below.trans ?_ (Below.mono (by assumption) ?_) | (dsimp only; omega) | (simp; done) | (simp; omega) | omega))
        have hkz26 := hk.size
        have c26_0 : V26.cell? ⟨tx, 0, none⟩ = some (.int .i64 l2) := (hk.cell (p := ⟨tx, 0, none⟩) (by show tx < _; omega)).trans c25_0
        have c26_1 : V26.cell? ⟨tx, 1, none⟩ = some (.int .i64 u2) := (hk.cell (p := ⟨tx, 1, none⟩) (by show tx < _; omega)).trans c25_1
        have c26_2 : V26.cell? ⟨tx, 2, none⟩ = some (.int .i64 v2) := (hk.cell (p := ⟨tx, 2, none⟩) (by show tx < _; omega)).trans c25_2
        have c26_3 : V26.cell? ⟨tx, 3, none⟩ = some (.slice Bf fs2.length df) := (hk.cell (p := ⟨tx, 3, none⟩) (by show tx < _; omega)).trans c25_3
        have c26_4 : V26.cell? ⟨tx, 4, none⟩ = some (.slice Bq ps2.length dq) := (hk.cell (p := ⟨tx, 4, none⟩) (by show tx < _; omega)).trans c25_4
        have b26_0 : tx < V26.heap.size := by omega
        have R26_0 := hid (FreshA.below (cf := cIn) (sz := 1) (T := 3) (B := V22.heap.size) R25_0.out hk)
        have R26_1 := hid (FreshA.below (cf := cPu) (sz := 3) (T := 71) (B := V22.heap.size) R25_1.out hk)
        have R26_2 := hid (FreshA.below (cf := cIn) (sz := 1) (T := 3) (B := V24.heap.size) S25_2.out hk)
        have R26_3 := hid (FreshA.below (cf := cPu) (sz := 3) (T := 71) (B := V24.heap.size) S25_3.out hk)
        have hw26 : Below w.heap.size w V26 := Below.trans hw (Below.mono hk (by have := hw.size; omega))
        clear hw hk
        have hw := hw26
        clear hw26
        have hwz := hw.size
        clear c25_0 c25_1 c25_2 c25_3 c25_4 R25_0 R25_1 S25_2 S25_3
        have d26_5 : V26.cell? ⟨W25.heap.size, 0, none⟩ = some (.int .i64 l3) := by rw [hV]; first | (simp [go_sem, ↓IntWalk.iteOmega, *]; done) | (simp [go_sem, ↓IntWalk.iteOmega, *]; intros; omega)
        have d26_6 : V26.cell? ⟨W25.heap.size, 1, none⟩ = some (.int .i64 u3) := by rw [hV]; first | (simp [go_sem, ↓IntWalk.iteOmega, *]; done) | (simp [go_sem, ↓IntWalk.iteOmega, *]; intros; omega)
        have d26_7 : V26.cell? ⟨W25.heap.size, 2, none⟩ = some (.int .i64 v3) := by rw [hV]; first | (simp [go_sem, ↓IntWalk.iteOmega, *]; done) | (simp [go_sem, ↓IntWalk.iteOmega, *]; intros; omega)
        have d26_8 : V26.cell? ⟨W25.heap.size, 3, none⟩ = some (.slice C8 fs3.length c8) := by rw [hV]; first | (simp [go_sem, ↓IntWalk.iteOmega, *]; done) | (simp [go_sem, ↓IntWalk.iteOmega, *]; intros; omega)
        have d26_9 : V26.cell? ⟨W25.heap.size, 4, none⟩ = some (.slice C9 ps3.length c9) := by rw [hV]; first | (simp [go_sem, ↓IntWalk.iteOmega, *]; done) | (simp [go_sem, ↓IntWalk.iteOmega, *]; intros; omega)
        have e26_1 : W25.heap.size < V26.heap.size := by rw [hV]; first | (simp; done) | (simp; omega)
        clear hV
        generalize htbty : W25.heap.size = ty at *
        refine (c_spec_WithoutPump l2 u2 v2 Bf fs2 df Bq ps2 dq i _ R26_0.out.rds (by omega) R26_1.out.rds (by omega) hcq).mono ?_
        simp only [HWO.out]
        rintro e W27 ⟨E8, e8, E9, e9, rfl, hF8, hF9, hb⟩
        have hk : Below V26.heap.size V26 W27 := hb
        have hkz27 := hk.size
        have c27_0 : W27.cell? ⟨tx, 0, none⟩ = some (.int .i64 l2) := (hb.cell (p := ⟨tx, 0, none⟩) (by show tx < _; omega)).trans c26_0
        have c27_1 : W27.cell? ⟨tx, 1, none⟩ = some (.int .i64 u2) := (hb.cell (p := ⟨tx, 1, none⟩) (by show tx < _; omega)).trans c26_1
        have c27_2 : W27.cell? ⟨tx, 2, none⟩ = some (.int .i64 v2) := (hb.cell (p := ⟨tx, 2, none⟩) (by show tx < _; omega)).trans c26_2
        have c27_3 : W27.cell? ⟨tx, 3, none⟩ = some (.slice Bf fs2.length df) := (hb.cell (p := ⟨tx, 3, none⟩) (by show tx < _; omega)).trans c26_3
        have c27_4 : W27.cell? ⟨tx, 4, none⟩ = some (.slice Bq ps2.length dq) := (hb.cell (p := ⟨tx, 4, none⟩) (by show tx < _; omega)).trans c26_4
        have c27_5 : W27.cell? ⟨ty, 0, none⟩ = some (.int .i64 l3) := (hb.cell (p := ⟨ty, 0, none⟩) (by show ty < _; omega)).trans d26_5
        have c27_6 : W27.cell? ⟨ty, 1, none⟩ = some (.int .i64 u3) := (hb.cell (p := ⟨ty, 1, none⟩) (by show ty < _; omega)).trans d26_6
        have c27_7 : W27.cell? ⟨ty, 2, none⟩ = some (.int .i64 v3) := (hb.cell (p := ⟨ty, 2, none⟩) (by show ty < _; omega)).trans d26_7
        have c27_8 : W27.cell? ⟨ty, 3, none⟩ = some (.slice C8 fs3.length c8) := (hb.cell (p := ⟨ty, 3, none⟩) (by show ty < _; omega)).trans d26_8
        have c27_9 : W27.cell? ⟨ty, 4, none⟩ = some (.slice C9 ps3.length c9) := (hb.cell (p := ⟨ty, 4, none⟩) (by show ty < _; omega)).trans d26_9
        have b27_0 : tx < W27.heap.size := by omega
        have b27_1 : ty < W27.heap.size := by omega
        have R27_0 := hid (FreshA.below (cf := cIn) (sz := 1) (T := 3) (B := V22.heap.size) R26_0.out hk)
        have R27_1 := hid (FreshA.below (cf := cPu) (sz := 3) (T := 71) (B := V22.heap.size) R26_1.out hk)
        have R27_2 := hid (FreshA.below (cf := cIn) (sz := 1) (T := 3) (B := V24.heap.size) R26_2.out hk)
        have R27_3 := hid (FreshA.below (cf := cPu) (sz := 3) (T := 71) (B := V24.heap.size) R26_3.out hk)
        have hw27 : Below w.heap.size w W27 := Below.trans hw (Below.mono hk (by have := hw.size; omega))
        clear hw hk
        have hw := hw27
        clear hw27
        have hwz := hw.size
        clear c26_0 c26_1 c26_2 c26_3 c26_4 d26_5 d26_6 d26_7 d26_8 d26_9 R26_0 R26_1 R26_2 R26_3
        clear hb
        have S27_4 : Hid (FreshA cIn 1 3 V26.heap.size W27 E8 e8 fs3) := hid (hF8)
        have loS27_4 := S27_4.out.lo
        have hiS27_4 := S27_4.out.hi
        have S27_5 : Hid (FreshA cPu 3 71 V26.heap.size W27 E9 e9 ps3) := hid (hF9)
        have loS27_5 := S27_5.out.lo
        have hiS27_5 := S27_5.out.hi
        clear hF8 hF9 HWO
        have hl3 : fs3.length ≤ 1000 ∧ ps3.length ≤ 1000 := by omega
        rcases hwc with rfl | ⟨rfl, hlen, htk⟩
        · go_wp2_with (fail)
          refine calls_named ?_
          intro V28 hV
          have hk : Below W27.heap.size W27 V28 := by rw [hV]; (repeat' (first | with_reducible exact Below.refl _ _ | with_reducible assumption | with_reducible refine Below.setCell ?_ ?_ _ | with_reducible refine Below.drew ?_ | with_reducible refine Below.alloc ?_ ?_ _ | with_reducible refine Below.trans ?_ (Below.mono (by assumption) ?_) | (dsimp only; omega) | (simp; done) | (simp; omega) | omega))
          have hkz28 := hk.size
          have c28_0 : V28.cell? ⟨tx, 0, none⟩ = some (.int .i64 l2) := (hk.cell (p := ⟨tx, 0, none⟩) (by show tx < _; omega)).trans c27_0
          have c28_1 : V28.cell? ⟨tx, 1, none⟩ = some (.int .i64 u2) := (hk.cell (p := ⟨tx, 1, none⟩) (by show tx < _; omega)).trans c27_1
          have c28_2 : V28.cell? ⟨tx, 2, none⟩ = some (.int .i64 v2) := (hk.cell (p := ⟨tx, 2, none⟩) (by show tx < _; omega)).trans c27_2
          have c28_3 : V28.cell? ⟨tx, 3, none⟩ = some (.slice Bf fs2.length df) := (hk.cell (p := ⟨tx, 3, none⟩) (by show tx < _; omega)).trans c27_3
          have c28_4 : V28.cell? ⟨tx, 4, none⟩ = some (.slice Bq ps2.length dq) := (hk.cell (p := ⟨tx, 4, none⟩) (by show tx < _; omega)).trans c27_4
          have c28_5 : V28.cell? ⟨ty, 0, none⟩ = some (.int .i64 l3) := (hk.cell (p := ⟨ty, 0, none⟩) (by show ty < _; omega)).trans c27_5
          have c28_6 : V28.cell? ⟨ty, 1, none⟩ = some (.int .i64 u3) := (hk.cell (p := ⟨ty, 1, none⟩) (by show ty < _; omega)).trans c27_6
          have c28_7 : V28.cell? ⟨ty, 2, none⟩ = some (.int .i64 v3) := (hk.cell (p := ⟨ty, 2, none⟩) (by show ty < _; omega)).trans c27_7
          have c28_8 : V28.cell? ⟨ty, 3, none⟩ = some (.slice C8 fs3.length c8) := (hk.cell (p := ⟨ty, 3, none⟩) (by show ty < _; omega)).trans c27_8
          have c28_9 : V28.cell? ⟨ty, 4, none⟩ = some (.slice C9 ps3.length c9) := (hk.cell (p := ⟨ty, 4, none⟩) (by show ty < _; omega)).trans c27_9
          have b28_0 : tx < V28.heap.size := by omega
          have b28_1 : ty < V28.heap.size := by omega
          have R28_0 := hid (FreshA.below (cf := cIn) (sz := 1) (T := 3) (B := V22.heap.size) R27_0.out hk)
          have R28_1 := hid (FreshA.below (cf := cPu) (sz := 3) (T := 71) (B := V22.heap.size) R27_1.out hk)
          have R28_2 := hid (FreshA.below (cf := cIn) (sz := 1) (T := 3) (B := V24.heap.size) R27_2.out hk)
          have R28_3 := hid (FreshA.below (cf := cPu) (sz := 3) (T := 71) (B := V24.heap.size) R27_3.out hk)
          have R28_4 := hid (FreshA.below (cf := cIn) (sz := 1) (T := 3) (B := V26.heap.size) S27_4.out hk)
          have R28_5 := hid (FreshA.below (cf := cPu) (sz := 3) (T := 71) (B := V26.heap.size) S27_5.out hk)
          have hw28 : Below w.heap.size w V28 := Below.trans hw (Below.mono hk (by have := hw.size; omega))
          clear hw hk
          have hw := hw28
          clear hw28
          have hwz := hw.size
          clear c27_0 c27_1 c27_2 c27_3 c27_4 c27_5 c27_6 c27_7 c27_8 c27_9 R27_0 R27_1 R27_2 R27_3 S27_4 S27_5
          clear hV
          refine (c_laws_rPumpTasks l3 u3 v3 C8 fs3 c8 C9 ps3 c9 E8 e8 E9 e9 _ R28_2.out.rds R28_4.out.rds R28_3.out.rds R28_5.out.rds (by omega) (by omega)).mono ?_
          rintro e W29 ⟨rfl, hb⟩
          have hk : Below V28.heap.size V28 W29 := hb
          have hkz29 := hk.size
          have c29_0 : W29.cell? ⟨tx, 0, none⟩ = some (.int .i64 l2) := (hb.cell (p := ⟨tx, 0, none⟩) (by show tx < _; omega)).trans c28_0
          have c29_1 : W29.cell? ⟨tx, 1, none⟩ = some (.int .i64 u2) := (hb.cell (p := ⟨tx, 1, none⟩) (by show tx < _; omega)).trans c28_1
          have c29_2 : W29.cell? ⟨tx, 2, none⟩ = some (.int .i64 v2) := (hb.cell (p := ⟨tx, 2, none⟩) (by show tx < _; omega)).trans c28_2
          have c29_3 : W29.cell? ⟨tx, 3, none⟩ = some (.slice Bf fs2.length df) := (hb.cell (p := ⟨tx, 3, none⟩) (by show tx < _; omega)).trans c28_3
          have c29_4 : W29.cell? ⟨tx, 4, none⟩ = some (.slice Bq ps2.length dq) := (hb.cell (p := ⟨tx, 4, none⟩) (by show tx < _; omega)).trans c28_4
          have c29_5 : W29.cell? ⟨ty, 0, none⟩ = some (.int .i64 l3) := (hb.cell (p := ⟨ty, 0, none⟩) (by show ty < _; omega)).trans c28_5
          have c29_6 : W29.cell? ⟨ty, 1, none⟩ = some (.int .i64 u3) := (hb.cell (p := ⟨ty, 1, none⟩) (by show ty < _; omega)).trans c28_6
          have c29_7 : W29.cell? ⟨ty, 2, none⟩ = some (.int .i64 v3) := (hb.cell (p := ⟨ty, 2, none⟩) (by show ty < _; omega)).trans c28_7
          have c29_8 : W29.cell? ⟨ty, 3, none⟩ = some (.slice C8 fs3.length c8) := (hb.cell (p := ⟨ty, 3, none⟩) (by show ty < _; omega)).trans c28_8
          have c29_9 : W29.cell? ⟨ty, 4, none⟩ = some (.slice C9 ps3.length c9) := (hb.cell (p := ⟨ty, 4, none⟩) (by show ty < _; omega)).trans c28_9
          have b29_0 : tx < W29.heap.size := by omega
          have b29_1 : ty < W29.heap.size := by omega
          have R29_0 := hid (FreshA.below (cf := cIn) (sz := 1) (T := 3) (B := V22.heap.size) R28_0.out hk)
          have R29_1 := hid (FreshA.below (cf := cPu) (sz := 3) (T := 71) (B := V22.heap.size) R28_1.out hk)
          have R29_2 := hid (FreshA.below (cf := cIn) (sz := 1) (T := 3) (B := V24.heap.size) R28_2.out hk)
          have R29_3 := hid (FreshA.below (cf := cPu) (sz := 3) (T := 71) (B := V24.heap.size) R28_3.out hk)
          have R29_4 := hid (FreshA.below (cf := cIn) (sz := 1) (T := 3) (B := V26.heap.size) R28_4.out hk)
          have R29_5 := hid (FreshA.below (cf := cPu) (sz := 3) (T := 71) (B := V26.heap.size) R28_5.out hk)
          have hw29 : Below w.heap.size w W29 := Below.trans hw (Below.mono hk (by have := hw.size; omega))
          clear hw hk
          have hw := hw29
          clear hw29
          have hwz := hw.size
          clear c28_0 c28_1 c28_2 c28_3 c28_4 c28_5 c28_6 c28_7 c28_8 c28_9 R28_0 R28_1 R28_2 R28_3 R28_4 R28_5
          clear hb
          go_wp2_with (fail)
          go_ret
          exact ⟨by first | rfl | exact ret_bool (by simp), by first | exact hw | (repeat' (first | with_reducible exact Below.refl _ _ | with_reducible assumption | with_reducible refine Below.setCell ?_ ?_ _ | with_reducible refine Below.drew ?_ | with_reducible refine Below.alloc ?_ ?_ _ | with_reducible refine Below.trans ?_ (Below.mono (by assumption) ?_) | (dsimp only; omega) | (simp; done) | (simp; omega) | omega))⟩
        have HTK := hid htk; clear htk
        go_wp2_with (fail)
        refine calls_named ?_
        intro V28 hV
        have hk : Below W27.heap.size W27 V28 := by rw [hV]; (repeat' (first | with_reducible exact Below.refl _ _ | with_reducible assumption | with_reducible refine Below.setCell ?_ ?_ _ | with_reducible refine Below.drew ?_ | with_reducible refine Below.alloc ?_ ?_ _ | with_reducible refine Below.trans ?_ (Below.mono (by assumption) ?_) | (dsimp only; omega) | (simp; done) | (simp; omega) | omega))
        have hkz28 := hk.size
        have c28_0 : V28.cell? ⟨tx, 0, none⟩ = some (.int .i64 l2) := (hk.cell (p := ⟨tx, 0, none⟩) (by show tx < _; omega)).trans c27_0
        have c28_1 : V28.cell? ⟨tx, 1, none⟩ = some (.int .i64 u2) := (hk.cell (p := ⟨tx, 1, none⟩) (by show tx < _; omega)).trans c27_1
        have c28_2 : V28.cell? ⟨tx, 2, none⟩ = some (.int .i64 v2) := (hk.cell (p := ⟨tx, 2, none⟩) (by show tx < _; omega)).trans c27_2
        have c28_3 : V28.cell? ⟨tx, 3, none⟩ = some (.slice Bf fs2.length df) := (hk.cell (p := ⟨tx, 3, none⟩) (by show tx < _; omega)).trans c27_3
        have c28_4 : V28.cell? ⟨tx, 4, none⟩ = some (.slice Bq ps2.length dq) := (hk.cell (p := ⟨tx, 4, none⟩) (by show tx < _; omega)).trans c27_4
        have c28_5 : V28.cell? ⟨ty, 0, none⟩ = some (.int .i64 l3) := (hk.cell (p := ⟨ty, 0, none⟩) (by show ty < _; omega)).trans c27_5
        have c28_6 : V28.cell? ⟨ty, 1, none⟩ = some (.int .i64 u3) := (hk.cell (p := ⟨ty, 1, none⟩) (by show ty < _; omega)).trans c27_6
        have c28_7 : V28.cell? ⟨ty, 2, none⟩ = some (.int .i64 v3) := (hk.cell (p := ⟨ty, 2, none⟩) (by show ty < _; omega)).trans c27_7
        have c28_8 : V28.cell? ⟨ty, 3, none⟩ = some (.slice C8 fs3.length c8) := (hk.cell (p := ⟨ty, 3, none⟩) (by show ty < _; omega)).trans c27_8
        have c28_9 : V28.cell? ⟨ty, 4, none⟩ = some (.slice C9 ps3.length c9) := (hk.cell (p := ⟨ty, 4, none⟩) (by show ty < _; omega)).trans c27_9
        have b28_0 : tx < V28.heap.size := by omega
        have b28_1 : ty < V28.heap.size := by omega
        have R28_0 := hid (FreshA.below (cf := cIn) (sz := 1) (T := 3) (B := V22.heap.size) R27_0.out hk)
        have R28_1 := hid (FreshA.below (cf := cPu) (sz := 3) (T := 71) (B := V22.heap.size) R27_1.out hk)
        have R28_2 := hid (FreshA.below (cf := cIn) (sz := 1) (T := 3) (B := V24.heap.size) R27_2.out hk)
        have R28_3 := hid (FreshA.below (cf := cPu) (sz := 3) (T := 71) (B := V24.heap.size) R27_3.out hk)
        have R28_4 := hid (FreshA.below (cf := cIn) (sz := 1) (T := 3) (B := V26.heap.size) S27_4.out hk)
        have R28_5 := hid (FreshA.below (cf := cPu) (sz := 3) (T := 71) (B := V26.heap.size) S27_5.out hk)
        have hw28 : Below w.heap.size w V28 := Below.trans hw (Below.mono hk (by have := hw.size; omega))
        clear hw hk
        have hw := hw28
        clear hw28
        have hwz := hw.size
        clear c27_0 c27_1 c27_2 c27_3 c27_4 c27_5 c27_6 c27_7 c27_8 c27_9 R27_0 R27_1 R27_2 R27_3 S27_4 S27_5
        clear hV
        refine (c_laws_rPumpTasks l3 u3 v3 C8 fs3 c8 C9 ps3 c9 E8 e8 E9 e9 _ R28_2.out.rds R28_4.out.rds R28_3.out.rds R28_5.out.rds (by omega) (by omega)).mono ?_
        rintro e W29 ⟨rfl, hb⟩
        have hk : Below V28.heap.size V28 W29 := hb
        have hkz29 := hk.size
        have c29_0 : W29.cell? ⟨tx, 0, none⟩ = some (.int .i64 l2) := (hb.cell (p := ⟨tx, 0, none⟩) (by show tx < _; omega)).trans c28_0
        have c29_1 : W29.cell? ⟨tx, 1, none⟩ = some (.int .i64 u2) := (hb.cell (p := ⟨tx, 1, none⟩) (by show tx < _; omega)).trans c28_1
        have c29_2 : W29.cell? ⟨tx, 2, none⟩ = some (.int .i64 v2) := (hb.cell (p := ⟨tx, 2, none⟩) (by show tx < _; omega)).trans c28_2
        have c29_3 : W29.cell? ⟨tx, 3, none⟩ = some (.slice Bf fs2.length df) := (hb.cell (p := ⟨tx, 3, none⟩) (by show tx < _; omega)).trans c28_3
        have c29_4 : W29.cell? ⟨tx, 4, none⟩ = some (.slice Bq ps2.length dq) := (hb.cell (p := ⟨tx, 4, none⟩) (by show tx < _; omega)).trans c28_4
        have c29_5 : W29.cell? ⟨ty, 0, none⟩ = some (.int .i64 l3) := (hb.cell (p := ⟨ty, 0, none⟩) (by show ty < _; omega)).trans c28_5
        have c29_6 : W29.cell? ⟨ty, 1, none⟩ = some (.int .i64 u3) := (hb.cell (p := ⟨ty, 1, none⟩) (by show ty < _; omega)).trans c28_6
        have c29_7 : W29.cell? ⟨ty, 2, none⟩ = some (.int .i64 v3) := (hb.cell (p := ⟨ty, 2, none⟩) (by show ty < _; omega)).trans c28_7
        have c29_8 : W29.cell? ⟨ty, 3, none⟩ = some (.slice C8 fs3.length c8) := (hb.cell (p := ⟨ty, 3, none⟩) (by show ty < _; omega)).trans c28_8
        have c29_9 : W29.cell? ⟨ty, 4, none⟩ = some (.slice C9 ps3.length c9) := (hb.cell (p := ⟨ty, 4, none⟩) (by show ty < _; omega)).trans c28_9
        have b29_0 : tx < W29.heap.size := by omega
        have b29_1 : ty < W29.heap.size := by omega
        have R29_0 := hid (FreshA.below (cf := cIn) (sz := 1) (T := 3) (B := V22.heap.size) R28_0.out hk)
        have R29_1 := hid (FreshA.below (cf := cPu) (sz := 3) (T := 71) (B := V22.heap.size) R28_1.out hk)
        have R29_2 := hid (FreshA.below (cf := cIn) (sz := 1) (T := 3) (B := V24.heap.size) R28_2.out hk)
        have R29_3 := hid (FreshA.below (cf := cPu) (sz := 3) (T := 71) (B := V24.heap.size) R28_3.out hk)
        have R29_4 := hid (FreshA.below (cf := cIn) (sz := 1) (T := 3) (B := V26.heap.size) R28_4.out hk)
        have R29_5 := hid (FreshA.below (cf := cPu) (sz := 3) (T := 71) (B := V26.heap.size) R28_5.out hk)
        have hw29 : Below w.heap.size w W29 := Below.trans hw (Below.mono hk (by have := hw.size; omega))
        clear hw hk
        have hw := hw29
        clear hw29
        have hwz := hw.size
        clear c28_0 c28_1 c28_2 c28_3 c28_4 c28_5 c28_6 c28_7 c28_8 c28_9 R28_0 R28_1 R28_2 R28_3 R28_4 R28_5
        clear hb
        go_wp2_with (fail)
        refine calls_named ?_
        intro V30 hV
        have hk : Below W29.heap.size W29 V30 := by rw [hV]; (repeat' (first | with_reducible exact Below.refl _ _ | with_reducible assumption | with_reducible refine Below.setCell ?_ ?_ _ | with_reducible refine Below.drew ?_ | with_reducible refine Below.alloc ?_ ?_ _ | with_reducible refine Below.trans ?_ (Below.mono (by assumption) ?_) | (dsimp only; omega) | (simp; done) | (simp; omega) | omega))
        have hkz30 := hk.size
        have c30_0 : V30.cell? ⟨tx, 0, none⟩ = some (.int .i64 l2) := (hk.cell (p := ⟨tx, 0, none⟩) (by show tx < _; omega)).trans c29_0
        have c30_1 : V30.cell? ⟨tx, 1, none⟩ = some (.int .i64 u2) := (hk.cell (p := ⟨tx, 1, none⟩) (by show tx < _; omega)).trans c29_1
        have c30_2 : V30.cell? ⟨tx, 2, none⟩ = some (.int .i64 v2) := (hk.cell (p := ⟨tx, 2, none⟩) (by show tx < _; omega)).trans c29_2
        have c30_3 : V30.cell? ⟨tx, 3, none⟩ = some (.slice Bf fs2.length df) := (hk.cell (p := ⟨tx, 3, none⟩) (by show tx < _; omega)).trans c29_3
        have c30_4 : V30.cell? ⟨tx, 4, none⟩ = some (.slice Bq ps2.length dq) := (hk.cell (p := ⟨tx, 4, none⟩) (by show tx < _; omega)).trans c29_4
        have c30_5 : V30.cell? ⟨ty, 0, none⟩ = some (.int .i64 l3) := (hk.cell (p := ⟨ty, 0, none⟩) (by show ty < _; omega)).trans c29_5
        have c30_6 : V30.cell? ⟨ty, 1, none⟩ = some (.int .i64 u3) := (hk.cell (p := ⟨ty, 1, none⟩) (by show ty < _; omega)).trans c29_6
        have c30_7 : V30.cell? ⟨ty, 2, none⟩ = some (.int .i64 v3) := (hk.cell (p := ⟨ty, 2, none⟩) (by show ty < _; omega)).trans c29_7
        have c30_8 : V30.cell? ⟨ty, 3, none⟩ = some (.slice C8 fs3.length c8) := (hk.cell (p := ⟨ty, 3, none⟩) (by show ty < _; omega)).trans c29_8
        have c30_9 : V30.cell? ⟨ty, 4, none⟩ = some (.slice C9 ps3.length c9) := (hk.cell (p := ⟨ty, 4, none⟩) (by show ty < _; omega)).trans c29_9
        have b30_0 : tx < V30.heap.size := by omega
        have b30_1 : ty < V30.heap.size := by omega
        have R30_0 := hid (FreshA.below (cf := cIn) (sz := 1) (T := 3) (B := V22.heap.size) R29_0.out hk)
        have R30_1 := hid (FreshA.below (cf := cPu) (sz := 3) (T := 71) (B := V22.heap.size) R29_1.out hk)
        have R30_2 := hid (FreshA.below (cf := cIn) (sz := 1) (T := 3) (B := V24.heap.size) R29_2.out hk)
        have R30_3 := hid (FreshA.below (cf := cPu) (sz := 3) (T := 71) (B := V24.heap.size) R29_3.out hk)
        have R30_4 := hid (FreshA.below (cf := cIn) (sz := 1) (T := 3) (B := V26.heap.size) R29_4.out hk)
        have R30_5 := hid (FreshA.below (cf := cPu) (sz := 3) (T := 71) (B := V26.heap.size) R29_5.out hk)
        have hw30 : Below w.heap.size w V30 := Below.trans hw (Below.mono hk (by have := hw.size; omega))
        clear hw hk
        have hw := hw30
        clear hw30
        have hwz := hw.size
        clear c29_0 c29_1 c29_2 c29_3 c29_4 c29_5 c29_6 c29_7 c29_8 c29_9 R29_0 R29_1 R29_2 R29_3 R29_4 R29_5
        clear hV
        refine (c_impl_IsPumpTask l3 u3 v3 C8 fs3 c8 C9 ps3 c9 _ R30_2.out.rds (by omega) R30_3.out.rds (by omega)).mono ?_
        simp only [HTK.out]
        rintro e W31 ⟨rfl, hb⟩
        have hk : Below V30.heap.size V30 W31 := hb
        have hkz31 := hk.size
        have c31_0 : W31.cell? ⟨tx, 0, none⟩ = some (.int .i64 l2) := (hb.cell (p := ⟨tx, 0, none⟩) (by show tx < _; omega)).trans c30_0
        have c31_1 : W31.cell? ⟨tx, 1, none⟩ = some (.int .i64 u2) := (hb.cell (p := ⟨tx, 1, none⟩) (by show tx < _; omega)).trans c30_1
        have c31_2 : W31.cell? ⟨tx, 2, none⟩ = some (.int .i64 v2) := (hb.cell (p := ⟨tx, 2, none⟩) (by show tx < _; omega)).trans c30_2
        have c31_3 : W31.cell? ⟨tx, 3, none⟩ = some (.slice Bf fs2.length df) := (hb.cell (p := ⟨tx, 3, none⟩) (by show tx < _; omega)).trans c30_3
        have c31_4 : W31.cell? ⟨tx, 4, none⟩ = some (.slice Bq ps2.length dq) := (hb.cell (p := ⟨tx, 4, none⟩) (by show tx < _; omega)).trans c30_4
        have c31_5 : W31.cell? ⟨ty, 0, none⟩ = some (.int .i64 l3) := (hb.cell (p := ⟨ty, 0, none⟩) (by show ty < _; omega)).trans c30_5
        have c31_6 : W31.cell? ⟨ty, 1, none⟩ = some (.int .i64 u3) := (hb.cell (p := ⟨ty, 1, none⟩) (by show ty < _; omega)).trans c30_6
        have c31_7 : W31.cell? ⟨ty, 2, none⟩ = some (.int .i64 v3) := (hb.cell (p := ⟨ty, 2, none⟩) (by show ty < _; omega)).trans c30_7
        have c31_8 : W31.cell? ⟨ty, 3, none⟩ = some (.slice C8 fs3.length c8) := (hb.cell (p := ⟨ty, 3, none⟩) (by show ty < _; omega)).trans c30_8
        have c31_9 : W31.cell? ⟨ty, 4, none⟩ = some (.slice C9 ps3.length c9) := (hb.cell (p := ⟨ty, 4, none⟩) (by show ty < _; omega)).trans c30_9
        have b31_0 : tx < W31.heap.size := by omega
        have b31_1 : ty < W31.heap.size := by omega
        have R31_0 := hid (FreshA.below (cf := cIn) (sz := 1) (T := 3) (B := V22.heap.size) R30_0.out hk)
        have R31_1 := hid (FreshA.below (cf := cPu) (sz := 3) (T := 71) (B := V22.heap.size) R30_1.out hk)
        have R31_2 := hid (FreshA.below (cf := cIn) (sz := 1) (T := 3) (B := V24.heap.size) R30_2.out hk)
        have R31_3 := hid (FreshA.below (cf := cPu) (sz := 3) (T := 71) (B := V24.heap.size) R30_3.out hk)
        have R31_4 := hid (FreshA.below (cf := cIn) (sz := 1) (T := 3) (B := V26.heap.size) R30_4.out hk)
        have R31_5 := hid (FreshA.below (cf := cPu) (sz := 3) (T := 71) (B := V26.heap.size) R30_5.out hk)
        have hw31 : Below w.heap.size w W31 := Below.trans hw (Below.mono hk (by have := hw.size; omega))
        clear hw hk
        have hw := hw31
        clear hw31
        have hwz := hw.size
        clear c30_0 c30_1 c30_2 c30_3 c30_4 c30_5 c30_6 c30_7 c30_8 c30_9 R30_0 R30_1 R30_2 R30_3 R30_4 R30_5
        clear hb
        go_wp2_with (fail)
        go_ret
        exact ⟨by first | rfl | exact ret_bool (by simp), by first | exact hw | (repeat' (first | with_reducible exact Below.refl _ _ | with_reducible assumption | with_reducible refine Below.setCell ?_ ?_ _ | with_reducible refine Below.drew ?_ | with_reducible refine Below.alloc ?_ ?_ _ | with_reducible refine Below.trans ?_ (Below.mono (by assumption) ?_) | (dsimp only; omega) | (simp; done) | (simp; omega) | omega))⟩
    obtain ⟨b9, o9, hge9, hb9, hc9⟩ := R19_2.out.rds j _ hyj
    cases hge9
    have hyj := hc9 0 _ rfl
    simp only [Nat.add_zero, Nat.mul_one, Nat.zero_add] at hyj
    clear hc9
    change _ = some (Value.int IntKind.i64 y) at hyj
    have hjq : (j : Int) < (lv.length : Int) := by omega
    have hyf : decide (l ≤ y) = true := by simp; omega
    have hyg : decide (y ≤ u) = false := by simp; omega
    have HKQ : Hid (∀ w' : World, Below V19.heap.size V19 w' → w'.cell? ⟨tb, 0, none⟩ = some (.int .i64 l) ∧ w'.cell? ⟨tb, 1, none⟩ = some (.int .i64 u) ∧ w'.cell? ⟨gl, j, none⟩ = some (.int .i64 y)) := fun w' hbv => ⟨(hbv.cell (p := ⟨tb, 0, none⟩) (by show tb < _; omega)).trans c19_0, (hbv.cell (p := ⟨tb, 1, none⟩) (by show tb < _; omega)).trans c19_1, (hbv.cell (p := ⟨gl, j, none⟩) (by show gl < _; omega)).trans hyj⟩
    have hbq : Below V19.heap.size V19 V19 := Below.refl _ _
    go_wp2_with (fail)
    go_region_held3 (fun w' => w'.cell? ⟨tb, 0, none⟩ = some (.int .i64 l) ∧ w'.cell? ⟨tb, 1, none⟩ = some (.int .i64 u) ∧ w'.cell? ⟨gl, j, none⟩ = some (.int .i64 y)) (first | assumption | exact HKQ.out _ (by (repeat' (first | with_reducible exact Below.refl _ _ | with_reducible assumption | with_reducible refine Below.setCell ?_ ?_ _ | with_reducible refine Below.drew ?_ | with_reducible refine Below.alloc ?_ ?_ _ | with_reducible refine Below.trans ?_ (Below.mono (by assumption) ?_) | (dsimp only; omega) | (simp; done) | (simp; omega) | omega)))) (fail)
    all_goals
      clear HKQ hbq hyj
      clear c19_0
      clear c19_1
      clear c19_2
      clear c19_3
      clear c19_4
      clear R19_0
      clear R19_1
      clear R19_2
      go_wp2_with (fail)
      refine calls_named ?_
      intro V20 hV
      have hk : Below V19.heap.size V19 V20 := by rw [hV]; (repeat' (first | with_reducible exact Below.refl _ _ | with_reducible assumption | with_reducible refine Below.setCell ?_ ?_ _ | with_reducible refine Below.drew ?_ | with_reducible refine Below.alloc ?_ ?_ _ | with_reducible refine Below.trans ?_ (Below.mono (by assumption) ?_) | (dsimp only; omega) | (simp; done) | (simp; omega) | omega))
      have hkz20 := hk.size
      have hw20 : Below w.heap.size w V20 := Below.trans hw (Below.mono hk (by have := hw.size; omega))
      clear hw hk
      have hw := hw20
      clear hw20
      have hwz := hw.size
      clear hV
      refine (c_spec_DrawWithoutPump A cs cap _ (Rds.below hr hw) hby (by omega)).mono ?_
      rintro e W21 ⟨l2, u2, v2, Bf, df, fs2, Bq, dq, ps2, i, rfl, hFf, hFq, hfl2, hpl2, hi1, hi2, hb⟩
      have hk : Below V20.heap.size V20 W21 := hb
      have hkz21 := hk.size
      have hw21 : Below w.heap.size w W21 := Below.trans hw (Below.mono hk (by have := hw.size; omega))
      clear hw hk
      have hw := hw21
      clear hw21
      have hwz := hw.size
      clear hb
      have S21_0 : Hid (FreshA cIn 1 3 V20.heap.size W21 Bf df fs2) := hid (hFf)
      have loS21_0 := S21_0.out.lo
      have hiS21_0 := S21_0.out.hi
      have S21_1 : Hid (FreshA cPu 3 71 V20.heap.size W21 Bq dq ps2) := hid (hFq)
      have loS21_1 := S21_1.out.lo
      have hiS21_1 := S21_1.out.hi
      clear hFf hFq
      have hcq := (S21_1.out).capLe
      have hwl := woV_len l2 u2 v2 fs2 ps2 i
      obtain ⟨l3, u3, v3, fs3, ps3, known, hWo⟩ : ∃ l3 u3 v3 fs3 ps3 known, woV l2 u2 v2 fs2 ps2 i = ((l3, u3, v3, fs3, ps3), known) := ⟨_, _, _, _, _, _, rfl⟩
      rw [hWo] at hwl
      simp only at hwl
      have hwc := fp_wo hWo
      have HWO := hid hWo; clear hWo
      go_wp2_with (fail)
      refine calls_named ?_
      intro V22 hV
      have hk : Below W21.heap.size W21 V22 := by rw [hV]; (repeat' (first | with_reducible exact Below.refl _ _ | with_reducible assumption | with_reducible refine Below.setCell ?_ ?_ _ | with_reducible refine Below.drew ?_ | with_reducible refine Below.alloc ?_ ?_ _ | with_reducible refine Below.trans ?_ (Below.mono (by assumption) ?_) | (dsimp only; omega) | (simp; done) | (simp; omega) | omega))
      have hkz22 := hk.size
      have R22_0 := hid (FreshA.below (cf := cIn) (sz := 1) (T := 3) (B := V20.heap.size) S21_0.out hk)
      have R22_1 := hid (FreshA.below (cf := cPu) (sz := 3) (T := 71) (B := V20.heap.size) S21_1.out hk)
      have hw22 : Below w.heap.size w V22 := Below.trans hw (Below.mono hk (by have := hw.size; omega))
      clear hw hk
      have hw := hw22
      clear hw22
      have hwz := hw.size
      clear S21_0 S21_1
      have d22_0 : V22.cell? ⟨W21.heap.size, 0, none⟩ = some (.int .i64 l2) := by rw [hV]; first | (simp [go_sem, ↓IntWalk.iteOmega, *]; done) | (simp [go_sem, ↓IntWalk.iteOmega, *]; intros; omega)
      have d22_1 : V22.cell? ⟨W21.heap.size, 1, none⟩ = some (.int .i64 u2) := by rw [hV]; first | (simp [go_sem, ↓IntWalk.iteOmega, *]; done) | (simp [go_sem, ↓IntWalk.iteOmega, *]; intros; omega)
      have d22_2 : V22.cell? ⟨W21.heap.size, 2, none⟩ = some (.int .i64 v2) := by rw [hV]; first | (simp [go_sem, ↓IntWalk.iteOmega, *]; done) | (simp [go_sem, ↓IntWalk.iteOmega, *]; intros; omega)
      have d22_3 : V22.cell? ⟨W21.heap.size, 3, none⟩ = some (.slice Bf fs2.length df) := by rw [hV]; first | (simp [go_sem, ↓IntWalk.iteOmega, *]; done) | (simp [go_sem, ↓IntWalk.iteOmega, *]; intros; omega)
      have d22_4 : V22.cell? ⟨W21.heap.size, 4, none⟩ = some (.slice Bq ps2.length dq) := by rw [hV]; first | (simp [go_sem, ↓IntWalk.iteOmega, *]; done) | (simp [go_sem, ↓IntWalk.iteOmega, *]; intros; omega)
      have e22_0 : W21.heap.size < V22.heap.size := by rw [hV]; first | (simp; done) | (simp; omega)
      clear hV
      generalize htbtx : W21.heap.size = tx at *
      refine (c_impl_WithoutPump l2 u2 v2 Bf fs2 df Bq ps2 dq i _ R22_0.out.rds (by omega) R22_1.out.rds (by omega)).mono ?_
      simp only [HWO.out]
      rintro e W23 ⟨C8, c8, C9, c9, rfl, hF8, hF9, hb⟩
      have hk : Below V22.heap.size V22 W23 := hb
      have hkz23 := hk.size
      have c23_0 : W23.cell? ⟨tx, 0, none⟩ = some (.int .i64 l2) := (hb.cell (p := ⟨tx, 0, none⟩) (by show tx < _; omega)).trans d22_0
      have c23_1 : W23.cell? ⟨tx, 1, none⟩ = some (.int .i64 u2) := (hb.cell (p := ⟨tx, 1, none⟩) (by show tx < _; omega)).trans d22_1
      have c23_2 : W23.cell? ⟨tx, 2, none⟩ = some (.int .i64 v2) := (hb.cell (p := ⟨tx, 2, none⟩) (by show tx < _; omega)).trans d22_2
      have c23_3 : W23.cell? ⟨tx, 3, none⟩ = some (.slice Bf fs2.length df) := (hb.cell (p := ⟨tx, 3, none⟩) (by show tx < _; omega)).trans d22_3
      have c23_4 : W23.cell? ⟨tx, 4, none⟩ = some (.slice Bq ps2.length dq) := (hb.cell (p := ⟨tx, 4, none⟩) (by show tx < _; omega)).trans d22_4
      have b23_0 : tx < W23.heap.size := by omega
      have R23_0 := hid (FreshA.below (cf := cIn) (sz := 1) (T := 3) (B := V20.heap.size) R22_0.out hk)
      have R23_1 := hid (FreshA.below (cf := cPu) (sz := 3) (T := 71) (B := V20.heap.size) R22_1.out hk)
      have hw23 : Below w.heap.size w W23 := Below.trans hw (Below.mono hk (by have := hw.size; omega))
      clear hw hk
      have hw := hw23
      clear hw23
      have hwz := hw.size
      clear d22_0 d22_1 d22_2 d22_3 d22_4 R22_0 R22_1
      clear hb
      have S23_2 : Hid (FreshA cIn 1 3 V22.heap.size W23 C8 c8 fs3) := hid (hF8)
      have loS23_2 := S23_2.out.lo
      have hiS23_2 := S23_2.out.hi
      have S23_3 : Hid (FreshA cPu 3 71 V22.heap.size W23 C9 c9 ps3) := hid (hF9)
      have loS23_3 := S23_3.out.lo
      have hiS23_3 := S23_3.out.hi
      clear hF8 hF9
      go_wp2_with (fail)
      refine calls_named ?_
      intro V24 hV
      have hk : Below W23.heap.size W23 V24 := by rw [hV]; (repeat' (first | with_reducible exact Below.refl _ _ | with_reducible assumption | with_reducible refine Below.setCell ?_ ?_ _ | with_reducible refine Below.drew ?_ | with_reducible refine Below.alloc ?_ ?_ _ | with_reducible refine Below.trans ?_ (Below.mono (by assumption) ?_) | (dsimp only; omega) | (simp; done) | (simp; omega) | omega))
      have hkz24 := hk.size
      have c24_0 : V24.cell? ⟨tx, 0, none⟩ = some (.int .i64 l2) := (hk.cell (p := ⟨tx, 0, none⟩) (by show tx < _; omega)).trans c23_0
      have c24_1 : V24.cell? ⟨tx, 1, none⟩ = some (.int .i64 u2) := (hk.cell (p := ⟨tx, 1, none⟩) (by show tx < _; omega)).trans c23_1
      have c24_2 : V24.cell? ⟨tx, 2, none⟩ = some (.int .i64 v2) := (hk.cell (p := ⟨tx, 2, none⟩) (by show tx < _; omega)).trans c23_2
      have c24_3 : V24.cell? ⟨tx, 3, none⟩ = some (.slice Bf fs2.length df) := (hk.cell (p := ⟨tx, 3, none⟩) (by show tx < _; omega)).trans c23_3
      have c24_4 : V24.cell? ⟨tx, 4, none⟩ = some (.slice Bq ps2.length dq) := (hk.cell (p := ⟨tx, 4, none⟩) (by show tx < _; omega)).trans c23_4
      have b24_0 : tx < V24.heap.size := by omega
      have R24_0 := hid (FreshA.below (cf := cIn) (sz := 1) (T := 3) (B := V20.heap.size) R23_0.out hk)
      have R24_1 := hid (FreshA.below (cf := cPu) (sz := 3) (T := 71) (B := V20.heap.size) R23_1.out hk)
      have R24_2 := hid (FreshA.below (cf := cIn) (sz := 1) (T := 3) (B := V22.heap.size) S23_2.out hk)
      have R24_3 := hid (FreshA.below (cf := cPu) (sz := 3) (T := 71) (B := V22.heap.size) S23_3.out hk)
      have hw24 : Below w.heap.size w V24 := Below.trans hw (Below.mono hk (by have := hw.size; omega))
      clear hw hk
      have hw := hw24
      clear hw24
      have hwz := hw.size
      clear c23_0 c23_1 c23_2 c23_3 c23_4 R23_0 R23_1 S23_2 S23_3
      have d24_5 : V24.cell? ⟨W23.heap.size, 0, none⟩ = some (.int .i64 l3) := by rw [hV]; first | (simp [go_sem, ↓IntWalk.iteOmega, *]; done) | (simp [go_sem, ↓IntWalk.iteOmega, *]; intros; omega)
      have d24_6 : V24.cell? ⟨W23.heap.size, 1, none⟩ = some (.int .i64 u3) := by rw [hV]; first | (simp [go_sem, ↓IntWalk.iteOmega, *]; done) | (simp [go_sem, ↓IntWalk.iteOmega, *]; intros; omega)
      have d24_7 : V24.cell? ⟨W23.heap.size, 2, none⟩ = some (.int .i64 v3) := by rw [hV]; first | (simp [go_sem, ↓IntWalk.iteOmega, *]; done) | (simp [go_sem, ↓IntWalk.iteOmega, *]; intros; omega)
      have d24_8 : V24.cell? ⟨W23.heap.size, 3, none⟩ = some (.slice C8 fs3.length c8) := by rw [hV]; first | (simp [go_sem, ↓IntWalk.iteOmega, *]; done) | (simp [go_sem, ↓IntWalk.iteOmega, *]; intros; omega)
      have d24_9 : V24.cell? ⟨W23.heap.size, 4, none⟩ = some (.slice C9 ps3.length c9) := by rw [hV]; first | (simp [go_sem, ↓IntWalk.iteOmega, *]; done) | (simp [go_sem, ↓IntWalk.iteOmega, *]; intros; omega)
      have e24_1 : W23.heap.size < V24.heap.size := by rw [hV]; first | (simp; done) | (simp; omega)
      clear hV
      generalize htbty : W23.heap.size = ty at *
      refine (c_spec_WithoutPump l2 u2 v2 Bf fs2 df Bq ps2 dq i _ R24_0.out.rds (by omega) R24_1.out.rds (by omega) hcq).mono ?_
      simp only [HWO.out]
      rintro e W25 ⟨E8, e8, E9, e9, rfl, hF8, hF9, hb⟩
      have hk : Below V24.heap.size V24 W25 := hb
      have hkz25 := hk.size
      have c25_0 : W25.cell? ⟨tx, 0, none⟩ = some (.int .i64 l2) := (hb.cell (p := ⟨tx, 0, none⟩) (by show tx < _; omega)).trans c24_0
      have c25_1 : W25.cell? ⟨tx, 1, none⟩ = some (.int .i64 u2) := (hb.cell (p := ⟨tx, 1, none⟩) (by show tx < _; omega)).trans c24_1
      have c25_2 : W25.cell? ⟨tx, 2, none⟩ = some (.int .i64 v2) := (hb.cell (p := ⟨tx, 2, none⟩) (by show tx < _; omega)).trans c24_2
      have c25_3 : W25.cell? ⟨tx, 3, none⟩ = some (.slice Bf fs2.length df) := (hb.cell (p := ⟨tx, 3, none⟩) (by show tx < _; omega)).trans c24_3
      have c25_4 : W25.cell? ⟨tx, 4, none⟩ = some (.slice Bq ps2.length dq) := (hb.cell (p := ⟨tx, 4, none⟩) (by show tx < _; omega)).trans c24_4
      have c25_5 : W25.cell? ⟨ty, 0, none⟩ = some (.int .i64 l3) := (hb.cell (p := ⟨ty, 0, none⟩) (by show ty < _; omega)).trans d24_5
      have c25_6 : W25.cell? ⟨ty, 1, none⟩ = some (.int .i64 u3) := (hb.cell (p := ⟨ty, 1, none⟩) (by show ty < _; omega)).trans d24_6
      have c25_7 : W25.cell? ⟨ty, 2, none⟩ = some (.int .i64 v3) := (hb.cell (p := ⟨ty, 2, none⟩) (by show ty < _; omega)).trans d24_7
      have c25_8 : W25.cell? ⟨ty, 3, none⟩ = some (.slice C8 fs3.length c8) := (hb.cell (p := ⟨ty, 3, none⟩) (by show ty < _; omega)).trans d24_8
      have c25_9 : W25.cell? ⟨ty, 4, none⟩ = some (.slice C9 ps3.length c9) := (hb.cell (p := ⟨ty, 4, none⟩) (by show ty < _; omega)).trans d24_9
      have b25_0 : tx < W25.heap.size := by omega
      have b25_1 : ty < W25.heap.size := by omega
      have R25_0 := hid (FreshA.below (cf := cIn) (sz := 1) (T := 3) (B := V20.heap.size) R24_0.out hk)
      have R25_1 := hid (FreshA.below (cf := cPu) (sz := 3) (T := 71) (B := V20.heap.size) R24_1.out hk)
      have R25_2 := hid (FreshA.below (cf := cIn) (sz := 1) (T := 3) (B := V22.heap.size) R24_2.out hk)
      have R25_3 := hid (FreshA.below (cf := cPu) (sz := 3) (T := 71) (B := V22.heap.size) R24_3.out hk)
      have hw25 : Below w.heap.size w W25 := Below.trans hw (Below.mono hk (by have := hw.size; omega))
      clear hw hk
      have hw := hw25
      clear hw25
      have hwz := hw.size
      clear c24_0 c24_1 c24_2 c24_3 c24_4 d24_5 d24_6 d24_7 d24_8 d24_9 R24_0 R24_1 R24_2 R24_3
      clear hb
      have S25_4 : Hid (FreshA cIn 1 3 V24.heap.size W25 E8 e8 fs3) := hid (hF8)
      have loS25_4 := S25_4.out.lo
      have hiS25_4 := S25_4.out.hi
      have S25_5 : Hid (FreshA cPu 3 71 V24.heap.size W25 E9 e9 ps3) := hid (hF9)
      have loS25_5 := S25_5.out.lo
      have hiS25_5 := S25_5.out.hi
      clear hF8 hF9 HWO
      have hl3 : fs3.length ≤ 1000 ∧ ps3.length ≤ 1000 := by omega
      rcases hwc with rfl | ⟨rfl, hlen, htk⟩
      · go_wp2_with (fail)
        refine calls_named ?_
        intro V26 hV
        have hk : Below W25.heap.size W25 V26 := by rw [hV]; (repeat' (first | with_reducible exact Below.refl _ _ | with_reducible assumption | with_reducible refine Below.setCell ?_ ?_ _ | with_reducible refine Below.drew ?_ | with_reducible refine Below.alloc ?_ ?_ _ | with_reducible refine Below.trans ?_ (Below.mono (by assumption) ?_) | (dsimp only; omega) | (simp; done) | (simp; omega) | omega))
        have hkz26 := hk.size
        have c26_0 : V26.cell? ⟨tx, 0, none⟩ = some (.int .i64 l2) := (hk.cell (p := ⟨tx, 0, none⟩) (by show tx < _; omega)).trans c25_0
        have c26_1 : V26.cell? ⟨tx, 1, none⟩ = some (.int .i64 u2) := (hk.cell (p := ⟨tx, 1, none⟩) (by show tx < _; omega)).trans c25_1
        have c26_2 : V26.cell? ⟨tx, 2, none⟩ = some (.int .i64 v2) := (hk.cell (p := ⟨tx, 2, none⟩) (by show tx < _; omega)).trans c25_2
        have c26_3 : V26.cell? ⟨tx, 3, none⟩ = some (.slice Bf fs2.length df) := (hk.cell (p := ⟨tx, 3, none⟩) (by show tx < _; omega)).trans c25_3
        have c26_4 : V26.cell? ⟨tx, 4, none⟩ = some (.slice Bq ps2.length dq) := (hk.cell (p := ⟨tx, 4, none⟩) (by show tx < _; omega)).trans c25_4
        have c26_5 : V26.cell? ⟨ty, 0, none⟩ = some (.int .i64 l3) := (hk.cell (p := ⟨ty, 0, none⟩) (by show ty < _; omega)).trans c25_5
        have c26_6 : V26.cell? ⟨ty, 1, none⟩ = some (.int .i64 u3) := (hk.cell (p := ⟨ty, 1, none⟩) (by show ty < _; omega)).trans c25_6
        have c26_7 : V26.cell? ⟨ty, 2, none⟩ = some (.int .i64 v3) := (hk.cell (p := ⟨ty, 2, none⟩) (by show ty < _; omega)).trans c25_7
        have c26_8 : V26.cell? ⟨ty, 3, none⟩ = some (.slice C8 fs3.length c8) := (hk.cell (p := ⟨ty, 3, none⟩) (by show ty < _; omega)).trans c25_8
        have c26_9 : V26.cell? ⟨ty, 4, none⟩ = some (.slice C9 ps3.length c9) := (hk.cell (p := ⟨ty, 4, none⟩) (by show ty < _; omega)).trans c25_9
        have b26_0 : tx < V26.heap.size := by omega
        have b26_1 : ty < V26.heap.size := by omega
        have R26_0 := hid (FreshA.below (cf := cIn) (sz := 1) (T := 3) (B := V20.heap.size) R25_0.out hk)
        have R26_1 := hid (FreshA.below (cf := cPu) (sz := 3) (T := 71) (B := V20.heap.size) R25_1.out hk)
        have R26_2 := hid (FreshA.below (cf := cIn) (sz := 1) (T := 3) (B := V22.heap.size) R25_2.out hk)
        have R26_3 := hid (FreshA.below (cf := cPu) (sz := 3) (T := 71) (B := V22.heap.size) R25_3.out hk)
        have R26_4 := hid (FreshA.below (cf := cIn) (sz := 1) (T := 3) (B := V24.heap.size) S25_4.out hk)
        have R26_5 := hid (FreshA.below (cf := cPu) (sz := 3) (T := 71) (B := V24.heap.size) S25_5.out hk)
        have hw26 : Below w.heap.size w V26 := Below.trans hw (Below.mono hk (by have := hw.size; omega))
        clear hw hk
        have hw := hw26
        clear hw26
        have hwz := hw.size
        clear c25_0 c25_1 c25_2 c25_3 c25_4 c25_5 c25_6 c25_7 c25_8 c25_9 R25_0 R25_1 R25_2 R25_3 S25_4 S25_5
        clear hV
        refine (c_laws_rPumpTasks l3 u3 v3 C8 fs3 c8 C9 ps3 c9 E8 e8 E9 e9 _ R26_2.out.rds R26_4.out.rds R26_3.out.rds R26_5.out.rds (by omega) (by omega)).mono ?_
        rintro e W27 ⟨rfl, hb⟩
        have hk : Below V26.heap.size V26 W27 := hb
        have hkz27 := hk.size
        have c27_0 : W27.cell? ⟨tx, 0, none⟩ = some (.int .i64 l2) := (hb.cell (p := ⟨tx, 0, none⟩) (by show tx < _; omega)).trans c26_0
        have c27_1 : W27.cell? ⟨tx, 1, none⟩ = some (.int .i64 u2) := (hb.cell (p := ⟨tx, 1, none⟩) (by show tx < _; omega)).trans c26_1
        have c27_2 : W27.cell? ⟨tx, 2, none⟩ = some (.int .i64 v2) := (hb.cell (p := ⟨tx, 2, none⟩) (by show tx < _; omega)).trans c26_2
        have c27_3 : W27.cell? ⟨tx, 3, none⟩ = some (.slice Bf fs2.length df) := (hb.cell (p := ⟨tx, 3, none⟩) (by show tx < _; omega)).trans c26_3
        have c27_4 : W27.cell? ⟨tx, 4, none⟩ = some (.slice Bq ps2.length dq) := (hb.cell (p := ⟨tx, 4, none⟩) (by show tx < _; omega)).trans c26_4
        have c27_5 : W27.cell? ⟨ty, 0, none⟩ = some (.int .i64 l3) := (hb.cell (p := ⟨ty, 0, none⟩) (by show ty < _; omega)).trans c26_5
        have c27_6 : W27.cell? ⟨ty, 1, none⟩ = some (.int .i64 u3) := (hb.cell (p := ⟨ty, 1, none⟩) (by show ty < _; omega)).trans c26_6
        have c27_7 : W27.cell? ⟨ty, 2, none⟩ = some (.int .i64 v3) := (hb.cell (p := ⟨ty, 2, none⟩) (by show ty < _; omega)).trans c26_7
        have c27_8 : W27.cell? ⟨ty, 3, none⟩ = some (.slice C8 fs3.length c8) := (hb.cell (p := ⟨ty, 3, none⟩) (by show ty < _; omega)).trans c26_8
        have c27_9 : W27.cell? ⟨ty, 4, none⟩ = some (.slice C9 ps3.length c9) := (hb.cell (p := ⟨ty, 4, none⟩) (by show ty < _; omega)).trans c26_9
        have b27_0 : tx < W27.heap.size := by omega
        have b27_1 : ty < W27.heap.size := by omega
        have R27_0 := hid (FreshA.below (cf := cIn) (sz := 1) (T := 3) (B := V20.heap.size) R26_0.out hk)
        have R27_1 := hid (FreshA.below (cf := cPu) (sz := 3) (T := 71) (B := V20.heap.size) R26_1.out hk)
        have R27_2 := hid (FreshA.below (cf := cIn) (sz := 1) (T := 3) (B := V22.heap.size) R26_2.out hk)
        have R27_3 := hid (FreshA.below (cf := cPu) (sz := 3) (T := 71) (B := V22.heap.size) R26_3.out hk)
        have R27_4 := hid (FreshA.below (cf := cIn) (sz := 1) (T := 3) (B := V24.heap.size) R26_4.out hk)
        have R27_5 := hid (FreshA.below (cf := cPu) (sz := 3) (T := 71) (B := V24.heap.size) R26_5.out hk)
        have hw27 : Below w.heap.size w W27 := Below.trans hw (Below.mono hk (by have := hw.size; omega))
        clear hw hk
        have hw := hw27
        clear hw27
        have hwz := hw.size
        clear c26_0 c26_1 c26_2 c26_3 c26_4 c26_5 c26_6 c26_7 c26_8 c26_9 R26_0 R26_1 R26_2 R26_3 R26_4 R26_5
        clear hb
        go_wp2_with (fail)
        go_ret
        exact ⟨by first | rfl | exact ret_bool (by simp), by first | exact hw | (repeat' (first | with_reducible exact Below.refl _ _ | with_reducible assumption | with_reducible refine Below.setCell ?_ ?_ _ | with_reducible refine Below.drew ?_ | with_reducible refine Below.alloc ?_ ?_ _ | with_reducible refine Below.trans ?_ (Below.mono (by assumption) ?_) | (dsimp only; omega) | (simp; done) | (simp; omega) | omega))⟩
      have HTK := hid htk; clear htk
      go_wp2_with (fail)
      refine calls_named ?_
      intro V26 hV
      have hk : Below W25.heap.size W25 V26 := by rw [hV]; (repeat' (first | with_reducible exact Below.refl _ _ | with_reducible assumption | with_reducible refine Below.setCell ?_ ?_ _ | with_reducible refine Below.drew ?_ | with_reducible refine Below.alloc ?_ ?_ _ | with_reducible refine Below.trans ?_ (Below.mono (by assumption) ?_) | (dsimp only; omega) | (simp; done) | (simp; omega) | omega))
      have hkz26 := hk.size
      have c26_0 : V26.cell? ⟨tx, 0, none⟩ = some (.int .i64 l2) := (hk.cell (p := ⟨tx, 0, none⟩) (by show tx < _; omega)).trans c25_0
      have c26_1 : V26.cell? ⟨tx, 1, none⟩ = some (.int .i64 u2) := (hk.cell (p := ⟨tx, 1, none⟩) (by show tx < _; omega)).trans c25_1
      have c26_2 : V26.cell? ⟨tx, 2, none⟩ = some (.int .i64 v2) := (hk.cell (p := ⟨tx, 2, none⟩) (by show tx < _; omega)).trans c25_2
      have c26_3 : V26.cell? ⟨tx, 3, none⟩ = some (.slice Bf fs2.length df) := (hk.cell (p := ⟨tx, 3, none⟩) (by show tx < _; omega)).trans c25_3
      have c26_4 : V26.cell? ⟨tx, 4, none⟩ = some (.slice Bq ps2.length dq) := (hk.cell (p := ⟨tx, 4, none⟩) (by show tx < _; omega)).trans c25_4
      have c26_5 : V26.cell? ⟨ty, 0, none⟩ = some (.int .i64 l3) := (hk.cell (p := ⟨ty, 0, none⟩) (by show ty < _; omega)).trans c25_5
      have c26_6 : V26.cell? ⟨ty, 1, none⟩ = some (.int .i64 u3) := (hk.cell (p := ⟨ty, 1, none⟩) (by show ty < _; omega)).trans c25_6
      have c26_7 : V26.cell? ⟨ty, 2, none⟩ = some (.int .i64 v3) := (hk.cell (p := ⟨ty, 2, none⟩) (by show ty < _; omega)).trans c25_7
      have c26_8 : V26.cell? ⟨ty, 3, none⟩ = some (.slice C8 fs3.length c8) := (hk.cell (p := ⟨ty, 3, none⟩) (by show ty < _; omega)).trans c25_8
      have c26_9 : V26.cell? ⟨ty, 4, none⟩ = some (.slice C9 ps3.length c9) := (hk.cell (p := ⟨ty, 4, none⟩) (by show ty < _; omega)).trans c25_9
      have b26_0 : tx < V26.heap.size := by omega
      have b26_1 : ty < V26.heap.size := by omega
      have R26_0 := hid (FreshA.below (cf := cIn) (sz := 1) (T := 3) (B := V20.heap.size) R25_0.out hk)
      have R26_1 := hid (FreshA.below (cf := cPu) (sz := 3) (T := 71) (B := V20.heap.size) R25_1.out hk)
      have R26_2 := hid (FreshA.below (cf := cIn) (sz := 1) (T := 3) (B := V22.heap.size) R25_2.out hk)
      have R26_3 := hid (FreshA.below (cf := cPu) (sz := 3) (T := 71) (B := V22.heap.size) R25_3.out hk)
      have R26_4 := hid (FreshA.below (cf := cIn) (sz := 1) (T := 3) (B := V24.heap.size) S25_4.out hk)
      have R26_5 := hid (FreshA.below (cf := cPu) (sz := 3) (T := 71) (B := V24.heap.size) S25_5.out hk)
      have hw26 : Below w.heap.size w V26 := Below.trans hw (Below.mono hk (by have := hw.size; omega))
      clear hw hk
      have hw := hw26
      clear hw26
      have hwz := hw.size
      clear c25_0 c25_1 c25_2 c25_3 c25_4 c25_5 c25_6 c25_7 c25_8 c25_9 R25_0 R25_1 R25_2 R25_3 S25_4 S25_5
      clear hV
      refine (c_laws_rPumpTasks l3 u3 v3 C8 fs3 c8 C9 ps3 c9 E8 e8 E9 e9 _ R26_2.out.rds R26_4.out.rds R26_3.out.rds R26_5.out.rds (by omega) (by omega)).mono ?_
      rintro e W27 ⟨rfl, hb⟩
      have hk : Below V26.heap.size V26 W27 := hb
      have hkz27 := hk.size
      have c27_0 : W27.cell? ⟨tx, 0, none⟩ = some (.int .i64 l2) := (hb.cell (p := ⟨tx, 0, none⟩) (by show tx < _; omega)).trans c26_0
      have c27_1 : W27.cell? ⟨tx, 1, none⟩ = some (.int .i64 u2) := (hb.cell (p := ⟨tx, 1, none⟩) (by show tx < _; omega)).trans c26_1
      have c27_2 : W27.cell? ⟨tx, 2, none⟩ = some (.int .i64 v2) := (hb.cell (p := ⟨tx, 2, none⟩) (by show tx < _; omega)).trans c26_2
      have c27_3 : W27.cell? ⟨tx, 3, none⟩ = some (.slice Bf fs2.length df) := (hb.cell (p := ⟨tx, 3, none⟩) (by show tx < _; omega)).trans c26_3
      have c27_4 : W27.cell? ⟨tx, 4, none⟩ = some (.slice Bq ps2.length dq) := (hb.cell (p := ⟨tx, 4, none⟩) (by show tx < _; omega)).trans c26_4
      have c27_5 : W27.cell? ⟨ty, 0, none⟩ = some (.int .i64 l3) := (hb.cell (p := ⟨ty, 0, none⟩) (by show ty < _; omega)).trans c26_5
      have c27_6 : W27.cell? ⟨ty, 1, none⟩ = some (.int .i64 u3) := (hb.cell (p := ⟨ty, 1, none⟩) (by show ty < _; omega)).trans c26_6
      have c27_7 : W27.cell? ⟨ty, 2, none⟩ = some (.int .i64 v3) := (hb.cell (p := ⟨ty, 2, none⟩) (by show ty < _; omega)).trans c26_7
      have c27_8 : W27.cell? ⟨ty, 3, none⟩ = some (.slice C8 fs3.length c8) := (hb.cell (p := ⟨ty, 3, none⟩) (by show ty < _; omega)).trans c26_8
      have c27_9 : W27.cell? ⟨ty, 4, none⟩ = some (.slice C9 ps3.length c9) := (hb.cell (p := ⟨ty, 4, none⟩) (by show ty < _; omega)).trans c26_9
      have b27_0 : tx < W27.heap.size := by omega
      have b27_1 : ty < W27.heap.size := by omega
      have R27_0 := hid (FreshA.below (cf := cIn) (sz := 1) (T := 3) (B := V20.heap.size) R26_0.out hk)
      have R27_1 := hid (FreshA.below (cf := cPu) (sz := 3) (T := 71) (B := V20.heap.size) R26_1.out hk)
      have R27_2 := hid (FreshA.below (cf := cIn) (sz := 1) (T := 3) (B := V22.heap.size) R26_2.out hk)
      have R27_3 := hid (FreshA.below (cf := cPu) (sz := 3) (T := 71) (B := V22.heap.size) R26_3.out hk)
      have R27_4 := hid (FreshA.below (cf := cIn) (sz := 1) (T := 3) (B := V24.heap.size) R26_4.out hk)
      have R27_5 := hid (FreshA.below (cf := cPu) (sz := 3) (T := 71) (B := V24.heap.size) R26_5.out hk)
      have hw27 : Below w.heap.size w W27 := Below.trans hw (Below.mono hk (by have := hw.size; omega))
      clear hw hk
      have hw := hw27
      clear hw27
      have hwz := hw.size
      clear c26_0 c26_1 c26_2 c26_3 c26_4 c26_5 c26_6 c26_7 c26_8 c26_9 R26_0 R26_1 R26_2 R26_3 R26_4 R26_5
      clear hb
      go_wp2_with (fail)
      refine calls_named ?_
      intro V28 hV
      have hk : Below W27.heap.size W27 V28 := by rw [hV]; (repeat' (first | with_reducible exact Below.refl _ _ | with_reducible assumption | with_reducible refine Below.setCell ?_ ?_ _ | with_reducible refine Below.drew ?_ | with_reducible refine Below.alloc ?_ ?_ _ | with_reducible refine Below.trans ?_ (Below.mono (by assumption) ?_) | (dsimp only; omega) | (simp; done) | (simp; omega) | omega))
      have hkz28 := hk.size
      have c28_0 : V28.cell? ⟨tx, 0, none⟩ = some (.int .i64 l2) := (hk.cell (p := ⟨tx, 0, none⟩) (by show tx < _; omega)).trans c27_0
      have c28_1 : V28.cell? ⟨tx, 1, none⟩ = some (.int .i64 u2) := (hk.cell (p := ⟨tx, 1, none⟩) (by show tx < _; omega)).trans c27_1
      have c28_2 : V28.cell? ⟨tx, 2, none⟩ = some (.int .i64 v2) := (hk.cell (p := ⟨tx, 2, none⟩) (by show tx < _; omega)).trans c27_2
      have c28_3 : V28.cell? ⟨tx, 3, none⟩ = some (.slice Bf fs2.length df) := (hk.cell (p := ⟨tx, 3, none⟩) (by show tx < _; omega)).trans c27_3
      have c28_4 : V28.cell? ⟨tx, 4, none⟩ = some (.slice Bq ps2.length dq) := (hk.cell (p := ⟨tx, 4, none⟩) (by show tx < _; omega)).trans c27_4
      have c28_5 : V28.cell? ⟨ty, 0, none⟩ = some (.int .i64 l3) := (hk.cell (p := ⟨ty, 0, none⟩) (by show ty < _; omega)).trans c27_5
      have c28_6 : V28.cell? ⟨ty, 1, none⟩ = some (.int .i64 u3) := (hk.cell (p := ⟨ty, 1, none⟩) (by show ty < _; omega)).trans c27_6
      have c28_7 : V28.cell? ⟨ty, 2, none⟩ = some (.int .i64 v3) := (hk.cell (p := ⟨ty, 2, none⟩) (by show ty < _; omega)).trans c27_7
      have c28_8 : V28.cell? ⟨ty, 3, none⟩ = some (.slice C8 fs3.length c8) := (hk.cell (p := ⟨ty, 3, none⟩) (by show ty < _; omega)).trans c27_8
      have c28_9 : V28.cell? ⟨ty, 4, none⟩ = some (.slice C9 ps3.length c9) := (hk.cell (p := ⟨ty, 4, none⟩) (by show ty < _; omega)).trans c27_9
      have b28_0 : tx < V28.heap.size := by omega
      have b28_1 : ty < V28.heap.size := by omega
      have R28_0 := hid (FreshA.below (cf := cIn) (sz := 1) (T := 3) (B := V20.heap.size) R27_0.out hk)
      have R28_1 := hid (FreshA.below (cf := cPu) (sz := 3) (T := 71) (B := V20.heap.size) R27_1.out hk)
      have R28_2 := hid (FreshA.below (cf := cIn) (sz := 1) (T := 3) (B := V22.heap.size) R27_2.out hk)
      have R28_3 := hid (FreshA.below (cf := cPu) (sz := 3) (T := 71) (B := V22.heap.size) R27_3.out hk)
      have R28_4 := hid (FreshA.below (cf := cIn) (sz := 1) (T := 3) (B := V24.heap.size) R27_4.out hk)
      have R28_5 := hid (FreshA.below (cf := cPu) (sz := 3) (T := 71) (B := V24.heap.size) R27_5.out hk)
      have hw28 : Below w.heap.size w V28 := Below.trans hw (Below.mono hk (by have := hw.size; omega))
      clear hw hk
      have hw := hw28
      clear hw28
      have hwz := hw.size
      clear c27_0 c27_1 c27_2 c27_3 c27_4 c27_5 c27_6 c27_7 c27_8 c27_9 R27_0 R27_1 R27_2 R27_3 R27_4 R27_5
      clear hV
      refine (c_impl_IsPumpTask l3 u3 v3 C8 fs3 c8 C9 ps3 c9 _ R28_2.out.rds (by omega) R28_3.out.rds (by omega)).mono ?_
      simp only [HTK.out]
      rintro e W29 ⟨rfl, hb⟩
      have hk : Below V28.heap.size V28 W29 := hb
      have hkz29 := hk.size
      have c29_0 : W29.cell? ⟨tx, 0, none⟩ = some (.int .i64 l2) := (hb.cell (p := ⟨tx, 0, none⟩) (by show tx < _; omega)).trans c28_0
      have c29_1 : W29.cell? ⟨tx, 1, none⟩ = some (.int .i64 u2) := (hb.cell (p := ⟨tx, 1, none⟩) (by show tx < _; omega)).trans c28_1
      have c29_2 : W29.cell? ⟨tx, 2, none⟩ = some (.int .i64 v2) := (hb.cell (p := ⟨tx, 2, none⟩) (by show tx < _; omega)).trans c28_2
      have c29_3 : W29.cell? ⟨tx, 3, none⟩ = some (.slice Bf fs2.length df) := (hb.cell (p := ⟨tx, 3, none⟩) (by show tx < _; omega)).trans c28_3
      have c29_4 : W29.cell? ⟨tx, 4, none⟩ = some (.slice Bq ps2.length dq) := (hb.cell (p := ⟨tx, 4, none⟩) (by show tx < _; omega)).trans c28_4
      have c29_5 : W29.cell? ⟨ty, 0, none⟩ = some (.int .i64 l3) := (hb.cell (p := ⟨ty, 0, none⟩) (by show ty < _; omega)).trans c28_5
      have c29_6 : W29.cell? ⟨ty, 1, none⟩ = some (.int .i64 u3) := (hb.cell (p := ⟨ty, 1, none⟩) (by show ty < _; omega)).trans c28_6
      have c29_7 : W29.cell? ⟨ty, 2, none⟩ = some (.int .i64 v3) := (hb.cell (p := ⟨ty, 2, none⟩) (by show ty < _; omega)).trans c28_7
      have c29_8 : W29.cell? ⟨ty, 3, none⟩ = some (.slice C8 fs3.length c8) := (hb.cell (p := ⟨ty, 3, none⟩) (by show ty < _; omega)).trans c28_8
      have c29_9 : W29.cell? ⟨ty, 4, none⟩ = some (.slice C9 ps3.length c9) := (hb.cell (p := ⟨ty, 4, none⟩) (by show ty < _; omega)).trans c28_9
      have b29_0 : tx < W29.heap.size := by omega
      have b29_1 : ty < W29.heap.size := by omega
      have R29_0 := hid (FreshA.below (cf := cIn) (sz := 1) (T := 3) (B := V20.heap.size) R28_0.out hk)
      have R29_1 := hid (FreshA.below (cf := cPu) (sz := 3) (T := 71) (B := V20.heap.size) R28_1.out hk)
      have R29_2 := hid (FreshA.below (cf := cIn) (sz := 1) (T := 3) (B := V22.heap.size) R28_2.out hk)
      have R29_3 := hid (FreshA.below (cf := cPu) (sz := 3) (T := 71) (B := V22.heap.size) R28_3.out hk)
      have R29_4 := hid (FreshA.below (cf := cIn) (sz := 1) (T := 3) (B := V24.heap.size) R28_4.out hk)
      have R29_5 := hid (FreshA.below (cf := cPu) (sz := 3) (T := 71) (B := V24.heap.size) R28_5.out hk)
      have hw29 : Below w.heap.size w W29 := Below.trans hw (Below.mono hk (by have := hw.size; omega))
      clear hw hk
      have hw := hw29
      clear hw29
      have hwz := hw.size
      clear c28_0 c28_1 c28_2 c28_3 c28_4 c28_5 c28_6 c28_7 c28_8 c28_9 R28_0 R28_1 R28_2 R28_3 R28_4 R28_5
      clear hb
      go_wp2_with (fail)
      go_ret
      exact ⟨by first | rfl | exact ret_bool (by simp), by first | exact hw | (repeat' (first | with_reducible exact Below.refl _ _ | with_reducible assumption | with_reducible refine Below.setCell ?_ ?_ _ | with_reducible refine Below.drew ?_ | with_reducible refine Below.alloc ?_ ?_ _ | with_reducible refine Below.trans ?_ (Below.mono (by assumption) ?_) | (dsimp only; omega) | (simp; done) | (simp; omega) | omega))⟩

end Go.Proofs.Ytpaclngjmdacjaa
