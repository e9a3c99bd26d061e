import Derived.Test.YteciijnpfapmhaaQB07
import Derived.Test.YteciijnpfapmhaaQB08
import Derived.Test.YteciijnpfapmhaaQB03
namespace Go.Proofs.Yteciijnpfapmhaa
set_option linter.unusedSimpArgs false
set_option linter.unusedVariables false
open Go.RowKit

theorem FreshA.apl {α β : Type} {cf : α → List Value} {cg : β → List Value} {sz sz' : Nat} {T T' : TypeId} {B B' : Nat} {w0 w : World} {A A' : Option Addr} {cap cap' : Nat} {xs : List α} {ys : List β} (h : FreshA cf sz T B w0 A cap xs) (h' : FreshA cg sz' T' B' w A' cap' ys) (hB : w0.heap.size ≤ B') : ∀ a, A = some a → some a.block ≠ blkO A' := by
 intro a ha e
 rcases h with ⟨rfl, _, _⟩ | ⟨g, rfl, _, h⟩
 ·cases ha
 cases ha
 rcases h' with ⟨rfl, _, _⟩ | ⟨k, rfl, hk, _⟩
 ·cases e
 simp only [blkO, Option.map_some, Option.some.injEq] at e
 have := h.lt
 omega
theorem few_bd {d : Int} {xs : List (Int × Int)} {rs q : List Int} {p : Int} (h : fewV d xs rs p = (q, true)) : ∀ k (hk : k < q.length), 0 ≤ q[k] ∧ q[k] ≤ 9999 := by
 have h1 := (few_law (d := d) (xs := xs) (rs := rs) (p := p) (by rw [h])).1
 rw [h] at h1
 exact opsB_P (brB_dur (reqB_br (planB_req h1))).1 (planB_ops h1)
theorem OwnS.put11 {w : World} {g cap k : Nat} {T : TypeId} {xs : List Int} {y : Int} (h : OwnS cIn 1 T w g cap xs) (hk : k < xs.length) : OwnS cIn 1 T (w.setCell ⟨g, k, none⟩ (.int .i64 y)) g cap (xs.set k y) := by
 have h1 := OwnS.put1 (y := y) (k := k) (j := 0) cIn_len h (by omega) (by omega) rfl
 simpa using h1
def FDpa (b gp k0 n0 c3 : Nat) (y0 : Int) (iq : Nat) (v : Value) (w1 : World) : Prop := match iq with
 | 0 => v = .slice (some ⟨gp, 0, none⟩) n0 c3
 | 1 => v = .int .i64 (k0 : Int)
 | 2 => v = .slice (some ⟨gp, 0, none⟩) n0 c3
 | 3 => v = .int .i64 (k0 : Int)
 | 4 => v = .pointer (some ⟨gp, k0, none⟩)
 | 5 => v = .int .i64 y0
 | 6 => v = .pointer (some ⟨b, 0, none⟩)
 | 7 => XO 0 4 v w1
 | 8 => XO 0 10003 v w1
 | 9 => XO (-2) 10001 v w1
 | _ => True
def FDpb (b gp k0 n0 c3 : Nat) (y0 : Int) (iq : Nat) (v : Value) (w1 : World) : Prop := match iq with
 | 0 => v = .slice (some ⟨gp, 0, none⟩) n0 c3
 | 1 => v = .int .i64 (k0 : Int)
 | 2 => v = .slice (some ⟨gp, 0, none⟩) n0 c3
 | 3 => v = .int .i64 (k0 : Int)
 | 4 => v = .pointer (some ⟨gp, k0, none⟩)
 | 5 => v = .int .i64 y0
 | 6 => v = .pointer (some ⟨b, 0, none⟩)
 | 7 => XO 0 4 v w1
 | 8 => XO 0 10003 v w1
 | 9 => XO (-2) 10001 v w1
 | _ => True
set_option maxRecDepth 100000 in
set_option maxHeartbeats 8000000 in
theorem c_spec_DrawIsBridgePlan (A : Option Addr) (cs : List Int) (cap : Nat) (w : World) (hr : Rds cB 1 w A cs) (hby : Bytes cs) (hl : cs.length ≤ 1000000000) :
  Calls Try.prog 43 #[.slice A cs.length cap] w fun e w' => ∃ (d : Int) (Af : Option Addr) (cf : Nat) (xs : List (Int × Int)) (Bq : Option Addr) (cq : Nat) (rs : List Int) (pp : Int) (Ap : Option Addr) (cp : Nat) (pl : List Int), e = .returned (.tuple #[.agg #[.int .i64 d, .slice Af xs.length cf], .slice Bq rs.length cq, .int .i64 pp, .slice Ap pl.length cp]) ∧ FreshA cIv 2 50 w.heap.size w' Af cf xs ∧ xs.length ≤ 8 ∧ FreshA cIn 1 3 w.heap.size w' Bq cq rs ∧ rs.length ≤ 10 ∧ FreshA cIn 1 3 w.heap.size w' Ap cp pl ∧ pl.length ≤ 9 ∧ Below w.heap.size w w' := by
 go_enter Try.func43, Try.ntmps43
 obtain ⟨i0, hI0, hI1, hI2, hI3⟩ := info_parts info_In
 go_wp2_with (fail)
 refine calls_named ?_
 intro V1 hV
 have hcu : CurS V1 (w.heap.size + 1) A cs cap 0 := by rw [hV]; exact CurS.new hr (by (repeat' (first | exact Below.refl _ _ | assumption | refine Below.setCell ?_ ?_ _ | refine Below.drew ?_ | refine Below.alloc ?_ ?_ _ | refine Below.trans ?_ (Below.mono (by assumption) ?_) | (simp; done) | (simp; omega) | omega))) (by simp)
 have gw0 : w.grownBy V1 (some (w.heap.size + 1)) := by rw [hV]; (repeat' (first | with_reducible exact World.grownBy.refl _ _ | with_reducible assumption | with_reducible refine grownA ?_ | with_reducible refine grownS ?_ ?_ | with_reducible refine grown_drew ?_ | (dsimp only; omega) | (simp; done) | omega))
 have d409 : V1.cell? ⟨w.heap.size, 0, none⟩ = some (.int .i64 0) := by rw [hV]; first | (simp [go_sem, ↓IntWalk.iteOmega, *]; done) | (simp [go_sem, ↓IntWalk.iteOmega, *]; intros; omega)
 have d410 : V1.cell? ⟨w.heap.size, 1, none⟩ = some (.slice none 0 0) := by rw [hV]; first | (simp [go_sem, ↓IntWalk.iteOmega, *]; done) | (simp [go_sem, ↓IntWalk.iteOmega, *]; intros; omega)
 have e411 : ∀ o, V1.frozen? ⟨w.heap.size, o, none⟩ = false := by rw [hV]; intro o; first | (simp [go_sem, ↓IntWalk.iteOmega, *]; done) | (simp [go_sem, ↓IntWalk.iteOmega, *]; intros; omega)
 clear hV
 have hltb := hcu.lt
 generalize hbd : w.heap.size + 1 = b at *
 refine (c_bridge b A cs cap (0) _ hcu hby (by omega) hl).mono ?_
 rintro e W412 ⟨d, Af, cf, xs, rfl, hFf, hdd, hxl, hcn, hg⟩
 have hkW412 := hg.size
 have c413 : W412.cell? ⟨w.heap.size, 0, none⟩ = some (.int .i64 0) := (cellRow hg (w.heap.size) 0).trans (by rw [if_pos ⟨by omega, by omega⟩]; exact d409)
 have c414 : W412.cell? ⟨w.heap.size, 1, none⟩ = some (.slice none 0 0) := (cellRow hg (w.heap.size) 1).trans (by rw [if_pos ⟨by omega, by omega⟩]; exact d410)
 have z415 : ∀ o, W412.frozen? ⟨w.heap.size, o, none⟩ = false := fun o => (frozRow hg (w.heap.size) o).trans (by rw [if_pos ⟨by omega, by omega⟩]; exact e411 o)
 have cu416 : CurS W412 b A cs cap (0 + 80) := hcn
 have gw417 : w.grownBy W412 (some b) := grown_trans gw0 hg
 have hzgw417 := gw417.size
 have hlcu416 := cu416.lt
 clear d409 d410 e411 gw0
 clear hg
 have S418 : Hid (FreshA cIv 2 50 (V1.heap.size) W412 Af cf xs) := hid (hFf)
 clear hFf
 have hPb : w.heap.size + 1 ≤ V1.heap.size := by omega
 go_wp2_with (fail)
 refine calls_named ?_
 intro V419 hV
 have hkV419 : W412.heap.size ≤ V419.heap.size := by rw [hV]; first | with_reducible exact Nat.le_refl _ | (simp [World.setCell]; done) | (simp; omega)
 have c420 : V419.cell? ⟨w.heap.size, 0, none⟩ = some (.int .i64 0) := by rw [hV]; first | ((repeat' (first | with_reducible exact c413 | with_reducible refine cellK_drew ?_ | with_reducible refine cellK_alloc ?_ | with_reducible refine cellK_set ?_ (by dsimp only; omega))); done) | (first | (simp [go_sem, ↓IntWalk.iteOmega, *]; done) | (simp [go_sem, ↓IntWalk.iteOmega, *]; intros; omega))
 have c421 : V419.cell? ⟨w.heap.size, 1, none⟩ = some (.slice none 0 0) := by rw [hV]; first | ((repeat' (first | with_reducible exact c414 | with_reducible refine cellK_drew ?_ | with_reducible refine cellK_alloc ?_ | with_reducible refine cellK_set ?_ (by dsimp only; omega))); done) | (first | (simp [go_sem, ↓IntWalk.iteOmega, *]; done) | (simp [go_sem, ↓IntWalk.iteOmega, *]; intros; omega))
 have z422 : ∀ o, V419.frozen? ⟨w.heap.size, o, none⟩ = false := by rw [hV]; first | ((repeat' (first | with_reducible exact z415 | with_reducible refine frozK_drew ?_ | with_reducible refine frozK_alloc ?_ | with_reducible refine frozK_set ?_)); done) | (intro o; first | (simp [go_sem, ↓IntWalk.iteOmega, *]; done) | (simp [go_sem, ↓IntWalk.iteOmega, *]; intros; omega))
 have R423 : Hid (FreshA cIv 2 50 (V1.heap.size) V419 Af cf xs) := hid (by rw [hV]; (repeat' (first | with_reducible exact S418.out | with_reducible refine FreshA.set_at ?_ (by assumption) _ | with_reducible refine FreshA.set_low ?_ ?_ _ | with_reducible refine FreshA.below ?_ (Below.drew (Below.refl _ _)) | with_reducible refine FreshA.below ?_ (Below.alloc (Below.refl _ _) (Nat.le_refl _) _) | (dsimp only; omega) | (simp; done) | (simp; omega))))
 have cu424 : CurS V419 b A cs cap (0 + 80) := by rw [hV]; (repeat' (first | with_reducible refine CurS.setc ?_ ?_ | with_reducible refine CurS.allo ?_ | with_reducible refine CurS.drw ?_ | with_reducible exact cu416 | (dsimp only; omega) | (simp; done) | (simp; omega)))
 have gw425 : w.grownBy V419 (some b) := by rw [hV]; (repeat' (first | with_reducible exact World.grownBy.refl _ _ | with_reducible exact gw417 | with_reducible refine grownA ?_ | with_reducible refine grownS ?_ ?_ | with_reducible refine grown_drew ?_ | (dsimp only; omega) | (simp; done) | omega))
 have hzgw425 := gw425.size
 have hlcu424 := cu424.lt
 clear c413 c414 z415 S418 cu416 gw417
 clear hV
 refine (c_requestsFor b A cs cap (0 + 80) _ cu424 hby (by omega) hl).mono ?_
 rintro e W426 ⟨Bq, cq, rs, rfl, hFq, hrl, hcn, hg⟩
 have hkW426 := hg.size
 have c427 : W426.cell? ⟨w.heap.size, 0, none⟩ = some (.int .i64 0) := (cellRow hg (w.heap.size) 0).trans (by rw [if_pos ⟨by omega, by omega⟩]; exact c420)
 have c428 : W426.cell? ⟨w.heap.size, 1, none⟩ = some (.slice none 0 0) := (cellRow hg (w.heap.size) 1).trans (by rw [if_pos ⟨by omega, by omega⟩]; exact c421)
 have z429 : ∀ o, W426.frozen? ⟨w.heap.size, o, none⟩ = false := fun o => (frozRow hg (w.heap.size) o).trans (by rw [if_pos ⟨by omega, by omega⟩]; exact z422 o)
 have R430 : Hid (FreshA cIv 2 50 (V1.heap.size) W426 Af cf xs) := hid (FreshA.rowb R423.out hg (by omega))
 have cu431 : CurS W426 b A cs cap (0 + 80 + 40) := hcn
 have gw432 : w.grownBy W426 (some b) := grown_trans gw425 hg
 have hzgw432 := gw432.size
 have hlcu431 := cu431.lt
 clear c420 c421 z422 R423 cu424 gw425
 clear hg
 have S433 : Hid (FreshA cIn 1 3 (V419.heap.size) W426 Bq cq rs) := hid (hFq)
 clear hFq
 go_wp2_with (fail)
 refine calls_named ?_
 intro V434 hV
 have hkV434 : W426.heap.size ≤ V434.heap.size := by rw [hV]; first | with_reducible exact Nat.le_refl _ | (simp [World.setCell]; done) | (simp; omega)
 have c435 : V434.cell? ⟨w.heap.size, 0, none⟩ = some (.int .i64 0) := by rw [hV]; first | ((repeat' (first | with_reducible exact c427 | with_reducible refine cellK_drew ?_ | with_reducible refine cellK_alloc ?_ | with_reducible refine cellK_set ?_ (by dsimp only; omega))); done) | (first | (simp [go_sem, ↓IntWalk.iteOmega, *]; done) | (simp [go_sem, ↓IntWalk.iteOmega, *]; intros; omega))
 have c436 : V434.cell? ⟨w.heap.size, 1, none⟩ = some (.slice none 0 0) := by rw [hV]; first | ((repeat' (first | with_reducible exact c428 | with_reducible refine cellK_drew ?_ | with_reducible refine cellK_alloc ?_ | with_reducible refine cellK_set ?_ (by dsimp only; omega))); done) | (first | (simp [go_sem, ↓IntWalk.iteOmega, *]; done) | (simp [go_sem, ↓IntWalk.iteOmega, *]; intros; omega))
 have z437 : ∀ o, V434.frozen? ⟨w.heap.size, o, none⟩ = false := by rw [hV]; first | ((repeat' (first | with_reducible exact z429 | with_reducible refine frozK_drew ?_ | with_reducible refine frozK_alloc ?_ | with_reducible refine frozK_set ?_)); done) | (intro o; first | (simp [go_sem, ↓IntWalk.iteOmega, *]; done) | (simp [go_sem, ↓IntWalk.iteOmega, *]; intros; omega))
 have R438 : Hid (FreshA cIv 2 50 (V1.heap.size) V434 Af cf xs) := hid (by rw [hV]; (repeat' (first | with_reducible exact R430.out | with_reducible refine FreshA.set_at ?_ (by assumption) _ | with_reducible refine FreshA.set_low ?_ ?_ _ | with_reducible refine FreshA.below ?_ (Below.drew (Below.refl _ _)) | with_reducible refine FreshA.below ?_ (Below.alloc (Below.refl _ _) (Nat.le_refl _) _) | (dsimp only; omega) | (simp; done) | (simp; omega))))
 have R439 : Hid (FreshA cIn 1 3 (V419.heap.size) V434 Bq cq rs) := hid (by rw [hV]; (repeat' (first | with_reducible exact S433.out | with_reducible refine FreshA.set_at ?_ (by assumption) _ | with_reducible refine FreshA.set_low ?_ ?_ _ | with_reducible refine FreshA.below ?_ (Below.drew (Below.refl _ _)) | with_reducible refine FreshA.below ?_ (Below.alloc (Below.refl _ _) (Nat.le_refl _) _) | (dsimp only; omega) | (simp; done) | (simp; omega))))
 have cu440 : CurS V434 b A cs cap (0 + 80 + 40) := by rw [hV]; (repeat' (first | with_reducible refine CurS.setc ?_ ?_ | with_reducible refine CurS.allo ?_ | with_reducible refine CurS.drw ?_ | with_reducible exact cu431 | (dsimp only; omega) | (simp; done) | (simp; omega)))
 have gw441 : w.grownBy V434 (some b) := by rw [hV]; (repeat' (first | with_reducible exact World.grownBy.refl _ _ | with_reducible exact gw432 | with_reducible refine grownA ?_ | with_reducible refine grownS ?_ ?_ | with_reducible refine grown_drew ?_ | (dsimp only; omega) | (simp; done) | omega))
 have hzgw441 := gw441.size
 have hlcu440 := cu440.lt
 clear c427 c428 z429 R430 S433 cu431 gw432
 clear hV
 refine (c_patience b A cs cap (0 + 80 + 40) _ cu440 hby (by omega) hl).mono ?_
 rintro e W442 ⟨pp, rfl, hp1, hp2, hcn, hg⟩
 have hkW442 := hg.size
 have c443 : W442.cell? ⟨w.heap.size, 0, none⟩ = some (.int .i64 0) := (cellRow hg (w.heap.size) 0).trans (by rw [if_pos ⟨by omega, by omega⟩]; exact c435)
 have c444 : W442.cell? ⟨w.heap.size, 1, none⟩ = some (.slice none 0 0) := (cellRow hg (w.heap.size) 1).trans (by rw [if_pos ⟨by omega, by omega⟩]; exact c436)
 have z445 : ∀ o, W442.frozen? ⟨w.heap.size, o, none⟩ = false := fun o => (frozRow hg (w.heap.size) o).trans (by rw [if_pos ⟨by omega, by omega⟩]; exact z437 o)
 have R446 : Hid (FreshA cIv 2 50 (V1.heap.size) W442 Af cf xs) := hid (FreshA.rowb R438.out hg (by omega))
 have R447 : Hid (FreshA cIn 1 3 (V419.heap.size) W442 Bq cq rs) := hid (FreshA.rowb R439.out hg (by omega))
 have cu448 : CurS W442 b A cs cap (0 + 80 + 40 + 1) := hcn
 have gw449 : w.grownBy W442 (some b) := grown_trans gw441 hg
 have hzgw449 := gw449.size
 have hlcu448 := cu448.lt
 clear c435 c436 z437 R438 R439 cu440 gw441
 clear hg
 go_wp2_with (fail)
 refine calls_named ?_
 intro V450 hV
 have hkV450 : W442.heap.size ≤ V450.heap.size := by rw [hV]; first | with_reducible exact Nat.le_refl _ | (simp [World.setCell]; done) | (simp; omega)
 have c451 : V450.cell? ⟨w.heap.size, 0, none⟩ = some (.int .i64 0) := by rw [hV]; first | ((repeat' (first | with_reducible exact c443 | with_reducible refine cellK_drew ?_ | with_reducible refine cellK_alloc ?_ | with_reducible refine cellK_set ?_ (by dsimp only; omega))); done) | (first | (simp [go_sem, ↓IntWalk.iteOmega, *]; done) | (simp [go_sem, ↓IntWalk.iteOmega, *]; intros; omega))
 have c452 : V450.cell? ⟨w.heap.size, 1, none⟩ = some (.slice none 0 0) := by rw [hV]; first | ((repeat' (first | with_reducible exact c444 | with_reducible refine cellK_drew ?_ | with_reducible refine cellK_alloc ?_ | with_reducible refine cellK_set ?_ (by dsimp only; omega))); done) | (first | (simp [go_sem, ↓IntWalk.iteOmega, *]; done) | (simp [go_sem, ↓IntWalk.iteOmega, *]; intros; omega))
 have z453 : ∀ o, V450.frozen? ⟨w.heap.size, o, none⟩ = false := by rw [hV]; first | ((repeat' (first | with_reducible exact z445 | with_reducible refine frozK_drew ?_ | with_reducible refine frozK_alloc ?_ | with_reducible refine frozK_set ?_)); done) | (intro o; first | (simp [go_sem, ↓IntWalk.iteOmega, *]; done) | (simp [go_sem, ↓IntWalk.iteOmega, *]; intros; omega))
 have R454 : Hid (FreshA cIv 2 50 (V1.heap.size) V450 Af cf xs) := hid (by rw [hV]; (repeat' (first | with_reducible exact R446.out | with_reducible refine FreshA.set_at ?_ (by assumption) _ | with_reducible refine FreshA.set_low ?_ ?_ _ | with_reducible refine FreshA.below ?_ (Below.drew (Below.refl _ _)) | with_reducible refine FreshA.below ?_ (Below.alloc (Below.refl _ _) (Nat.le_refl _) _) | (dsimp only; omega) | (simp; done) | (simp; omega))))
 have R455 : Hid (FreshA cIn 1 3 (V419.heap.size) V450 Bq cq rs) := hid (by rw [hV]; (repeat' (first | with_reducible exact R447.out | with_reducible refine FreshA.set_at ?_ (by assumption) _ | with_reducible refine FreshA.set_low ?_ ?_ _ | with_reducible refine FreshA.below ?_ (Below.drew (Below.refl _ _)) | with_reducible refine FreshA.below ?_ (Below.alloc (Below.refl _ _) (Nat.le_refl _) _) | (dsimp only; omega) | (simp; done) | (simp; omega))))
 have cu456 : CurS V450 b A cs cap (0 + 80 + 40 + 1) := by rw [hV]; (repeat' (first | with_reducible refine CurS.setc ?_ ?_ | with_reducible refine CurS.allo ?_ | with_reducible refine CurS.drw ?_ | with_reducible exact cu448 | (dsimp only; omega) | (simp; done) | (simp; omega)))
 have gw457 : w.grownBy V450 (some b) := by rw [hV]; (repeat' (first | with_reducible exact World.grownBy.refl _ _ | with_reducible exact gw449 | with_reducible refine grownA ?_ | with_reducible refine grownS ?_ ?_ | with_reducible refine grown_drew ?_ | (dsimp only; omega) | (simp; done) | omega))
 have hzgw457 := gw457.size
 have hlcu456 := cu456.lt
 clear c443 c444 z445 R446 R447 cu448 gw449
 have d458 : V450.cell? ⟨W442.heap.size, 0, none⟩ = some (.int .i64 d) := by rw [hV]; first | (simp [go_sem, ↓IntWalk.iteOmega, *]; done) | (simp [go_sem, ↓IntWalk.iteOmega, *]; intros; omega)
 have d459 : V450.cell? ⟨W442.heap.size, 1, none⟩ = some (.slice Af xs.length cf) := by rw [hV]; first | (simp [go_sem, ↓IntWalk.iteOmega, *]; done) | (simp [go_sem, ↓IntWalk.iteOmega, *]; intros; omega)
 have hTB : W442.heap.size < V450.heap.size := by rw [hV]; first | (simp; done) | (simp; omega)
 clear hV
 generalize htb : W442.heap.size = tb at *
 have hql := fewV_len d xs rs pp
 obtain ⟨q, ok, hFV⟩ : ∃ q ok, fewV d xs rs pp = (q, ok) := ⟨_, _, rfl⟩
 have hFW := c_spec_FewestOpenings d Af xs cf Bq rs cq pp V450 (R454.out).rds (by omega) (R455.out).rds (by omega)
 simp only [hFV] at hFW hql
 have HFV := hid hFV; clear hFV
 refine (hFW).mono ?_
 rintro e W460 ⟨A10, c10, rfl, hF10, hb⟩
 have hkW460 := hb.size
 have c461 : W460.cell? ⟨w.heap.size, 0, none⟩ = some (.int .i64 0) := (hb.cell (p := ⟨w.heap.size, 0, none⟩) (by show w.heap.size < _; omega)).trans c451
 have c462 : W460.cell? ⟨w.heap.size, 1, none⟩ = some (.slice none 0 0) := (hb.cell (p := ⟨w.heap.size, 1, none⟩) (by show w.heap.size < _; omega)).trans c452
 have c463 : W460.cell? ⟨tb, 0, none⟩ = some (.int .i64 d) := (hb.cell (p := ⟨tb, 0, none⟩) (by show tb < _; omega)).trans d458
 have c464 : W460.cell? ⟨tb, 1, none⟩ = some (.slice Af xs.length cf) := (hb.cell (p := ⟨tb, 1, none⟩) (by show tb < _; omega)).trans d459
 have z465 : ∀ o, W460.frozen? ⟨w.heap.size, o, none⟩ = false := fun o => (hb.frozen (p := ⟨w.heap.size, o, none⟩) (by show w.heap.size < _; omega)).trans (z453 o)
 have R466 : Hid (FreshA cIv 2 50 (V1.heap.size) W460 Af cf xs) := hid (FreshA.below R454.out hb)
 have R467 : Hid (FreshA cIn 1 3 (V419.heap.size) W460 Bq cq rs) := hid (FreshA.below R455.out hb)
 have cu468 : CurS W460 b A cs cap (0 + 80 + 40 + 1) := CurS.below cu456 hb
 have gw469 : w.grownBy W460 (some b) := grown_trans gw457 (grown_of_below hb)
 have hzgw469 := gw469.size
 have hlcu468 := cu468.lt
 clear c451 c452 d458 d459 z453 R454 R455 cu456 gw457
 clear hb
 have S470 : Hid (FreshA cIn 1 3 (V450.heap.size) W460 A10 c10 q) := hid (hF10)
 clear hF10 hFW
 cases ok
 ·go_wp2_with (fail)
  refine calls_named ?_
  intro V471 hV
  have hkV471 : W460.heap.size ≤ V471.heap.size := by rw [hV]; first | with_reducible exact Nat.le_refl _ | (simp [World.setCell]; done) | (simp; omega)
  have c472 : V471.cell? ⟨w.heap.size, 0, none⟩ = some (.int .i64 0) := by rw [hV]; first | ((repeat' (first | with_reducible exact c461 | with_reducible refine cellK_drew ?_ | with_reducible refine cellK_alloc ?_ | with_reducible refine cellK_set ?_ (by dsimp only; omega))); done) | (first | (simp [go_sem, ↓IntWalk.iteOmega, *]; done) | (simp [go_sem, ↓IntWalk.iteOmega, *]; intros; omega))
  have c473 : V471.cell? ⟨w.heap.size, 1, none⟩ = some (.slice none 0 0) := by rw [hV]; first | ((repeat' (first | with_reducible exact c462 | with_reducible refine cellK_drew ?_ | with_reducible refine cellK_alloc ?_ | with_reducible refine cellK_set ?_ (by dsimp only; omega))); done) | (first | (simp [go_sem, ↓IntWalk.iteOmega, *]; done) | (simp [go_sem, ↓IntWalk.iteOmega, *]; intros; omega))
  have c474 : V471.cell? ⟨tb, 0, none⟩ = some (.int .i64 d) := by rw [hV]; first | ((repeat' (first | with_reducible exact c463 | with_reducible refine cellK_drew ?_ | with_reducible refine cellK_alloc ?_ | with_reducible refine cellK_set ?_ (by dsimp only; omega))); done) | (first | (simp [go_sem, ↓IntWalk.iteOmega, *]; done) | (simp [go_sem, ↓IntWalk.iteOmega, *]; intros; omega))
  have c475 : V471.cell? ⟨tb, 1, none⟩ = some (.slice Af xs.length cf) := by rw [hV]; first | ((repeat' (first | with_reducible exact c464 | with_reducible refine cellK_drew ?_ | with_reducible refine cellK_alloc ?_ | with_reducible refine cellK_set ?_ (by dsimp only; omega))); done) | (first | (simp [go_sem, ↓IntWalk.iteOmega, *]; done) | (simp [go_sem, ↓IntWalk.iteOmega, *]; intros; omega))
  have z476 : ∀ o, V471.frozen? ⟨w.heap.size, o, none⟩ = false := by rw [hV]; first | ((repeat' (first | with_reducible exact z465 | with_reducible refine frozK_drew ?_ | with_reducible refine frozK_alloc ?_ | with_reducible refine frozK_set ?_)); done) | (intro o; first | (simp [go_sem, ↓IntWalk.iteOmega, *]; done) | (simp [go_sem, ↓IntWalk.iteOmega, *]; intros; omega))
  have R477 : Hid (FreshA cIv 2 50 (V1.heap.size) V471 Af cf xs) := hid (by rw [hV]; (repeat' (first | with_reducible exact R466.out | with_reducible refine FreshA.set_at ?_ (by assumption) _ | with_reducible refine FreshA.set_low ?_ ?_ _ | with_reducible refine FreshA.below ?_ (Below.drew (Below.refl _ _)) | with_reducible refine FreshA.below ?_ (Below.alloc (Below.refl _ _) (Nat.le_refl _) _) | (dsimp only; omega) | (simp; done) | (simp; omega))))
  have R478 : Hid (FreshA cIn 1 3 (V419.heap.size) V471 Bq cq rs) := hid (by rw [hV]; (repeat' (first | with_reducible exact R467.out | with_reducible refine FreshA.set_at ?_ (by assumption) _ | with_reducible refine FreshA.set_low ?_ ?_ _ | with_reducible refine FreshA.below ?_ (Below.drew (Below.refl _ _)) | with_reducible refine FreshA.below ?_ (Below.alloc (Below.refl _ _) (Nat.le_refl _) _) | (dsimp only; omega) | (simp; done) | (simp; omega))))
  have R479 : Hid (FreshA cIn 1 3 (V450.heap.size) V471 A10 c10 q) := hid (by rw [hV]; (repeat' (first | with_reducible exact S470.out | with_reducible refine FreshA.set_at ?_ (by assumption) _ | with_reducible refine FreshA.set_low ?_ ?_ _ | with_reducible refine FreshA.below ?_ (Below.drew (Below.refl _ _)) | with_reducible refine FreshA.below ?_ (Below.alloc (Below.refl _ _) (Nat.le_refl _) _) | (dsimp only; omega) | (simp; done) | (simp; omega))))
  have cu480 : CurS V471 b A cs cap (0 + 80 + 40 + 1) := by rw [hV]; (repeat' (first | with_reducible refine CurS.setc ?_ ?_ | with_reducible refine CurS.allo ?_ | with_reducible refine CurS.drw ?_ | with_reducible exact cu468 | (dsimp only; omega) | (simp; done) | (simp; omega)))
  have gw481 : w.grownBy V471 (some b) := by rw [hV]; (repeat' (first | with_reducible exact World.grownBy.refl _ _ | with_reducible exact gw469 | with_reducible refine grownA ?_ | with_reducible refine grownS ?_ ?_ | with_reducible refine grown_drew ?_ | (dsimp only; omega) | (simp; done) | omega))
  have hzgw481 := gw481.size
  have hlcu480 := cu480.lt
  clear c461 c462 c463 c464 z465 R466 R467 S470 cu468 gw469
  clear hV
  refine (c_pick b A cs cap (0 + 80 + 40 + 1) (40) _ cu480 hby (by omega) hl (by omega)).mono ?_
  rintro e W483 ⟨dx482, rfl, hdx482a, hdx482b, hcn, hg⟩
  have hkW483 := hg.size
  have c484 : W483.cell? ⟨w.heap.size, 0, none⟩ = some (.int .i64 0) := (cellRow hg (w.heap.size) 0).trans (by rw [if_pos ⟨by omega, by omega⟩]; exact c472)
  have c485 : W483.cell? ⟨w.heap.size, 1, none⟩ = some (.slice none 0 0) := (cellRow hg (w.heap.size) 1).trans (by rw [if_pos ⟨by omega, by omega⟩]; exact c473)
  have c486 : W483.cell? ⟨tb, 0, none⟩ = some (.int .i64 d) := (cellRow hg (tb) 0).trans (by rw [if_pos ⟨by omega, by omega⟩]; exact c474)
  have c487 : W483.cell? ⟨tb, 1, none⟩ = some (.slice Af xs.length cf) := (cellRow hg (tb) 1).trans (by rw [if_pos ⟨by omega, by omega⟩]; exact c475)
  have z488 : ∀ o, W483.frozen? ⟨w.heap.size, o, none⟩ = false := fun o => (frozRow hg (w.heap.size) o).trans (by rw [if_pos ⟨by omega, by omega⟩]; exact z476 o)
  have R489 : Hid (FreshA cIv 2 50 (V1.heap.size) W483 Af cf xs) := hid (FreshA.rowb R477.out hg (by omega))
  have R490 : Hid (FreshA cIn 1 3 (V419.heap.size) W483 Bq cq rs) := hid (FreshA.rowb R478.out hg (by omega))
  have R491 : Hid (FreshA cIn 1 3 (V450.heap.size) W483 A10 c10 q) := hid (FreshA.rowb R479.out hg (by omega))
  have cu492 : CurS W483 b A cs cap (0 + 80 + 40 + 1 + 1) := hcn
  have gw493 : w.grownBy W483 (some b) := grown_trans gw481 hg
  have hzgw493 := gw493.size
  have hlcu492 := cu492.lt
  clear c472 c473 c474 c475 z476 R477 R478 R479 cu480 gw481
  clear hg
  go_wp2_with (fail)
  refine calls_named ?_
  intro V494 hV
  have hkV494 : W483.heap.size ≤ V494.heap.size := by rw [hV]; first | with_reducible exact Nat.le_refl _ | (simp [World.setCell]; done) | (simp; omega)
  have c495 : V494.cell? ⟨w.heap.size, 0, none⟩ = some (.int .i64 0) := by rw [hV]; first | ((repeat' (first | with_reducible exact c484 | with_reducible refine cellK_drew ?_ | with_reducible refine cellK_alloc ?_ | with_reducible refine cellK_set ?_ (by dsimp only; omega))); done) | (first | (simp [go_sem, ↓IntWalk.iteOmega, *]; done) | (simp [go_sem, ↓IntWalk.iteOmega, *]; intros; omega))
  have c496 : V494.cell? ⟨w.heap.size, 1, none⟩ = some (.slice none 0 0) := by rw [hV]; first | ((repeat' (first | with_reducible exact c485 | with_reducible refine cellK_drew ?_ | with_reducible refine cellK_alloc ?_ | with_reducible refine cellK_set ?_ (by dsimp only; omega))); done) | (first | (simp [go_sem, ↓IntWalk.iteOmega, *]; done) | (simp [go_sem, ↓IntWalk.iteOmega, *]; intros; omega))
  have c497 : V494.cell? ⟨tb, 0, none⟩ = some (.int .i64 d) := by rw [hV]; first | ((repeat' (first | with_reducible exact c486 | with_reducible refine cellK_drew ?_ | with_reducible refine cellK_alloc ?_ | with_reducible refine cellK_set ?_ (by dsimp only; omega))); done) | (first | (simp [go_sem, ↓IntWalk.iteOmega, *]; done) | (simp [go_sem, ↓IntWalk.iteOmega, *]; intros; omega))
  have c498 : V494.cell? ⟨tb, 1, none⟩ = some (.slice Af xs.length cf) := by rw [hV]; first | ((repeat' (first | with_reducible exact c487 | with_reducible refine cellK_drew ?_ | with_reducible refine cellK_alloc ?_ | with_reducible refine cellK_set ?_ (by dsimp only; omega))); done) | (first | (simp [go_sem, ↓IntWalk.iteOmega, *]; done) | (simp [go_sem, ↓IntWalk.iteOmega, *]; intros; omega))
  have z499 : ∀ o, V494.frozen? ⟨w.heap.size, o, none⟩ = false := by rw [hV]; first | ((repeat' (first | with_reducible exact z488 | with_reducible refine frozK_drew ?_ | with_reducible refine frozK_alloc ?_ | with_reducible refine frozK_set ?_)); done) | (intro o; first | (simp [go_sem, ↓IntWalk.iteOmega, *]; done) | (simp [go_sem, ↓IntWalk.iteOmega, *]; intros; omega))
  have R500 : Hid (FreshA cIv 2 50 (V1.heap.size) V494 Af cf xs) := hid (by rw [hV]; (repeat' (first | with_reducible exact R489.out | with_reducible refine FreshA.set_at ?_ (by assumption) _ | with_reducible refine FreshA.set_low ?_ ?_ _ | with_reducible refine FreshA.below ?_ (Below.drew (Below.refl _ _)) | with_reducible refine FreshA.below ?_ (Below.alloc (Below.refl _ _) (Nat.le_refl _) _) | (dsimp only; omega) | (simp; done) | (simp; omega))))
  have R501 : Hid (FreshA cIn 1 3 (V419.heap.size) V494 Bq cq rs) := hid (by rw [hV]; (repeat' (first | with_reducible exact R490.out | with_reducible refine FreshA.set_at ?_ (by assumption) _ | with_reducible refine FreshA.set_low ?_ ?_ _ | with_reducible refine FreshA.below ?_ (Below.drew (Below.refl _ _)) | with_reducible refine FreshA.below ?_ (Below.alloc (Below.refl _ _) (Nat.le_refl _) _) | (dsimp only; omega) | (simp; done) | (simp; omega))))
  have R502 : Hid (FreshA cIn 1 3 (V450.heap.size) V494 A10 c10 q) := hid (by rw [hV]; (repeat' (first | with_reducible exact R491.out | with_reducible refine FreshA.set_at ?_ (by assumption) _ | with_reducible refine FreshA.set_low ?_ ?_ _ | with_reducible refine FreshA.below ?_ (Below.drew (Below.refl _ _)) | with_reducible refine FreshA.below ?_ (Below.alloc (Below.refl _ _) (Nat.le_refl _) _) | (dsimp only; omega) | (simp; done) | (simp; omega))))
  have cu503 : CurS V494 b A cs cap (0 + 80 + 40 + 1 + 1) := by rw [hV]; (repeat' (first | with_reducible refine CurS.setc ?_ ?_ | with_reducible refine CurS.allo ?_ | with_reducible refine CurS.drw ?_ | with_reducible exact cu492 | (dsimp only; omega) | (simp; done) | (simp; omega)))
  have gw504 : w.grownBy V494 (some b) := by rw [hV]; (repeat' (first | with_reducible exact World.grownBy.refl _ _ | with_reducible exact gw493 | with_reducible refine grownA ?_ | with_reducible refine grownS ?_ ?_ | with_reducible refine grown_drew ?_ | (dsimp only; omega) | (simp; done) | omega))
  have hzgw504 := gw504.size
  have hlcu503 := cu503.lt
  clear c484 c485 c486 c487 z488 R489 R490 R491 cu492 gw493
  clear hV
  refine (c_pick b A cs cap (0 + 80 + 40 + 1 + 1) (60) _ cu503 hby (by omega) hl (by omega)).mono ?_
  rintro e W506 ⟨dx505, rfl, hdx505a, hdx505b, hcn, hg⟩
  have hkW506 := hg.size
  have c507 : W506.cell? ⟨w.heap.size, 0, none⟩ = some (.int .i64 0) := (cellRow hg (w.heap.size) 0).trans (by rw [if_pos ⟨by omega, by omega⟩]; exact c495)
  have c508 : W506.cell? ⟨w.heap.size, 1, none⟩ = some (.slice none 0 0) := (cellRow hg (w.heap.size) 1).trans (by rw [if_pos ⟨by omega, by omega⟩]; exact c496)
  have c509 : W506.cell? ⟨tb, 0, none⟩ = some (.int .i64 d) := (cellRow hg (tb) 0).trans (by rw [if_pos ⟨by omega, by omega⟩]; exact c497)
  have c510 : W506.cell? ⟨tb, 1, none⟩ = some (.slice Af xs.length cf) := (cellRow hg (tb) 1).trans (by rw [if_pos ⟨by omega, by omega⟩]; exact c498)
  have z511 : ∀ o, W506.frozen? ⟨w.heap.size, o, none⟩ = false := fun o => (frozRow hg (w.heap.size) o).trans (by rw [if_pos ⟨by omega, by omega⟩]; exact z499 o)
  have R512 : Hid (FreshA cIv 2 50 (V1.heap.size) W506 Af cf xs) := hid (FreshA.rowb R500.out hg (by omega))
  have R513 : Hid (FreshA cIn 1 3 (V419.heap.size) W506 Bq cq rs) := hid (FreshA.rowb R501.out hg (by omega))
  have R514 : Hid (FreshA cIn 1 3 (V450.heap.size) W506 A10 c10 q) := hid (FreshA.rowb R502.out hg (by omega))
  have cu515 : CurS W506 b A cs cap (0 + 80 + 40 + 1 + 1 + 1) := hcn
  have gw516 : w.grownBy W506 (some b) := grown_trans gw504 hg
  have hzgw516 := gw516.size
  have hlcu515 := cu515.lt
  clear c495 c496 c497 c498 z499 R500 R501 R502 cu503 gw504
  clear hg
  have hpb : ∀ k (hk : k < ([dx482, 40 + dx505] : List Int).length), 0 ≤ ([dx482, 40 + dx505] : List Int)[k] ∧ ([dx482, 40 + dx505] : List Int)[k] ≤ 9999 := fun k hk => (show ∀ z ∈ ([dx482, 40 + dx505] : List Int), 0 ≤ z ∧ z ≤ 9999 by intro z hz; simp at hz; omega) _ (List.getElem_mem hk)
  have hpl8 : ([dx482, 40 + dx505] : List Int).length ≤ 8 := by simp
  have HA0 := hid (R512.out); have HB0 := hid (R513.out)
  go_wp2_with (at_builtin; refine wlist_named ?_)
  intro V517 hV
  have hkV517 : W506.heap.size ≤ V517.heap.size := by rw [hV]; first | with_reducible exact Nat.le_refl _ | (simp [World.setCell]; done) | (simp; omega)
  have c518 : V517.cell? ⟨w.heap.size, 0, none⟩ = some (.int .i64 0) := by rw [hV]; first | ((repeat' (first | with_reducible exact c507 | with_reducible refine cellK_drew ?_ | with_reducible refine cellK_alloc ?_ | with_reducible refine cellK_set ?_ (by dsimp only; omega))); done) | (first | (simp [go_sem, ↓IntWalk.iteOmega, *]; done) | (simp [go_sem, ↓IntWalk.iteOmega, *]; intros; omega))
  have c519 : V517.cell? ⟨w.heap.size, 1, none⟩ = some (.slice none 0 0) := by rw [hV]; first | ((repeat' (first | with_reducible exact c508 | with_reducible refine cellK_drew ?_ | with_reducible refine cellK_alloc ?_ | with_reducible refine cellK_set ?_ (by dsimp only; omega))); done) | (first | (simp [go_sem, ↓IntWalk.iteOmega, *]; done) | (simp [go_sem, ↓IntWalk.iteOmega, *]; intros; omega))
  have c520 : V517.cell? ⟨tb, 0, none⟩ = some (.int .i64 d) := by rw [hV]; first | ((repeat' (first | with_reducible exact c509 | with_reducible refine cellK_drew ?_ | with_reducible refine cellK_alloc ?_ | with_reducible refine cellK_set ?_ (by dsimp only; omega))); done) | (first | (simp [go_sem, ↓IntWalk.iteOmega, *]; done) | (simp [go_sem, ↓IntWalk.iteOmega, *]; intros; omega))
  have c521 : V517.cell? ⟨tb, 1, none⟩ = some (.slice Af xs.length cf) := by rw [hV]; first | ((repeat' (first | with_reducible exact c510 | with_reducible refine cellK_drew ?_ | with_reducible refine cellK_alloc ?_ | with_reducible refine cellK_set ?_ (by dsimp only; omega))); done) | (first | (simp [go_sem, ↓IntWalk.iteOmega, *]; done) | (simp [go_sem, ↓IntWalk.iteOmega, *]; intros; omega))
  have z522 : ∀ o, V517.frozen? ⟨w.heap.size, o, none⟩ = false := by rw [hV]; first | ((repeat' (first | with_reducible exact z511 | with_reducible refine frozK_drew ?_ | with_reducible refine frozK_alloc ?_ | with_reducible refine frozK_set ?_)); done) | (intro o; first | (simp [go_sem, ↓IntWalk.iteOmega, *]; done) | (simp [go_sem, ↓IntWalk.iteOmega, *]; intros; omega))
  have R523 : Hid (FreshA cIv 2 50 (V1.heap.size) V517 Af cf xs) := hid (by rw [hV]; (repeat' (first | with_reducible exact R512.out | with_reducible refine FreshA.set_at ?_ (by assumption) _ | with_reducible refine FreshA.set_low ?_ ?_ _ | with_reducible refine FreshA.below ?_ (Below.drew (Below.refl _ _)) | with_reducible refine FreshA.below ?_ (Below.alloc (Below.refl _ _) (Nat.le_refl _) _) | (dsimp only; omega) | (simp; done) | (simp; omega))))
  have R524 : Hid (FreshA cIn 1 3 (V419.heap.size) V517 Bq cq rs) := hid (by rw [hV]; (repeat' (first | with_reducible exact R513.out | with_reducible refine FreshA.set_at ?_ (by assumption) _ | with_reducible refine FreshA.set_low ?_ ?_ _ | with_reducible refine FreshA.below ?_ (Below.drew (Below.refl _ _)) | with_reducible refine FreshA.below ?_ (Below.alloc (Below.refl _ _) (Nat.le_refl _) _) | (dsimp only; omega) | (simp; done) | (simp; omega))))
  have R525 : Hid (FreshA cIn 1 3 (V450.heap.size) V517 A10 c10 q) := hid (by rw [hV]; (repeat' (first | with_reducible exact R514.out | with_reducible refine FreshA.set_at ?_ (by assumption) _ | with_reducible refine FreshA.set_low ?_ ?_ _ | with_reducible refine FreshA.below ?_ (Below.drew (Below.refl _ _)) | with_reducible refine FreshA.below ?_ (Below.alloc (Below.refl _ _) (Nat.le_refl _) _) | (dsimp only; omega) | (simp; done) | (simp; omega))))
  have cu526 : CurS V517 b A cs cap (0 + 80 + 40 + 1 + 1 + 1) := by rw [hV]; (repeat' (first | with_reducible refine CurS.setc ?_ ?_ | with_reducible refine CurS.allo ?_ | with_reducible refine CurS.drw ?_ | with_reducible exact cu515 | (dsimp only; omega) | (simp; done) | (simp; omega)))
  have gw527 : w.grownBy V517 (some b) := by rw [hV]; (repeat' (first | with_reducible exact World.grownBy.refl _ _ | with_reducible exact gw516 | with_reducible refine grownA ?_ | with_reducible refine grownS ?_ ?_ | with_reducible refine grown_drew ?_ | (dsimp only; omega) | (simp; done) | omega))
  have hzgw527 := gw527.size
  have hlcu526 := cu526.lt
  clear c507 c508 c509 c510 z511 R512 R513 R514 cu515 gw516
  have hlit : V517.heap[W506.heap.size]? = some (.cells #[.int .i64 dx482, .int .i64 (40 + dx505)] 3 (0, 0)) := by rw [hV]; first | exact (Below.heap_alloc _ _ _ (by simp)).trans (heap_alloc_new _ _) | (simp; done)
  have S528 : Hid (FreshA cIn 1 3 (W506.heap.size) V517 ((some ⟨W506.heap.size + 1, 0, none⟩)) 0 (([] : List Int))) := hid (by rw [hV]; first | exact FreshA.newq rfl (by first | omega | (simp; done) | (simp; omega)) | exact FreshA.newq (by first | rfl | simp) (by first | omega | (simp; done) | (simp; omega)))
  refine wpList_pushesR (xs := ([] : List Int)) rfl (.tmp 37) (.tmp 38) 40 rfl 3 i0 _ 8 Try.underlying40 hI0 hI1 hI2 hI3 rfl (by decide) (fun _ => rfl) one_In _ rfl rfl S528.out ([dx482, 40 + dx505] : List Int) _ rfl _ _ rfl (Rds.of_block hlit (by intro i x h; rcases i with _ | _ | i <;> simp at h ⊢ <;> first | exact h | omega)) (by unfold maxLen; first | omega | (simp; done) | (simp; omega)) (by first | omega | (simp; done) | (simp; omega)) (by first | omega | (simp; done) | (simp; omega)) ?_
  intro A3 c3 W3 hF3 hg3 hat3
  clear hV
  simp only [List.nil_append] at hF3
  have hkW3 := hg3.size
  have hlo := S528.out.lo
  have c529 : W3.cell? ⟨w.heap.size, 0, none⟩ = some (.int .i64 0) := (World.cell?_of_block (a := ⟨w.heap.size, 0, none⟩) (hg3.block (w.heap.size) (by omega) (ne_blk hlo (by omega)))).trans c518
  have c530 : W3.cell? ⟨w.heap.size, 1, none⟩ = some (.slice none 0 0) := (World.cell?_of_block (a := ⟨w.heap.size, 1, none⟩) (hg3.block (w.heap.size) (by omega) (ne_blk hlo (by omega)))).trans c519
  have c531 : W3.cell? ⟨tb, 0, none⟩ = some (.int .i64 d) := (World.cell?_of_block (a := ⟨tb, 0, none⟩) (hg3.block (tb) (by omega) (ne_blk hlo (by omega)))).trans c520
  have c532 : W3.cell? ⟨tb, 1, none⟩ = some (.slice Af xs.length cf) := (World.cell?_of_block (a := ⟨tb, 1, none⟩) (hg3.block (tb) (by omega) (ne_blk hlo (by omega)))).trans c521
  have z533 : ∀ o, W3.frozen? ⟨w.heap.size, o, none⟩ = false := fun o => (World.frozen?_of_block (a := ⟨w.heap.size, o, none⟩) (hg3.block (w.heap.size) (by omega) (ne_blk hlo (by omega)))).trans (z522 o)
  have R534 : Hid (FreshA cIv 2 50 (V1.heap.size) W3 Af cf xs) := hid (FreshA.grown R523.out hg3 (FreshA.apl HA0.out S528.out (Nat.le_refl _)))
  have R535 : Hid (FreshA cIn 1 3 (V419.heap.size) W3 Bq cq rs) := hid (FreshA.grown R524.out hg3 (FreshA.apl HB0.out S528.out (Nat.le_refl _)))
  have R536 : Hid (FreshA cIn 1 3 (W506.heap.size) W3 A3 c3 (([dx482, 40 + dx505] : List Int))) := hid (hF3)
  have cu537 : CurS W3 b A cs cap (0 + 80 + 40 + 1 + 1 + 1) := CurS.other cu526 hg3 hlo (by omega)
  have gw538 : w.grownBy W3 (some b) := grown_other gw527 hg3 (hlo.mono (by omega))
  have hzgw538 := gw538.size
  have hlcu537 := cu537.lt
  clear c518 c519 c520 c521 z522 R523 R524 S528 cu526 gw527
  clear hlo
  clear hF3 hg3 hat3
  have hb3 : b < W506.heap.size := by omega
  generalize hpl : ([dx482, 40 + dx505] : List Int) = pl at *
  clear hpl
  go_wp2_with (fail)
  refine calls_named ?_
  intro V539 hV
  have hkV539 : W3.heap.size ≤ V539.heap.size := by rw [hV]; first | with_reducible exact Nat.le_refl _ | (simp [World.setCell]; done) | (simp; omega)
  have c540 : V539.cell? ⟨w.heap.size, 0, none⟩ = some (.int .i64 0) := by rw [hV]; first | ((repeat' (first | with_reducible exact c529 | with_reducible refine cellK_drew ?_ | with_reducible refine cellK_alloc ?_ | with_reducible refine cellK_set ?_ (by dsimp only; omega))); done) | (first | (simp [go_sem, ↓IntWalk.iteOmega, *]; done) | (simp [go_sem, ↓IntWalk.iteOmega, *]; intros; omega))
  have c541 : V539.cell? ⟨w.heap.size, 1, none⟩ = some (.slice none 0 0) := by rw [hV]; first | ((repeat' (first | with_reducible exact c530 | with_reducible refine cellK_drew ?_ | with_reducible refine cellK_alloc ?_ | with_reducible refine cellK_set ?_ (by dsimp only; omega))); done) | (first | (simp [go_sem, ↓IntWalk.iteOmega, *]; done) | (simp [go_sem, ↓IntWalk.iteOmega, *]; intros; omega))
  have c542 : V539.cell? ⟨tb, 0, none⟩ = some (.int .i64 d) := by rw [hV]; first | ((repeat' (first | with_reducible exact c531 | with_reducible refine cellK_drew ?_ | with_reducible refine cellK_alloc ?_ | with_reducible refine cellK_set ?_ (by dsimp only; omega))); done) | (first | (simp [go_sem, ↓IntWalk.iteOmega, *]; done) | (simp [go_sem, ↓IntWalk.iteOmega, *]; intros; omega))
  have c543 : V539.cell? ⟨tb, 1, none⟩ = some (.slice Af xs.length cf) := by rw [hV]; first | ((repeat' (first | with_reducible exact c532 | with_reducible refine cellK_drew ?_ | with_reducible refine cellK_alloc ?_ | with_reducible refine cellK_set ?_ (by dsimp only; omega))); done) | (first | (simp [go_sem, ↓IntWalk.iteOmega, *]; done) | (simp [go_sem, ↓IntWalk.iteOmega, *]; intros; omega))
  have z544 : ∀ o, V539.frozen? ⟨w.heap.size, o, none⟩ = false := by rw [hV]; first | ((repeat' (first | with_reducible exact z533 | with_reducible refine frozK_drew ?_ | with_reducible refine frozK_alloc ?_ | with_reducible refine frozK_set ?_)); done) | (intro o; first | (simp [go_sem, ↓IntWalk.iteOmega, *]; done) | (simp [go_sem, ↓IntWalk.iteOmega, *]; intros; omega))
  have R545 : Hid (FreshA cIv 2 50 (V1.heap.size) V539 Af cf xs) := hid (by rw [hV]; (repeat' (first | with_reducible exact R534.out | with_reducible refine FreshA.set_at ?_ (by assumption) _ | with_reducible refine FreshA.set_low ?_ ?_ _ | with_reducible refine FreshA.below ?_ (Below.drew (Below.refl _ _)) | with_reducible refine FreshA.below ?_ (Below.alloc (Below.refl _ _) (Nat.le_refl _) _) | (dsimp only; omega) | (simp; done) | (simp; omega))))
  have R546 : Hid (FreshA cIn 1 3 (V419.heap.size) V539 Bq cq rs) := hid (by rw [hV]; (repeat' (first | with_reducible exact R535.out | with_reducible refine FreshA.set_at ?_ (by assumption) _ | with_reducible refine FreshA.set_low ?_ ?_ _ | with_reducible refine FreshA.below ?_ (Below.drew (Below.refl _ _)) | with_reducible refine FreshA.below ?_ (Below.alloc (Below.refl _ _) (Nat.le_refl _) _) | (dsimp only; omega) | (simp; done) | (simp; omega))))
  have R547 : Hid (FreshA cIn 1 3 (W506.heap.size) V539 A3 c3 pl) := hid (by rw [hV]; (repeat' (first | with_reducible exact R536.out | with_reducible refine FreshA.set_at ?_ (by assumption) _ | with_reducible refine FreshA.set_low ?_ ?_ _ | with_reducible refine FreshA.below ?_ (Below.drew (Below.refl _ _)) | with_reducible refine FreshA.below ?_ (Below.alloc (Below.refl _ _) (Nat.le_refl _) _) | (dsimp only; omega) | (simp; done) | (simp; omega))))
  have cu548 : CurS V539 b A cs cap (0 + 80 + 40 + 1 + 1 + 1) := by rw [hV]; (repeat' (first | with_reducible refine CurS.setc ?_ ?_ | with_reducible refine CurS.allo ?_ | with_reducible refine CurS.drw ?_ | with_reducible exact cu537 | (dsimp only; omega) | (simp; done) | (simp; omega)))
  have gw549 : w.grownBy V539 (some b) := by rw [hV]; (repeat' (first | with_reducible exact World.grownBy.refl _ _ | with_reducible exact gw538 | with_reducible refine grownA ?_ | with_reducible refine grownS ?_ ?_ | with_reducible refine grown_drew ?_ | (dsimp only; omega) | (simp; done) | omega))
  have hzgw549 := gw549.size
  have hlcu548 := cu548.lt
  clear c529 c530 c531 c532 z533 R534 R535 R536 cu537 gw538
  clear hV
  refine (c_pick b A cs cap (0 + 80 + 40 + 1 + 1 + 1) (6) _ cu548 hby (by omega) hl (by omega)).mono ?_
  rintro e W551 ⟨dx550, rfl, hdx550a, hdx550b, hcn, hg⟩
  have hkW551 := hg.size
  have c552 : W551.cell? ⟨w.heap.size, 0, none⟩ = some (.int .i64 0) := (cellRow hg (w.heap.size) 0).trans (by rw [if_pos ⟨by omega, by omega⟩]; exact c540)
  have c553 : W551.cell? ⟨w.heap.size, 1, none⟩ = some (.slice none 0 0) := (cellRow hg (w.heap.size) 1).trans (by rw [if_pos ⟨by omega, by omega⟩]; exact c541)
  have c554 : W551.cell? ⟨tb, 0, none⟩ = some (.int .i64 d) := (cellRow hg (tb) 0).trans (by rw [if_pos ⟨by omega, by omega⟩]; exact c542)
  have c555 : W551.cell? ⟨tb, 1, none⟩ = some (.slice Af xs.length cf) := (cellRow hg (tb) 1).trans (by rw [if_pos ⟨by omega, by omega⟩]; exact c543)
  have z556 : ∀ o, W551.frozen? ⟨w.heap.size, o, none⟩ = false := fun o => (frozRow hg (w.heap.size) o).trans (by rw [if_pos ⟨by omega, by omega⟩]; exact z544 o)
  have R557 : Hid (FreshA cIv 2 50 (V1.heap.size) W551 Af cf xs) := hid (FreshA.rowb R545.out hg (by omega))
  have R558 : Hid (FreshA cIn 1 3 (V419.heap.size) W551 Bq cq rs) := hid (FreshA.rowb R546.out hg (by omega))
  have R559 : Hid (FreshA cIn 1 3 (W506.heap.size) W551 A3 c3 pl) := hid (FreshA.rowb R547.out hg (by omega))
  have cu560 : CurS W551 b A cs cap (0 + 80 + 40 + 1 + 1 + 1 + 1) := hcn
  have gw561 : w.grownBy W551 (some b) := grown_trans gw549 hg
  have hzgw561 := gw561.size
  have hlcu560 := cu560.lt
  clear c540 c541 c542 c543 z544 R545 R546 R547 cu548 gw549
  clear hg
  by_cases hq0 : dx550 = 0
  ·subst hq0
   by_cases h0 : 0 < pl.length
   rotate_left
   ·go_wp2_with (fail)
    refine post_named ?_
    intro VP hV
    have r0 : VP.cell? ⟨w.heap.size, 0, none⟩ = some (.int .i64 d) := by rw [hV]; first | (simp [go_sem, ↓IntWalk.iteOmega, *]; done) | (simp [go_sem, ↓IntWalk.iteOmega, *]; intros; omega)
    have r1 : VP.cell? ⟨w.heap.size, 1, none⟩ = some (.slice Af xs.length cf) := by rw [hV]; first | (simp [go_sem, ↓IntWalk.iteOmega, *]; done) | (simp [go_sem, ↓IntWalk.iteOmega, *]; intros; omega)
    have hkVP : W551.heap.size ≤ VP.heap.size := by rw [hV]; first | with_reducible exact Nat.le_refl _ | (simp [World.setCell]; done) | (simp; omega)
    have R562 : Hid (FreshA cIv 2 50 (V1.heap.size) VP Af cf xs) := hid (by rw [hV]; (repeat' (first | with_reducible exact R557.out | with_reducible refine FreshA.set_at ?_ (by assumption) _ | with_reducible refine FreshA.set_low ?_ ?_ _ | with_reducible refine FreshA.below ?_ (Below.drew (Below.refl _ _)) | with_reducible refine FreshA.below ?_ (Below.alloc (Below.refl _ _) (Nat.le_refl _) _) | (dsimp only; omega) | (simp; done) | (simp; omega))))
    have R563 : Hid (FreshA cIn 1 3 (V419.heap.size) VP Bq cq rs) := hid (by rw [hV]; (repeat' (first | with_reducible exact R558.out | with_reducible refine FreshA.set_at ?_ (by assumption) _ | with_reducible refine FreshA.set_low ?_ ?_ _ | with_reducible refine FreshA.below ?_ (Below.drew (Below.refl _ _)) | with_reducible refine FreshA.below ?_ (Below.alloc (Below.refl _ _) (Nat.le_refl _) _) | (dsimp only; omega) | (simp; done) | (simp; omega))))
    have R564 : Hid (FreshA cIn 1 3 (W506.heap.size) VP A3 c3 pl) := hid (by rw [hV]; (repeat' (first | with_reducible exact R559.out | with_reducible refine FreshA.set_at ?_ (by assumption) _ | with_reducible refine FreshA.set_low ?_ ?_ _ | with_reducible refine FreshA.below ?_ (Below.drew (Below.refl _ _)) | with_reducible refine FreshA.below ?_ (Below.alloc (Below.refl _ _) (Nat.le_refl _) _) | (dsimp only; omega) | (simp; done) | (simp; omega))))
    have gw566 : w.grownBy VP (some b) := by rw [hV]; (repeat' (first | with_reducible exact World.grownBy.refl _ _ | with_reducible exact gw561 | with_reducible refine grownA ?_ | with_reducible refine grownS ?_ ?_ | with_reducible refine grown_drew ?_ | (dsimp only; omega) | (simp; done) | omega))
    have hzgw566 := gw566.size
    clear R557 R558 R559 cu560 gw561
    clear hV
    refine bodyPost_ret (v := .tuple #[.agg #[.int .i64 d, .slice Af xs.length cf], .slice Bq rs.length cq, .int .i64 pp, .slice A3 pl.length c3]) ?_ rfl ⟨d, Af, cf, xs, Bq, cq, rs, pp, A3, c3, pl, rfl, FreshA.mono R562.out (by omega), hxl, FreshA.mono R563.out (by omega), hrl, FreshA.mono R564.out (by omega), by first | omega | (simp; omega), below_gw gw566 (by omega)⟩
    simp [results, Try.results43, go_sem, r0, r1]
   obtain ⟨gp, rfl, hBp, hOp⟩ := FreshA.row R559.out h0
   clear hOp
   go_wp2_with (fail)
   refine calls_named ?_
   intro V567 hV
   have hkV567 : W551.heap.size ≤ V567.heap.size := by rw [hV]; first | with_reducible exact Nat.le_refl _ | (simp [World.setCell]; done) | (simp; omega)
   have c568 : V567.cell? ⟨w.heap.size, 0, none⟩ = some (.int .i64 0) := by rw [hV]; first | ((repeat' (first | with_reducible exact c552 | with_reducible refine cellK_drew ?_ | with_reducible refine cellK_alloc ?_ | with_reducible refine cellK_set ?_ (by dsimp only; omega))); done) | (first | (simp [go_sem, ↓IntWalk.iteOmega, *]; done) | (simp [go_sem, ↓IntWalk.iteOmega, *]; intros; omega))
   have c569 : V567.cell? ⟨w.heap.size, 1, none⟩ = some (.slice none 0 0) := by rw [hV]; first | ((repeat' (first | with_reducible exact c553 | with_reducible refine cellK_drew ?_ | with_reducible refine cellK_alloc ?_ | with_reducible refine cellK_set ?_ (by dsimp only; omega))); done) | (first | (simp [go_sem, ↓IntWalk.iteOmega, *]; done) | (simp [go_sem, ↓IntWalk.iteOmega, *]; intros; omega))
   have c570 : V567.cell? ⟨tb, 0, none⟩ = some (.int .i64 d) := by rw [hV]; first | ((repeat' (first | with_reducible exact c554 | with_reducible refine cellK_drew ?_ | with_reducible refine cellK_alloc ?_ | with_reducible refine cellK_set ?_ (by dsimp only; omega))); done) | (first | (simp [go_sem, ↓IntWalk.iteOmega, *]; done) | (simp [go_sem, ↓IntWalk.iteOmega, *]; intros; omega))
   have c571 : V567.cell? ⟨tb, 1, none⟩ = some (.slice Af xs.length cf) := by rw [hV]; first | ((repeat' (first | with_reducible exact c555 | with_reducible refine cellK_drew ?_ | with_reducible refine cellK_alloc ?_ | with_reducible refine cellK_set ?_ (by dsimp only; omega))); done) | (first | (simp [go_sem, ↓IntWalk.iteOmega, *]; done) | (simp [go_sem, ↓IntWalk.iteOmega, *]; intros; omega))
   have z572 : ∀ o, V567.frozen? ⟨w.heap.size, o, none⟩ = false := by rw [hV]; first | ((repeat' (first | with_reducible exact z556 | with_reducible refine frozK_drew ?_ | with_reducible refine frozK_alloc ?_ | with_reducible refine frozK_set ?_)); done) | (intro o; first | (simp [go_sem, ↓IntWalk.iteOmega, *]; done) | (simp [go_sem, ↓IntWalk.iteOmega, *]; intros; omega))
   have R573 : Hid (FreshA cIv 2 50 (V1.heap.size) V567 Af cf xs) := hid (by rw [hV]; (repeat' (first | with_reducible exact R557.out | with_reducible refine FreshA.set_at ?_ (by assumption) _ | with_reducible refine FreshA.set_low ?_ ?_ _ | with_reducible refine FreshA.below ?_ (Below.drew (Below.refl _ _)) | with_reducible refine FreshA.below ?_ (Below.alloc (Below.refl _ _) (Nat.le_refl _) _) | (dsimp only; omega) | (simp; done) | (simp; omega))))
   have R574 : Hid (FreshA cIn 1 3 (V419.heap.size) V567 Bq cq rs) := hid (by rw [hV]; (repeat' (first | with_reducible exact R558.out | with_reducible refine FreshA.set_at ?_ (by assumption) _ | with_reducible refine FreshA.set_low ?_ ?_ _ | with_reducible refine FreshA.below ?_ (Below.drew (Below.refl _ _)) | with_reducible refine FreshA.below ?_ (Below.alloc (Below.refl _ _) (Nat.le_refl _) _) | (dsimp only; omega) | (simp; done) | (simp; omega))))
   have R575 : Hid (FreshA cIn 1 3 (W506.heap.size) V567 ((some ⟨gp, 0, none⟩)) c3 pl) := hid (by rw [hV]; (repeat' (first | with_reducible exact R559.out | with_reducible refine FreshA.set_at ?_ (by assumption) _ | with_reducible refine FreshA.set_low ?_ ?_ _ | with_reducible refine FreshA.below ?_ (Below.drew (Below.refl _ _)) | with_reducible refine FreshA.below ?_ (Below.alloc (Below.refl _ _) (Nat.le_refl _) _) | (dsimp only; omega) | (simp; done) | (simp; omega))))
   have cu576 : CurS V567 b A cs cap (0 + 80 + 40 + 1 + 1 + 1 + 1) := by rw [hV]; (repeat' (first | with_reducible refine CurS.setc ?_ ?_ | with_reducible refine CurS.allo ?_ | with_reducible refine CurS.drw ?_ | with_reducible exact cu560 | (dsimp only; omega) | (simp; done) | (simp; omega)))
   have gw577 : w.grownBy V567 (some b) := by rw [hV]; (repeat' (first | with_reducible exact World.grownBy.refl _ _ | with_reducible exact gw561 | with_reducible refine grownA ?_ | with_reducible refine grownS ?_ ?_ | with_reducible refine grown_drew ?_ | (dsimp only; omega) | (simp; done) | omega))
   have hzgw577 := gw577.size
   have hlcu576 := cu576.lt
   clear c552 c553 c554 c555 z556 R557 R558 R559 cu560 gw561
   clear hV
   refine (c_pick b A cs cap (0 + 80 + 40 + 1 + 1 + 1 + 1) _ _ cu576 hby (by omega) hl (by omega)).mono ?_
   rintro e W579 ⟨dx578, rfl, hdx578a, hdx578b, hcn, hg⟩
   have hkW579 := hg.size
   have c580 : W579.cell? ⟨w.heap.size, 0, none⟩ = some (.int .i64 0) := (cellRow hg (w.heap.size) 0).trans (by rw [if_pos ⟨by omega, by omega⟩]; exact c568)
   have c581 : W579.cell? ⟨w.heap.size, 1, none⟩ = some (.slice none 0 0) := (cellRow hg (w.heap.size) 1).trans (by rw [if_pos ⟨by omega, by omega⟩]; exact c569)
   have c582 : W579.cell? ⟨tb, 0, none⟩ = some (.int .i64 d) := (cellRow hg (tb) 0).trans (by rw [if_pos ⟨by omega, by omega⟩]; exact c570)
   have c583 : W579.cell? ⟨tb, 1, none⟩ = some (.slice Af xs.length cf) := (cellRow hg (tb) 1).trans (by rw [if_pos ⟨by omega, by omega⟩]; exact c571)
   have z584 : ∀ o, W579.frozen? ⟨w.heap.size, o, none⟩ = false := fun o => (frozRow hg (w.heap.size) o).trans (by rw [if_pos ⟨by omega, by omega⟩]; exact z572 o)
   have R585 : Hid (FreshA cIv 2 50 (V1.heap.size) W579 Af cf xs) := hid (FreshA.rowb R573.out hg (by omega))
   have R586 : Hid (FreshA cIn 1 3 (V419.heap.size) W579 Bq cq rs) := hid (FreshA.rowb R574.out hg (by omega))
   have R587 : Hid (FreshA cIn 1 3 (W506.heap.size) W579 ((some ⟨gp, 0, none⟩)) c3 pl) := hid (FreshA.rowb R575.out hg (by omega))
   have cu588 : CurS W579 b A cs cap (0 + 80 + 40 + 1 + 1 + 1 + 1 + 1) := hcn
   have gw589 : w.grownBy W579 (some b) := grown_trans gw577 hg
   have hzgw589 := gw589.size
   have hlcu588 := cu588.lt
   clear c568 c569 c570 c571 z572 R573 R574 R575 cu576 gw577
   clear hg
   obtain ⟨k0, rfl⟩ : ∃ k : Nat, dx578 = k := ⟨dx578.toNat, by omega⟩
   have hk0 : k0 < pl.length := by omega
   go_wp2_with (fail)
   refine wp_named ?_
   intro V590 hV
   have hkV590 : W579.heap.size ≤ V590.heap.size := by rw [hV]; first | with_reducible exact Nat.le_refl _ | (simp [World.setCell]; done) | (simp; omega)
   have c591 : V590.cell? ⟨w.heap.size, 0, none⟩ = some (.int .i64 0) := by rw [hV]; first | ((repeat' (first | with_reducible exact c580 | with_reducible refine cellK_drew ?_ | with_reducible refine cellK_alloc ?_ | with_reducible refine cellK_set ?_ (by dsimp only; omega))); done) | (first | (simp [go_sem, ↓IntWalk.iteOmega, *]; done) | (simp [go_sem, ↓IntWalk.iteOmega, *]; intros; omega))
   have c592 : V590.cell? ⟨w.heap.size, 1, none⟩ = some (.slice none 0 0) := by rw [hV]; first | ((repeat' (first | with_reducible exact c581 | with_reducible refine cellK_drew ?_ | with_reducible refine cellK_alloc ?_ | with_reducible refine cellK_set ?_ (by dsimp only; omega))); done) | (first | (simp [go_sem, ↓IntWalk.iteOmega, *]; done) | (simp [go_sem, ↓IntWalk.iteOmega, *]; intros; omega))
   have c593 : V590.cell? ⟨tb, 0, none⟩ = some (.int .i64 d) := by rw [hV]; first | ((repeat' (first | with_reducible exact c582 | with_reducible refine cellK_drew ?_ | with_reducible refine cellK_alloc ?_ | with_reducible refine cellK_set ?_ (by dsimp only; omega))); done) | (first | (simp [go_sem, ↓IntWalk.iteOmega, *]; done) | (simp [go_sem, ↓IntWalk.iteOmega, *]; intros; omega))
   have c594 : V590.cell? ⟨tb, 1, none⟩ = some (.slice Af xs.length cf) := by rw [hV]; first | ((repeat' (first | with_reducible exact c583 | with_reducible refine cellK_drew ?_ | with_reducible refine cellK_alloc ?_ | with_reducible refine cellK_set ?_ (by dsimp only; omega))); done) | (first | (simp [go_sem, ↓IntWalk.iteOmega, *]; done) | (simp [go_sem, ↓IntWalk.iteOmega, *]; intros; omega))
   have z595 : ∀ o, V590.frozen? ⟨w.heap.size, o, none⟩ = false := by rw [hV]; first | ((repeat' (first | with_reducible exact z584 | with_reducible refine frozK_drew ?_ | with_reducible refine frozK_alloc ?_ | with_reducible refine frozK_set ?_)); done) | (intro o; first | (simp [go_sem, ↓IntWalk.iteOmega, *]; done) | (simp [go_sem, ↓IntWalk.iteOmega, *]; intros; omega))
   have R596 : Hid (FreshA cIv 2 50 (V1.heap.size) V590 Af cf xs) := hid (by rw [hV]; (repeat' (first | with_reducible exact R585.out | with_reducible refine FreshA.set_at ?_ (by assumption) _ | with_reducible refine FreshA.set_low ?_ ?_ _ | with_reducible refine FreshA.below ?_ (Below.drew (Below.refl _ _)) | with_reducible refine FreshA.below ?_ (Below.alloc (Below.refl _ _) (Nat.le_refl _) _) | (dsimp only; omega) | (simp; done) | (simp; omega))))
   have R597 : Hid (FreshA cIn 1 3 (V419.heap.size) V590 Bq cq rs) := hid (by rw [hV]; (repeat' (first | with_reducible exact R586.out | with_reducible refine FreshA.set_at ?_ (by assumption) _ | with_reducible refine FreshA.set_low ?_ ?_ _ | with_reducible refine FreshA.below ?_ (Below.drew (Below.refl _ _)) | with_reducible refine FreshA.below ?_ (Below.alloc (Below.refl _ _) (Nat.le_refl _) _) | (dsimp only; omega) | (simp; done) | (simp; omega))))
   have R598 : Hid (FreshA cIn 1 3 (W506.heap.size) V590 ((some ⟨gp, 0, none⟩)) c3 pl) := hid (by rw [hV]; (repeat' (first | with_reducible exact R587.out | with_reducible refine FreshA.set_at ?_ (by assumption) _ | with_reducible refine FreshA.set_low ?_ ?_ _ | with_reducible refine FreshA.below ?_ (Below.drew (Below.refl _ _)) | with_reducible refine FreshA.below ?_ (Below.alloc (Below.refl _ _) (Nat.le_refl _) _) | (dsimp only; omega) | (simp; done) | (simp; omega))))
   have cu599 : CurS V590 b A cs cap (0 + 80 + 40 + 1 + 1 + 1 + 1 + 1) := by rw [hV]; (repeat' (first | with_reducible refine CurS.setc ?_ ?_ | with_reducible refine CurS.allo ?_ | with_reducible refine CurS.drw ?_ | with_reducible exact cu588 | (dsimp only; omega) | (simp; done) | (simp; omega)))
   have gw600 : w.grownBy V590 (some b) := by rw [hV]; (repeat' (first | with_reducible exact World.grownBy.refl _ _ | with_reducible exact gw589 | with_reducible refine grownA ?_ | with_reducible refine grownS ?_ ?_ | with_reducible refine grown_drew ?_ | (dsimp only; omega) | (simp; done) | omega))
   have hzgw600 := gw600.size
   have hlcu599 := cu599.lt
   clear c580 c581 c582 c583 z584 R585 R586 R587 cu588 gw589
   clear hV
   obtain ⟨b9, o9, hge9, hb9, hc9⟩ := (R598.out).rds k0 pl[k0] (List.getElem?_eq_getElem hk0)
   cases hge9
   have hy0 := hc9 0 _ rfl
   have hyb := hpb k0 hk0
   simp only [Nat.add_zero, Nat.mul_one, Nat.zero_add] at hy0
   clear hc9
   generalize pl[k0] = y0 at hy0 hyb
   have hgb : b < gp := by omega
   refine wp_region_c (n := 10) b (fun k w' => CurS w' b A cs cap (0 + 80 + 40 + 1 + 1 + 1 + 1 + 1 + k)) [] (FDpa b gp k0 pl.length c3 y0) rfl (by kernel_rfl) (fun _ _ d _ _ h => by cases d <;> exact h) (CurS.mono (CurS.drw cu599) (by omega)) ?_ (fun i hi => absurd hi (by simp)) ?_ ?_
   ·intro iq v w1 w2 hF hg
    match iq with
    | 0 => exact hF
    | 1 => exact hF
    | 2 => exact hF
    | 3 => exact hF
    | 4 => exact hF
    | 5 => exact hF
    | 6 => exact hF
    | 7 => exact hF
    | 8 => exact hF
    | 9 => exact hF
    | q + 10 => exact (show True from trivial)
   ·intro iq o hi ho vals k w1 hk hT hgW hf
    match iq, hi with
    | 0, _ =>
     injection ho with ho
     subst ho
     clear hf
     have hz1 := hgW.size
     have hlt1 := CurS.lt hT
     simp only [fillA, List.take, List.drop, put_none, Act.put, List.setIfInBounds_toArray, List.set_cons_zero, List.set_cons_succ, Nat.reduceAdd]
     go_wp2_with (fail)
     exact ⟨rfl, rfl, World.grownBy.refl _ _, CurS.mono hT (by omega), (by first | rfl | (simp [FDpa]; done) | (simp [FDpa, *]; done) | (simp [FDpa, gotV]; done) | (simp [FDpa, gotV, *]; done)), fun h => absurd h (by decide)⟩
    | 1, _ =>
     injection ho with ho
     subst ho
     clear hf
     have hz1 := hgW.size
     have hlt1 := CurS.lt hT
     simp only [fillA, List.take, List.drop, put_none, Act.put, List.setIfInBounds_toArray, List.set_cons_zero, List.set_cons_succ, Nat.reduceAdd]
     go_wp2_with (fail)
     exact ⟨rfl, rfl, World.grownBy.refl _ _, CurS.mono hT (by omega), (by first | rfl | (simp [FDpa]; done) | (simp [FDpa, *]; done) | (simp [FDpa, gotV]; done) | (simp [FDpa, gotV, *]; done)), fun h => absurd h (by decide)⟩
    | 2, _ =>
     injection ho with ho
     subst ho
     clear hf
     have hz1 := hgW.size
     have hlt1 := CurS.lt hT
     simp only [fillA, List.take, List.drop, put_none, Act.put, List.setIfInBounds_toArray, List.set_cons_zero, List.set_cons_succ, Nat.reduceAdd]
     go_wp2_with (fail)
     exact ⟨rfl, rfl, World.grownBy.refl _ _, CurS.mono hT (by omega), (by first | rfl | (simp [FDpa]; done) | (simp [FDpa, *]; done) | (simp [FDpa, gotV]; done) | (simp [FDpa, gotV, *]; done)), fun h => absurd h (by decide)⟩
    | 3, _ =>
     injection ho with ho
     subst ho
     clear hf
     have hz1 := hgW.size
     have hlt1 := CurS.lt hT
     simp only [fillA, List.take, List.drop, put_none, Act.put, List.setIfInBounds_toArray, List.set_cons_zero, List.set_cons_succ, Nat.reduceAdd]
     go_wp2_with (fail)
     exact ⟨rfl, rfl, World.grownBy.refl _ _, CurS.mono hT (by omega), (by first | rfl | (simp [FDpa]; done) | (simp [FDpa, *]; done) | (simp [FDpa, gotV]; done) | (simp [FDpa, gotV, *]; done)), fun h => absurd h (by decide)⟩
    | 4, _ =>
     injection ho with ho
     subst ho
     have e2 : vals 2 = .slice (some ⟨gp, 0, none⟩) pl.length c3 := hf 2 (by decide) (by kernel_rfl)
     have e3 : vals 3 = .int .i64 (k0 : Int) := hf 3 (by decide) (by kernel_rfl)
     clear hf
     have hz1 := hgW.size
     have hlt1 := CurS.lt hT
     simp only [fillA, List.take, List.drop, put_none, Act.put, List.setIfInBounds_toArray, List.set_cons_zero, List.set_cons_succ, Nat.reduceAdd, e2, e3]
     go_wp2_with (fail)
     exact ⟨rfl, rfl, World.grownBy.refl _ _, CurS.mono hT (by omega), (by first | rfl | (simp [FDpa]; done) | (simp [FDpa, *]; done) | (simp [FDpa, gotV]; done) | (simp [FDpa, gotV, *]; done)), fun h => absurd h (by decide)⟩
    | 5, _ =>
     injection ho with ho
     subst ho
     have e4 : vals 4 = .pointer (some ⟨gp, k0, none⟩) := hf 4 (by decide) (by kernel_rfl)
     clear hf
     have hz1 := hgW.size
     have hlt1 := CurS.lt hT
     simp only [fillA, List.take, List.drop, put_none, Act.put, List.setIfInBounds_toArray, List.set_cons_zero, List.set_cons_succ, Nat.reduceAdd, e4]
     have k0 : w1.cell? ⟨gp, k0, none⟩ = some (.int .i64 y0) := (cellRow hgW (gp) k0).trans (by rw [if_pos ⟨by omega, by omega⟩]; exact hy0)
     go_wp2_with (fail)
     exact ⟨rfl, rfl, World.grownBy.refl _ _, CurS.mono hT (by omega), (by first | rfl | (simp [FDpa]; done) | (simp [FDpa, *]; done) | (simp [FDpa, gotV]; done) | (simp [FDpa, gotV, *]; done)), fun h => absurd h (by decide)⟩
    | 6, _ =>
     injection ho with ho
     subst ho
     clear hf
     have hz1 := hgW.size
     have hlt1 := CurS.lt hT
     simp only [fillA, List.take, List.drop, put_none, Act.put, List.setIfInBounds_toArray, List.set_cons_zero, List.set_cons_succ, Nat.reduceAdd]
     go_wp2_with (fail)
     exact ⟨rfl, rfl, World.grownBy.refl _ _, CurS.mono hT (by omega), (by first | rfl | (simp [FDpa]; done) | (simp [FDpa, *]; done) | (simp [FDpa, gotV]; done) | (simp [FDpa, gotV, *]; done)), fun h => absurd h (by decide)⟩
    | 7, _ =>
     injection ho with ho
     subst ho
     have e6 : vals 6 = .pointer (some ⟨b, 0, none⟩) := hf 6 (by decide) (by kernel_rfl)
     clear hf
     have hz1 := hgW.size
     have hlt1 := CurS.lt hT
     simp only [fillA, List.take, List.drop, put_none, Act.put, List.setIfInBounds_toArray, List.set_cons_zero, List.set_cons_succ, Nat.reduceAdd, e6]
     go_wp2_with (go_at_call 76; refine (c_pick b A cs cap (0 + 80 + 40 + 1 + 1 + 1 + 1 + 1 + k) 5 _ hT hby (by omega) hl (by omega)).mono ?_; rintro e w9 ⟨x9, rfl, hx9a, hx9b, hcu9, hg9⟩)
     exact RQO_of (.int .i64 x9) rfl (by first | rfl | (simp [gotV]; done) | (simp [gotV, *]; done)) ⟨hg9, CurS.mono hcu9 (by omega), ⟨x9, rfl, by omega, by omega⟩, fun h => absurd h (by decide)⟩
    | 8, _ =>
     injection ho with ho
     subst ho
     have e5 : vals 5 = .int .i64 y0 := hf 5 (by decide) (by kernel_rfl)
     obtain ⟨x7, e7, hxa7, hxb7⟩ := hf 7 (by decide) (by kernel_rfl)
     clear hf
     have hz1 := hgW.size
     have hlt1 := CurS.lt hT
     simp only [fillA, List.take, List.drop, put_none, Act.put, List.setIfInBounds_toArray, List.set_cons_zero, List.set_cons_succ, Nat.reduceAdd, e5, e7]
     go_wp2_with (fail)
     exact RQO_of (.int .i64 (y0 + x7)) rfl (by first | rfl | (simp [gotV]; done) | (simp [gotV]; omega)) ⟨World.grownBy.refl _ _, CurS.mono hT (by omega), ⟨_, rfl, by omega, by omega⟩, fun h => absurd h (by decide)⟩
    | 9, _ =>
     injection ho with ho
     subst ho
     obtain ⟨x8, e8, hxa8, hxb8⟩ := hf 8 (by decide) (by kernel_rfl)
     clear hf
     have hz1 := hgW.size
     have hlt1 := CurS.lt hT
     simp only [fillA, List.take, List.drop, put_none, Act.put, List.setIfInBounds_toArray, List.set_cons_zero, List.set_cons_succ, Nat.reduceAdd, e8]
     go_wp2_with (fail)
     exact RQO_of (.int .i64 (x8 - 2)) rfl (by first | rfl | (simp [gotV]; done) | (simp [gotV]; omega)) ⟨World.grownBy.refl _ _, CurS.mono hT (by omega), ⟨_, rfl, by omega, by omega⟩, fun h => absurd h (by decide)⟩
    | q + 10, h => exact absurd h (by omega)
   ·intro vals W5 hT hgW hf hd
    have e0 : vals 0 = .slice (some ⟨gp, 0, none⟩) pl.length c3 := hf 0 (by decide)
    have e1 : vals 1 = .int .i64 (k0 : Int) := hf 1 (by decide)
    have e2 : vals 2 = .slice (some ⟨gp, 0, none⟩) pl.length c3 := hf 2 (by decide)
    have e3 : vals 3 = .int .i64 (k0 : Int) := hf 3 (by decide)
    have e4 : vals 4 = .pointer (some ⟨gp, k0, none⟩) := hf 4 (by decide)
    have e5 : vals 5 = .int .i64 y0 := hf 5 (by decide)
    have e6 : vals 6 = .pointer (some ⟨b, 0, none⟩) := hf 6 (by decide)
    obtain ⟨x7, e7, hxa7, hxb7⟩ := hf 7 (by decide)
    obtain ⟨x8, e8, hxa8, hxb8⟩ := hf 8 (by decide)
    obtain ⟨x9, e9, hxa9, hxb9⟩ := hf 9 (by decide)
    clear hf hd
    simp only [fillA, List.take, List.drop, put_none, Act.put, List.setIfInBounds_toArray, List.set_cons_zero, List.set_cons_succ, Nat.reduceAdd, e0, e1, e2, e3, e4, e5, e6, e7, e8, e9]
    have hkW5 := hgW.size
    have c601 : W5.cell? ⟨w.heap.size, 0, none⟩ = some (.int .i64 0) := (cellRow hgW (w.heap.size) 0).trans (by rw [if_pos ⟨by omega, by omega⟩]; exact c591)
    have c602 : W5.cell? ⟨w.heap.size, 1, none⟩ = some (.slice none 0 0) := (cellRow hgW (w.heap.size) 1).trans (by rw [if_pos ⟨by omega, by omega⟩]; exact c592)
    have c603 : W5.cell? ⟨tb, 0, none⟩ = some (.int .i64 d) := (cellRow hgW (tb) 0).trans (by rw [if_pos ⟨by omega, by omega⟩]; exact c593)
    have c604 : W5.cell? ⟨tb, 1, none⟩ = some (.slice Af xs.length cf) := (cellRow hgW (tb) 1).trans (by rw [if_pos ⟨by omega, by omega⟩]; exact c594)
    have z605 : ∀ o, W5.frozen? ⟨w.heap.size, o, none⟩ = false := fun o => (frozRow hgW (w.heap.size) o).trans (by rw [if_pos ⟨by omega, by omega⟩]; exact z595 o)
    have R606 : Hid (FreshA cIv 2 50 (V1.heap.size) W5 Af cf xs) := hid (FreshA.rowb R596.out hgW (by omega))
    have R607 : Hid (FreshA cIn 1 3 (V419.heap.size) W5 Bq cq rs) := hid (FreshA.rowb R597.out hgW (by omega))
    have R608 : Hid (FreshA cIn 1 3 (W506.heap.size) W5 ((some ⟨gp, 0, none⟩)) c3 pl) := hid (FreshA.rowb R598.out hgW (by omega))
    have cu609 : CurS W5 b A cs cap (0 + 80 + 40 + 1 + 1 + 1 + 1 + 1 + 10) := hT
    have gw610 : w.grownBy W5 (some b) := grown_trans gw600 hgW
    have hzgw610 := gw610.size
    have hlcu609 := cu609.lt
    clear c591 c592 c593 c594 z595 R596 R597 R598 cu599 gw600
    clear hgW
    obtain ⟨gp', hge, hBp', hOp⟩ := FreshA.row R608.out h0
    cases hge
    obtain ⟨u0, hu0⟩ := hOp.cell k0 (by have := FreshA.capLe R608.out; omega)
    have hz0 := hOp.frozen k0
    have HOP := hid hOp
    clear hOp
    have hapA : ∀ a, Af = some a → a.block ≠ (⟨gp, k0, none⟩ : Addr).block := fun a ha => by have := HA0.out.hi a ha; show a.block ≠ gp; omega
    have hapB : ∀ a, Bq = some a → a.block ≠ (⟨gp, k0, none⟩ : Addr).block := fun a ha => by have := HB0.out.hi a ha; show a.block ≠ gp; omega
    go_wp2_with (fail)
    refine post_named ?_
    intro VP hV
    have r0 : VP.cell? ⟨w.heap.size, 0, none⟩ = some (.int .i64 d) := by rw [hV]; first | (simp [go_sem, ↓IntWalk.iteOmega, *]; done) | (simp [go_sem, ↓IntWalk.iteOmega, *]; intros; omega)
    have r1 : VP.cell? ⟨w.heap.size, 1, none⟩ = some (.slice Af xs.length cf) := by rw [hV]; first | (simp [go_sem, ↓IntWalk.iteOmega, *]; done) | (simp [go_sem, ↓IntWalk.iteOmega, *]; intros; omega)
    have hkVP : W5.heap.size ≤ VP.heap.size := by rw [hV]; first | with_reducible exact Nat.le_refl _ | (simp [World.setCell]; done) | (simp; omega)
    have RFN := hid (show FreshA cIn 1 3 (W506.heap.size) VP ((some ⟨gp, 0, none⟩)) c3 ((pl.set k0 x9)) by rw [hV]; refine FreshA.of_own1 ?_ (by omega); repeat' (first | with_reducible exact (OwnS.put11 HOP.out hk0) | with_reducible refine OwnS.set_far ?_ ?_ _ | (dsimp only; omega) | (simp; done)))
    have R611 : Hid (FreshA cIv 2 50 (V1.heap.size) VP Af cf xs) := hid (by rw [hV]; (repeat' (first | with_reducible exact R606.out | with_reducible refine FreshA.set_at ?_ (by assumption) _ | with_reducible refine FreshA.set_low ?_ ?_ _ | with_reducible refine FreshA.below ?_ (Below.drew (Below.refl _ _)) | with_reducible refine FreshA.below ?_ (Below.alloc (Below.refl _ _) (Nat.le_refl _) _) | (dsimp only; omega) | (simp; done) | (simp; omega))))
    have R612 : Hid (FreshA cIn 1 3 (V419.heap.size) VP Bq cq rs) := hid (by rw [hV]; (repeat' (first | with_reducible exact R607.out | with_reducible refine FreshA.set_at ?_ (by assumption) _ | with_reducible refine FreshA.set_low ?_ ?_ _ | with_reducible refine FreshA.below ?_ (Below.drew (Below.refl _ _)) | with_reducible refine FreshA.below ?_ (Below.alloc (Below.refl _ _) (Nat.le_refl _) _) | (dsimp only; omega) | (simp; done) | (simp; omega))))
    have gw614 : w.grownBy VP (some b) := by rw [hV]; (repeat' (first | with_reducible exact World.grownBy.refl _ _ | with_reducible exact gw610 | with_reducible refine grownA ?_ | with_reducible refine grownS ?_ ?_ | with_reducible refine grown_drew ?_ | (dsimp only; omega) | (simp; done) | omega))
    have hzgw614 := gw614.size
    clear R606 R607 cu609 gw610
    clear hV
    refine bodyPost_ret (v := .tuple #[.agg #[.int .i64 d, .slice Af xs.length cf], .slice Bq rs.length cq, .int .i64 pp, .slice ((some ⟨gp, 0, none⟩)) ((pl.set k0 x9)).length c3]) ?_ rfl ⟨d, Af, cf, xs, Bq, cq, rs, pp, ((some ⟨gp, 0, none⟩)), c3, ((pl.set k0 x9)), rfl, FreshA.mono R611.out (by omega), hxl, FreshA.mono R612.out (by omega), hrl, FreshA.mono RFN.out (by omega), by first | omega | (simp; omega), below_gw gw614 (by omega)⟩
    simp [results, Try.results43, go_sem, r0, r1]
  by_cases hq1 : dx550 = 1
  ·subst hq1
   go_wp2_with (fail)
   refine calls_named ?_
   intro V615 hV
   have hkV615 : W551.heap.size ≤ V615.heap.size := by rw [hV]; first | with_reducible exact Nat.le_refl _ | (simp [World.setCell]; done) | (simp; omega)
   have c616 : V615.cell? ⟨w.heap.size, 0, none⟩ = some (.int .i64 0) := by rw [hV]; first | ((repeat' (first | with_reducible exact c552 | with_reducible refine cellK_drew ?_ | with_reducible refine cellK_alloc ?_ | with_reducible refine cellK_set ?_ (by dsimp only; omega))); done) | (first | (simp [go_sem, ↓IntWalk.iteOmega, *]; done) | (simp [go_sem, ↓IntWalk.iteOmega, *]; intros; omega))
   have c617 : V615.cell? ⟨w.heap.size, 1, none⟩ = some (.slice none 0 0) := by rw [hV]; first | ((repeat' (first | with_reducible exact c553 | with_reducible refine cellK_drew ?_ | with_reducible refine cellK_alloc ?_ | with_reducible refine cellK_set ?_ (by dsimp only; omega))); done) | (first | (simp [go_sem, ↓IntWalk.iteOmega, *]; done) | (simp [go_sem, ↓IntWalk.iteOmega, *]; intros; omega))
   have c618 : V615.cell? ⟨tb, 0, none⟩ = some (.int .i64 d) := by rw [hV]; first | ((repeat' (first | with_reducible exact c554 | with_reducible refine cellK_drew ?_ | with_reducible refine cellK_alloc ?_ | with_reducible refine cellK_set ?_ (by dsimp only; omega))); done) | (first | (simp [go_sem, ↓IntWalk.iteOmega, *]; done) | (simp [go_sem, ↓IntWalk.iteOmega, *]; intros; omega))
   have c619 : V615.cell? ⟨tb, 1, none⟩ = some (.slice Af xs.length cf) := by rw [hV]; first | ((repeat' (first | with_reducible exact c555 | with_reducible refine cellK_drew ?_ | with_reducible refine cellK_alloc ?_ | with_reducible refine cellK_set ?_ (by dsimp only; omega))); done) | (first | (simp [go_sem, ↓IntWalk.iteOmega, *]; done) | (simp [go_sem, ↓IntWalk.iteOmega, *]; intros; omega))
   have z620 : ∀ o, V615.frozen? ⟨w.heap.size, o, none⟩ = false := by rw [hV]; first | ((repeat' (first | with_reducible exact z556 | with_reducible refine frozK_drew ?_ | with_reducible refine frozK_alloc ?_ | with_reducible refine frozK_set ?_)); done) | (intro o; first | (simp [go_sem, ↓IntWalk.iteOmega, *]; done) | (simp [go_sem, ↓IntWalk.iteOmega, *]; intros; omega))
   have R621 : Hid (FreshA cIv 2 50 (V1.heap.size) V615 Af cf xs) := hid (by rw [hV]; (repeat' (first | with_reducible exact R557.out | with_reducible refine FreshA.set_at ?_ (by assumption) _ | with_reducible refine FreshA.set_low ?_ ?_ _ | with_reducible refine FreshA.below ?_ (Below.drew (Below.refl _ _)) | with_reducible refine FreshA.below ?_ (Below.alloc (Below.refl _ _) (Nat.le_refl _) _) | (dsimp only; omega) | (simp; done) | (simp; omega))))
   have R622 : Hid (FreshA cIn 1 3 (V419.heap.size) V615 Bq cq rs) := hid (by rw [hV]; (repeat' (first | with_reducible exact R558.out | with_reducible refine FreshA.set_at ?_ (by assumption) _ | with_reducible refine FreshA.set_low ?_ ?_ _ | with_reducible refine FreshA.below ?_ (Below.drew (Below.refl _ _)) | with_reducible refine FreshA.below ?_ (Below.alloc (Below.refl _ _) (Nat.le_refl _) _) | (dsimp only; omega) | (simp; done) | (simp; omega))))
   have R623 : Hid (FreshA cIn 1 3 (W506.heap.size) V615 A3 c3 pl) := hid (by rw [hV]; (repeat' (first | with_reducible exact R559.out | with_reducible refine FreshA.set_at ?_ (by assumption) _ | with_reducible refine FreshA.set_low ?_ ?_ _ | with_reducible refine FreshA.below ?_ (Below.drew (Below.refl _ _)) | with_reducible refine FreshA.below ?_ (Below.alloc (Below.refl _ _) (Nat.le_refl _) _) | (dsimp only; omega) | (simp; done) | (simp; omega))))
   have cu624 : CurS V615 b A cs cap (0 + 80 + 40 + 1 + 1 + 1 + 1) := by rw [hV]; (repeat' (first | with_reducible refine CurS.setc ?_ ?_ | with_reducible refine CurS.allo ?_ | with_reducible refine CurS.drw ?_ | with_reducible exact cu560 | (dsimp only; omega) | (simp; done) | (simp; omega)))
   have gw625 : w.grownBy V615 (some b) := by rw [hV]; (repeat' (first | with_reducible exact World.grownBy.refl _ _ | with_reducible exact gw561 | with_reducible refine grownA ?_ | with_reducible refine grownS ?_ ?_ | with_reducible refine grown_drew ?_ | (dsimp only; omega) | (simp; done) | omega))
   have hzgw625 := gw625.size
   have hlcu624 := cu624.lt
   clear c552 c553 c554 c555 z556 R557 R558 R559 cu560 gw561
   clear hV
   refine (c_pick b A cs cap (0 + 80 + 40 + 1 + 1 + 1 + 1) (100) _ cu624 hby (by omega) hl (by omega)).mono ?_
   rintro e W627 ⟨dx626, rfl, hdx626a, hdx626b, hcn, hg⟩
   have hkW627 := hg.size
   have c628 : W627.cell? ⟨w.heap.size, 0, none⟩ = some (.int .i64 0) := (cellRow hg (w.heap.size) 0).trans (by rw [if_pos ⟨by omega, by omega⟩]; exact c616)
   have c629 : W627.cell? ⟨w.heap.size, 1, none⟩ = some (.slice none 0 0) := (cellRow hg (w.heap.size) 1).trans (by rw [if_pos ⟨by omega, by omega⟩]; exact c617)
   have c630 : W627.cell? ⟨tb, 0, none⟩ = some (.int .i64 d) := (cellRow hg (tb) 0).trans (by rw [if_pos ⟨by omega, by omega⟩]; exact c618)
   have c631 : W627.cell? ⟨tb, 1, none⟩ = some (.slice Af xs.length cf) := (cellRow hg (tb) 1).trans (by rw [if_pos ⟨by omega, by omega⟩]; exact c619)
   have z632 : ∀ o, W627.frozen? ⟨w.heap.size, o, none⟩ = false := fun o => (frozRow hg (w.heap.size) o).trans (by rw [if_pos ⟨by omega, by omega⟩]; exact z620 o)
   have R633 : Hid (FreshA cIv 2 50 (V1.heap.size) W627 Af cf xs) := hid (FreshA.rowb R621.out hg (by omega))
   have R634 : Hid (FreshA cIn 1 3 (V419.heap.size) W627 Bq cq rs) := hid (FreshA.rowb R622.out hg (by omega))
   have R635 : Hid (FreshA cIn 1 3 (W506.heap.size) W627 A3 c3 pl) := hid (FreshA.rowb R623.out hg (by omega))
   have cu636 : CurS W627 b A cs cap (0 + 80 + 40 + 1 + 1 + 1 + 1 + 1) := hcn
   have gw637 : w.grownBy W627 (some b) := grown_trans gw625 hg
   have hzgw637 := gw637.size
   have hlcu636 := cu636.lt
   clear c616 c617 c618 c619 z620 R621 R622 R623 cu624 gw625
   clear hg
   go_wp2_with (at_builtin; refine wlist_named ?_)
   intro V638 hV
   have hkV638 : W627.heap.size ≤ V638.heap.size := by rw [hV]; first | with_reducible exact Nat.le_refl _ | (simp [World.setCell]; done) | (simp; omega)
   have c639 : V638.cell? ⟨w.heap.size, 0, none⟩ = some (.int .i64 0) := by rw [hV]; first | ((repeat' (first | with_reducible exact c628 | with_reducible refine cellK_drew ?_ | with_reducible refine cellK_alloc ?_ | with_reducible refine cellK_set ?_ (by dsimp only; omega))); done) | (first | (simp [go_sem, ↓IntWalk.iteOmega, *]; done) | (simp [go_sem, ↓IntWalk.iteOmega, *]; intros; omega))
   have c640 : V638.cell? ⟨w.heap.size, 1, none⟩ = some (.slice none 0 0) := by rw [hV]; first | ((repeat' (first | with_reducible exact c629 | with_reducible refine cellK_drew ?_ | with_reducible refine cellK_alloc ?_ | with_reducible refine cellK_set ?_ (by dsimp only; omega))); done) | (first | (simp [go_sem, ↓IntWalk.iteOmega, *]; done) | (simp [go_sem, ↓IntWalk.iteOmega, *]; intros; omega))
   have c641 : V638.cell? ⟨tb, 0, none⟩ = some (.int .i64 d) := by rw [hV]; first | ((repeat' (first | with_reducible exact c630 | with_reducible refine cellK_drew ?_ | with_reducible refine cellK_alloc ?_ | with_reducible refine cellK_set ?_ (by dsimp only; omega))); done) | (first | (simp [go_sem, ↓IntWalk.iteOmega, *]; done) | (simp [go_sem, ↓IntWalk.iteOmega, *]; intros; omega))
   have c642 : V638.cell? ⟨tb, 1, none⟩ = some (.slice Af xs.length cf) := by rw [hV]; first | ((repeat' (first | with_reducible exact c631 | with_reducible refine cellK_drew ?_ | with_reducible refine cellK_alloc ?_ | with_reducible refine cellK_set ?_ (by dsimp only; omega))); done) | (first | (simp [go_sem, ↓IntWalk.iteOmega, *]; done) | (simp [go_sem, ↓IntWalk.iteOmega, *]; intros; omega))
   have z643 : ∀ o, V638.frozen? ⟨w.heap.size, o, none⟩ = false := by rw [hV]; first | ((repeat' (first | with_reducible exact z632 | with_reducible refine frozK_drew ?_ | with_reducible refine frozK_alloc ?_ | with_reducible refine frozK_set ?_)); done) | (intro o; first | (simp [go_sem, ↓IntWalk.iteOmega, *]; done) | (simp [go_sem, ↓IntWalk.iteOmega, *]; intros; omega))
   have R644 : Hid (FreshA cIv 2 50 (V1.heap.size) V638 Af cf xs) := hid (by rw [hV]; (repeat' (first | with_reducible exact R633.out | with_reducible refine FreshA.set_at ?_ (by assumption) _ | with_reducible refine FreshA.set_low ?_ ?_ _ | with_reducible refine FreshA.below ?_ (Below.drew (Below.refl _ _)) | with_reducible refine FreshA.below ?_ (Below.alloc (Below.refl _ _) (Nat.le_refl _) _) | (dsimp only; omega) | (simp; done) | (simp; omega))))
   have R645 : Hid (FreshA cIn 1 3 (V419.heap.size) V638 Bq cq rs) := hid (by rw [hV]; (repeat' (first | with_reducible exact R634.out | with_reducible refine FreshA.set_at ?_ (by assumption) _ | with_reducible refine FreshA.set_low ?_ ?_ _ | with_reducible refine FreshA.below ?_ (Below.drew (Below.refl _ _)) | with_reducible refine FreshA.below ?_ (Below.alloc (Below.refl _ _) (Nat.le_refl _) _) | (dsimp only; omega) | (simp; done) | (simp; omega))))
   have R646 : Hid (FreshA cIn 1 3 (W506.heap.size) V638 A3 c3 pl) := hid (by rw [hV]; (repeat' (first | with_reducible exact R635.out | with_reducible refine FreshA.set_at ?_ (by assumption) _ | with_reducible refine FreshA.set_low ?_ ?_ _ | with_reducible refine FreshA.below ?_ (Below.drew (Below.refl _ _)) | with_reducible refine FreshA.below ?_ (Below.alloc (Below.refl _ _) (Nat.le_refl _) _) | (dsimp only; omega) | (simp; done) | (simp; omega))))
   have cu647 : CurS V638 b A cs cap (0 + 80 + 40 + 1 + 1 + 1 + 1 + 1) := by rw [hV]; (repeat' (first | with_reducible refine CurS.setc ?_ ?_ | with_reducible refine CurS.allo ?_ | with_reducible refine CurS.drw ?_ | with_reducible exact cu636 | (dsimp only; omega) | (simp; done) | (simp; omega)))
   have gw648 : w.grownBy V638 (some b) := by rw [hV]; (repeat' (first | with_reducible exact World.grownBy.refl _ _ | with_reducible exact gw637 | with_reducible refine grownA ?_ | with_reducible refine grownS ?_ ?_ | with_reducible refine grown_drew ?_ | (dsimp only; omega) | (simp; done) | omega))
   have hzgw648 := gw648.size
   have hlcu647 := cu647.lt
   clear c628 c629 c630 c631 z632 R633 R634 R635 cu636 gw637
   refine wpList_pushesR (xs := pl) rfl (.tmp 64) (.tmp 68) 40 rfl 3 i0 _ 8 Try.underlying40 hI0 hI1 hI2 hI3 rfl (by decide) (fun _ => rfl) one_In _ rfl rfl R646.out [200 + dx626] 1 rfl _ _ rfl (by rw [hV]; exact Rds.of_lit (by simp) (by intro i x h; rcases i with _ | i <;> simp at h ⊢ <;> first | exact h | omega)) (by unfold maxLen; omega) (by first | omega | (simp; omega)) (by omega) ?_
   intro A5 cp5 W6 hF3 hg3 hat3
   clear hV
   have hkW6 := hg3.size
   have hlo := R646.out.lo
   have c649 : W6.cell? ⟨w.heap.size, 0, none⟩ = some (.int .i64 0) := (World.cell?_of_block (a := ⟨w.heap.size, 0, none⟩) (hg3.block (w.heap.size) (by omega) (ne_blk hlo (by omega)))).trans c639
   have c650 : W6.cell? ⟨w.heap.size, 1, none⟩ = some (.slice none 0 0) := (World.cell?_of_block (a := ⟨w.heap.size, 1, none⟩) (hg3.block (w.heap.size) (by omega) (ne_blk hlo (by omega)))).trans c640
   have c651 : W6.cell? ⟨tb, 0, none⟩ = some (.int .i64 d) := (World.cell?_of_block (a := ⟨tb, 0, none⟩) (hg3.block (tb) (by omega) (ne_blk hlo (by omega)))).trans c641
   have c652 : W6.cell? ⟨tb, 1, none⟩ = some (.slice Af xs.length cf) := (World.cell?_of_block (a := ⟨tb, 1, none⟩) (hg3.block (tb) (by omega) (ne_blk hlo (by omega)))).trans c642
   have z653 : ∀ o, W6.frozen? ⟨w.heap.size, o, none⟩ = false := fun o => (World.frozen?_of_block (a := ⟨w.heap.size, o, none⟩) (hg3.block (w.heap.size) (by omega) (ne_blk hlo (by omega)))).trans (z643 o)
   have R654 : Hid (FreshA cIv 2 50 (V1.heap.size) W6 Af cf xs) := hid (FreshA.grown R644.out hg3 (FreshA.apl HA0.out R646.out (Nat.le_refl _)))
   have R655 : Hid (FreshA cIn 1 3 (V419.heap.size) W6 Bq cq rs) := hid (FreshA.grown R645.out hg3 (FreshA.apl HB0.out R646.out (Nat.le_refl _)))
   have R656 : Hid (FreshA cIn 1 3 (W506.heap.size) W6 A5 cp5 (pl ++ [200 + dx626])) := hid (hF3)
   have cu657 : CurS W6 b A cs cap (0 + 80 + 40 + 1 + 1 + 1 + 1 + 1) := CurS.other cu647 hg3 hlo (by omega)
   have gw658 : w.grownBy W6 (some b) := grown_other gw648 hg3 (hlo.mono (by omega))
   have hzgw658 := gw658.size
   have hlcu657 := cu657.lt
   clear c639 c640 c641 c642 z643 R644 R645 R646 cu647 gw648
   clear hlo
   clear hF3 hg3 hat3
   have hl5 : (pl ++ [200 + dx626]).length = pl.length + 1 := by simp
   go_wp2_with (fail)
   refine post_named ?_
   intro VP hV
   have r0 : VP.cell? ⟨w.heap.size, 0, none⟩ = some (.int .i64 d) := by rw [hV]; first | (simp [go_sem, ↓IntWalk.iteOmega, *]; done) | (simp [go_sem, ↓IntWalk.iteOmega, *]; intros; omega)
   have r1 : VP.cell? ⟨w.heap.size, 1, none⟩ = some (.slice Af xs.length cf) := by rw [hV]; first | (simp [go_sem, ↓IntWalk.iteOmega, *]; done) | (simp [go_sem, ↓IntWalk.iteOmega, *]; intros; omega)
   have hkVP : W6.heap.size ≤ VP.heap.size := by rw [hV]; first | with_reducible exact Nat.le_refl _ | (simp [World.setCell]; done) | (simp; omega)
   have R659 : Hid (FreshA cIv 2 50 (V1.heap.size) VP Af cf xs) := hid (by rw [hV]; (repeat' (first | with_reducible exact R654.out | with_reducible refine FreshA.set_at ?_ (by assumption) _ | with_reducible refine FreshA.set_low ?_ ?_ _ | with_reducible refine FreshA.below ?_ (Below.drew (Below.refl _ _)) | with_reducible refine FreshA.below ?_ (Below.alloc (Below.refl _ _) (Nat.le_refl _) _) | (dsimp only; omega) | (simp; done) | (simp; omega))))
   have R660 : Hid (FreshA cIn 1 3 (V419.heap.size) VP Bq cq rs) := hid (by rw [hV]; (repeat' (first | with_reducible exact R655.out | with_reducible refine FreshA.set_at ?_ (by assumption) _ | with_reducible refine FreshA.set_low ?_ ?_ _ | with_reducible refine FreshA.below ?_ (Below.drew (Below.refl _ _)) | with_reducible refine FreshA.below ?_ (Below.alloc (Below.refl _ _) (Nat.le_refl _) _) | (dsimp only; omega) | (simp; done) | (simp; omega))))
   have R661 : Hid (FreshA cIn 1 3 (W506.heap.size) VP A5 cp5 (pl ++ [200 + dx626])) := hid (by rw [hV]; (repeat' (first | with_reducible exact R656.out | with_reducible refine FreshA.set_at ?_ (by assumption) _ | with_reducible refine FreshA.set_low ?_ ?_ _ | with_reducible refine FreshA.below ?_ (Below.drew (Below.refl _ _)) | with_reducible refine FreshA.below ?_ (Below.alloc (Below.refl _ _) (Nat.le_refl _) _) | (dsimp only; omega) | (simp; done) | (simp; omega))))
   have gw663 : w.grownBy VP (some b) := by rw [hV]; (repeat' (first | with_reducible exact World.grownBy.refl _ _ | with_reducible exact gw658 | with_reducible refine grownA ?_ | with_reducible refine grownS ?_ ?_ | with_reducible refine grown_drew ?_ | (dsimp only; omega) | (simp; done) | omega))
   have hzgw663 := gw663.size
   clear R654 R655 R656 cu657 gw658
   clear hV
   refine bodyPost_ret (v := .tuple #[.agg #[.int .i64 d, .slice Af xs.length cf], .slice Bq rs.length cq, .int .i64 pp, .slice A5 ((pl ++ [200 + dx626])).length cp5]) ?_ rfl ⟨d, Af, cf, xs, Bq, cq, rs, pp, A5, cp5, ((pl ++ [200 + dx626])), rfl, FreshA.mono R659.out (by omega), hxl, FreshA.mono R660.out (by omega), hrl, FreshA.mono R661.out (by omega), by first | omega | (simp; omega), below_gw gw663 (by omega)⟩
   simp [results, Try.results43, go_sem, r0, r1]
  go_wp2_with (fail)
  refine post_named ?_
  intro VP hV
  have r0 : VP.cell? ⟨w.heap.size, 0, none⟩ = some (.int .i64 d) := by rw [hV]; first | (simp [go_sem, ↓IntWalk.iteOmega, *]; done) | (simp [go_sem, ↓IntWalk.iteOmega, *]; intros; omega)
  have r1 : VP.cell? ⟨w.heap.size, 1, none⟩ = some (.slice Af xs.length cf) := by rw [hV]; first | (simp [go_sem, ↓IntWalk.iteOmega, *]; done) | (simp [go_sem, ↓IntWalk.iteOmega, *]; intros; omega)
  have hkVP : W551.heap.size ≤ VP.heap.size := by rw [hV]; first | with_reducible exact Nat.le_refl _ | (simp [World.setCell]; done) | (simp; omega)
  have R664 : Hid (FreshA cIv 2 50 (V1.heap.size) VP Af cf xs) := hid (by rw [hV]; (repeat' (first | with_reducible exact R557.out | with_reducible refine FreshA.set_at ?_ (by assumption) _ | with_reducible refine FreshA.set_low ?_ ?_ _ | with_reducible refine FreshA.below ?_ (Below.drew (Below.refl _ _)) | with_reducible refine FreshA.below ?_ (Below.alloc (Below.refl _ _) (Nat.le_refl _) _) | (dsimp only; omega) | (simp; done) | (simp; omega))))
  have R665 : Hid (FreshA cIn 1 3 (V419.heap.size) VP Bq cq rs) := hid (by rw [hV]; (repeat' (first | with_reducible exact R558.out | with_reducible refine FreshA.set_at ?_ (by assumption) _ | with_reducible refine FreshA.set_low ?_ ?_ _ | with_reducible refine FreshA.below ?_ (Below.drew (Below.refl _ _)) | with_reducible refine FreshA.below ?_ (Below.alloc (Below.refl _ _) (Nat.le_refl _) _) | (dsimp only; omega) | (simp; done) | (simp; omega))))
  have R666 : Hid (FreshA cIn 1 3 (W506.heap.size) VP A3 c3 pl) := hid (by rw [hV]; (repeat' (first | with_reducible exact R559.out | with_reducible refine FreshA.set_at ?_ (by assumption) _ | with_reducible refine FreshA.set_low ?_ ?_ _ | with_reducible refine FreshA.below ?_ (Below.drew (Below.refl _ _)) | with_reducible refine FreshA.below ?_ (Below.alloc (Below.refl _ _) (Nat.le_refl _) _) | (dsimp only; omega) | (simp; done) | (simp; omega))))
  have gw668 : w.grownBy VP (some b) := by rw [hV]; (repeat' (first | with_reducible exact World.grownBy.refl _ _ | with_reducible exact gw561 | with_reducible refine grownA ?_ | with_reducible refine grownS ?_ ?_ | with_reducible refine grown_drew ?_ | (dsimp only; omega) | (simp; done) | omega))
  have hzgw668 := gw668.size
  clear R557 R558 R559 cu560 gw561
  clear hV
  refine bodyPost_ret (v := .tuple #[.agg #[.int .i64 d, .slice Af xs.length cf], .slice Bq rs.length cq, .int .i64 pp, .slice A3 pl.length c3]) ?_ rfl ⟨d, Af, cf, xs, Bq, cq, rs, pp, A3, c3, pl, rfl, FreshA.mono R664.out (by omega), hxl, FreshA.mono R665.out (by omega), hrl, FreshA.mono R666.out (by omega), by first | omega | (simp; omega), below_gw gw668 (by omega)⟩
  simp [results, Try.results43, go_sem, r0, r1]
 have hpb := few_bd HFV.out
 have hpl8 : q.length ≤ 8 := by omega
 clear HFV
 have HA0 := hid (R466.out); have HB0 := hid (R467.out)
 go_wp2_with (at_builtin; refine wlist_named ?_)
 intro V669 hV
 have hkV669 : W460.heap.size ≤ V669.heap.size := by rw [hV]; first | with_reducible exact Nat.le_refl _ | (simp [World.setCell]; done) | (simp; omega)
 have c670 : V669.cell? ⟨w.heap.size, 0, none⟩ = some (.int .i64 0) := by rw [hV]; first | ((repeat' (first | with_reducible exact c461 | with_reducible refine cellK_drew ?_ | with_reducible refine cellK_alloc ?_ | with_reducible refine cellK_set ?_ (by dsimp only; omega))); done) | (first | (simp [go_sem, ↓IntWalk.iteOmega, *]; done) | (simp [go_sem, ↓IntWalk.iteOmega, *]; intros; omega))
 have c671 : V669.cell? ⟨w.heap.size, 1, none⟩ = some (.slice none 0 0) := by rw [hV]; first | ((repeat' (first | with_reducible exact c462 | with_reducible refine cellK_drew ?_ | with_reducible refine cellK_alloc ?_ | with_reducible refine cellK_set ?_ (by dsimp only; omega))); done) | (first | (simp [go_sem, ↓IntWalk.iteOmega, *]; done) | (simp [go_sem, ↓IntWalk.iteOmega, *]; intros; omega))
 have c672 : V669.cell? ⟨tb, 0, none⟩ = some (.int .i64 d) := by rw [hV]; first | ((repeat' (first | with_reducible exact c463 | with_reducible refine cellK_drew ?_ | with_reducible refine cellK_alloc ?_ | with_reducible refine cellK_set ?_ (by dsimp only; omega))); done) | (first | (simp [go_sem, ↓IntWalk.iteOmega, *]; done) | (simp [go_sem, ↓IntWalk.iteOmega, *]; intros; omega))
 have c673 : V669.cell? ⟨tb, 1, none⟩ = some (.slice Af xs.length cf) := by rw [hV]; first | ((repeat' (first | with_reducible exact c464 | with_reducible refine cellK_drew ?_ | with_reducible refine cellK_alloc ?_ | with_reducible refine cellK_set ?_ (by dsimp only; omega))); done) | (first | (simp [go_sem, ↓IntWalk.iteOmega, *]; done) | (simp [go_sem, ↓IntWalk.iteOmega, *]; intros; omega))
 have z674 : ∀ o, V669.frozen? ⟨w.heap.size, o, none⟩ = false := by rw [hV]; first | ((repeat' (first | with_reducible exact z465 | with_reducible refine frozK_drew ?_ | with_reducible refine frozK_alloc ?_ | with_reducible refine frozK_set ?_)); done) | (intro o; first | (simp [go_sem, ↓IntWalk.iteOmega, *]; done) | (simp [go_sem, ↓IntWalk.iteOmega, *]; intros; omega))
 have R675 : Hid (FreshA cIv 2 50 (V1.heap.size) V669 Af cf xs) := hid (by rw [hV]; (repeat' (first | with_reducible exact R466.out | with_reducible refine FreshA.set_at ?_ (by assumption) _ | with_reducible refine FreshA.set_low ?_ ?_ _ | with_reducible refine FreshA.below ?_ (Below.drew (Below.refl _ _)) | with_reducible refine FreshA.below ?_ (Below.alloc (Below.refl _ _) (Nat.le_refl _) _) | (dsimp only; omega) | (simp; done) | (simp; omega))))
 have R676 : Hid (FreshA cIn 1 3 (V419.heap.size) V669 Bq cq rs) := hid (by rw [hV]; (repeat' (first | with_reducible exact R467.out | with_reducible refine FreshA.set_at ?_ (by assumption) _ | with_reducible refine FreshA.set_low ?_ ?_ _ | with_reducible refine FreshA.below ?_ (Below.drew (Below.refl _ _)) | with_reducible refine FreshA.below ?_ (Below.alloc (Below.refl _ _) (Nat.le_refl _) _) | (dsimp only; omega) | (simp; done) | (simp; omega))))
 have R677 : Hid (FreshA cIn 1 3 (V450.heap.size) V669 A10 c10 q) := hid (by rw [hV]; (repeat' (first | with_reducible exact S470.out | with_reducible refine FreshA.set_at ?_ (by assumption) _ | with_reducible refine FreshA.set_low ?_ ?_ _ | with_reducible refine FreshA.below ?_ (Below.drew (Below.refl _ _)) | with_reducible refine FreshA.below ?_ (Below.alloc (Below.refl _ _) (Nat.le_refl _) _) | (dsimp only; omega) | (simp; done) | (simp; omega))))
 have cu678 : CurS V669 b A cs cap (0 + 80 + 40 + 1) := by rw [hV]; (repeat' (first | with_reducible refine CurS.setc ?_ ?_ | with_reducible refine CurS.allo ?_ | with_reducible refine CurS.drw ?_ | with_reducible exact cu468 | (dsimp only; omega) | (simp; done) | (simp; omega)))
 have gw679 : w.grownBy V669 (some b) := by rw [hV]; (repeat' (first | with_reducible exact World.grownBy.refl _ _ | with_reducible exact gw469 | with_reducible refine grownA ?_ | with_reducible refine grownS ?_ ?_ | with_reducible refine grown_drew ?_ | (dsimp only; omega) | (simp; done) | omega))
 have hzgw679 := gw679.size
 have hlcu678 := cu678.lt
 clear c461 c462 c463 c464 z465 R466 R467 S470 cu468 gw469
 have S680 : Hid (FreshA cIn 1 3 (W460.heap.size) V669 ((some ⟨W460.heap.size, 0, none⟩)) 0 (([] : List Int))) := hid (by rw [hV]; first | exact FreshA.newq rfl (by first | omega | (simp; done) | (simp; omega)) | exact FreshA.newq (by first | rfl | simp) (by first | omega | (simp; done) | (simp; omega)))
 refine wpList_pushesR (xs := ([] : List Int)) rfl (.tmp 37) (.tmp 38) 40 rfl 3 i0 _ 8 Try.underlying40 hI0 hI1 hI2 hI3 rfl (by decide) (fun _ => rfl) one_In _ rfl rfl S680.out q _ rfl _ _ rfl ((R677.out).rds) (by unfold maxLen; first | omega | (simp; done) | (simp; omega)) (by first | omega | (simp; done) | (simp; omega)) (by first | omega | (simp; done) | (simp; omega)) ?_
 intro A3 c3 W3 hF3 hg3 hat3
 clear hV
 simp only [List.nil_append] at hF3
 have hkW3 := hg3.size
 have hlo := S680.out.lo
 have c681 : W3.cell? ⟨w.heap.size, 0, none⟩ = some (.int .i64 0) := (World.cell?_of_block (a := ⟨w.heap.size, 0, none⟩) (hg3.block (w.heap.size) (by omega) (ne_blk hlo (by omega)))).trans c670
 have c682 : W3.cell? ⟨w.heap.size, 1, none⟩ = some (.slice none 0 0) := (World.cell?_of_block (a := ⟨w.heap.size, 1, none⟩) (hg3.block (w.heap.size) (by omega) (ne_blk hlo (by omega)))).trans c671
 have c683 : W3.cell? ⟨tb, 0, none⟩ = some (.int .i64 d) := (World.cell?_of_block (a := ⟨tb, 0, none⟩) (hg3.block (tb) (by omega) (ne_blk hlo (by omega)))).trans c672
 have c684 : W3.cell? ⟨tb, 1, none⟩ = some (.slice Af xs.length cf) := (World.cell?_of_block (a := ⟨tb, 1, none⟩) (hg3.block (tb) (by omega) (ne_blk hlo (by omega)))).trans c673
 have z685 : ∀ o, W3.frozen? ⟨w.heap.size, o, none⟩ = false := fun o => (World.frozen?_of_block (a := ⟨w.heap.size, o, none⟩) (hg3.block (w.heap.size) (by omega) (ne_blk hlo (by omega)))).trans (z674 o)
 have R686 : Hid (FreshA cIv 2 50 (V1.heap.size) W3 Af cf xs) := hid (FreshA.grown R675.out hg3 (FreshA.apl HA0.out S680.out (Nat.le_refl _)))
 have R687 : Hid (FreshA cIn 1 3 (V419.heap.size) W3 Bq cq rs) := hid (FreshA.grown R676.out hg3 (FreshA.apl HB0.out S680.out (Nat.le_refl _)))
 have R688 : Hid (FreshA cIn 1 3 (W460.heap.size) W3 A3 c3 q) := hid (hF3)
 have cu689 : CurS W3 b A cs cap (0 + 80 + 40 + 1) := CurS.other cu678 hg3 hlo (by omega)
 have gw690 : w.grownBy W3 (some b) := grown_other gw679 hg3 (hlo.mono (by omega))
 have hzgw690 := gw690.size
 have hlcu689 := cu689.lt
 clear c670 c671 c672 c673 z674 R675 R676 S680 cu678 gw679
 clear hlo
 clear hF3 hg3 hat3
 have hb3 : b < W460.heap.size := by omega
 generalize hpl : q = pl at *
 clear hpl
 go_wp2_with (fail)
 refine calls_named ?_
 intro V691 hV
 have hkV691 : W3.heap.size ≤ V691.heap.size := by rw [hV]; first | with_reducible exact Nat.le_refl _ | (simp [World.setCell]; done) | (simp; omega)
 have c692 : V691.cell? ⟨w.heap.size, 0, none⟩ = some (.int .i64 0) := by rw [hV]; first | ((repeat' (first | with_reducible exact c681 | with_reducible refine cellK_drew ?_ | with_reducible refine cellK_alloc ?_ | with_reducible refine cellK_set ?_ (by dsimp only; omega))); done) | (first | (simp [go_sem, ↓IntWalk.iteOmega, *]; done) | (simp [go_sem, ↓IntWalk.iteOmega, *]; intros; omega))
 have c693 : V691.cell? ⟨w.heap.size, 1, none⟩ = some (.slice none 0 0) := by rw [hV]; first | ((repeat' (first | with_reducible exact c682 | with_reducible refine cellK_drew ?_ | with_reducible refine cellK_alloc ?_ | with_reducible refine cellK_set ?_ (by dsimp only; omega))); done) | (first | (simp [go_sem, ↓IntWalk.iteOmega, *]; done) | (simp [go_sem, ↓IntWalk.iteOmega, *]; intros; omega))
 have c694 : V691.cell? ⟨tb, 0, none⟩ = some (.int .i64 d) := by rw [hV]; first | ((repeat' (first | with_reducible exact c683 | with_reducible refine cellK_drew ?_ | with_reducible refine cellK_alloc ?_ | with_reducible refine cellK_set ?_ (by dsimp only; omega))); done) | (first | (simp [go_sem, ↓IntWalk.iteOmega, *]; done) | (simp [go_sem, ↓IntWalk.iteOmega, *]; intros; omega))
 have c695 : V691.cell? ⟨tb, 1, none⟩ = some (.slice Af xs.length cf) := by rw [hV]; first | ((repeat' (first | with_reducible exact c684 | with_reducible refine cellK_drew ?_ | with_reducible refine cellK_alloc ?_ | with_reducible refine cellK_set ?_ (by dsimp only; omega))); done) | (first | (simp [go_sem, ↓IntWalk.iteOmega, *]; done) | (simp [go_sem, ↓IntWalk.iteOmega, *]; intros; omega))
 have z696 : ∀ o, V691.frozen? ⟨w.heap.size, o, none⟩ = false := by rw [hV]; first | ((repeat' (first | with_reducible exact z685 | with_reducible refine frozK_drew ?_ | with_reducible refine frozK_alloc ?_ | with_reducible refine frozK_set ?_)); done) | (intro o; first | (simp [go_sem, ↓IntWalk.iteOmega, *]; done) | (simp [go_sem, ↓IntWalk.iteOmega, *]; intros; omega))
 have R697 : Hid (FreshA cIv 2 50 (V1.heap.size) V691 Af cf xs) := hid (by rw [hV]; (repeat' (first | with_reducible exact R686.out | with_reducible refine FreshA.set_at ?_ (by assumption) _ | with_reducible refine FreshA.set_low ?_ ?_ _ | with_reducible refine FreshA.below ?_ (Below.drew (Below.refl _ _)) | with_reducible refine FreshA.below ?_ (Below.alloc (Below.refl _ _) (Nat.le_refl _) _) | (dsimp only; omega) | (simp; done) | (simp; omega))))
 have R698 : Hid (FreshA cIn 1 3 (V419.heap.size) V691 Bq cq rs) := hid (by rw [hV]; (repeat' (first | with_reducible exact R687.out | with_reducible refine FreshA.set_at ?_ (by assumption) _ | with_reducible refine FreshA.set_low ?_ ?_ _ | with_reducible refine FreshA.below ?_ (Below.drew (Below.refl _ _)) | with_reducible refine FreshA.below ?_ (Below.alloc (Below.refl _ _) (Nat.le_refl _) _) | (dsimp only; omega) | (simp; done) | (simp; omega))))
 have R699 : Hid (FreshA cIn 1 3 (W460.heap.size) V691 A3 c3 pl) := hid (by rw [hV]; (repeat' (first | with_reducible exact R688.out | with_reducible refine FreshA.set_at ?_ (by assumption) _ | with_reducible refine FreshA.set_low ?_ ?_ _ | with_reducible refine FreshA.below ?_ (Below.drew (Below.refl _ _)) | with_reducible refine FreshA.below ?_ (Below.alloc (Below.refl _ _) (Nat.le_refl _) _) | (dsimp only; omega) | (simp; done) | (simp; omega))))
 have cu700 : CurS V691 b A cs cap (0 + 80 + 40 + 1) := by rw [hV]; (repeat' (first | with_reducible refine CurS.setc ?_ ?_ | with_reducible refine CurS.allo ?_ | with_reducible refine CurS.drw ?_ | with_reducible exact cu689 | (dsimp only; omega) | (simp; done) | (simp; omega)))
 have gw701 : w.grownBy V691 (some b) := by rw [hV]; (repeat' (first | with_reducible exact World.grownBy.refl _ _ | with_reducible exact gw690 | with_reducible refine grownA ?_ | with_reducible refine grownS ?_ ?_ | with_reducible refine grown_drew ?_ | (dsimp only; omega) | (simp; done) | omega))
 have hzgw701 := gw701.size
 have hlcu700 := cu700.lt
 clear c681 c682 c683 c684 z685 R686 R687 R688 cu689 gw690
 clear hV
 refine (c_pick b A cs cap (0 + 80 + 40 + 1) (6) _ cu700 hby (by omega) hl (by omega)).mono ?_
 rintro e W703 ⟨dx702, rfl, hdx702a, hdx702b, hcn, hg⟩
 have hkW703 := hg.size
 have c704 : W703.cell? ⟨w.heap.size, 0, none⟩ = some (.int .i64 0) := (cellRow hg (w.heap.size) 0).trans (by rw [if_pos ⟨by omega, by omega⟩]; exact c692)
 have c705 : W703.cell? ⟨w.heap.size, 1, none⟩ = some (.slice none 0 0) := (cellRow hg (w.heap.size) 1).trans (by rw [if_pos ⟨by omega, by omega⟩]; exact c693)
 have c706 : W703.cell? ⟨tb, 0, none⟩ = some (.int .i64 d) := (cellRow hg (tb) 0).trans (by rw [if_pos ⟨by omega, by omega⟩]; exact c694)
 have c707 : W703.cell? ⟨tb, 1, none⟩ = some (.slice Af xs.length cf) := (cellRow hg (tb) 1).trans (by rw [if_pos ⟨by omega, by omega⟩]; exact c695)
 have z708 : ∀ o, W703.frozen? ⟨w.heap.size, o, none⟩ = false := fun o => (frozRow hg (w.heap.size) o).trans (by rw [if_pos ⟨by omega, by omega⟩]; exact z696 o)
 have R709 : Hid (FreshA cIv 2 50 (V1.heap.size) W703 Af cf xs) := hid (FreshA.rowb R697.out hg (by omega))
 have R710 : Hid (FreshA cIn 1 3 (V419.heap.size) W703 Bq cq rs) := hid (FreshA.rowb R698.out hg (by omega))
 have R711 : Hid (FreshA cIn 1 3 (W460.heap.size) W703 A3 c3 pl) := hid (FreshA.rowb R699.out hg (by omega))
 have cu712 : CurS W703 b A cs cap (0 + 80 + 40 + 1 + 1) := hcn
 have gw713 : w.grownBy W703 (some b) := grown_trans gw701 hg
 have hzgw713 := gw713.size
 have hlcu712 := cu712.lt
 clear c692 c693 c694 c695 z696 R697 R698 R699 cu700 gw701
 clear hg
 by_cases hq0 : dx702 = 0
 ·subst hq0
  by_cases h0 : 0 < pl.length
  rotate_left
  ·go_wp2_with (fail)
   refine post_named ?_
   intro VP hV
   have r0 : VP.cell? ⟨w.heap.size, 0, none⟩ = some (.int .i64 d) := by rw [hV]; first | (simp [go_sem, ↓IntWalk.iteOmega, *]; done) | (simp [go_sem, ↓IntWalk.iteOmega, *]; intros; omega)
   have r1 : VP.cell? ⟨w.heap.size, 1, none⟩ = some (.slice Af xs.length cf) := by rw [hV]; first | (simp [go_sem, ↓IntWalk.iteOmega, *]; done) | (simp [go_sem, ↓IntWalk.iteOmega, *]; intros; omega)
   have hkVP : W703.heap.size ≤ VP.heap.size := by rw [hV]; first | with_reducible exact Nat.le_refl _ | (simp [World.setCell]; done) | (simp; omega)
   have R714 : Hid (FreshA cIv 2 50 (V1.heap.size) VP Af cf xs) := hid (by rw [hV]; (repeat' (first | with_reducible exact R709.out | with_reducible refine FreshA.set_at ?_ (by assumption) _ | with_reducible refine FreshA.set_low ?_ ?_ _ | with_reducible refine FreshA.below ?_ (Below.drew (Below.refl _ _)) | with_reducible refine FreshA.below ?_ (Below.alloc (Below.refl _ _) (Nat.le_refl _) _) | (dsimp only; omega) | (simp; done) | (simp; omega))))
   have R715 : Hid (FreshA cIn 1 3 (V419.heap.size) VP Bq cq rs) := hid (by rw [hV]; (repeat' (first | with_reducible exact R710.out | with_reducible refine FreshA.set_at ?_ (by assumption) _ | with_reducible refine FreshA.set_low ?_ ?_ _ | with_reducible refine FreshA.below ?_ (Below.drew (Below.refl _ _)) | with_reducible refine FreshA.below ?_ (Below.alloc (Below.refl _ _) (Nat.le_refl _) _) | (dsimp only; omega) | (simp; done) | (simp; omega))))
   have R716 : Hid (FreshA cIn 1 3 (W460.heap.size) VP A3 c3 pl) := hid (by rw [hV]; (repeat' (first | with_reducible exact R711.out | with_reducible refine FreshA.set_at ?_ (by assumption) _ | with_reducible refine FreshA.set_low ?_ ?_ _ | with_reducible refine FreshA.below ?_ (Below.drew (Below.refl _ _)) | with_reducible refine FreshA.below ?_ (Below.alloc (Below.refl _ _) (Nat.le_refl _) _) | (dsimp only; omega) | (simp; done) | (simp; omega))))
   have gw718 : w.grownBy VP (some b) := by rw [hV]; (repeat' (first | with_reducible exact World.grownBy.refl _ _ | with_reducible exact gw713 | with_reducible refine grownA ?_ | with_reducible refine grownS ?_ ?_ | with_reducible refine grown_drew ?_ | (dsimp only; omega) | (simp; done) | omega))
   have hzgw718 := gw718.size
   clear R709 R710 R711 cu712 gw713
   clear hV
   refine bodyPost_ret (v := .tuple #[.agg #[.int .i64 d, .slice Af xs.length cf], .slice Bq rs.length cq, .int .i64 pp, .slice A3 pl.length c3]) ?_ rfl ⟨d, Af, cf, xs, Bq, cq, rs, pp, A3, c3, pl, rfl, FreshA.mono R714.out (by omega), hxl, FreshA.mono R715.out (by omega), hrl, FreshA.mono R716.out (by omega), by first | omega | (simp; omega), below_gw gw718 (by omega)⟩
   simp [results, Try.results43, go_sem, r0, r1]
  obtain ⟨gp, rfl, hBp, hOp⟩ := FreshA.row R711.out h0
  clear hOp
  go_wp2_with (fail)
  refine calls_named ?_
  intro V719 hV
  have hkV719 : W703.heap.size ≤ V719.heap.size := by rw [hV]; first | with_reducible exact Nat.le_refl _ | (simp [World.setCell]; done) | (simp; omega)
  have c720 : V719.cell? ⟨w.heap.size, 0, none⟩ = some (.int .i64 0) := by rw [hV]; first | ((repeat' (first | with_reducible exact c704 | with_reducible refine cellK_drew ?_ | with_reducible refine cellK_alloc ?_ | with_reducible refine cellK_set ?_ (by dsimp only; omega))); done) | (first | (simp [go_sem, ↓IntWalk.iteOmega, *]; done) | (simp [go_sem, ↓IntWalk.iteOmega, *]; intros; omega))
  have c721 : V719.cell? ⟨w.heap.size, 1, none⟩ = some (.slice none 0 0) := by rw [hV]; first | ((repeat' (first | with_reducible exact c705 | with_reducible refine cellK_drew ?_ | with_reducible refine cellK_alloc ?_ | with_reducible refine cellK_set ?_ (by dsimp only; omega))); done) | (first | (simp [go_sem, ↓IntWalk.iteOmega, *]; done) | (simp [go_sem, ↓IntWalk.iteOmega, *]; intros; omega))
  have c722 : V719.cell? ⟨tb, 0, none⟩ = some (.int .i64 d) := by rw [hV]; first | ((repeat' (first | with_reducible exact c706 | with_reducible refine cellK_drew ?_ | with_reducible refine cellK_alloc ?_ | with_reducible refine cellK_set ?_ (by dsimp only; omega))); done) | (first | (simp [go_sem, ↓IntWalk.iteOmega, *]; done) | (simp [go_sem, ↓IntWalk.iteOmega, *]; intros; omega))
  have c723 : V719.cell? ⟨tb, 1, none⟩ = some (.slice Af xs.length cf) := by rw [hV]; first | ((repeat' (first | with_reducible exact c707 | with_reducible refine cellK_drew ?_ | with_reducible refine cellK_alloc ?_ | with_reducible refine cellK_set ?_ (by dsimp only; omega))); done) | (first | (simp [go_sem, ↓IntWalk.iteOmega, *]; done) | (simp [go_sem, ↓IntWalk.iteOmega, *]; intros; omega))
  have z724 : ∀ o, V719.frozen? ⟨w.heap.size, o, none⟩ = false := by rw [hV]; first | ((repeat' (first | with_reducible exact z708 | with_reducible refine frozK_drew ?_ | with_reducible refine frozK_alloc ?_ | with_reducible refine frozK_set ?_)); done) | (intro o; first | (simp [go_sem, ↓IntWalk.iteOmega, *]; done) | (simp [go_sem, ↓IntWalk.iteOmega, *]; intros; omega))
  have R725 : Hid (FreshA cIv 2 50 (V1.heap.size) V719 Af cf xs) := hid (by rw [hV]; (repeat' (first | with_reducible exact R709.out | with_reducible refine FreshA.set_at ?_ (by assumption) _ | with_reducible refine FreshA.set_low ?_ ?_ _ | with_reducible refine FreshA.below ?_ (Below.drew (Below.refl _ _)) | with_reducible refine FreshA.below ?_ (Below.alloc (Below.refl _ _) (Nat.le_refl _) _) | (dsimp only; omega) | (simp; done) | (simp; omega))))
  have R726 : Hid (FreshA cIn 1 3 (V419.heap.size) V719 Bq cq rs) := hid (by rw [hV]; (repeat' (first | with_reducible exact R710.out | with_reducible refine FreshA.set_at ?_ (by assumption) _ | with_reducible refine FreshA.set_low ?_ ?_ _ | with_reducible refine FreshA.below ?_ (Below.drew (Below.refl _ _)) | with_reducible refine FreshA.below ?_ (Below.alloc (Below.refl _ _) (Nat.le_refl _) _) | (dsimp only; omega) | (simp; done) | (simp; omega))))
  have R727 : Hid (FreshA cIn 1 3 (W460.heap.size) V719 ((some ⟨gp, 0, none⟩)) c3 pl) := hid (by rw [hV]; (repeat' (first | with_reducible exact R711.out | with_reducible refine FreshA.set_at ?_ (by assumption) _ | with_reducible refine FreshA.set_low ?_ ?_ _ | with_reducible refine FreshA.below ?_ (Below.drew (Below.refl _ _)) | with_reducible refine FreshA.below ?_ (Below.alloc (Below.refl _ _) (Nat.le_refl _) _) | (dsimp only; omega) | (simp; done) | (simp; omega))))
  have cu728 : CurS V719 b A cs cap (0 + 80 + 40 + 1 + 1) := by rw [hV]; (repeat' (first | with_reducible refine CurS.setc ?_ ?_ | with_reducible refine CurS.allo ?_ | with_reducible refine CurS.drw ?_ | with_reducible exact cu712 | (dsimp only; omega) | (simp; done) | (simp; omega)))
  have gw729 : w.grownBy V719 (some b) := by rw [hV]; (repeat' (first | with_reducible exact World.grownBy.refl _ _ | with_reducible exact gw713 | with_reducible refine grownA ?_ | with_reducible refine grownS ?_ ?_ | with_reducible refine grown_drew ?_ | (dsimp only; omega) | (simp; done) | omega))
  have hzgw729 := gw729.size
  have hlcu728 := cu728.lt
  clear c704 c705 c706 c707 z708 R709 R710 R711 cu712 gw713
  clear hV
  refine (c_pick b A cs cap (0 + 80 + 40 + 1 + 1) _ _ cu728 hby (by omega) hl (by omega)).mono ?_
  rintro e W731 ⟨dx730, rfl, hdx730a, hdx730b, hcn, hg⟩
  have hkW731 := hg.size
  have c732 : W731.cell? ⟨w.heap.size, 0, none⟩ = some (.int .i64 0) := (cellRow hg (w.heap.size) 0).trans (by rw [if_pos ⟨by omega, by omega⟩]; exact c720)
  have c733 : W731.cell? ⟨w.heap.size, 1, none⟩ = some (.slice none 0 0) := (cellRow hg (w.heap.size) 1).trans (by rw [if_pos ⟨by omega, by omega⟩]; exact c721)
  have c734 : W731.cell? ⟨tb, 0, none⟩ = some (.int .i64 d) := (cellRow hg (tb) 0).trans (by rw [if_pos ⟨by omega, by omega⟩]; exact c722)
  have c735 : W731.cell? ⟨tb, 1, none⟩ = some (.slice Af xs.length cf) := (cellRow hg (tb) 1).trans (by rw [if_pos ⟨by omega, by omega⟩]; exact c723)
  have z736 : ∀ o, W731.frozen? ⟨w.heap.size, o, none⟩ = false := fun o => (frozRow hg (w.heap.size) o).trans (by rw [if_pos ⟨by omega, by omega⟩]; exact z724 o)
  have R737 : Hid (FreshA cIv 2 50 (V1.heap.size) W731 Af cf xs) := hid (FreshA.rowb R725.out hg (by omega))
  have R738 : Hid (FreshA cIn 1 3 (V419.heap.size) W731 Bq cq rs) := hid (FreshA.rowb R726.out hg (by omega))
  have R739 : Hid (FreshA cIn 1 3 (W460.heap.size) W731 ((some ⟨gp, 0, none⟩)) c3 pl) := hid (FreshA.rowb R727.out hg (by omega))
  have cu740 : CurS W731 b A cs cap (0 + 80 + 40 + 1 + 1 + 1) := hcn
  have gw741 : w.grownBy W731 (some b) := grown_trans gw729 hg
  have hzgw741 := gw741.size
  have hlcu740 := cu740.lt
  clear c720 c721 c722 c723 z724 R725 R726 R727 cu728 gw729
  clear hg
  obtain ⟨k0, rfl⟩ : ∃ k : Nat, dx730 = k := ⟨dx730.toNat, by omega⟩
  have hk0 : k0 < pl.length := by omega
  go_wp2_with (fail)
  refine wp_named ?_
  intro V742 hV
  have hkV742 : W731.heap.size ≤ V742.heap.size := by rw [hV]; first | with_reducible exact Nat.le_refl _ | (simp [World.setCell]; done) | (simp; omega)
  have c743 : V742.cell? ⟨w.heap.size, 0, none⟩ = some (.int .i64 0) := by rw [hV]; first | ((repeat' (first | with_reducible exact c732 | with_reducible refine cellK_drew ?_ | with_reducible refine cellK_alloc ?_ | with_reducible refine cellK_set ?_ (by dsimp only; omega))); done) | (first | (simp [go_sem, ↓IntWalk.iteOmega, *]; done) | (simp [go_sem, ↓IntWalk.iteOmega, *]; intros; omega))
  have c744 : V742.cell? ⟨w.heap.size, 1, none⟩ = some (.slice none 0 0) := by rw [hV]; first | ((repeat' (first | with_reducible exact c733 | with_reducible refine cellK_drew ?_ | with_reducible refine cellK_alloc ?_ | with_reducible refine cellK_set ?_ (by dsimp only; omega))); done) | (first | (simp [go_sem, ↓IntWalk.iteOmega, *]; done) | (simp [go_sem, ↓IntWalk.iteOmega, *]; intros; omega))
  have c745 : V742.cell? ⟨tb, 0, none⟩ = some (.int .i64 d) := by rw [hV]; first | ((repeat' (first | with_reducible exact c734 | with_reducible refine cellK_drew ?_ | with_reducible refine cellK_alloc ?_ | with_reducible refine cellK_set ?_ (by dsimp only; omega))); done) | (first | (simp [go_sem, ↓IntWalk.iteOmega, *]; done) | (simp [go_sem, ↓IntWalk.iteOmega, *]; intros; omega))
  have c746 : V742.cell? ⟨tb, 1, none⟩ = some (.slice Af xs.length cf) := by rw [hV]; first | ((repeat' (first | with_reducible exact c735 | with_reducible refine cellK_drew ?_ | with_reducible refine cellK_alloc ?_ | with_reducible refine cellK_set ?_ (by dsimp only; omega))); done) | (first | (simp [go_sem, ↓IntWalk.iteOmega, *]; done) | (simp [go_sem, ↓IntWalk.iteOmega, *]; intros; omega))
  have z747 : ∀ o, V742.frozen? ⟨w.heap.size, o, none⟩ = false := by rw [hV]; first | ((repeat' (first | with_reducible exact z736 | with_reducible refine frozK_drew ?_ | with_reducible refine frozK_alloc ?_ | with_reducible refine frozK_set ?_)); done) | (intro o; first | (simp [go_sem, ↓IntWalk.iteOmega, *]; done) | (simp [go_sem, ↓IntWalk.iteOmega, *]; intros; omega))
  have R748 : Hid (FreshA cIv 2 50 (V1.heap.size) V742 Af cf xs) := hid (by rw [hV]; (repeat' (first | with_reducible exact R737.out | with_reducible refine FreshA.set_at ?_ (by assumption) _ | with_reducible refine FreshA.set_low ?_ ?_ _ | with_reducible refine FreshA.below ?_ (Below.drew (Below.refl _ _)) | with_reducible refine FreshA.below ?_ (Below.alloc (Below.refl _ _) (Nat.le_refl _) _) | (dsimp only; omega) | (simp; done) | (simp; omega))))
  have R749 : Hid (FreshA cIn 1 3 (V419.heap.size) V742 Bq cq rs) := hid (by rw [hV]; (repeat' (first | with_reducible exact R738.out | with_reducible refine FreshA.set_at ?_ (by assumption) _ | with_reducible refine FreshA.set_low ?_ ?_ _ | with_reducible refine FreshA.below ?_ (Below.drew (Below.refl _ _)) | with_reducible refine FreshA.below ?_ (Below.alloc (Below.refl _ _) (Nat.le_refl _) _) | (dsimp only; omega) | (simp; done) | (simp; omega))))
  have R750 : Hid (FreshA cIn 1 3 (W460.heap.size) V742 ((some ⟨gp, 0, none⟩)) c3 pl) := hid (by rw [hV]; (repeat' (first | with_reducible exact R739.out | with_reducible refine FreshA.set_at ?_ (by assumption) _ | with_reducible refine FreshA.set_low ?_ ?_ _ | with_reducible refine FreshA.below ?_ (Below.drew (Below.refl _ _)) | with_reducible refine FreshA.below ?_ (Below.alloc (Below.refl _ _) (Nat.le_refl _) _) | (dsimp only; omega) | (simp; done) | (simp; omega))))
  have cu751 : CurS V742 b A cs cap (0 + 80 + 40 + 1 + 1 + 1) := by rw [hV]; (repeat' (first | with_reducible refine CurS.setc ?_ ?_ | with_reducible refine CurS.allo ?_ | with_reducible refine CurS.drw ?_ | with_reducible exact cu740 | (dsimp only; omega) | (simp; done) | (simp; omega)))
  have gw752 : w.grownBy V742 (some b) := by rw [hV]; (repeat' (first | with_reducible exact World.grownBy.refl _ _ | with_reducible exact gw741 | with_reducible refine grownA ?_ | with_reducible refine grownS ?_ ?_ | with_reducible refine grown_drew ?_ | (dsimp only; omega) | (simp; done) | omega))
  have hzgw752 := gw752.size
  have hlcu751 := cu751.lt
  clear c732 c733 c734 c735 z736 R737 R738 R739 cu740 gw741
  clear hV
  obtain ⟨b9, o9, hge9, hb9, hc9⟩ := (R750.out).rds k0 pl[k0] (List.getElem?_eq_getElem hk0)
  cases hge9
  have hy0 := hc9 0 _ rfl
  have hyb := hpb k0 hk0
  simp only [Nat.add_zero, Nat.mul_one, Nat.zero_add] at hy0
  clear hc9
  generalize pl[k0] = y0 at hy0 hyb
  have hgb : b < gp := by omega
  refine wp_region_c (n := 10) b (fun k w' => CurS w' b A cs cap (0 + 80 + 40 + 1 + 1 + 1 + k)) [] (FDpb b gp k0 pl.length c3 y0) rfl (by kernel_rfl) (fun _ _ d _ _ h => by cases d <;> exact h) (CurS.mono (CurS.drw cu751) (by omega)) ?_ (fun i hi => absurd hi (by simp)) ?_ ?_
  ·intro iq v w1 w2 hF hg
   match iq with
   | 0 => exact hF
   | 1 => exact hF
   | 2 => exact hF
   | 3 => exact hF
   | 4 => exact hF
   | 5 => exact hF
   | 6 => exact hF
   | 7 => exact hF
   | 8 => exact hF
   | 9 => exact hF
   | q + 10 => exact (show True from trivial)
  ·intro iq o hi ho vals k w1 hk hT hgW hf
   match iq, hi with
   | 0, _ =>
    injection ho with ho
    subst ho
    clear hf
    have hz1 := hgW.size
    have hlt1 := CurS.lt hT
    simp only [fillA, List.take, List.drop, put_none, Act.put, List.setIfInBounds_toArray, List.set_cons_zero, List.set_cons_succ, Nat.reduceAdd]
    go_wp2_with (fail)
    exact ⟨rfl, rfl, World.grownBy.refl _ _, CurS.mono hT (by omega), (by first | rfl | (simp [FDpb]; done) | (simp [FDpb, *]; done) | (simp [FDpb, gotV]; done) | (simp [FDpb, gotV, *]; done)), fun h => absurd h (by decide)⟩
   | 1, _ =>
    injection ho with ho
    subst ho
    clear hf
    have hz1 := hgW.size
    have hlt1 := CurS.lt hT
    simp only [fillA, List.take, List.drop, put_none, Act.put, List.setIfInBounds_toArray, List.set_cons_zero, List.set_cons_succ, Nat.reduceAdd]
    go_wp2_with (fail)
    exact ⟨rfl, rfl, World.grownBy.refl _ _, CurS.mono hT (by omega), (by first | rfl | (simp [FDpb]; done) | (simp [FDpb, *]; done) | (simp [FDpb, gotV]; done) | (simp [FDpb, gotV, *]; done)), fun h => absurd h (by decide)⟩
   | 2, _ =>
    injection ho with ho
    subst ho
    clear hf
    have hz1 := hgW.size
    have hlt1 := CurS.lt hT
    simp only [fillA, List.take, List.drop, put_none, Act.put, List.setIfInBounds_toArray, List.set_cons_zero, List.set_cons_succ, Nat.reduceAdd]
    go_wp2_with (fail)
    exact ⟨rfl, rfl, World.grownBy.refl _ _, CurS.mono hT (by omega), (by first | rfl | (simp [FDpb]; done) | (simp [FDpb, *]; done) | (simp [FDpb, gotV]; done) | (simp [FDpb, gotV, *]; done)), fun h => absurd h (by decide)⟩
   | 3, _ =>
    injection ho with ho
    subst ho
    clear hf
    have hz1 := hgW.size
    have hlt1 := CurS.lt hT
    simp only [fillA, List.take, List.drop, put_none, Act.put, List.setIfInBounds_toArray, List.set_cons_zero, List.set_cons_succ, Nat.reduceAdd]
    go_wp2_with (fail)
    exact ⟨rfl, rfl, World.grownBy.refl _ _, CurS.mono hT (by omega), (by first | rfl | (simp [FDpb]; done) | (simp [FDpb, *]; done) | (simp [FDpb, gotV]; done) | (simp [FDpb, gotV, *]; done)), fun h => absurd h (by decide)⟩
   | 4, _ =>
    injection ho with ho
    subst ho
    have e2 : vals 2 = .slice (some ⟨gp, 0, none⟩) pl.length c3 := hf 2 (by decide) (by kernel_rfl)
    have e3 : vals 3 = .int .i64 (k0 : Int) := hf 3 (by decide) (by kernel_rfl)
    clear hf
    have hz1 := hgW.size
    have hlt1 := CurS.lt hT
    simp only [fillA, List.take, List.drop, put_none, Act.put, List.setIfInBounds_toArray, List.set_cons_zero, List.set_cons_succ, Nat.reduceAdd, e2, e3]
    go_wp2_with (fail)
    exact ⟨rfl, rfl, World.grownBy.refl _ _, CurS.mono hT (by omega), (by first | rfl | (simp [FDpb]; done) | (simp [FDpb, *]; done) | (simp [FDpb, gotV]; done) | (simp [FDpb, gotV, *]; done)), fun h => absurd h (by decide)⟩
   | 5, _ =>
    injection ho with ho
    subst ho
    have e4 : vals 4 = .pointer (some ⟨gp, k0, none⟩) := hf 4 (by decide) (by kernel_rfl)
    clear hf
    have hz1 := hgW.size
    have hlt1 := CurS.lt hT
    simp only [fillA, List.take, List.drop, put_none, Act.put, List.setIfInBounds_toArray, List.set_cons_zero, List.set_cons_succ, Nat.reduceAdd, e4]
    have k0 : w1.cell? ⟨gp, k0, none⟩ = some (.int .i64 y0) := (cellRow hgW (gp) k0).trans (by rw [if_pos ⟨by omega, by omega⟩]; exact hy0)
    go_wp2_with (fail)
    exact ⟨rfl, rfl, World.grownBy.refl _ _, CurS.mono hT (by omega), (by first | rfl | (simp [FDpb]; done) | (simp [FDpb, *]; done) | (simp [FDpb, gotV]; done) | (simp [FDpb, gotV, *]; done)), fun h => absurd h (by decide)⟩
   | 6, _ =>
    injection ho with ho
    subst ho
    clear hf
    have hz1 := hgW.size
    have hlt1 := CurS.lt hT
    simp only [fillA, List.take, List.drop, put_none, Act.put, List.setIfInBounds_toArray, List.set_cons_zero, List.set_cons_succ, Nat.reduceAdd]
    go_wp2_with (fail)
    exact ⟨rfl, rfl, World.grownBy.refl _ _, CurS.mono hT (by omega), (by first | rfl | (simp [FDpb]; done) | (simp [FDpb, *]; done) | (simp [FDpb, gotV]; done) | (simp [FDpb, gotV, *]; done)), fun h => absurd h (by decide)⟩
   | 7, _ =>
    injection ho with ho
    subst ho
    have e6 : vals 6 = .pointer (some ⟨b, 0, none⟩) := hf 6 (by decide) (by kernel_rfl)
    clear hf
    have hz1 := hgW.size
    have hlt1 := CurS.lt hT
    simp only [fillA, List.take, List.drop, put_none, Act.put, List.setIfInBounds_toArray, List.set_cons_zero, List.set_cons_succ, Nat.reduceAdd, e6]
    go_wp2_with (go_at_call 76; refine (c_pick b A cs cap (0 + 80 + 40 + 1 + 1 + 1 + k) 5 _ hT hby (by omega) hl (by omega)).mono ?_; rintro e w9 ⟨x9, rfl, hx9a, hx9b, hcu9, hg9⟩)
    exact RQO_of (.int .i64 x9) rfl (by first | rfl | (simp [gotV]; done) | (simp [gotV, *]; done)) ⟨hg9, CurS.mono hcu9 (by omega), ⟨x9, rfl, by omega, by omega⟩, fun h => absurd h (by decide)⟩
   | 8, _ =>
    injection ho with ho
    subst ho
    have e5 : vals 5 = .int .i64 y0 := hf 5 (by decide) (by kernel_rfl)
    obtain ⟨x7, e7, hxa7, hxb7⟩ := hf 7 (by decide) (by kernel_rfl)
    clear hf
    have hz1 := hgW.size
    have hlt1 := CurS.lt hT
    simp only [fillA, List.take, List.drop, put_none, Act.put, List.setIfInBounds_toArray, List.set_cons_zero, List.set_cons_succ, Nat.reduceAdd, e5, e7]
    go_wp2_with (fail)
    exact RQO_of (.int .i64 (y0 + x7)) rfl (by first | rfl | (simp [gotV]; done) | (simp [gotV]; omega)) ⟨World.grownBy.refl _ _, CurS.mono hT (by omega), ⟨_, rfl, by omega, by omega⟩, fun h => absurd h (by decide)⟩
   | 9, _ =>
    injection ho with ho
    subst ho
    obtain ⟨x8, e8, hxa8, hxb8⟩ := hf 8 (by decide) (by kernel_rfl)
    clear hf
    have hz1 := hgW.size
    have hlt1 := CurS.lt hT
    simp only [fillA, List.take, List.drop, put_none, Act.put, List.setIfInBounds_toArray, List.set_cons_zero, List.set_cons_succ, Nat.reduceAdd, e8]
    go_wp2_with (fail)
    exact RQO_of (.int .i64 (x8 - 2)) rfl (by first | rfl | (simp [gotV]; done) | (simp [gotV]; omega)) ⟨World.grownBy.refl _ _, CurS.mono hT (by omega), ⟨_, rfl, by omega, by omega⟩, fun h => absurd h (by decide)⟩
   | q + 10, h => exact absurd h (by omega)
  ·intro vals W5 hT hgW hf hd
   have e0 : vals 0 = .slice (some ⟨gp, 0, none⟩) pl.length c3 := hf 0 (by decide)
   have e1 : vals 1 = .int .i64 (k0 : Int) := hf 1 (by decide)
   have e2 : vals 2 = .slice (some ⟨gp, 0, none⟩) pl.length c3 := hf 2 (by decide)
   have e3 : vals 3 = .int .i64 (k0 : Int) := hf 3 (by decide)
   have e4 : vals 4 = .pointer (some ⟨gp, k0, none⟩) := hf 4 (by decide)
   have e5 : vals 5 = .int .i64 y0 := hf 5 (by decide)
   have e6 : vals 6 = .pointer (some ⟨b, 0, none⟩) := hf 6 (by decide)
   obtain ⟨x7, e7, hxa7, hxb7⟩ := hf 7 (by decide)
   obtain ⟨x8, e8, hxa8, hxb8⟩ := hf 8 (by decide)
   obtain ⟨x9, e9, hxa9, hxb9⟩ := hf 9 (by decide)
   clear hf hd
   simp only [fillA, List.take, List.drop, put_none, Act.put, List.setIfInBounds_toArray, List.set_cons_zero, List.set_cons_succ, Nat.reduceAdd, e0, e1, e2, e3, e4, e5, e6, e7, e8, e9]
   have hkW5 := hgW.size
   have c753 : W5.cell? ⟨w.heap.size, 0, none⟩ = some (.int .i64 0) := (cellRow hgW (w.heap.size) 0).trans (by rw [if_pos ⟨by omega, by omega⟩]; exact c743)
   have c754 : W5.cell? ⟨w.heap.size, 1, none⟩ = some (.slice none 0 0) := (cellRow hgW (w.heap.size) 1).trans (by rw [if_pos ⟨by omega, by omega⟩]; exact c744)
   have c755 : W5.cell? ⟨tb, 0, none⟩ = some (.int .i64 d) := (cellRow hgW (tb) 0).trans (by rw [if_pos ⟨by omega, by omega⟩]; exact c745)
   have c756 : W5.cell? ⟨tb, 1, none⟩ = some (.slice Af xs.length cf) := (cellRow hgW (tb) 1).trans (by rw [if_pos ⟨by omega, by omega⟩]; exact c746)
   have z757 : ∀ o, W5.frozen? ⟨w.heap.size, o, none⟩ = false := fun o => (frozRow hgW (w.heap.size) o).trans (by rw [if_pos ⟨by omega, by omega⟩]; exact z747 o)
   have R758 : Hid (FreshA cIv 2 50 (V1.heap.size) W5 Af cf xs) := hid (FreshA.rowb R748.out hgW (by omega))
   have R759 : Hid (FreshA cIn 1 3 (V419.heap.size) W5 Bq cq rs) := hid (FreshA.rowb R749.out hgW (by omega))
   have R760 : Hid (FreshA cIn 1 3 (W460.heap.size) W5 ((some ⟨gp, 0, none⟩)) c3 pl) := hid (FreshA.rowb R750.out hgW (by omega))
   have cu761 : CurS W5 b A cs cap (0 + 80 + 40 + 1 + 1 + 1 + 10) := hT
   have gw762 : w.grownBy W5 (some b) := grown_trans gw752 hgW
   have hzgw762 := gw762.size
   have hlcu761 := cu761.lt
   clear c743 c744 c745 c746 z747 R748 R749 R750 cu751 gw752
   clear hgW
   obtain ⟨gp', hge, hBp', hOp⟩ := FreshA.row R760.out h0
   cases hge
   obtain ⟨u0, hu0⟩ := hOp.cell k0 (by have := FreshA.capLe R760.out; omega)
   have hz0 := hOp.frozen k0
   have HOP := hid hOp
   clear hOp
   have hapA : ∀ a, Af = some a → a.block ≠ (⟨gp, k0, none⟩ : Addr).block := fun a ha => by have := HA0.out.hi a ha; show a.block ≠ gp; omega
   have hapB : ∀ a, Bq = some a → a.block ≠ (⟨gp, k0, none⟩ : Addr).block := fun a ha => by have := HB0.out.hi a ha; show a.block ≠ gp; omega
   go_wp2_with (fail)
   refine post_named ?_
   intro VP hV
   have r0 : VP.cell? ⟨w.heap.size, 0, none⟩ = some (.int .i64 d) := by rw [hV]; first | (simp [go_sem, ↓IntWalk.iteOmega, *]; done) | (simp [go_sem, ↓IntWalk.iteOmega, *]; intros; omega)
   have r1 : VP.cell? ⟨w.heap.size, 1, none⟩ = some (.slice Af xs.length cf) := by rw [hV]; first | (simp [go_sem, ↓IntWalk.iteOmega, *]; done) | (simp [go_sem, ↓IntWalk.iteOmega, *]; intros; omega)
   have hkVP : W5.heap.size ≤ VP.heap.size := by rw [hV]; first | with_reducible exact Nat.le_refl _ | (simp [World.setCell]; done) | (simp; omega)
   have RFN := hid (show FreshA cIn 1 3 (W460.heap.size) VP ((some ⟨gp, 0, none⟩)) c3 ((pl.set k0 x9)) by rw [hV]; refine FreshA.of_own1 ?_ (by omega); repeat' (first | with_reducible exact (OwnS.put11 HOP.out hk0) | with_reducible refine OwnS.set_far ?_ ?_ _ | (dsimp only; omega) | (simp; done)))
   have R763 : Hid (FreshA cIv 2 50 (V1.heap.size) VP Af cf xs) := hid (by rw [hV]; (repeat' (first | with_reducible exact R758.out | with_reducible refine FreshA.set_at ?_ (by assumption) _ | with_reducible refine FreshA.set_low ?_ ?_ _ | with_reducible refine FreshA.below ?_ (Below.drew (Below.refl _ _)) | with_reducible refine FreshA.below ?_ (Below.alloc (Below.refl _ _) (Nat.le_refl _) _) | (dsimp only; omega) | (simp; done) | (simp; omega))))
   have R764 : Hid (FreshA cIn 1 3 (V419.heap.size) VP Bq cq rs) := hid (by rw [hV]; (repeat' (first | with_reducible exact R759.out | with_reducible refine FreshA.set_at ?_ (by assumption) _ | with_reducible refine FreshA.set_low ?_ ?_ _ | with_reducible refine FreshA.below ?_ (Below.drew (Below.refl _ _)) | with_reducible refine FreshA.below ?_ (Below.alloc (Below.refl _ _) (Nat.le_refl _) _) | (dsimp only; omega) | (simp; done) | (simp; omega))))
   have gw766 : w.grownBy VP (some b) := by rw [hV]; (repeat' (first | with_reducible exact World.grownBy.refl _ _ | with_reducible exact gw762 | with_reducible refine grownA ?_ | with_reducible refine grownS ?_ ?_ | with_reducible refine grown_drew ?_ | (dsimp only; omega) | (simp; done) | omega))
   have hzgw766 := gw766.size
   clear R758 R759 cu761 gw762
   clear hV
   refine bodyPost_ret (v := .tuple #[.agg #[.int .i64 d, .slice Af xs.length cf], .slice Bq rs.length cq, .int .i64 pp, .slice ((some ⟨gp, 0, none⟩)) ((pl.set k0 x9)).length c3]) ?_ rfl ⟨d, Af, cf, xs, Bq, cq, rs, pp, ((some ⟨gp, 0, none⟩)), c3, ((pl.set k0 x9)), rfl, FreshA.mono R763.out (by omega), hxl, FreshA.mono R764.out (by omega), hrl, FreshA.mono RFN.out (by omega), by first | omega | (simp; omega), below_gw gw766 (by omega)⟩
   simp [results, Try.results43, go_sem, r0, r1]
 by_cases hq1 : dx702 = 1
 ·subst hq1
  go_wp2_with (fail)
  refine calls_named ?_
  intro V767 hV
  have hkV767 : W703.heap.size ≤ V767.heap.size := by rw [hV]; first | with_reducible exact Nat.le_refl _ | (simp [World.setCell]; done) | (simp; omega)
  have c768 : V767.cell? ⟨w.heap.size, 0, none⟩ = some (.int .i64 0) := by rw [hV]; first | ((repeat' (first | with_reducible exact c704 | with_reducible refine cellK_drew ?_ | with_reducible refine cellK_alloc ?_ | with_reducible refine cellK_set ?_ (by dsimp only; omega))); done) | (first | (simp [go_sem, ↓IntWalk.iteOmega, *]; done) | (simp [go_sem, ↓IntWalk.iteOmega, *]; intros; omega))
  have c769 : V767.cell? ⟨w.heap.size, 1, none⟩ = some (.slice none 0 0) := by rw [hV]; first | ((repeat' (first | with_reducible exact c705 | with_reducible refine cellK_drew ?_ | with_reducible refine cellK_alloc ?_ | with_reducible refine cellK_set ?_ (by dsimp only; omega))); done) | (first | (simp [go_sem, ↓IntWalk.iteOmega, *]; done) | (simp [go_sem, ↓IntWalk.iteOmega, *]; intros; omega))
  have c770 : V767.cell? ⟨tb, 0, none⟩ = some (.int .i64 d) := by rw [hV]; first | ((repeat' (first | with_reducible exact c706 | with_reducible refine cellK_drew ?_ | with_reducible refine cellK_alloc ?_ | with_reducible refine cellK_set ?_ (by dsimp only; omega))); done) | (first | (simp [go_sem, ↓IntWalk.iteOmega, *]; done) | (simp [go_sem, ↓IntWalk.iteOmega, *]; intros; omega))
  have c771 : V767.cell? ⟨tb, 1, none⟩ = some (.slice Af xs.length cf) := by rw [hV]; first | ((repeat' (first | with_reducible exact c707 | with_reducible refine cellK_drew ?_ | with_reducible refine cellK_alloc ?_ | with_reducible refine cellK_set ?_ (by dsimp only; omega))); done) | (first | (simp [go_sem, ↓IntWalk.iteOmega, *]; done) | (simp [go_sem, ↓IntWalk.iteOmega, *]; intros; omega))
  have z772 : ∀ o, V767.frozen? ⟨w.heap.size, o, none⟩ = false := by rw [hV]; first | ((repeat' (first | with_reducible exact z708 | with_reducible refine frozK_drew ?_ | with_reducible refine frozK_alloc ?_ | with_reducible refine frozK_set ?_)); done) | (intro o; first | (simp [go_sem, ↓IntWalk.iteOmega, *]; done) | (simp [go_sem, ↓IntWalk.iteOmega, *]; intros; omega))
  have R773 : Hid (FreshA cIv 2 50 (V1.heap.size) V767 Af cf xs) := hid (by rw [hV]; (repeat' (first | with_reducible exact R709.out | with_reducible refine FreshA.set_at ?_ (by assumption) _ | with_reducible refine FreshA.set_low ?_ ?_ _ | with_reducible refine FreshA.below ?_ (Below.drew (Below.refl _ _)) | with_reducible refine FreshA.below ?_ (Below.alloc (Below.refl _ _) (Nat.le_refl _) _) | (dsimp only; omega) | (simp; done) | (simp; omega))))
  have R774 : Hid (FreshA cIn 1 3 (V419.heap.size) V767 Bq cq rs) := hid (by rw [hV]; (repeat' (first | with_reducible exact R710.out | with_reducible refine FreshA.set_at ?_ (by assumption) _ | with_reducible refine FreshA.set_low ?_ ?_ _ | with_reducible refine FreshA.below ?_ (Below.drew (Below.refl _ _)) | with_reducible refine FreshA.below ?_ (Below.alloc (Below.refl _ _) (Nat.le_refl _) _) | (dsimp only; omega) | (simp; done) | (simp; omega))))
  have R775 : Hid (FreshA cIn 1 3 (W460.heap.size) V767 A3 c3 pl) := hid (by rw [hV]; (repeat' (first | with_reducible exact R711.out | with_reducible refine FreshA.set_at ?_ (by assumption) _ | with_reducible refine FreshA.set_low ?_ ?_ _ | with_reducible refine FreshA.below ?_ (Below.drew (Below.refl _ _)) | with_reducible refine FreshA.below ?_ (Below.alloc (Below.refl _ _) (Nat.le_refl _) _) | (dsimp only; omega) | (simp; done) | (simp; omega))))
  have cu776 : CurS V767 b A cs cap (0 + 80 + 40 + 1 + 1) := by rw [hV]; (repeat' (first | with_reducible refine CurS.setc ?_ ?_ | with_reducible refine CurS.allo ?_ | with_reducible refine CurS.drw ?_ | with_reducible exact cu712 | (dsimp only; omega) | (simp; done) | (simp; omega)))
  have gw777 : w.grownBy V767 (some b) := by rw [hV]; (repeat' (first | with_reducible exact World.grownBy.refl _ _ | with_reducible exact gw713 | with_reducible refine grownA ?_ | with_reducible refine grownS ?_ ?_ | with_reducible refine grown_drew ?_ | (dsimp only; omega) | (simp; done) | omega))
  have hzgw777 := gw777.size
  have hlcu776 := cu776.lt
  clear c704 c705 c706 c707 z708 R709 R710 R711 cu712 gw713
  clear hV
  refine (c_pick b A cs cap (0 + 80 + 40 + 1 + 1) (100) _ cu776 hby (by omega) hl (by omega)).mono ?_
  rintro e W779 ⟨dx778, rfl, hdx778a, hdx778b, hcn, hg⟩
  have hkW779 := hg.size
  have c780 : W779.cell? ⟨w.heap.size, 0, none⟩ = some (.int .i64 0) := (cellRow hg (w.heap.size) 0).trans (by rw [if_pos ⟨by omega, by omega⟩]; exact c768)
  have c781 : W779.cell? ⟨w.heap.size, 1, none⟩ = some (.slice none 0 0) := (cellRow hg (w.heap.size) 1).trans (by rw [if_pos ⟨by omega, by omega⟩]; exact c769)
  have c782 : W779.cell? ⟨tb, 0, none⟩ = some (.int .i64 d) := (cellRow hg (tb) 0).trans (by rw [if_pos ⟨by omega, by omega⟩]; exact c770)
  have c783 : W779.cell? ⟨tb, 1, none⟩ = some (.slice Af xs.length cf) := (cellRow hg (tb) 1).trans (by rw [if_pos ⟨by omega, by omega⟩]; exact c771)
  have z784 : ∀ o, W779.frozen? ⟨w.heap.size, o, none⟩ = false := fun o => (frozRow hg (w.heap.size) o).trans (by rw [if_pos ⟨by omega, by omega⟩]; exact z772 o)
  have R785 : Hid (FreshA cIv 2 50 (V1.heap.size) W779 Af cf xs) := hid (FreshA.rowb R773.out hg (by omega))
  have R786 : Hid (FreshA cIn 1 3 (V419.heap.size) W779 Bq cq rs) := hid (FreshA.rowb R774.out hg (by omega))
  have R787 : Hid (FreshA cIn 1 3 (W460.heap.size) W779 A3 c3 pl) := hid (FreshA.rowb R775.out hg (by omega))
  have cu788 : CurS W779 b A cs cap (0 + 80 + 40 + 1 + 1 + 1) := hcn
  have gw789 : w.grownBy W779 (some b) := grown_trans gw777 hg
  have hzgw789 := gw789.size
  have hlcu788 := cu788.lt
  clear c768 c769 c770 c771 z772 R773 R774 R775 cu776 gw777
  clear hg
  go_wp2_with (at_builtin; refine wlist_named ?_)
  intro V790 hV
  have hkV790 : W779.heap.size ≤ V790.heap.size := by rw [hV]; first | with_reducible exact Nat.le_refl _ | (simp [World.setCell]; done) | (simp; omega)
  have c791 : V790.cell? ⟨w.heap.size, 0, none⟩ = some (.int .i64 0) := by rw [hV]; first | ((repeat' (first | with_reducible exact c780 | with_reducible refine cellK_drew ?_ | with_reducible refine cellK_alloc ?_ | with_reducible refine cellK_set ?_ (by dsimp only; omega))); done) | (first | (simp [go_sem, ↓IntWalk.iteOmega, *]; done) | (simp [go_sem, ↓IntWalk.iteOmega, *]; intros; omega))
  have c792 : V790.cell? ⟨w.heap.size, 1, none⟩ = some (.slice none 0 0) := by rw [hV]; first | ((repeat' (first | with_reducible exact c781 | with_reducible refine cellK_drew ?_ | with_reducible refine cellK_alloc ?_ | with_reducible refine cellK_set ?_ (by dsimp only; omega))); done) | (first | (simp [go_sem, ↓IntWalk.iteOmega, *]; done) | (simp [go_sem, ↓IntWalk.iteOmega, *]; intros; omega))
  have c793 : V790.cell? ⟨tb, 0, none⟩ = some (.int .i64 d) := by rw [hV]; first | ((repeat' (first | with_reducible exact c782 | with_reducible refine cellK_drew ?_ | with_reducible refine cellK_alloc ?_ | with_reducible refine cellK_set ?_ (by dsimp only; omega))); done) | (first | (simp [go_sem, ↓IntWalk.iteOmega, *]; done) | (simp [go_sem, ↓IntWalk.iteOmega, *]; intros; omega))
  have c794 : V790.cell? ⟨tb, 1, none⟩ = some (.slice Af xs.length cf) := by rw [hV]; first | ((repeat' (first | with_reducible exact c783 | with_reducible refine cellK_drew ?_ | with_reducible refine cellK_alloc ?_ | with_reducible refine cellK_set ?_ (by dsimp only; omega))); done) | (first | (simp [go_sem, ↓IntWalk.iteOmega, *]; done) | (simp [go_sem, ↓IntWalk.iteOmega, *]; intros; omega))
  have z795 : ∀ o, V790.frozen? ⟨w.heap.size, o, none⟩ = false := by rw [hV]; first | ((repeat' (first | with_reducible exact z784 | with_reducible refine frozK_drew ?_ | with_reducible refine frozK_alloc ?_ | with_reducible refine frozK_set ?_)); done) | (intro o; first | (simp [go_sem, ↓IntWalk.iteOmega, *]; done) | (simp [go_sem, ↓IntWalk.iteOmega, *]; intros; omega))
  have R796 : Hid (FreshA cIv 2 50 (V1.heap.size) V790 Af cf xs) := hid (by rw [hV]; (repeat' (first | with_reducible exact R785.out | with_reducible refine FreshA.set_at ?_ (by assumption) _ | with_reducible refine FreshA.set_low ?_ ?_ _ | with_reducible refine FreshA.below ?_ (Below.drew (Below.refl _ _)) | with_reducible refine FreshA.below ?_ (Below.alloc (Below.refl _ _) (Nat.le_refl _) _) | (dsimp only; omega) | (simp; done) | (simp; omega))))
  have R797 : Hid (FreshA cIn 1 3 (V419.heap.size) V790 Bq cq rs) := hid (by rw [hV]; (repeat' (first | with_reducible exact R786.out | with_reducible refine FreshA.set_at ?_ (by assumption) _ | with_reducible refine FreshA.set_low ?_ ?_ _ | with_reducible refine FreshA.below ?_ (Below.drew (Below.refl _ _)) | with_reducible refine FreshA.below ?_ (Below.alloc (Below.refl _ _) (Nat.le_refl _) _) | (dsimp only; omega) | (simp; done) | (simp; omega))))
  have R798 : Hid (FreshA cIn 1 3 (W460.heap.size) V790 A3 c3 pl) := hid (by rw [hV]; (repeat' (first | with_reducible exact R787.out | with_reducible refine FreshA.set_at ?_ (by assumption) _ | with_reducible refine FreshA.set_low ?_ ?_ _ | with_reducible refine FreshA.below ?_ (Below.drew (Below.refl _ _)) | with_reducible refine FreshA.below ?_ (Below.alloc (Below.refl _ _) (Nat.le_refl _) _) | (dsimp only; omega) | (simp; done) | (simp; omega))))
  have cu799 : CurS V790 b A cs cap (0 + 80 + 40 + 1 + 1 + 1) := by rw [hV]; (repeat' (first | with_reducible refine CurS.setc ?_ ?_ | with_reducible refine CurS.allo ?_ | with_reducible refine CurS.drw ?_ | with_reducible exact cu788 | (dsimp only; omega) | (simp; done) | (simp; omega)))
  have gw800 : w.grownBy V790 (some b) := by rw [hV]; (repeat' (first | with_reducible exact World.grownBy.refl _ _ | with_reducible exact gw789 | with_reducible refine grownA ?_ | with_reducible refine grownS ?_ ?_ | with_reducible refine grown_drew ?_ | (dsimp only; omega) | (simp; done) | omega))
  have hzgw800 := gw800.size
  have hlcu799 := cu799.lt
  clear c780 c781 c782 c783 z784 R785 R786 R787 cu788 gw789
  refine wpList_pushesR (xs := pl) rfl (.tmp 64) (.tmp 68) 40 rfl 3 i0 _ 8 Try.underlying40 hI0 hI1 hI2 hI3 rfl (by decide) (fun _ => rfl) one_In _ rfl rfl R798.out [200 + dx778] 1 rfl _ _ rfl (by rw [hV]; exact Rds.of_lit (by simp) (by intro i x h; rcases i with _ | i <;> simp at h ⊢ <;> first | exact h | omega)) (by unfold maxLen; omega) (by first | omega | (simp; omega)) (by omega) ?_
  intro A5 cp5 W6 hF3 hg3 hat3
  clear hV
  have hkW6 := hg3.size
  have hlo := R798.out.lo
  have c801 : W6.cell? ⟨w.heap.size, 0, none⟩ = some (.int .i64 0) := (World.cell?_of_block (a := ⟨w.heap.size, 0, none⟩) (hg3.block (w.heap.size) (by omega) (ne_blk hlo (by omega)))).trans c791
  have c802 : W6.cell? ⟨w.heap.size, 1, none⟩ = some (.slice none 0 0) := (World.cell?_of_block (a := ⟨w.heap.size, 1, none⟩) (hg3.block (w.heap.size) (by omega) (ne_blk hlo (by omega)))).trans c792
  have c803 : W6.cell? ⟨tb, 0, none⟩ = some (.int .i64 d) := (World.cell?_of_block (a := ⟨tb, 0, none⟩) (hg3.block (tb) (by omega) (ne_blk hlo (by omega)))).trans c793
  have c804 : W6.cell? ⟨tb, 1, none⟩ = some (.slice Af xs.length cf) := (World.cell?_of_block (a := ⟨tb, 1, none⟩) (hg3.block (tb) (by omega) (ne_blk hlo (by omega)))).trans c794
  have z805 : ∀ o, W6.frozen? ⟨w.heap.size, o, none⟩ = false := fun o => (World.frozen?_of_block (a := ⟨w.heap.size, o, none⟩) (hg3.block (w.heap.size) (by omega) (ne_blk hlo (by omega)))).trans (z795 o)
  have R806 : Hid (FreshA cIv 2 50 (V1.heap.size) W6 Af cf xs) := hid (FreshA.grown R796.out hg3 (FreshA.apl HA0.out R798.out (Nat.le_refl _)))
  have R807 : Hid (FreshA cIn 1 3 (V419.heap.size) W6 Bq cq rs) := hid (FreshA.grown R797.out hg3 (FreshA.apl HB0.out R798.out (Nat.le_refl _)))
  have R808 : Hid (FreshA cIn 1 3 (W460.heap.size) W6 A5 cp5 (pl ++ [200 + dx778])) := hid (hF3)
  have cu809 : CurS W6 b A cs cap (0 + 80 + 40 + 1 + 1 + 1) := CurS.other cu799 hg3 hlo (by omega)
  have gw810 : w.grownBy W6 (some b) := grown_other gw800 hg3 (hlo.mono (by omega))
  have hzgw810 := gw810.size
  have hlcu809 := cu809.lt
  clear c791 c792 c793 c794 z795 R796 R797 R798 cu799 gw800
  clear hlo
  clear hF3 hg3 hat3
  have hl5 : (pl ++ [200 + dx778]).length = pl.length + 1 := by simp
  go_wp2_with (fail)
  refine post_named ?_
  intro VP hV
  have r0 : VP.cell? ⟨w.heap.size, 0, none⟩ = some (.int .i64 d) := by rw [hV]; first | (simp [go_sem, ↓IntWalk.iteOmega, *]; done) | (simp [go_sem, ↓IntWalk.iteOmega, *]; intros; omega)
  have r1 : VP.cell? ⟨w.heap.size, 1, none⟩ = some (.slice Af xs.length cf) := by rw [hV]; first | (simp [go_sem, ↓IntWalk.iteOmega, *]; done) | (simp [go_sem, ↓IntWalk.iteOmega, *]; intros; omega)
  have hkVP : W6.heap.size ≤ VP.heap.size := by rw [hV]; first | with_reducible exact Nat.le_refl _ | (simp [World.setCell]; done) | (simp; omega)
  have R811 : Hid (FreshA cIv 2 50 (V1.heap.size) VP Af cf xs) := hid (by rw [hV]; (repeat' (first | with_reducible exact R806.out | with_reducible refine FreshA.set_at ?_ (by assumption) _ | with_reducible refine FreshA.set_low ?_ ?_ _ | with_reducible refine FreshA.below ?_ (Below.drew (Below.refl _ _)) | with_reducible refine FreshA.below ?_ (Below.alloc (Below.refl _ _) (Nat.le_refl _) _) | (dsimp only; omega) | (simp; done) | (simp; omega))))
  have R812 : Hid (FreshA cIn 1 3 (V419.heap.size) VP Bq cq rs) := hid (by rw [hV]; (repeat' (first | with_reducible exact R807.out | with_reducible refine FreshA.set_at ?_ (by assumption) _ | with_reducible refine FreshA.set_low ?_ ?_ _ | with_reducible refine FreshA.below ?_ (Below.drew (Below.refl _ _)) | with_reducible refine FreshA.below ?_ (Below.alloc (Below.refl _ _) (Nat.le_refl _) _) | (dsimp only; omega) | (simp; done) | (simp; omega))))
  have R813 : Hid (FreshA cIn 1 3 (W460.heap.size) VP A5 cp5 (pl ++ [200 + dx778])) := hid (by rw [hV]; (repeat' (first | with_reducible exact R808.out | with_reducible refine FreshA.set_at ?_ (by assumption) _ | with_reducible refine FreshA.set_low ?_ ?_ _ | with_reducible refine FreshA.below ?_ (Below.drew (Below.refl _ _)) | with_reducible refine FreshA.below ?_ (Below.alloc (Below.refl _ _) (Nat.le_refl _) _) | (dsimp only; omega) | (simp; done) | (simp; omega))))
  have gw815 : w.grownBy VP (some b) := by rw [hV]; (repeat' (first | with_reducible exact World.grownBy.refl _ _ | with_reducible exact gw810 | with_reducible refine grownA ?_ | with_reducible refine grownS ?_ ?_ | with_reducible refine grown_drew ?_ | (dsimp only; omega) | (simp; done) | omega))
  have hzgw815 := gw815.size
  clear R806 R807 R808 cu809 gw810
  clear hV
  refine bodyPost_ret (v := .tuple #[.agg #[.int .i64 d, .slice Af xs.length cf], .slice Bq rs.length cq, .int .i64 pp, .slice A5 ((pl ++ [200 + dx778])).length cp5]) ?_ rfl ⟨d, Af, cf, xs, Bq, cq, rs, pp, A5, cp5, ((pl ++ [200 + dx778])), rfl, FreshA.mono R811.out (by omega), hxl, FreshA.mono R812.out (by omega), hrl, FreshA.mono R813.out (by omega), by first | omega | (simp; omega), below_gw gw815 (by omega)⟩
  simp [results, Try.results43, go_sem, r0, r1]
 go_wp2_with (fail)
 refine post_named ?_
 intro VP hV
 have r0 : VP.cell? ⟨w.heap.size, 0, none⟩ = some (.int .i64 d) := by rw [hV]; first | (simp [go_sem, ↓IntWalk.iteOmega, *]; done) | (simp [go_sem, ↓IntWalk.iteOmega, *]; intros; omega)
 have r1 : VP.cell? ⟨w.heap.size, 1, none⟩ = some (.slice Af xs.length cf) := by rw [hV]; first | (simp [go_sem, ↓IntWalk.iteOmega, *]; done) | (simp [go_sem, ↓IntWalk.iteOmega, *]; intros; omega)
 have hkVP : W703.heap.size ≤ VP.heap.size := by rw [hV]; first | with_reducible exact Nat.le_refl _ | (simp [World.setCell]; done) | (simp; omega)
 have R816 : Hid (FreshA cIv 2 50 (V1.heap.size) VP Af cf xs) := hid (by rw [hV]; (repeat' (first | with_reducible exact R709.out | with_reducible refine FreshA.set_at ?_ (by assumption) _ | with_reducible refine FreshA.set_low ?_ ?_ _ | with_reducible refine FreshA.below ?_ (Below.drew (Below.refl _ _)) | with_reducible refine FreshA.below ?_ (Below.alloc (Below.refl _ _) (Nat.le_refl _) _) | (dsimp only; omega) | (simp; done) | (simp; omega))))
 have R817 : Hid (FreshA cIn 1 3 (V419.heap.size) VP Bq cq rs) := hid (by rw [hV]; (repeat' (first | with_reducible exact R710.out | with_reducible refine FreshA.set_at ?_ (by assumption) _ | with_reducible refine FreshA.set_low ?_ ?_ _ | with_reducible refine FreshA.below ?_ (Below.drew (Below.refl _ _)) | with_reducible refine FreshA.below ?_ (Below.alloc (Below.refl _ _) (Nat.le_refl _) _) | (dsimp only; omega) | (simp; done) | (simp; omega))))
 have R818 : Hid (FreshA cIn 1 3 (W460.heap.size) VP A3 c3 pl) := hid (by rw [hV]; (repeat' (first | with_reducible exact R711.out | with_reducible refine FreshA.set_at ?_ (by assumption) _ | with_reducible refine FreshA.set_low ?_ ?_ _ | with_reducible refine FreshA.below ?_ (Below.drew (Below.refl _ _)) | with_reducible refine FreshA.below ?_ (Below.alloc (Below.refl _ _) (Nat.le_refl _) _) | (dsimp only; omega) | (simp; done) | (simp; omega))))
 have gw820 : w.grownBy VP (some b) := by rw [hV]; (repeat' (first | with_reducible exact World.grownBy.refl _ _ | with_reducible exact gw713 | with_reducible refine grownA ?_ | with_reducible refine grownS ?_ ?_ | with_reducible refine grown_drew ?_ | (dsimp only; omega) | (simp; done) | omega))
 have hzgw820 := gw820.size
 clear R709 R710 R711 cu712 gw713
 clear hV
 refine bodyPost_ret (v := .tuple #[.agg #[.int .i64 d, .slice Af xs.length cf], .slice Bq rs.length cq, .int .i64 pp, .slice A3 pl.length c3]) ?_ rfl ⟨d, Af, cf, xs, Bq, cq, rs, pp, A3, c3, pl, rfl, FreshA.mono R816.out (by omega), hxl, FreshA.mono R817.out (by omega), hrl, FreshA.mono R818.out (by omega), by first | omega | (simp; omega), below_gw gw820 (by omega)⟩
 simp [results, Try.results43, go_sem, r0, r1]

end Go.Proofs.Yteciijnpfapmhaa
