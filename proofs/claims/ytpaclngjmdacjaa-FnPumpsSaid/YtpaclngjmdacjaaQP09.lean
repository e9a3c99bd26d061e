import Derived.Test.YtpaclngjmdacjaaQP07
import Derived.Test.YtpaclngjmdacjaaQP08
import Derived.Test.YtpaclngjmdacjaaQP03
import Derived.Test.YtpaclngjmdacjaaQP00
namespace Go.Proofs.Ytpaclngjmdacjaa
set_option linter.unusedSimpArgs false
set_option linter.unusedVariables false
open Go.RowKit

theorem FreshA.newp {α : Type} {cf : α → List Value} {sz : Nat} {T : TypeId} {B g : Nat} {w : World} (hg : w.heap.size = g) (hB : B ≤ g) : FreshA cf sz T B (w.alloc (.cells #[] T)) (some ⟨g, 0, none⟩) 0 ([] : List α) := by
  subst hg
  exact FreshA.new hB
set_option maxRecDepth 100000 in
set_option maxHeartbeats 16000000 in
theorem c_plan12 (b : Nat) (A : Option Addr) (cs : List Int) (cap : Nat) (m : Int) (w : World) (hcu : CurS w b A cs cap m) (hby : Bytes cs) (hm : 0 ≤ m ∧ m ≤ 700000000) (hl : cs.length ≤ 1000000000) (l u v : Int) (Af : Option Addr) (fs : List Int) (capf : Nat) (Aq : Option Addr) (ps : List (Int × Int × Int)) (capq : Nat) (hx : Rds cIn 1 w Af fs) (hnf : fs.length ≤ 10) (hy : Rds cPu 3 w Aq ps) (hnp : ps.length ≤ 3) :
    Calls Try.prog 70 #[.pointer (some ⟨b, 0, none⟩), .agg #[.int .i64 l, .int .i64 u, .int .i64 v, .slice Af fs.length capf, .slice Aq ps.length capq]] w fun e w' => ∃ (A' : Option Addr) (c' : Nat) (pl : List Int), e = .returned (.slice A' pl.length c') ∧ FreshA cIn 1 3 w.heap.size w' A' c' pl ∧ pl.length ≤ 20 ∧ CurS w' b A cs cap (m + 60) ∧ w.grownBy w' (some b) := by
  obtain ⟨i0, hI0, hI1, hI2, hI3⟩ := info_parts info_In
  have hlt0 := hcu.lt
  go_enter Try.func70, Try.ntmps70
  go_wp2_with (fail)
  refine calls_named ?_
  intro V470 hV
  have hkV470 : w.heap.size ≤ V470.heap.size := by rw [hV]; first | with_reducible exact Nat.le_refl _ | (simp [World.setCell]; done) | (simp; omega)
  have cu471 : CurS V470 b A cs cap (m) := by rw [hV]; (repeat' (first | with_reducible refine CurS.setc ?_ ?_ | with_reducible refine CurS.allo ?_ | with_reducible refine CurS.drw ?_ | with_reducible exact hcu | (dsimp only; omega) | (simp; done) | (simp; omega)))
  have gw472 : w.grownBy V470 (some b) := by rw [hV]; (repeat' (first | with_reducible exact World.grownBy.refl _ _ | fail | with_reducible refine grownA ?_ | with_reducible refine grownS ?_ ?_ | with_reducible refine grown_drew ?_ | (dsimp only; omega) | (simp; done) | omega))
  have hzgw472 := gw472.size
  have hlcu471 := cu471.lt
  have d473 : V470.cell? ⟨w.heap.size, 0, none⟩ = some (.int .i64 l) := by rw [hV]; first | (simp [go_sem, ↓IntWalk.iteOmega, *]; done) | (simp [go_sem, ↓IntWalk.iteOmega, *]; intros; omega)
  have d474 : V470.cell? ⟨w.heap.size, 1, none⟩ = some (.int .i64 u) := by rw [hV]; first | (simp [go_sem, ↓IntWalk.iteOmega, *]; done) | (simp [go_sem, ↓IntWalk.iteOmega, *]; intros; omega)
  have d475 : V470.cell? ⟨w.heap.size, 2, none⟩ = some (.int .i64 v) := by rw [hV]; first | (simp [go_sem, ↓IntWalk.iteOmega, *]; done) | (simp [go_sem, ↓IntWalk.iteOmega, *]; intros; omega)
  have d476 : V470.cell? ⟨w.heap.size, 3, none⟩ = some (.slice Af fs.length capf) := by rw [hV]; first | (simp [go_sem, ↓IntWalk.iteOmega, *]; done) | (simp [go_sem, ↓IntWalk.iteOmega, *]; intros; omega)
  have d477 : V470.cell? ⟨w.heap.size, 4, none⟩ = some (.slice Aq ps.length capq) := by rw [hV]; first | (simp [go_sem, ↓IntWalk.iteOmega, *]; done) | (simp [go_sem, ↓IntWalk.iteOmega, *]; intros; omega)
  have hB1 : w.heap.size < V470.heap.size := by rw [hV]; first | (simp; done) | (simp; omega)
  have hbw : Below w.heap.size w V470 := by rw [hV]; exact Below.alloc (Below.refl _ _) (Nat.le_refl _) _
  clear hV
  have hql := cheapV_len l u v fs ps
  obtain ⟨q, le, ok, hCV⟩ : ∃ q le ok, cheapV l u v fs ps = (q, le, ok) := ⟨_, _, _, rfl⟩
  have hCP := c_spec_CheapestPlan l u v Af fs capf Aq ps capq V470 (Rds.below hx hbw) (by omega) (Rds.below hy hbw) (by omega)
  simp only [hCV] at hCP hql
  clear hCV
  refine (hCP).mono ?_
  rintro e W478 ⟨Aq1, cq1, rfl, hFq, hb⟩
  have hkW478 := hb.size
  have c479 : W478.cell? ⟨w.heap.size, 0, none⟩ = some (.int .i64 l) := (hb.cell (p := ⟨w.heap.size, 0, none⟩) (by show w.heap.size < _; omega)).trans d473
  have c480 : W478.cell? ⟨w.heap.size, 1, none⟩ = some (.int .i64 u) := (hb.cell (p := ⟨w.heap.size, 1, none⟩) (by show w.heap.size < _; omega)).trans d474
  have c481 : W478.cell? ⟨w.heap.size, 2, none⟩ = some (.int .i64 v) := (hb.cell (p := ⟨w.heap.size, 2, none⟩) (by show w.heap.size < _; omega)).trans d475
  have c482 : W478.cell? ⟨w.heap.size, 3, none⟩ = some (.slice Af fs.length capf) := (hb.cell (p := ⟨w.heap.size, 3, none⟩) (by show w.heap.size < _; omega)).trans d476
  have c483 : W478.cell? ⟨w.heap.size, 4, none⟩ = some (.slice Aq ps.length capq) := (hb.cell (p := ⟨w.heap.size, 4, none⟩) (by show w.heap.size < _; omega)).trans d477
  have cu484 : CurS W478 b A cs cap (m) := CurS.below cu471 hb
  have gw485 : w.grownBy W478 (some b) := grown_trans gw472 (grown_of_below hb)
  have hzgw485 := gw485.size
  have hlcu484 := cu484.lt
  clear d473 d474 d475 d476 d477 cu471 gw472
  clear hb
  have S486 : Hid (FreshA cIn 1 3 (V470.heap.size) W478 Aq1 cq1 q) := hid (hFq)
  clear hFq hCP hbw hx hy
  have hB2 : w.heap.size < W478.heap.size := by omega
  cases ok
  · go_wp2_with (fail)
    go_loopw [8, 9] (fun o i wr => ∃ (k : Nat) (A2 : Option Addr) (cp2 : Nat) (xs : List Int), o = .slice A2 xs.length cp2 ∧ i = .int .i64 k ∧ xs.length ≤ k ∧ k ≤ fs.length ∧ wr.cell? ⟨w.heap.size, 0, none⟩ = some (.int .i64 l) ∧ wr.cell? ⟨w.heap.size, 1, none⟩ = some (.int .i64 u) ∧ wr.cell? ⟨w.heap.size, 2, none⟩ = some (.int .i64 v) ∧ wr.cell? ⟨w.heap.size, 3, none⟩ = some (.slice Af fs.length capf) ∧ wr.cell? ⟨w.heap.size, 4, none⟩ = some (.slice Aq ps.length capq) ∧ w.heap.size < wr.heap.size ∧ FreshA cIn 1 3 (w.heap.size + 1) wr A2 cp2 xs ∧ CurS wr b A cs cap (m + 2 + (k : Int)) ∧ w.grownBy wr (some b)) (fun _ i _ => fs.length - (intOf i).toNat)
    case atStart =>
      refine ⟨0, _, _, [], rfl, rfl, Nat.zero_le _, Nat.zero_le _, ?_, ?_, ?_, ?_, ?_, ?_, ?_, ?_, ?_⟩
      · first | ((repeat' (first | with_reducible exact c479 | with_reducible refine cellK_drew ?_ | with_reducible refine cellK_alloc ?_ | with_reducible refine cellK_set ?_ (by dsimp only; omega))); done) | (first | (simp [go_sem, ↓IntWalk.iteOmega, *]; done) | (simp [go_sem, ↓IntWalk.iteOmega, *]; intros; omega))
      · first | ((repeat' (first | with_reducible exact c480 | with_reducible refine cellK_drew ?_ | with_reducible refine cellK_alloc ?_ | with_reducible refine cellK_set ?_ (by dsimp only; omega))); done) | (first | (simp [go_sem, ↓IntWalk.iteOmega, *]; done) | (simp [go_sem, ↓IntWalk.iteOmega, *]; intros; omega))
      · first | ((repeat' (first | with_reducible exact c481 | with_reducible refine cellK_drew ?_ | with_reducible refine cellK_alloc ?_ | with_reducible refine cellK_set ?_ (by dsimp only; omega))); done) | (first | (simp [go_sem, ↓IntWalk.iteOmega, *]; done) | (simp [go_sem, ↓IntWalk.iteOmega, *]; intros; omega))
      · first | ((repeat' (first | with_reducible exact c482 | with_reducible refine cellK_drew ?_ | with_reducible refine cellK_alloc ?_ | with_reducible refine cellK_set ?_ (by dsimp only; omega))); done) | (first | (simp [go_sem, ↓IntWalk.iteOmega, *]; done) | (simp [go_sem, ↓IntWalk.iteOmega, *]; intros; omega))
      · first | ((repeat' (first | with_reducible exact c483 | with_reducible refine cellK_drew ?_ | with_reducible refine cellK_alloc ?_ | with_reducible refine cellK_set ?_ (by dsimp only; omega))); done) | (first | (simp [go_sem, ↓IntWalk.iteOmega, *]; done) | (simp [go_sem, ↓IntWalk.iteOmega, *]; intros; omega))
      · first | (simp; done) | (simp; omega)
      · exact FreshA.newp rfl (by first | omega | (simp; omega))
      · refine CurS.mono ?_ (m := m) (by first | omega | (simp; omega))
        (repeat' (first | with_reducible refine CurS.setc ?_ ?_ | with_reducible refine CurS.allo ?_ | with_reducible refine CurS.drw ?_ | with_reducible exact cu484 | (dsimp only; omega) | (simp; done) | (simp; omega)))
      · (repeat' (first | with_reducible exact World.grownBy.refl _ _ | with_reducible exact gw485 | with_reducible refine grownA ?_ | with_reducible refine grownS ?_ ?_ | with_reducible refine grown_drew ?_ | (dsimp only; omega) | (simp; done) | omega))
    case round =>
      obtain ⟨k, A2, cp2, xs, rfl, rfl, hxk, hk, p0, p1, p2, p3, p4, hB, hF, hcr, hgr⟩ := hrel
      have RF := hid hF
      clear hF
      have hgrz := hgr.size
      have hcrl := hcr.lt
      by_cases hlt : k < fs.length
      rotate_left
      · obtain rfl : k = fs.length := by omega
        go_wp2_with (fail)
        refine calls_named ?_
        intro V487 hV
        have hkV487 : wr.heap.size ≤ V487.heap.size := by rw [hV]; first | with_reducible exact Nat.le_refl _ | (simp [World.setCell]; done) | (simp; omega)
        have c488 : V487.cell? ⟨w.heap.size, 0, none⟩ = some (.int .i64 l) := by rw [hV]; first | ((repeat' (first | with_reducible exact p0 | with_reducible refine cellK_drew ?_ | with_reducible refine cellK_alloc ?_ | with_reducible refine cellK_set ?_ (by dsimp only; omega))); done) | (first | (simp [go_sem, ↓IntWalk.iteOmega, *]; done) | (simp [go_sem, ↓IntWalk.iteOmega, *]; intros; omega))
        have c489 : V487.cell? ⟨w.heap.size, 1, none⟩ = some (.int .i64 u) := by rw [hV]; first | ((repeat' (first | with_reducible exact p1 | with_reducible refine cellK_drew ?_ | with_reducible refine cellK_alloc ?_ | with_reducible refine cellK_set ?_ (by dsimp only; omega))); done) | (first | (simp [go_sem, ↓IntWalk.iteOmega, *]; done) | (simp [go_sem, ↓IntWalk.iteOmega, *]; intros; omega))
        have c490 : V487.cell? ⟨w.heap.size, 2, none⟩ = some (.int .i64 v) := by rw [hV]; first | ((repeat' (first | with_reducible exact p2 | with_reducible refine cellK_drew ?_ | with_reducible refine cellK_alloc ?_ | with_reducible refine cellK_set ?_ (by dsimp only; omega))); done) | (first | (simp [go_sem, ↓IntWalk.iteOmega, *]; done) | (simp [go_sem, ↓IntWalk.iteOmega, *]; intros; omega))
        have c491 : V487.cell? ⟨w.heap.size, 3, none⟩ = some (.slice Af fs.length capf) := by rw [hV]; first | ((repeat' (first | with_reducible exact p3 | with_reducible refine cellK_drew ?_ | with_reducible refine cellK_alloc ?_ | with_reducible refine cellK_set ?_ (by dsimp only; omega))); done) | (first | (simp [go_sem, ↓IntWalk.iteOmega, *]; done) | (simp [go_sem, ↓IntWalk.iteOmega, *]; intros; omega))
        have c492 : V487.cell? ⟨w.heap.size, 4, none⟩ = some (.slice Aq ps.length capq) := by rw [hV]; first | ((repeat' (first | with_reducible exact p4 | with_reducible refine cellK_drew ?_ | with_reducible refine cellK_alloc ?_ | with_reducible refine cellK_set ?_ (by dsimp only; omega))); done) | (first | (simp [go_sem, ↓IntWalk.iteOmega, *]; done) | (simp [go_sem, ↓IntWalk.iteOmega, *]; intros; omega))
        have R493 : Hid (FreshA cIn 1 3 (w.heap.size + 1) V487 A2 cp2 xs) := hid (by rw [hV]; (repeat' (first | with_reducible exact RF.out | with_reducible refine FreshA.set_at ?_ (by assumption) _ | with_reducible refine FreshA.set_low ?_ ?_ _ | with_reducible refine FreshA.below ?_ (Below.drew (Below.refl _ _)) | with_reducible refine FreshA.below ?_ (Below.alloc (Below.refl _ _) (Nat.le_refl _) _) | (dsimp only; omega) | (simp; done) | (simp; omega))))
        have cu494 : CurS V487 b A cs cap (m + 2 + (fs.length : Int)) := by rw [hV]; (repeat' (first | with_reducible refine CurS.setc ?_ ?_ | with_reducible refine CurS.allo ?_ | with_reducible refine CurS.drw ?_ | with_reducible exact hcr | (dsimp only; omega) | (simp; done) | (simp; omega)))
        have gw495 : w.grownBy V487 (some b) := by rw [hV]; (repeat' (first | with_reducible exact World.grownBy.refl _ _ | with_reducible exact hgr | with_reducible refine grownA ?_ | with_reducible refine grownS ?_ ?_ | with_reducible refine grown_drew ?_ | (dsimp only; omega) | (simp; done) | omega))
        have hzgw495 := gw495.size
        have hlcu494 := cu494.lt
        clear p0 p1 p2 p3 p4 RF hcr hgr
        clear hV
        refine (c_pick b A cs cap (m + 2 + (fs.length : Int)) (24) _ cu494 hby (by omega) hl (by omega)).mono ?_
        rintro e W497 ⟨dx496, rfl, hdx496a, hdx496b, hcn, hg⟩
        have hkW497 := hg.size
        have c498 : W497.cell? ⟨w.heap.size, 0, none⟩ = some (.int .i64 l) := (cellRow hg (w.heap.size) 0).trans (by rw [if_pos ⟨by omega, by omega⟩]; exact c488)
        have c499 : W497.cell? ⟨w.heap.size, 1, none⟩ = some (.int .i64 u) := (cellRow hg (w.heap.size) 1).trans (by rw [if_pos ⟨by omega, by omega⟩]; exact c489)
        have c500 : W497.cell? ⟨w.heap.size, 2, none⟩ = some (.int .i64 v) := (cellRow hg (w.heap.size) 2).trans (by rw [if_pos ⟨by omega, by omega⟩]; exact c490)
        have c501 : W497.cell? ⟨w.heap.size, 3, none⟩ = some (.slice Af fs.length capf) := (cellRow hg (w.heap.size) 3).trans (by rw [if_pos ⟨by omega, by omega⟩]; exact c491)
        have c502 : W497.cell? ⟨w.heap.size, 4, none⟩ = some (.slice Aq ps.length capq) := (cellRow hg (w.heap.size) 4).trans (by rw [if_pos ⟨by omega, by omega⟩]; exact c492)
        have R503 : Hid (FreshA cIn 1 3 (w.heap.size + 1) W497 A2 cp2 xs) := hid (FreshA.rowb R493.out hg (by omega))
        have cu504 : CurS W497 b A cs cap (m + 2 + (fs.length : Int) + 1) := hcn
        have gw505 : w.grownBy W497 (some b) := grown_trans gw495 hg
        have hzgw505 := gw505.size
        have hlcu504 := cu504.lt
        clear c488 c489 c490 c491 c492 R493 cu494 gw495
        clear hg
        by_cases hq0 : dx496 = 0
        · subst hq0
          go_wp2_with (at_builtin; refine wlist_named ?_)
          intro V506 hV
          have hkV506 : W497.heap.size ≤ V506.heap.size := by rw [hV]; first | with_reducible exact Nat.le_refl _ | (simp [World.setCell]; done) | (simp; omega)
          have c507 : V506.cell? ⟨w.heap.size, 0, none⟩ = some (.int .i64 l) := by rw [hV]; first | ((repeat' (first | with_reducible exact c498 | with_reducible refine cellK_drew ?_ | with_reducible refine cellK_alloc ?_ | with_reducible refine cellK_set ?_ (by dsimp only; omega))); done) | (first | (simp [go_sem, ↓IntWalk.iteOmega, *]; done) | (simp [go_sem, ↓IntWalk.iteOmega, *]; intros; omega))
          have c508 : V506.cell? ⟨w.heap.size, 1, none⟩ = some (.int .i64 u) := by rw [hV]; first | ((repeat' (first | with_reducible exact c499 | with_reducible refine cellK_drew ?_ | with_reducible refine cellK_alloc ?_ | with_reducible refine cellK_set ?_ (by dsimp only; omega))); done) | (first | (simp [go_sem, ↓IntWalk.iteOmega, *]; done) | (simp [go_sem, ↓IntWalk.iteOmega, *]; intros; omega))
          have c509 : V506.cell? ⟨w.heap.size, 2, none⟩ = some (.int .i64 v) := by rw [hV]; first | ((repeat' (first | with_reducible exact c500 | with_reducible refine cellK_drew ?_ | with_reducible refine cellK_alloc ?_ | with_reducible refine cellK_set ?_ (by dsimp only; omega))); done) | (first | (simp [go_sem, ↓IntWalk.iteOmega, *]; done) | (simp [go_sem, ↓IntWalk.iteOmega, *]; intros; omega))
          have c510 : V506.cell? ⟨w.heap.size, 3, none⟩ = some (.slice Af fs.length capf) := by rw [hV]; first | ((repeat' (first | with_reducible exact c501 | with_reducible refine cellK_drew ?_ | with_reducible refine cellK_alloc ?_ | with_reducible refine cellK_set ?_ (by dsimp only; omega))); done) | (first | (simp [go_sem, ↓IntWalk.iteOmega, *]; done) | (simp [go_sem, ↓IntWalk.iteOmega, *]; intros; omega))
          have c511 : V506.cell? ⟨w.heap.size, 4, none⟩ = some (.slice Aq ps.length capq) := by rw [hV]; first | ((repeat' (first | with_reducible exact c502 | with_reducible refine cellK_drew ?_ | with_reducible refine cellK_alloc ?_ | with_reducible refine cellK_set ?_ (by dsimp only; omega))); done) | (first | (simp [go_sem, ↓IntWalk.iteOmega, *]; done) | (simp [go_sem, ↓IntWalk.iteOmega, *]; intros; omega))
          have R512 : Hid (FreshA cIn 1 3 (w.heap.size + 1) V506 A2 cp2 xs) := hid (by rw [hV]; (repeat' (first | with_reducible exact R503.out | with_reducible refine FreshA.set_at ?_ (by assumption) _ | with_reducible refine FreshA.set_low ?_ ?_ _ | with_reducible refine FreshA.below ?_ (Below.drew (Below.refl _ _)) | with_reducible refine FreshA.below ?_ (Below.alloc (Below.refl _ _) (Nat.le_refl _) _) | (dsimp only; omega) | (simp; done) | (simp; omega))))
          have cu513 : CurS V506 b A cs cap (m + 2 + (fs.length : Int) + 1) := by rw [hV]; (repeat' (first | with_reducible refine CurS.setc ?_ ?_ | with_reducible refine CurS.allo ?_ | with_reducible refine CurS.drw ?_ | with_reducible exact cu504 | (dsimp only; omega) | (simp; done) | (simp; omega)))
          have gw514 : w.grownBy V506 (some b) := by rw [hV]; (repeat' (first | with_reducible exact World.grownBy.refl _ _ | with_reducible exact gw505 | with_reducible refine grownA ?_ | with_reducible refine grownS ?_ ?_ | with_reducible refine grown_drew ?_ | (dsimp only; omega) | (simp; done) | omega))
          have hzgw514 := gw514.size
          have hlcu513 := cu513.lt
          clear c498 c499 c500 c501 c502 R503 cu504 gw505
          refine wpList_pushesR (xs := xs) rfl (.tmp 45) (.tmp 46) 22 rfl 3 i0 _ 8 Try.underlying22 hI0 hI1 hI2 hI3 rfl (by decide) (fun _ => rfl) one_In _ rfl rfl R512.out [0] 1 rfl _ _ rfl (by rw [hV]; exact Rds.of_lit (by simp) (by intro i x h; rcases i with _ | i <;> simp at h ⊢ <;> first | exact h | omega)) (by unfold maxLen; omega) (by first | omega | (simp; omega)) (by omega) ?_
          intro A5 cp5 W5 hF3 hg3 hat3
          clear hV
          have hkW5 := hg3.size
          have hlo := R512.out.lo
          have c515 : W5.cell? ⟨w.heap.size, 0, none⟩ = some (.int .i64 l) := (World.cell?_of_block (a := ⟨w.heap.size, 0, none⟩) (hg3.block (w.heap.size) (by omega) (ne_blk hlo (by omega)))).trans c507
          have c516 : W5.cell? ⟨w.heap.size, 1, none⟩ = some (.int .i64 u) := (World.cell?_of_block (a := ⟨w.heap.size, 1, none⟩) (hg3.block (w.heap.size) (by omega) (ne_blk hlo (by omega)))).trans c508
          have c517 : W5.cell? ⟨w.heap.size, 2, none⟩ = some (.int .i64 v) := (World.cell?_of_block (a := ⟨w.heap.size, 2, none⟩) (hg3.block (w.heap.size) (by omega) (ne_blk hlo (by omega)))).trans c509
          have c518 : W5.cell? ⟨w.heap.size, 3, none⟩ = some (.slice Af fs.length capf) := (World.cell?_of_block (a := ⟨w.heap.size, 3, none⟩) (hg3.block (w.heap.size) (by omega) (ne_blk hlo (by omega)))).trans c510
          have c519 : W5.cell? ⟨w.heap.size, 4, none⟩ = some (.slice Aq ps.length capq) := (World.cell?_of_block (a := ⟨w.heap.size, 4, none⟩) (hg3.block (w.heap.size) (by omega) (ne_blk hlo (by omega)))).trans c511
          have R520 : Hid (FreshA cIn 1 3 (w.heap.size + 1) W5 A5 cp5 (xs ++ [0])) := hid (hF3)
          have cu521 : CurS W5 b A cs cap (m + 2 + (fs.length : Int) + 1) := CurS.other cu513 hg3 hlo (by omega)
          have gw522 : w.grownBy W5 (some b) := grown_other gw514 hg3 (hlo.mono (by omega))
          have hzgw522 := gw522.size
          have hlcu521 := cu521.lt
          clear c507 c508 c509 c510 c511 R512 cu513 gw514
          clear hlo
          clear hF3 hg3 hat3
          go_wp2_with (fail)
          refine post_named ?_
          intro V523 hV
          have hkV523 : W5.heap.size ≤ V523.heap.size := by rw [hV]; first | with_reducible exact Nat.le_refl _ | (simp [World.setCell]; done) | (simp; omega)
          have R524 : Hid (FreshA cIn 1 3 (w.heap.size + 1) V523 A5 cp5 (xs ++ [0])) := hid (by rw [hV]; (repeat' (first | with_reducible exact R520.out | with_reducible refine FreshA.set_at ?_ (by assumption) _ | with_reducible refine FreshA.set_low ?_ ?_ _ | with_reducible refine FreshA.below ?_ (Below.drew (Below.refl _ _)) | with_reducible refine FreshA.below ?_ (Below.alloc (Below.refl _ _) (Nat.le_refl _) _) | (dsimp only; omega) | (simp; done) | (simp; omega))))
          have cu525 : CurS V523 b A cs cap (m + 2 + (fs.length : Int) + 1) := by rw [hV]; (repeat' (first | with_reducible refine CurS.setc ?_ ?_ | with_reducible refine CurS.allo ?_ | with_reducible refine CurS.drw ?_ | with_reducible exact cu521 | (dsimp only; omega) | (simp; done) | (simp; omega)))
          have gw526 : w.grownBy V523 (some b) := by rw [hV]; (repeat' (first | with_reducible exact World.grownBy.refl _ _ | with_reducible exact gw522 | with_reducible refine grownA ?_ | with_reducible refine grownS ?_ ?_ | with_reducible refine grown_drew ?_ | (dsimp only; omega) | (simp; done) | omega))
          have hzgw526 := gw526.size
          have hlcu525 := cu525.lt
          clear R520 cu521 gw522
          clear hV
          refine bodyPost_ret (v := .slice A5 (xs ++ [0]).length cp5) ?_ rfl ⟨A5, cp5, (xs ++ [0]), rfl, FreshA.mono R524.out (by omega), by first | (simp; omega) | omega, CurS.mono cu525 (by omega), gw526⟩
          simp [results, Try.results70, go_sem]
        by_cases hq1 : dx496 = 1
        · subst hq1
          by_cases h0 : 0 < xs.length
          rotate_left
          · go_wp2_with (fail)
            refine post_named ?_
            intro V527 hV
            have hkV527 : W497.heap.size ≤ V527.heap.size := by rw [hV]; first | with_reducible exact Nat.le_refl _ | (simp [World.setCell]; done) | (simp; omega)
            have R528 : Hid (FreshA cIn 1 3 (w.heap.size + 1) V527 A2 cp2 xs) := hid (by rw [hV]; (repeat' (first | with_reducible exact R503.out | with_reducible refine FreshA.set_at ?_ (by assumption) _ | with_reducible refine FreshA.set_low ?_ ?_ _ | with_reducible refine FreshA.below ?_ (Below.drew (Below.refl _ _)) | with_reducible refine FreshA.below ?_ (Below.alloc (Below.refl _ _) (Nat.le_refl _) _) | (dsimp only; omega) | (simp; done) | (simp; omega))))
            have cu529 : CurS V527 b A cs cap (m + 2 + (fs.length : Int) + 1) := by rw [hV]; (repeat' (first | with_reducible refine CurS.setc ?_ ?_ | with_reducible refine CurS.allo ?_ | with_reducible refine CurS.drw ?_ | with_reducible exact cu504 | (dsimp only; omega) | (simp; done) | (simp; omega)))
            have gw530 : w.grownBy V527 (some b) := by rw [hV]; (repeat' (first | with_reducible exact World.grownBy.refl _ _ | with_reducible exact gw505 | with_reducible refine grownA ?_ | with_reducible refine grownS ?_ ?_ | with_reducible refine grown_drew ?_ | (dsimp only; omega) | (simp; done) | omega))
            have hzgw530 := gw530.size
            have hlcu529 := cu529.lt
            clear R503 cu504 gw505
            clear hV
            refine bodyPost_ret (v := .slice A2 xs.length cp2) ?_ rfl ⟨A2, cp2, xs, rfl, FreshA.mono R528.out (by omega), by first | (simp; omega) | omega, CurS.mono cu529 (by omega), gw530⟩
            simp [results, Try.results70, go_sem]
          obtain ⟨gf, rfl, hBf, hOf⟩ := FreshA.row R503.out h0
          clear hOf
          go_wp2_with (fail)
          refine calls_named ?_
          intro V531 hV
          have hkV531 : W497.heap.size ≤ V531.heap.size := by rw [hV]; first | with_reducible exact Nat.le_refl _ | (simp [World.setCell]; done) | (simp; omega)
          have c532 : V531.cell? ⟨w.heap.size, 0, none⟩ = some (.int .i64 l) := by rw [hV]; first | ((repeat' (first | with_reducible exact c498 | with_reducible refine cellK_drew ?_ | with_reducible refine cellK_alloc ?_ | with_reducible refine cellK_set ?_ (by dsimp only; omega))); done) | (first | (simp [go_sem, ↓IntWalk.iteOmega, *]; done) | (simp [go_sem, ↓IntWalk.iteOmega, *]; intros; omega))
          have c533 : V531.cell? ⟨w.heap.size, 1, none⟩ = some (.int .i64 u) := by rw [hV]; first | ((repeat' (first | with_reducible exact c499 | with_reducible refine cellK_drew ?_ | with_reducible refine cellK_alloc ?_ | with_reducible refine cellK_set ?_ (by dsimp only; omega))); done) | (first | (simp [go_sem, ↓IntWalk.iteOmega, *]; done) | (simp [go_sem, ↓IntWalk.iteOmega, *]; intros; omega))
          have c534 : V531.cell? ⟨w.heap.size, 2, none⟩ = some (.int .i64 v) := by rw [hV]; first | ((repeat' (first | with_reducible exact c500 | with_reducible refine cellK_drew ?_ | with_reducible refine cellK_alloc ?_ | with_reducible refine cellK_set ?_ (by dsimp only; omega))); done) | (first | (simp [go_sem, ↓IntWalk.iteOmega, *]; done) | (simp [go_sem, ↓IntWalk.iteOmega, *]; intros; omega))
          have c535 : V531.cell? ⟨w.heap.size, 3, none⟩ = some (.slice Af fs.length capf) := by rw [hV]; first | ((repeat' (first | with_reducible exact c501 | with_reducible refine cellK_drew ?_ | with_reducible refine cellK_alloc ?_ | with_reducible refine cellK_set ?_ (by dsimp only; omega))); done) | (first | (simp [go_sem, ↓IntWalk.iteOmega, *]; done) | (simp [go_sem, ↓IntWalk.iteOmega, *]; intros; omega))
          have c536 : V531.cell? ⟨w.heap.size, 4, none⟩ = some (.slice Aq ps.length capq) := by rw [hV]; first | ((repeat' (first | with_reducible exact c502 | with_reducible refine cellK_drew ?_ | with_reducible refine cellK_alloc ?_ | with_reducible refine cellK_set ?_ (by dsimp only; omega))); done) | (first | (simp [go_sem, ↓IntWalk.iteOmega, *]; done) | (simp [go_sem, ↓IntWalk.iteOmega, *]; intros; omega))
          have R537 : Hid (FreshA cIn 1 3 (w.heap.size + 1) V531 ((some ⟨gf, 0, none⟩)) cp2 xs) := hid (by rw [hV]; (repeat' (first | with_reducible exact R503.out | with_reducible refine FreshA.set_at ?_ (by assumption) _ | with_reducible refine FreshA.set_low ?_ ?_ _ | with_reducible refine FreshA.below ?_ (Below.drew (Below.refl _ _)) | with_reducible refine FreshA.below ?_ (Below.alloc (Below.refl _ _) (Nat.le_refl _) _) | (dsimp only; omega) | (simp; done) | (simp; omega))))
          have cu538 : CurS V531 b A cs cap (m + 2 + (fs.length : Int) + 1) := by rw [hV]; (repeat' (first | with_reducible refine CurS.setc ?_ ?_ | with_reducible refine CurS.allo ?_ | with_reducible refine CurS.drw ?_ | with_reducible exact cu504 | (dsimp only; omega) | (simp; done) | (simp; omega)))
          have gw539 : w.grownBy V531 (some b) := by rw [hV]; (repeat' (first | with_reducible exact World.grownBy.refl _ _ | with_reducible exact gw505 | with_reducible refine grownA ?_ | with_reducible refine grownS ?_ ?_ | with_reducible refine grown_drew ?_ | (dsimp only; omega) | (simp; done) | omega))
          have hzgw539 := gw539.size
          have hlcu538 := cu538.lt
          clear c498 c499 c500 c501 c502 R503 cu504 gw505
          refine (c_among b A cs cap (m + 2 + (fs.length : Int) + 1) _ ([-1, 4, 2] : List Int) _ (-1) (4) _ cu538 hby (by omega) hl (by rw [hV]; exact Rds.of_lit (by simp) (by intro i x h; rcases i with _ | _ | _ | i <;> simp at h ⊢ <;> first | exact h | omega)) (by simp) (by intro a ha; cases ha; simp; omega) (fun k hk => (show ∀ x ∈ ([-1, 4, 2] : List Int), -1 ≤ x ∧ x ≤ 4 by intro x hx; simp at hx; omega) _ (List.getElem_mem hk))).mono ?_
          rintro e W541 ⟨dx540, rfl, hdx540a, hdx540b, hcn, hg⟩
          clear hV
          have hkW541 := hg.size
          have c542 : W541.cell? ⟨w.heap.size, 0, none⟩ = some (.int .i64 l) := (cellRow hg (w.heap.size) 0).trans (by rw [if_pos ⟨by omega, by omega⟩]; exact c532)
          have c543 : W541.cell? ⟨w.heap.size, 1, none⟩ = some (.int .i64 u) := (cellRow hg (w.heap.size) 1).trans (by rw [if_pos ⟨by omega, by omega⟩]; exact c533)
          have c544 : W541.cell? ⟨w.heap.size, 2, none⟩ = some (.int .i64 v) := (cellRow hg (w.heap.size) 2).trans (by rw [if_pos ⟨by omega, by omega⟩]; exact c534)
          have c545 : W541.cell? ⟨w.heap.size, 3, none⟩ = some (.slice Af fs.length capf) := (cellRow hg (w.heap.size) 3).trans (by rw [if_pos ⟨by omega, by omega⟩]; exact c535)
          have c546 : W541.cell? ⟨w.heap.size, 4, none⟩ = some (.slice Aq ps.length capq) := (cellRow hg (w.heap.size) 4).trans (by rw [if_pos ⟨by omega, by omega⟩]; exact c536)
          have R547 : Hid (FreshA cIn 1 3 (w.heap.size + 1) W541 ((some ⟨gf, 0, none⟩)) cp2 xs) := hid (FreshA.rowb R537.out hg (by omega))
          have cu548 : CurS W541 b A cs cap (m + 2 + (fs.length : Int) + 1 + 1) := hcn
          have gw549 : w.grownBy W541 (some b) := grown_trans gw539 hg
          have hzgw549 := gw549.size
          have hlcu548 := cu548.lt
          clear c532 c533 c534 c535 c536 R537 cu538 gw539
          clear hg
          obtain ⟨gf', hge, hBf', hOf⟩ := FreshA.row R547.out h0
          cases hge
          obtain ⟨u0, hu0⟩ := hOf.cell 0 (by have := FreshA.capLe R547.out; omega)
          have hz0 := hOf.frozen 0
          have HOF := hid hOf
          clear hOf
          go_wp2_with (fail)
          refine post_named ?_
          intro V550 hV
          have hkV550 : W541.heap.size ≤ V550.heap.size := by rw [hV]; first | with_reducible exact Nat.le_refl _ | (simp [World.setCell]; done) | (simp; omega)
          have cu551 : CurS V550 b A cs cap (m + 2 + (fs.length : Int) + 1 + 1) := by rw [hV]; (repeat' (first | with_reducible refine CurS.setc ?_ ?_ | with_reducible refine CurS.allo ?_ | with_reducible refine CurS.drw ?_ | with_reducible exact cu548 | (dsimp only; omega) | (simp; done) | (simp; omega)))
          have gw552 : w.grownBy V550 (some b) := by rw [hV]; (repeat' (first | with_reducible exact World.grownBy.refl _ _ | with_reducible exact gw549 | with_reducible refine grownA ?_ | with_reducible refine grownS ?_ ?_ | with_reducible refine grown_drew ?_ | (dsimp only; omega) | (simp; done) | omega))
          have hzgw552 := gw552.size
          have hlcu551 := cu551.lt
          clear cu548 gw549
          have RFN := hid (show FreshA cIn 1 3 (w.heap.size + 1) V550 (some ⟨gf, 0, none⟩) cp2 (xs.set 0 dx540) by rw [hV]; refine FreshA.of_own1 ?_ (by omega); repeat' (first | with_reducible exact (OwnS.put1 (y := dx540) (k := 0) (j := 0) cIn_len HOF.out (by omega) (by omega) rfl) | with_reducible refine OwnS.set_far ?_ ?_ _ | (dsimp only; omega) | (simp; done)))
          clear hV
          refine bodyPost_ret (v := .slice (some ⟨gf, 0, none⟩) xs.length cp2) ?_ rfl ⟨(some ⟨gf, 0, none⟩), cp2, xs.set 0 dx540, by simp, FreshA.mono RFN.out (by omega), by simp; omega, CurS.mono cu551 (by omega), gw552⟩
          simp [results, Try.results70, go_sem]
        go_wp2_with (fail)
        refine post_named ?_
        intro V553 hV
        have hkV553 : W497.heap.size ≤ V553.heap.size := by rw [hV]; first | with_reducible exact Nat.le_refl _ | (simp [World.setCell]; done) | (simp; omega)
        have R554 : Hid (FreshA cIn 1 3 (w.heap.size + 1) V553 A2 cp2 xs) := hid (by rw [hV]; (repeat' (first | with_reducible exact R503.out | with_reducible refine FreshA.set_at ?_ (by assumption) _ | with_reducible refine FreshA.set_low ?_ ?_ _ | with_reducible refine FreshA.below ?_ (Below.drew (Below.refl _ _)) | with_reducible refine FreshA.below ?_ (Below.alloc (Below.refl _ _) (Nat.le_refl _) _) | (dsimp only; omega) | (simp; done) | (simp; omega))))
        have cu555 : CurS V553 b A cs cap (m + 2 + (fs.length : Int) + 1) := by rw [hV]; (repeat' (first | with_reducible refine CurS.setc ?_ ?_ | with_reducible refine CurS.allo ?_ | with_reducible refine CurS.drw ?_ | with_reducible exact cu504 | (dsimp only; omega) | (simp; done) | (simp; omega)))
        have gw556 : w.grownBy V553 (some b) := by rw [hV]; (repeat' (first | with_reducible exact World.grownBy.refl _ _ | with_reducible exact gw505 | with_reducible refine grownA ?_ | with_reducible refine grownS ?_ ?_ | with_reducible refine grown_drew ?_ | (dsimp only; omega) | (simp; done) | omega))
        have hzgw556 := gw556.size
        have hlcu555 := cu555.lt
        clear R503 cu504 gw505
        clear hV
        refine bodyPost_ret (v := .slice A2 xs.length cp2) ?_ rfl ⟨A2, cp2, xs, rfl, FreshA.mono R554.out (by omega), by first | (simp; omega) | omega, CurS.mono cu555 (by omega), gw556⟩
        simp [results, Try.results70, go_sem]
      go_wp2_with (fail)
      refine calls_named ?_
      intro V557 hV
      have hkV557 : wr.heap.size ≤ V557.heap.size := by rw [hV]; first | with_reducible exact Nat.le_refl _ | (simp [World.setCell]; done) | (simp; omega)
      have c558 : V557.cell? ⟨w.heap.size, 0, none⟩ = some (.int .i64 l) := by rw [hV]; first | ((repeat' (first | with_reducible exact p0 | with_reducible refine cellK_drew ?_ | with_reducible refine cellK_alloc ?_ | with_reducible refine cellK_set ?_ (by dsimp only; omega))); done) | (first | (simp [go_sem, ↓IntWalk.iteOmega, *]; done) | (simp [go_sem, ↓IntWalk.iteOmega, *]; intros; omega))
      have c559 : V557.cell? ⟨w.heap.size, 1, none⟩ = some (.int .i64 u) := by rw [hV]; first | ((repeat' (first | with_reducible exact p1 | with_reducible refine cellK_drew ?_ | with_reducible refine cellK_alloc ?_ | with_reducible refine cellK_set ?_ (by dsimp only; omega))); done) | (first | (simp [go_sem, ↓IntWalk.iteOmega, *]; done) | (simp [go_sem, ↓IntWalk.iteOmega, *]; intros; omega))
      have c560 : V557.cell? ⟨w.heap.size, 2, none⟩ = some (.int .i64 v) := by rw [hV]; first | ((repeat' (first | with_reducible exact p2 | with_reducible refine cellK_drew ?_ | with_reducible refine cellK_alloc ?_ | with_reducible refine cellK_set ?_ (by dsimp only; omega))); done) | (first | (simp [go_sem, ↓IntWalk.iteOmega, *]; done) | (simp [go_sem, ↓IntWalk.iteOmega, *]; intros; omega))
      have c561 : V557.cell? ⟨w.heap.size, 3, none⟩ = some (.slice Af fs.length capf) := by rw [hV]; first | ((repeat' (first | with_reducible exact p3 | with_reducible refine cellK_drew ?_ | with_reducible refine cellK_alloc ?_ | with_reducible refine cellK_set ?_ (by dsimp only; omega))); done) | (first | (simp [go_sem, ↓IntWalk.iteOmega, *]; done) | (simp [go_sem, ↓IntWalk.iteOmega, *]; intros; omega))
      have c562 : V557.cell? ⟨w.heap.size, 4, none⟩ = some (.slice Aq ps.length capq) := by rw [hV]; first | ((repeat' (first | with_reducible exact p4 | with_reducible refine cellK_drew ?_ | with_reducible refine cellK_alloc ?_ | with_reducible refine cellK_set ?_ (by dsimp only; omega))); done) | (first | (simp [go_sem, ↓IntWalk.iteOmega, *]; done) | (simp [go_sem, ↓IntWalk.iteOmega, *]; intros; omega))
      have R563 : Hid (FreshA cIn 1 3 (w.heap.size + 1) V557 A2 cp2 xs) := hid (by rw [hV]; (repeat' (first | with_reducible exact RF.out | with_reducible refine FreshA.set_at ?_ (by assumption) _ | with_reducible refine FreshA.set_low ?_ ?_ _ | with_reducible refine FreshA.below ?_ (Below.drew (Below.refl _ _)) | with_reducible refine FreshA.below ?_ (Below.alloc (Below.refl _ _) (Nat.le_refl _) _) | (dsimp only; omega) | (simp; done) | (simp; omega))))
      have cu564 : CurS V557 b A cs cap (m + 2 + (k : Int)) := by rw [hV]; (repeat' (first | with_reducible refine CurS.setc ?_ ?_ | with_reducible refine CurS.allo ?_ | with_reducible refine CurS.drw ?_ | with_reducible exact hcr | (dsimp only; omega) | (simp; done) | (simp; omega)))
      have gw565 : w.grownBy V557 (some b) := by rw [hV]; (repeat' (first | with_reducible exact World.grownBy.refl _ _ | with_reducible exact hgr | with_reducible refine grownA ?_ | with_reducible refine grownS ?_ ?_ | with_reducible refine grown_drew ?_ | (dsimp only; omega) | (simp; done) | omega))
      have hzgw565 := gw565.size
      have hlcu564 := cu564.lt
      clear p0 p1 p2 p3 p4 RF hcr hgr
      clear hV
      refine (c_spec_l1Least _ _ _).mono ?_
      rintro e W566 ⟨rfl, hb⟩
      have hkW566 := hb.size
      have c567 : W566.cell? ⟨w.heap.size, 0, none⟩ = some (.int .i64 l) := (hb.cell (p := ⟨w.heap.size, 0, none⟩) (by show w.heap.size < _; omega)).trans c558
      have c568 : W566.cell? ⟨w.heap.size, 1, none⟩ = some (.int .i64 u) := (hb.cell (p := ⟨w.heap.size, 1, none⟩) (by show w.heap.size < _; omega)).trans c559
      have c569 : W566.cell? ⟨w.heap.size, 2, none⟩ = some (.int .i64 v) := (hb.cell (p := ⟨w.heap.size, 2, none⟩) (by show w.heap.size < _; omega)).trans c560
      have c570 : W566.cell? ⟨w.heap.size, 3, none⟩ = some (.slice Af fs.length capf) := (hb.cell (p := ⟨w.heap.size, 3, none⟩) (by show w.heap.size < _; omega)).trans c561
      have c571 : W566.cell? ⟨w.heap.size, 4, none⟩ = some (.slice Aq ps.length capq) := (hb.cell (p := ⟨w.heap.size, 4, none⟩) (by show w.heap.size < _; omega)).trans c562
      have R572 : Hid (FreshA cIn 1 3 (w.heap.size + 1) W566 A2 cp2 xs) := hid (FreshA.below R563.out hb)
      have cu573 : CurS W566 b A cs cap (m + 2 + (k : Int)) := CurS.below cu564 hb
      have gw574 : w.grownBy W566 (some b) := grown_trans gw565 (grown_of_below hb)
      have hzgw574 := gw574.size
      have hlcu573 := cu573.lt
      clear c558 c559 c560 c561 c562 R563 cu564 gw565
      clear hb
      obtain ⟨n2, hn2, hn2b⟩ : ∃ n2 : Nat, min (ps.length : Int) 2 = n2 ∧ n2 ≤ 2 := ⟨min ps.length 2, by omega, by omega⟩
      rw [hn2]
      have hsh : ∀ z : Int, z = 1 ∨ z = 2 ∨ z = 4 → z ≤ 200 := by intro z h; omega
      go_wp2_with (fail)
      refine calls_named ?_
      intro V575 hV
      have hkV575 : W566.heap.size ≤ V575.heap.size := by rw [hV]; first | with_reducible exact Nat.le_refl _ | (simp [World.setCell]; done) | (simp; omega)
      have c576 : V575.cell? ⟨w.heap.size, 0, none⟩ = some (.int .i64 l) := by rw [hV]; first | ((repeat' (first | with_reducible exact c567 | with_reducible refine cellK_drew ?_ | with_reducible refine cellK_alloc ?_ | with_reducible refine cellK_set ?_ (by dsimp only; omega))); done) | (first | (simp [go_sem, ↓IntWalk.iteOmega, *]; done) | (simp [go_sem, ↓IntWalk.iteOmega, *]; intros; omega))
      have c577 : V575.cell? ⟨w.heap.size, 1, none⟩ = some (.int .i64 u) := by rw [hV]; first | ((repeat' (first | with_reducible exact c568 | with_reducible refine cellK_drew ?_ | with_reducible refine cellK_alloc ?_ | with_reducible refine cellK_set ?_ (by dsimp only; omega))); done) | (first | (simp [go_sem, ↓IntWalk.iteOmega, *]; done) | (simp [go_sem, ↓IntWalk.iteOmega, *]; intros; omega))
      have c578 : V575.cell? ⟨w.heap.size, 2, none⟩ = some (.int .i64 v) := by rw [hV]; first | ((repeat' (first | with_reducible exact c569 | with_reducible refine cellK_drew ?_ | with_reducible refine cellK_alloc ?_ | with_reducible refine cellK_set ?_ (by dsimp only; omega))); done) | (first | (simp [go_sem, ↓IntWalk.iteOmega, *]; done) | (simp [go_sem, ↓IntWalk.iteOmega, *]; intros; omega))
      have c579 : V575.cell? ⟨w.heap.size, 3, none⟩ = some (.slice Af fs.length capf) := by rw [hV]; first | ((repeat' (first | with_reducible exact c570 | with_reducible refine cellK_drew ?_ | with_reducible refine cellK_alloc ?_ | with_reducible refine cellK_set ?_ (by dsimp only; omega))); done) | (first | (simp [go_sem, ↓IntWalk.iteOmega, *]; done) | (simp [go_sem, ↓IntWalk.iteOmega, *]; intros; omega))
      have c580 : V575.cell? ⟨w.heap.size, 4, none⟩ = some (.slice Aq ps.length capq) := by rw [hV]; first | ((repeat' (first | with_reducible exact c571 | with_reducible refine cellK_drew ?_ | with_reducible refine cellK_alloc ?_ | with_reducible refine cellK_set ?_ (by dsimp only; omega))); done) | (first | (simp [go_sem, ↓IntWalk.iteOmega, *]; done) | (simp [go_sem, ↓IntWalk.iteOmega, *]; intros; omega))
      have R581 : Hid (FreshA cIn 1 3 (w.heap.size + 1) V575 A2 cp2 xs) := hid (by rw [hV]; (repeat' (first | with_reducible exact R572.out | with_reducible refine FreshA.set_at ?_ (by assumption) _ | with_reducible refine FreshA.set_low ?_ ?_ _ | with_reducible refine FreshA.below ?_ (Below.drew (Below.refl _ _)) | with_reducible refine FreshA.below ?_ (Below.alloc (Below.refl _ _) (Nat.le_refl _) _) | (dsimp only; omega) | (simp; done) | (simp; omega))))
      have cu582 : CurS V575 b A cs cap (m + 2 + (k : Int)) := by rw [hV]; (repeat' (first | with_reducible refine CurS.setc ?_ ?_ | with_reducible refine CurS.allo ?_ | with_reducible refine CurS.drw ?_ | with_reducible exact cu573 | (dsimp only; omega) | (simp; done) | (simp; omega)))
      have gw583 : w.grownBy V575 (some b) := by rw [hV]; (repeat' (first | with_reducible exact World.grownBy.refl _ _ | with_reducible exact gw574 | with_reducible refine grownA ?_ | with_reducible refine grownS ?_ ?_ | with_reducible refine grown_drew ?_ | (dsimp only; omega) | (simp; done) | omega))
      have hzgw583 := gw583.size
      have hlcu582 := cu582.lt
      clear c567 c568 c569 c570 c571 R572 cu573 gw574
      clear hV
      have hpw : (2 : Int) ^ n2 ≤ 4 := by rcases (show n2 = 0 ∨ n2 = 1 ∨ n2 = 2 by omega) with rfl | rfl | rfl <;> decide
      refine (c_pick b A cs cap (m + 2 + (k : Int)) _ _ cu582 hby (by omega) hl (by rcases (show n2 = 0 ∨ n2 = 1 ∨ n2 = 2 by omega) with rfl | rfl | rfl <;> (rw [IntWalk.wrap64_in _ (by decide)]; decide))).mono ?_
      rintro e W584 ⟨dx, rfl, hdxa, hdxb, hcn, hg⟩
      have hkW584 := hg.size
      have c585 : W584.cell? ⟨w.heap.size, 0, none⟩ = some (.int .i64 l) := (cellRow hg (w.heap.size) 0).trans (by rw [if_pos ⟨by omega, by omega⟩]; exact c576)
      have c586 : W584.cell? ⟨w.heap.size, 1, none⟩ = some (.int .i64 u) := (cellRow hg (w.heap.size) 1).trans (by rw [if_pos ⟨by omega, by omega⟩]; exact c577)
      have c587 : W584.cell? ⟨w.heap.size, 2, none⟩ = some (.int .i64 v) := (cellRow hg (w.heap.size) 2).trans (by rw [if_pos ⟨by omega, by omega⟩]; exact c578)
      have c588 : W584.cell? ⟨w.heap.size, 3, none⟩ = some (.slice Af fs.length capf) := (cellRow hg (w.heap.size) 3).trans (by rw [if_pos ⟨by omega, by omega⟩]; exact c579)
      have c589 : W584.cell? ⟨w.heap.size, 4, none⟩ = some (.slice Aq ps.length capq) := (cellRow hg (w.heap.size) 4).trans (by rw [if_pos ⟨by omega, by omega⟩]; exact c580)
      have R590 : Hid (FreshA cIn 1 3 (w.heap.size + 1) W584 A2 cp2 xs) := hid (FreshA.rowb R581.out hg (by omega))
      have cu591 : CurS W584 b A cs cap (m + 2 + (k : Int) + 1) := hcn
      have gw592 : w.grownBy W584 (some b) := grown_trans gw583 hg
      have hzgw592 := gw592.size
      have hlcu591 := cu591.lt
      clear c576 c577 c578 c579 c580 R581 cu582 gw583
      clear hg
      go_wp2_with (at_builtin; refine wlist_named ?_)
      intro V593 hV
      have hkV593 : W584.heap.size ≤ V593.heap.size := by rw [hV]; first | with_reducible exact Nat.le_refl _ | (simp [World.setCell]; done) | (simp; omega)
      have c594 : V593.cell? ⟨w.heap.size, 0, none⟩ = some (.int .i64 l) := by rw [hV]; first | ((repeat' (first | with_reducible exact c585 | with_reducible refine cellK_drew ?_ | with_reducible refine cellK_alloc ?_ | with_reducible refine cellK_set ?_ (by dsimp only; omega))); done) | (first | (simp [go_sem, ↓IntWalk.iteOmega, *]; done) | (simp [go_sem, ↓IntWalk.iteOmega, *]; intros; omega))
      have c595 : V593.cell? ⟨w.heap.size, 1, none⟩ = some (.int .i64 u) := by rw [hV]; first | ((repeat' (first | with_reducible exact c586 | with_reducible refine cellK_drew ?_ | with_reducible refine cellK_alloc ?_ | with_reducible refine cellK_set ?_ (by dsimp only; omega))); done) | (first | (simp [go_sem, ↓IntWalk.iteOmega, *]; done) | (simp [go_sem, ↓IntWalk.iteOmega, *]; intros; omega))
      have c596 : V593.cell? ⟨w.heap.size, 2, none⟩ = some (.int .i64 v) := by rw [hV]; first | ((repeat' (first | with_reducible exact c587 | with_reducible refine cellK_drew ?_ | with_reducible refine cellK_alloc ?_ | with_reducible refine cellK_set ?_ (by dsimp only; omega))); done) | (first | (simp [go_sem, ↓IntWalk.iteOmega, *]; done) | (simp [go_sem, ↓IntWalk.iteOmega, *]; intros; omega))
      have c597 : V593.cell? ⟨w.heap.size, 3, none⟩ = some (.slice Af fs.length capf) := by rw [hV]; first | ((repeat' (first | with_reducible exact c588 | with_reducible refine cellK_drew ?_ | with_reducible refine cellK_alloc ?_ | with_reducible refine cellK_set ?_ (by dsimp only; omega))); done) | (first | (simp [go_sem, ↓IntWalk.iteOmega, *]; done) | (simp [go_sem, ↓IntWalk.iteOmega, *]; intros; omega))
      have c598 : V593.cell? ⟨w.heap.size, 4, none⟩ = some (.slice Aq ps.length capq) := by rw [hV]; first | ((repeat' (first | with_reducible exact c589 | with_reducible refine cellK_drew ?_ | with_reducible refine cellK_alloc ?_ | with_reducible refine cellK_set ?_ (by dsimp only; omega))); done) | (first | (simp [go_sem, ↓IntWalk.iteOmega, *]; done) | (simp [go_sem, ↓IntWalk.iteOmega, *]; intros; omega))
      have R599 : Hid (FreshA cIn 1 3 (w.heap.size + 1) V593 A2 cp2 xs) := hid (by rw [hV]; (repeat' (first | with_reducible exact R590.out | with_reducible refine FreshA.set_at ?_ (by assumption) _ | with_reducible refine FreshA.set_low ?_ ?_ _ | with_reducible refine FreshA.below ?_ (Below.drew (Below.refl _ _)) | with_reducible refine FreshA.below ?_ (Below.alloc (Below.refl _ _) (Nat.le_refl _) _) | (dsimp only; omega) | (simp; done) | (simp; omega))))
      have cu600 : CurS V593 b A cs cap (m + 2 + (k : Int) + 1) := by rw [hV]; (repeat' (first | with_reducible refine CurS.setc ?_ ?_ | with_reducible refine CurS.allo ?_ | with_reducible refine CurS.drw ?_ | with_reducible exact cu591 | (dsimp only; omega) | (simp; done) | (simp; omega)))
      have gw601 : w.grownBy V593 (some b) := by rw [hV]; (repeat' (first | with_reducible exact World.grownBy.refl _ _ | with_reducible exact gw592 | with_reducible refine grownA ?_ | with_reducible refine grownS ?_ ?_ | with_reducible refine grown_drew ?_ | (dsimp only; omega) | (simp; done) | omega))
      have hzgw601 := gw601.size
      have hlcu600 := cu600.lt
      clear c585 c586 c587 c588 c589 R590 cu591 gw592
      refine wpList_pushesR (xs := xs) rfl (.tmp 30) (.tmp 39) 22 rfl 3 i0 _ 8 Try.underlying22 hI0 hI1 hI2 hI3 rfl (by decide) (fun _ => rfl) one_In _ rfl rfl R599.out [dx] 1 rfl _ _ rfl (by rw [hV]; exact Rds.of_lit (by simp) (by intro i x h; rcases i with _ | i <;> simp at h ⊢ <;> first | exact h | omega)) (by unfold maxLen; omega) (by first | omega | (simp; omega)) (by omega) ?_
      intro A5 cp5 W5 hF3 hg3 hat3
      clear hV
      have hkW5 := hg3.size
      have hlo := R599.out.lo
      have c602 : W5.cell? ⟨w.heap.size, 0, none⟩ = some (.int .i64 l) := (World.cell?_of_block (a := ⟨w.heap.size, 0, none⟩) (hg3.block (w.heap.size) (by omega) (ne_blk hlo (by omega)))).trans c594
      have c603 : W5.cell? ⟨w.heap.size, 1, none⟩ = some (.int .i64 u) := (World.cell?_of_block (a := ⟨w.heap.size, 1, none⟩) (hg3.block (w.heap.size) (by omega) (ne_blk hlo (by omega)))).trans c595
      have c604 : W5.cell? ⟨w.heap.size, 2, none⟩ = some (.int .i64 v) := (World.cell?_of_block (a := ⟨w.heap.size, 2, none⟩) (hg3.block (w.heap.size) (by omega) (ne_blk hlo (by omega)))).trans c596
      have c605 : W5.cell? ⟨w.heap.size, 3, none⟩ = some (.slice Af fs.length capf) := (World.cell?_of_block (a := ⟨w.heap.size, 3, none⟩) (hg3.block (w.heap.size) (by omega) (ne_blk hlo (by omega)))).trans c597
      have c606 : W5.cell? ⟨w.heap.size, 4, none⟩ = some (.slice Aq ps.length capq) := (World.cell?_of_block (a := ⟨w.heap.size, 4, none⟩) (hg3.block (w.heap.size) (by omega) (ne_blk hlo (by omega)))).trans c598
      have R607 : Hid (FreshA cIn 1 3 (w.heap.size + 1) W5 A5 cp5 (xs ++ [dx])) := hid (hF3)
      have cu608 : CurS W5 b A cs cap (m + 2 + (k : Int) + 1) := CurS.other cu600 hg3 hlo (by omega)
      have gw609 : w.grownBy W5 (some b) := grown_other gw601 hg3 (hlo.mono (by omega))
      have hzgw609 := gw609.size
      have hlcu608 := cu608.lt
      clear c594 c595 c596 c597 c598 R599 cu600 gw601
      clear hlo
      clear hF3 hg3 hat3
      have hl5 : (xs ++ [dx]).length = xs.length + 1 := by simp
      go_wp2_with (fail)
      go_roundw
      case rel =>
        refine ⟨k + 1, A5, cp5, xs ++ [dx], by first | rfl | (rw [hl5]; done) | (simp; done), by go_num, by simp; omega, by omega, ?_, ?_, ?_, ?_, ?_, ?_, ?_, ?_, ?_⟩
        · first | ((repeat' (first | with_reducible exact c602 | with_reducible refine cellK_drew ?_ | with_reducible refine cellK_alloc ?_ | with_reducible refine cellK_set ?_ (by dsimp only; omega))); done) | (first | (simp [go_sem, ↓IntWalk.iteOmega, *]; done) | (simp [go_sem, ↓IntWalk.iteOmega, *]; intros; omega))
        · first | ((repeat' (first | with_reducible exact c603 | with_reducible refine cellK_drew ?_ | with_reducible refine cellK_alloc ?_ | with_reducible refine cellK_set ?_ (by dsimp only; omega))); done) | (first | (simp [go_sem, ↓IntWalk.iteOmega, *]; done) | (simp [go_sem, ↓IntWalk.iteOmega, *]; intros; omega))
        · first | ((repeat' (first | with_reducible exact c604 | with_reducible refine cellK_drew ?_ | with_reducible refine cellK_alloc ?_ | with_reducible refine cellK_set ?_ (by dsimp only; omega))); done) | (first | (simp [go_sem, ↓IntWalk.iteOmega, *]; done) | (simp [go_sem, ↓IntWalk.iteOmega, *]; intros; omega))
        · first | ((repeat' (first | with_reducible exact c605 | with_reducible refine cellK_drew ?_ | with_reducible refine cellK_alloc ?_ | with_reducible refine cellK_set ?_ (by dsimp only; omega))); done) | (first | (simp [go_sem, ↓IntWalk.iteOmega, *]; done) | (simp [go_sem, ↓IntWalk.iteOmega, *]; intros; omega))
        · first | ((repeat' (first | with_reducible exact c606 | with_reducible refine cellK_drew ?_ | with_reducible refine cellK_alloc ?_ | with_reducible refine cellK_set ?_ (by dsimp only; omega))); done) | (first | (simp [go_sem, ↓IntWalk.iteOmega, *]; done) | (simp [go_sem, ↓IntWalk.iteOmega, *]; intros; omega))
        · first | omega | (simp; omega)
        · (repeat' (first | with_reducible exact R607.out | with_reducible refine FreshA.set_at ?_ (by assumption) _ | with_reducible refine FreshA.set_low ?_ ?_ _ | with_reducible refine FreshA.below ?_ (Below.drew (Below.refl _ _)) | with_reducible refine FreshA.below ?_ (Below.alloc (Below.refl _ _) (Nat.le_refl _) _) | (dsimp only; omega) | (simp; done) | (simp; omega)))
        · refine CurS.mono ?_ (m := m + 2 + (k : Int) + 1) (by omega)
          (repeat' (first | with_reducible refine CurS.setc ?_ ?_ | with_reducible refine CurS.allo ?_ | with_reducible refine CurS.drw ?_ | with_reducible exact cu608 | (dsimp only; omega) | (simp; done) | (simp; omega)))
        · (repeat' (first | with_reducible exact World.grownBy.refl _ _ | with_reducible exact gw609 | with_reducible refine grownA ?_ | with_reducible refine grownS ?_ ?_ | with_reducible refine grown_drew ?_ | (dsimp only; omega) | (simp; done) | omega))
      case measure => simp [intOf]; omega
  go_wp2_with (fail)
  refine calls_named ?_
  intro V610 hV
  have hkV610 : W478.heap.size ≤ V610.heap.size := by rw [hV]; first | with_reducible exact Nat.le_refl _ | (simp [World.setCell]; done) | (simp; omega)
  have c611 : V610.cell? ⟨w.heap.size, 0, none⟩ = some (.int .i64 l) := by rw [hV]; first | ((repeat' (first | with_reducible exact c479 | with_reducible refine cellK_drew ?_ | with_reducible refine cellK_alloc ?_ | with_reducible refine cellK_set ?_ (by dsimp only; omega))); done) | (first | (simp [go_sem, ↓IntWalk.iteOmega, *]; done) | (simp [go_sem, ↓IntWalk.iteOmega, *]; intros; omega))
  have c612 : V610.cell? ⟨w.heap.size, 1, none⟩ = some (.int .i64 u) := by rw [hV]; first | ((repeat' (first | with_reducible exact c480 | with_reducible refine cellK_drew ?_ | with_reducible refine cellK_alloc ?_ | with_reducible refine cellK_set ?_ (by dsimp only; omega))); done) | (first | (simp [go_sem, ↓IntWalk.iteOmega, *]; done) | (simp [go_sem, ↓IntWalk.iteOmega, *]; intros; omega))
  have c613 : V610.cell? ⟨w.heap.size, 2, none⟩ = some (.int .i64 v) := by rw [hV]; first | ((repeat' (first | with_reducible exact c481 | with_reducible refine cellK_drew ?_ | with_reducible refine cellK_alloc ?_ | with_reducible refine cellK_set ?_ (by dsimp only; omega))); done) | (first | (simp [go_sem, ↓IntWalk.iteOmega, *]; done) | (simp [go_sem, ↓IntWalk.iteOmega, *]; intros; omega))
  have c614 : V610.cell? ⟨w.heap.size, 3, none⟩ = some (.slice Af fs.length capf) := by rw [hV]; first | ((repeat' (first | with_reducible exact c482 | with_reducible refine cellK_drew ?_ | with_reducible refine cellK_alloc ?_ | with_reducible refine cellK_set ?_ (by dsimp only; omega))); done) | (first | (simp [go_sem, ↓IntWalk.iteOmega, *]; done) | (simp [go_sem, ↓IntWalk.iteOmega, *]; intros; omega))
  have c615 : V610.cell? ⟨w.heap.size, 4, none⟩ = some (.slice Aq ps.length capq) := by rw [hV]; first | ((repeat' (first | with_reducible exact c483 | with_reducible refine cellK_drew ?_ | with_reducible refine cellK_alloc ?_ | with_reducible refine cellK_set ?_ (by dsimp only; omega))); done) | (first | (simp [go_sem, ↓IntWalk.iteOmega, *]; done) | (simp [go_sem, ↓IntWalk.iteOmega, *]; intros; omega))
  have R616 : Hid (FreshA cIn 1 3 (V470.heap.size) V610 Aq1 cq1 q) := hid (by rw [hV]; (repeat' (first | with_reducible exact S486.out | with_reducible refine FreshA.set_at ?_ (by assumption) _ | with_reducible refine FreshA.set_low ?_ ?_ _ | with_reducible refine FreshA.below ?_ (Below.drew (Below.refl _ _)) | with_reducible refine FreshA.below ?_ (Below.alloc (Below.refl _ _) (Nat.le_refl _) _) | (dsimp only; omega) | (simp; done) | (simp; omega))))
  have cu617 : CurS V610 b A cs cap (m) := by rw [hV]; (repeat' (first | with_reducible refine CurS.setc ?_ ?_ | with_reducible refine CurS.allo ?_ | with_reducible refine CurS.drw ?_ | with_reducible exact cu484 | (dsimp only; omega) | (simp; done) | (simp; omega)))
  have gw618 : w.grownBy V610 (some b) := by rw [hV]; (repeat' (first | with_reducible exact World.grownBy.refl _ _ | with_reducible exact gw485 | with_reducible refine grownA ?_ | with_reducible refine grownS ?_ ?_ | with_reducible refine grown_drew ?_ | (dsimp only; omega) | (simp; done) | omega))
  have hzgw618 := gw618.size
  have hlcu617 := cu617.lt
  clear c479 c480 c481 c482 c483 S486 cu484 gw485
  clear hV
  refine (c_one b A cs cap (m) 3 _ cu617 hby (by omega) hl (by omega)).mono ?_
  rintro e W620 ⟨y619, rfl, hcn, hg⟩
  have hkW620 := hg.size
  have c621 : W620.cell? ⟨w.heap.size, 0, none⟩ = some (.int .i64 l) := (cellRow hg (w.heap.size) 0).trans (by rw [if_pos ⟨by omega, by omega⟩]; exact c611)
  have c622 : W620.cell? ⟨w.heap.size, 1, none⟩ = some (.int .i64 u) := (cellRow hg (w.heap.size) 1).trans (by rw [if_pos ⟨by omega, by omega⟩]; exact c612)
  have c623 : W620.cell? ⟨w.heap.size, 2, none⟩ = some (.int .i64 v) := (cellRow hg (w.heap.size) 2).trans (by rw [if_pos ⟨by omega, by omega⟩]; exact c613)
  have c624 : W620.cell? ⟨w.heap.size, 3, none⟩ = some (.slice Af fs.length capf) := (cellRow hg (w.heap.size) 3).trans (by rw [if_pos ⟨by omega, by omega⟩]; exact c614)
  have c625 : W620.cell? ⟨w.heap.size, 4, none⟩ = some (.slice Aq ps.length capq) := (cellRow hg (w.heap.size) 4).trans (by rw [if_pos ⟨by omega, by omega⟩]; exact c615)
  have R626 : Hid (FreshA cIn 1 3 (V470.heap.size) W620 Aq1 cq1 q) := hid (FreshA.rowb R616.out hg (by omega))
  have cu627 : CurS W620 b A cs cap (m + 1) := hcn
  have gw628 : w.grownBy W620 (some b) := grown_trans gw618 hg
  have hzgw628 := gw628.size
  have hlcu627 := cu627.lt
  clear c611 c612 c613 c614 c615 R616 cu617 gw618
  clear hg
  cases y619
  · go_wp2_with (fail)
    go_loopw [8, 9] (fun o i wr => ∃ (k : Nat) (A2 : Option Addr) (cp2 : Nat) (xs : List Int), o = .slice A2 xs.length cp2 ∧ i = .int .i64 k ∧ xs.length ≤ k ∧ k ≤ fs.length ∧ wr.cell? ⟨w.heap.size, 0, none⟩ = some (.int .i64 l) ∧ wr.cell? ⟨w.heap.size, 1, none⟩ = some (.int .i64 u) ∧ wr.cell? ⟨w.heap.size, 2, none⟩ = some (.int .i64 v) ∧ wr.cell? ⟨w.heap.size, 3, none⟩ = some (.slice Af fs.length capf) ∧ wr.cell? ⟨w.heap.size, 4, none⟩ = some (.slice Aq ps.length capq) ∧ w.heap.size < wr.heap.size ∧ FreshA cIn 1 3 (w.heap.size + 1) wr A2 cp2 xs ∧ CurS wr b A cs cap (m + 2 + (k : Int)) ∧ w.grownBy wr (some b)) (fun _ i _ => fs.length - (intOf i).toNat)
    case atStart =>
      refine ⟨0, _, _, [], rfl, rfl, Nat.zero_le _, Nat.zero_le _, ?_, ?_, ?_, ?_, ?_, ?_, ?_, ?_, ?_⟩
      · first | ((repeat' (first | with_reducible exact c621 | with_reducible refine cellK_drew ?_ | with_reducible refine cellK_alloc ?_ | with_reducible refine cellK_set ?_ (by dsimp only; omega))); done) | (first | (simp [go_sem, ↓IntWalk.iteOmega, *]; done) | (simp [go_sem, ↓IntWalk.iteOmega, *]; intros; omega))
      · first | ((repeat' (first | with_reducible exact c622 | with_reducible refine cellK_drew ?_ | with_reducible refine cellK_alloc ?_ | with_reducible refine cellK_set ?_ (by dsimp only; omega))); done) | (first | (simp [go_sem, ↓IntWalk.iteOmega, *]; done) | (simp [go_sem, ↓IntWalk.iteOmega, *]; intros; omega))
      · first | ((repeat' (first | with_reducible exact c623 | with_reducible refine cellK_drew ?_ | with_reducible refine cellK_alloc ?_ | with_reducible refine cellK_set ?_ (by dsimp only; omega))); done) | (first | (simp [go_sem, ↓IntWalk.iteOmega, *]; done) | (simp [go_sem, ↓IntWalk.iteOmega, *]; intros; omega))
      · first | ((repeat' (first | with_reducible exact c624 | with_reducible refine cellK_drew ?_ | with_reducible refine cellK_alloc ?_ | with_reducible refine cellK_set ?_ (by dsimp only; omega))); done) | (first | (simp [go_sem, ↓IntWalk.iteOmega, *]; done) | (simp [go_sem, ↓IntWalk.iteOmega, *]; intros; omega))
      · first | ((repeat' (first | with_reducible exact c625 | with_reducible refine cellK_drew ?_ | with_reducible refine cellK_alloc ?_ | with_reducible refine cellK_set ?_ (by dsimp only; omega))); done) | (first | (simp [go_sem, ↓IntWalk.iteOmega, *]; done) | (simp [go_sem, ↓IntWalk.iteOmega, *]; intros; omega))
      · first | (simp; done) | (simp; omega)
      · exact FreshA.newp rfl (by first | omega | (simp; omega))
      · refine CurS.mono ?_ (m := m + 1) (by first | omega | (simp; omega))
        (repeat' (first | with_reducible refine CurS.setc ?_ ?_ | with_reducible refine CurS.allo ?_ | with_reducible refine CurS.drw ?_ | with_reducible exact cu627 | (dsimp only; omega) | (simp; done) | (simp; omega)))
      · (repeat' (first | with_reducible exact World.grownBy.refl _ _ | with_reducible exact gw628 | with_reducible refine grownA ?_ | with_reducible refine grownS ?_ ?_ | with_reducible refine grown_drew ?_ | (dsimp only; omega) | (simp; done) | omega))
    case round =>
      obtain ⟨k, A2, cp2, xs, rfl, rfl, hxk, hk, p0, p1, p2, p3, p4, hB, hF, hcr, hgr⟩ := hrel
      have RF := hid hF
      clear hF
      have hgrz := hgr.size
      have hcrl := hcr.lt
      by_cases hlt : k < fs.length
      rotate_left
      · obtain rfl : k = fs.length := by omega
        go_wp2_with (fail)
        refine calls_named ?_
        intro V629 hV
        have hkV629 : wr.heap.size ≤ V629.heap.size := by rw [hV]; first | with_reducible exact Nat.le_refl _ | (simp [World.setCell]; done) | (simp; omega)
        have c630 : V629.cell? ⟨w.heap.size, 0, none⟩ = some (.int .i64 l) := by rw [hV]; first | ((repeat' (first | with_reducible exact p0 | with_reducible refine cellK_drew ?_ | with_reducible refine cellK_alloc ?_ | with_reducible refine cellK_set ?_ (by dsimp only; omega))); done) | (first | (simp [go_sem, ↓IntWalk.iteOmega, *]; done) | (simp [go_sem, ↓IntWalk.iteOmega, *]; intros; omega))
        have c631 : V629.cell? ⟨w.heap.size, 1, none⟩ = some (.int .i64 u) := by rw [hV]; first | ((repeat' (first | with_reducible exact p1 | with_reducible refine cellK_drew ?_ | with_reducible refine cellK_alloc ?_ | with_reducible refine cellK_set ?_ (by dsimp only; omega))); done) | (first | (simp [go_sem, ↓IntWalk.iteOmega, *]; done) | (simp [go_sem, ↓IntWalk.iteOmega, *]; intros; omega))
        have c632 : V629.cell? ⟨w.heap.size, 2, none⟩ = some (.int .i64 v) := by rw [hV]; first | ((repeat' (first | with_reducible exact p2 | with_reducible refine cellK_drew ?_ | with_reducible refine cellK_alloc ?_ | with_reducible refine cellK_set ?_ (by dsimp only; omega))); done) | (first | (simp [go_sem, ↓IntWalk.iteOmega, *]; done) | (simp [go_sem, ↓IntWalk.iteOmega, *]; intros; omega))
        have c633 : V629.cell? ⟨w.heap.size, 3, none⟩ = some (.slice Af fs.length capf) := by rw [hV]; first | ((repeat' (first | with_reducible exact p3 | with_reducible refine cellK_drew ?_ | with_reducible refine cellK_alloc ?_ | with_reducible refine cellK_set ?_ (by dsimp only; omega))); done) | (first | (simp [go_sem, ↓IntWalk.iteOmega, *]; done) | (simp [go_sem, ↓IntWalk.iteOmega, *]; intros; omega))
        have c634 : V629.cell? ⟨w.heap.size, 4, none⟩ = some (.slice Aq ps.length capq) := by rw [hV]; first | ((repeat' (first | with_reducible exact p4 | with_reducible refine cellK_drew ?_ | with_reducible refine cellK_alloc ?_ | with_reducible refine cellK_set ?_ (by dsimp only; omega))); done) | (first | (simp [go_sem, ↓IntWalk.iteOmega, *]; done) | (simp [go_sem, ↓IntWalk.iteOmega, *]; intros; omega))
        have R635 : Hid (FreshA cIn 1 3 (w.heap.size + 1) V629 A2 cp2 xs) := hid (by rw [hV]; (repeat' (first | with_reducible exact RF.out | with_reducible refine FreshA.set_at ?_ (by assumption) _ | with_reducible refine FreshA.set_low ?_ ?_ _ | with_reducible refine FreshA.below ?_ (Below.drew (Below.refl _ _)) | with_reducible refine FreshA.below ?_ (Below.alloc (Below.refl _ _) (Nat.le_refl _) _) | (dsimp only; omega) | (simp; done) | (simp; omega))))
        have cu636 : CurS V629 b A cs cap (m + 2 + (fs.length : Int)) := by rw [hV]; (repeat' (first | with_reducible refine CurS.setc ?_ ?_ | with_reducible refine CurS.allo ?_ | with_reducible refine CurS.drw ?_ | with_reducible exact hcr | (dsimp only; omega) | (simp; done) | (simp; omega)))
        have gw637 : w.grownBy V629 (some b) := by rw [hV]; (repeat' (first | with_reducible exact World.grownBy.refl _ _ | with_reducible exact hgr | with_reducible refine grownA ?_ | with_reducible refine grownS ?_ ?_ | with_reducible refine grown_drew ?_ | (dsimp only; omega) | (simp; done) | omega))
        have hzgw637 := gw637.size
        have hlcu636 := cu636.lt
        clear p0 p1 p2 p3 p4 RF hcr hgr
        clear hV
        refine (c_pick b A cs cap (m + 2 + (fs.length : Int)) (24) _ cu636 hby (by omega) hl (by omega)).mono ?_
        rintro e W639 ⟨dx638, rfl, hdx638a, hdx638b, hcn, hg⟩
        have hkW639 := hg.size
        have c640 : W639.cell? ⟨w.heap.size, 0, none⟩ = some (.int .i64 l) := (cellRow hg (w.heap.size) 0).trans (by rw [if_pos ⟨by omega, by omega⟩]; exact c630)
        have c641 : W639.cell? ⟨w.heap.size, 1, none⟩ = some (.int .i64 u) := (cellRow hg (w.heap.size) 1).trans (by rw [if_pos ⟨by omega, by omega⟩]; exact c631)
        have c642 : W639.cell? ⟨w.heap.size, 2, none⟩ = some (.int .i64 v) := (cellRow hg (w.heap.size) 2).trans (by rw [if_pos ⟨by omega, by omega⟩]; exact c632)
        have c643 : W639.cell? ⟨w.heap.size, 3, none⟩ = some (.slice Af fs.length capf) := (cellRow hg (w.heap.size) 3).trans (by rw [if_pos ⟨by omega, by omega⟩]; exact c633)
        have c644 : W639.cell? ⟨w.heap.size, 4, none⟩ = some (.slice Aq ps.length capq) := (cellRow hg (w.heap.size) 4).trans (by rw [if_pos ⟨by omega, by omega⟩]; exact c634)
        have R645 : Hid (FreshA cIn 1 3 (w.heap.size + 1) W639 A2 cp2 xs) := hid (FreshA.rowb R635.out hg (by omega))
        have cu646 : CurS W639 b A cs cap (m + 2 + (fs.length : Int) + 1) := hcn
        have gw647 : w.grownBy W639 (some b) := grown_trans gw637 hg
        have hzgw647 := gw647.size
        have hlcu646 := cu646.lt
        clear c630 c631 c632 c633 c634 R635 cu636 gw637
        clear hg
        by_cases hq0 : dx638 = 0
        · subst hq0
          go_wp2_with (at_builtin; refine wlist_named ?_)
          intro V648 hV
          have hkV648 : W639.heap.size ≤ V648.heap.size := by rw [hV]; first | with_reducible exact Nat.le_refl _ | (simp [World.setCell]; done) | (simp; omega)
          have c649 : V648.cell? ⟨w.heap.size, 0, none⟩ = some (.int .i64 l) := by rw [hV]; first | ((repeat' (first | with_reducible exact c640 | with_reducible refine cellK_drew ?_ | with_reducible refine cellK_alloc ?_ | with_reducible refine cellK_set ?_ (by dsimp only; omega))); done) | (first | (simp [go_sem, ↓IntWalk.iteOmega, *]; done) | (simp [go_sem, ↓IntWalk.iteOmega, *]; intros; omega))
          have c650 : V648.cell? ⟨w.heap.size, 1, none⟩ = some (.int .i64 u) := by rw [hV]; first | ((repeat' (first | with_reducible exact c641 | with_reducible refine cellK_drew ?_ | with_reducible refine cellK_alloc ?_ | with_reducible refine cellK_set ?_ (by dsimp only; omega))); done) | (first | (simp [go_sem, ↓IntWalk.iteOmega, *]; done) | (simp [go_sem, ↓IntWalk.iteOmega, *]; intros; omega))
          have c651 : V648.cell? ⟨w.heap.size, 2, none⟩ = some (.int .i64 v) := by rw [hV]; first | ((repeat' (first | with_reducible exact c642 | with_reducible refine cellK_drew ?_ | with_reducible refine cellK_alloc ?_ | with_reducible refine cellK_set ?_ (by dsimp only; omega))); done) | (first | (simp [go_sem, ↓IntWalk.iteOmega, *]; done) | (simp [go_sem, ↓IntWalk.iteOmega, *]; intros; omega))
          have c652 : V648.cell? ⟨w.heap.size, 3, none⟩ = some (.slice Af fs.length capf) := by rw [hV]; first | ((repeat' (first | with_reducible exact c643 | with_reducible refine cellK_drew ?_ | with_reducible refine cellK_alloc ?_ | with_reducible refine cellK_set ?_ (by dsimp only; omega))); done) | (first | (simp [go_sem, ↓IntWalk.iteOmega, *]; done) | (simp [go_sem, ↓IntWalk.iteOmega, *]; intros; omega))
          have c653 : V648.cell? ⟨w.heap.size, 4, none⟩ = some (.slice Aq ps.length capq) := by rw [hV]; first | ((repeat' (first | with_reducible exact c644 | with_reducible refine cellK_drew ?_ | with_reducible refine cellK_alloc ?_ | with_reducible refine cellK_set ?_ (by dsimp only; omega))); done) | (first | (simp [go_sem, ↓IntWalk.iteOmega, *]; done) | (simp [go_sem, ↓IntWalk.iteOmega, *]; intros; omega))
          have R654 : Hid (FreshA cIn 1 3 (w.heap.size + 1) V648 A2 cp2 xs) := hid (by rw [hV]; (repeat' (first | with_reducible exact R645.out | with_reducible refine FreshA.set_at ?_ (by assumption) _ | with_reducible refine FreshA.set_low ?_ ?_ _ | with_reducible refine FreshA.below ?_ (Below.drew (Below.refl _ _)) | with_reducible refine FreshA.below ?_ (Below.alloc (Below.refl _ _) (Nat.le_refl _) _) | (dsimp only; omega) | (simp; done) | (simp; omega))))
          have cu655 : CurS V648 b A cs cap (m + 2 + (fs.length : Int) + 1) := by rw [hV]; (repeat' (first | with_reducible refine CurS.setc ?_ ?_ | with_reducible refine CurS.allo ?_ | with_reducible refine CurS.drw ?_ | with_reducible exact cu646 | (dsimp only; omega) | (simp; done) | (simp; omega)))
          have gw656 : w.grownBy V648 (some b) := by rw [hV]; (repeat' (first | with_reducible exact World.grownBy.refl _ _ | with_reducible exact gw647 | with_reducible refine grownA ?_ | with_reducible refine grownS ?_ ?_ | with_reducible refine grown_drew ?_ | (dsimp only; omega) | (simp; done) | omega))
          have hzgw656 := gw656.size
          have hlcu655 := cu655.lt
          clear c640 c641 c642 c643 c644 R645 cu646 gw647
          refine wpList_pushesR (xs := xs) rfl (.tmp 45) (.tmp 46) 22 rfl 3 i0 _ 8 Try.underlying22 hI0 hI1 hI2 hI3 rfl (by decide) (fun _ => rfl) one_In _ rfl rfl R654.out [0] 1 rfl _ _ rfl (by rw [hV]; exact Rds.of_lit (by simp) (by intro i x h; rcases i with _ | i <;> simp at h ⊢ <;> first | exact h | omega)) (by unfold maxLen; omega) (by first | omega | (simp; omega)) (by omega) ?_
          intro A5 cp5 W5 hF3 hg3 hat3
          clear hV
          have hkW5 := hg3.size
          have hlo := R654.out.lo
          have c657 : W5.cell? ⟨w.heap.size, 0, none⟩ = some (.int .i64 l) := (World.cell?_of_block (a := ⟨w.heap.size, 0, none⟩) (hg3.block (w.heap.size) (by omega) (ne_blk hlo (by omega)))).trans c649
          have c658 : W5.cell? ⟨w.heap.size, 1, none⟩ = some (.int .i64 u) := (World.cell?_of_block (a := ⟨w.heap.size, 1, none⟩) (hg3.block (w.heap.size) (by omega) (ne_blk hlo (by omega)))).trans c650
          have c659 : W5.cell? ⟨w.heap.size, 2, none⟩ = some (.int .i64 v) := (World.cell?_of_block (a := ⟨w.heap.size, 2, none⟩) (hg3.block (w.heap.size) (by omega) (ne_blk hlo (by omega)))).trans c651
          have c660 : W5.cell? ⟨w.heap.size, 3, none⟩ = some (.slice Af fs.length capf) := (World.cell?_of_block (a := ⟨w.heap.size, 3, none⟩) (hg3.block (w.heap.size) (by omega) (ne_blk hlo (by omega)))).trans c652
          have c661 : W5.cell? ⟨w.heap.size, 4, none⟩ = some (.slice Aq ps.length capq) := (World.cell?_of_block (a := ⟨w.heap.size, 4, none⟩) (hg3.block (w.heap.size) (by omega) (ne_blk hlo (by omega)))).trans c653
          have R662 : Hid (FreshA cIn 1 3 (w.heap.size + 1) W5 A5 cp5 (xs ++ [0])) := hid (hF3)
          have cu663 : CurS W5 b A cs cap (m + 2 + (fs.length : Int) + 1) := CurS.other cu655 hg3 hlo (by omega)
          have gw664 : w.grownBy W5 (some b) := grown_other gw656 hg3 (hlo.mono (by omega))
          have hzgw664 := gw664.size
          have hlcu663 := cu663.lt
          clear c649 c650 c651 c652 c653 R654 cu655 gw656
          clear hlo
          clear hF3 hg3 hat3
          go_wp2_with (fail)
          refine post_named ?_
          intro V665 hV
          have hkV665 : W5.heap.size ≤ V665.heap.size := by rw [hV]; first | with_reducible exact Nat.le_refl _ | (simp [World.setCell]; done) | (simp; omega)
          have R666 : Hid (FreshA cIn 1 3 (w.heap.size + 1) V665 A5 cp5 (xs ++ [0])) := hid (by rw [hV]; (repeat' (first | with_reducible exact R662.out | with_reducible refine FreshA.set_at ?_ (by assumption) _ | with_reducible refine FreshA.set_low ?_ ?_ _ | with_reducible refine FreshA.below ?_ (Below.drew (Below.refl _ _)) | with_reducible refine FreshA.below ?_ (Below.alloc (Below.refl _ _) (Nat.le_refl _) _) | (dsimp only; omega) | (simp; done) | (simp; omega))))
          have cu667 : CurS V665 b A cs cap (m + 2 + (fs.length : Int) + 1) := by rw [hV]; (repeat' (first | with_reducible refine CurS.setc ?_ ?_ | with_reducible refine CurS.allo ?_ | with_reducible refine CurS.drw ?_ | with_reducible exact cu663 | (dsimp only; omega) | (simp; done) | (simp; omega)))
          have gw668 : w.grownBy V665 (some b) := by rw [hV]; (repeat' (first | with_reducible exact World.grownBy.refl _ _ | with_reducible exact gw664 | with_reducible refine grownA ?_ | with_reducible refine grownS ?_ ?_ | with_reducible refine grown_drew ?_ | (dsimp only; omega) | (simp; done) | omega))
          have hzgw668 := gw668.size
          have hlcu667 := cu667.lt
          clear R662 cu663 gw664
          clear hV
          refine bodyPost_ret (v := .slice A5 (xs ++ [0]).length cp5) ?_ rfl ⟨A5, cp5, (xs ++ [0]), rfl, FreshA.mono R666.out (by omega), by first | (simp; omega) | omega, CurS.mono cu667 (by omega), gw668⟩
          simp [results, Try.results70, go_sem]
        by_cases hq1 : dx638 = 1
        · subst hq1
          by_cases h0 : 0 < xs.length
          rotate_left
          · go_wp2_with (fail)
            refine post_named ?_
            intro V669 hV
            have hkV669 : W639.heap.size ≤ V669.heap.size := by rw [hV]; first | with_reducible exact Nat.le_refl _ | (simp [World.setCell]; done) | (simp; omega)
            have R670 : Hid (FreshA cIn 1 3 (w.heap.size + 1) V669 A2 cp2 xs) := hid (by rw [hV]; (repeat' (first | with_reducible exact R645.out | with_reducible refine FreshA.set_at ?_ (by assumption) _ | with_reducible refine FreshA.set_low ?_ ?_ _ | with_reducible refine FreshA.below ?_ (Below.drew (Below.refl _ _)) | with_reducible refine FreshA.below ?_ (Below.alloc (Below.refl _ _) (Nat.le_refl _) _) | (dsimp only; omega) | (simp; done) | (simp; omega))))
            have cu671 : CurS V669 b A cs cap (m + 2 + (fs.length : Int) + 1) := by rw [hV]; (repeat' (first | with_reducible refine CurS.setc ?_ ?_ | with_reducible refine CurS.allo ?_ | with_reducible refine CurS.drw ?_ | with_reducible exact cu646 | (dsimp only; omega) | (simp; done) | (simp; omega)))
            have gw672 : w.grownBy V669 (some b) := by rw [hV]; (repeat' (first | with_reducible exact World.grownBy.refl _ _ | with_reducible exact gw647 | with_reducible refine grownA ?_ | with_reducible refine grownS ?_ ?_ | with_reducible refine grown_drew ?_ | (dsimp only; omega) | (simp; done) | omega))
            have hzgw672 := gw672.size
            have hlcu671 := cu671.lt
            clear R645 cu646 gw647
            clear hV
            refine bodyPost_ret (v := .slice A2 xs.length cp2) ?_ rfl ⟨A2, cp2, xs, rfl, FreshA.mono R670.out (by omega), by first | (simp; omega) | omega, CurS.mono cu671 (by omega), gw672⟩
            simp [results, Try.results70, go_sem]
          obtain ⟨gf, rfl, hBf, hOf⟩ := FreshA.row R645.out h0
          clear hOf
          go_wp2_with (fail)
          refine calls_named ?_
          intro V673 hV
          have hkV673 : W639.heap.size ≤ V673.heap.size := by rw [hV]; first | with_reducible exact Nat.le_refl _ | (simp [World.setCell]; done) | (simp; omega)
          have c674 : V673.cell? ⟨w.heap.size, 0, none⟩ = some (.int .i64 l) := by rw [hV]; first | ((repeat' (first | with_reducible exact c640 | with_reducible refine cellK_drew ?_ | with_reducible refine cellK_alloc ?_ | with_reducible refine cellK_set ?_ (by dsimp only; omega))); done) | (first | (simp [go_sem, ↓IntWalk.iteOmega, *]; done) | (simp [go_sem, ↓IntWalk.iteOmega, *]; intros; omega))
          have c675 : V673.cell? ⟨w.heap.size, 1, none⟩ = some (.int .i64 u) := by rw [hV]; first | ((repeat' (first | with_reducible exact c641 | with_reducible refine cellK_drew ?_ | with_reducible refine cellK_alloc ?_ | with_reducible refine cellK_set ?_ (by dsimp only; omega))); done) | (first | (simp [go_sem, ↓IntWalk.iteOmega, *]; done) | (simp [go_sem, ↓IntWalk.iteOmega, *]; intros; omega))
          have c676 : V673.cell? ⟨w.heap.size, 2, none⟩ = some (.int .i64 v) := by rw [hV]; first | ((repeat' (first | with_reducible exact c642 | with_reducible refine cellK_drew ?_ | with_reducible refine cellK_alloc ?_ | with_reducible refine cellK_set ?_ (by dsimp only; omega))); done) | (first | (simp [go_sem, ↓IntWalk.iteOmega, *]; done) | (simp [go_sem, ↓IntWalk.iteOmega, *]; intros; omega))
          have c677 : V673.cell? ⟨w.heap.size, 3, none⟩ = some (.slice Af fs.length capf) := by rw [hV]; first | ((repeat' (first | with_reducible exact c643 | with_reducible refine cellK_drew ?_ | with_reducible refine cellK_alloc ?_ | with_reducible refine cellK_set ?_ (by dsimp only; omega))); done) | (first | (simp [go_sem, ↓IntWalk.iteOmega, *]; done) | (simp [go_sem, ↓IntWalk.iteOmega, *]; intros; omega))
          have c678 : V673.cell? ⟨w.heap.size, 4, none⟩ = some (.slice Aq ps.length capq) := by rw [hV]; first | ((repeat' (first | with_reducible exact c644 | with_reducible refine cellK_drew ?_ | with_reducible refine cellK_alloc ?_ | with_reducible refine cellK_set ?_ (by dsimp only; omega))); done) | (first | (simp [go_sem, ↓IntWalk.iteOmega, *]; done) | (simp [go_sem, ↓IntWalk.iteOmega, *]; intros; omega))
          have R679 : Hid (FreshA cIn 1 3 (w.heap.size + 1) V673 ((some ⟨gf, 0, none⟩)) cp2 xs) := hid (by rw [hV]; (repeat' (first | with_reducible exact R645.out | with_reducible refine FreshA.set_at ?_ (by assumption) _ | with_reducible refine FreshA.set_low ?_ ?_ _ | with_reducible refine FreshA.below ?_ (Below.drew (Below.refl _ _)) | with_reducible refine FreshA.below ?_ (Below.alloc (Below.refl _ _) (Nat.le_refl _) _) | (dsimp only; omega) | (simp; done) | (simp; omega))))
          have cu680 : CurS V673 b A cs cap (m + 2 + (fs.length : Int) + 1) := by rw [hV]; (repeat' (first | with_reducible refine CurS.setc ?_ ?_ | with_reducible refine CurS.allo ?_ | with_reducible refine CurS.drw ?_ | with_reducible exact cu646 | (dsimp only; omega) | (simp; done) | (simp; omega)))
          have gw681 : w.grownBy V673 (some b) := by rw [hV]; (repeat' (first | with_reducible exact World.grownBy.refl _ _ | with_reducible exact gw647 | with_reducible refine grownA ?_ | with_reducible refine grownS ?_ ?_ | with_reducible refine grown_drew ?_ | (dsimp only; omega) | (simp; done) | omega))
          have hzgw681 := gw681.size
          have hlcu680 := cu680.lt
          clear c640 c641 c642 c643 c644 R645 cu646 gw647
          refine (c_among b A cs cap (m + 2 + (fs.length : Int) + 1) _ ([-1, 4, 2] : List Int) _ (-1) (4) _ cu680 hby (by omega) hl (by rw [hV]; exact Rds.of_lit (by simp) (by intro i x h; rcases i with _ | _ | _ | i <;> simp at h ⊢ <;> first | exact h | omega)) (by simp) (by intro a ha; cases ha; simp; omega) (fun k hk => (show ∀ x ∈ ([-1, 4, 2] : List Int), -1 ≤ x ∧ x ≤ 4 by intro x hx; simp at hx; omega) _ (List.getElem_mem hk))).mono ?_
          rintro e W683 ⟨dx682, rfl, hdx682a, hdx682b, hcn, hg⟩
          clear hV
          have hkW683 := hg.size
          have c684 : W683.cell? ⟨w.heap.size, 0, none⟩ = some (.int .i64 l) := (cellRow hg (w.heap.size) 0).trans (by rw [if_pos ⟨by omega, by omega⟩]; exact c674)
          have c685 : W683.cell? ⟨w.heap.size, 1, none⟩ = some (.int .i64 u) := (cellRow hg (w.heap.size) 1).trans (by rw [if_pos ⟨by omega, by omega⟩]; exact c675)
          have c686 : W683.cell? ⟨w.heap.size, 2, none⟩ = some (.int .i64 v) := (cellRow hg (w.heap.size) 2).trans (by rw [if_pos ⟨by omega, by omega⟩]; exact c676)
          have c687 : W683.cell? ⟨w.heap.size, 3, none⟩ = some (.slice Af fs.length capf) := (cellRow hg (w.heap.size) 3).trans (by rw [if_pos ⟨by omega, by omega⟩]; exact c677)
          have c688 : W683.cell? ⟨w.heap.size, 4, none⟩ = some (.slice Aq ps.length capq) := (cellRow hg (w.heap.size) 4).trans (by rw [if_pos ⟨by omega, by omega⟩]; exact c678)
          have R689 : Hid (FreshA cIn 1 3 (w.heap.size + 1) W683 ((some ⟨gf, 0, none⟩)) cp2 xs) := hid (FreshA.rowb R679.out hg (by omega))
          have cu690 : CurS W683 b A cs cap (m + 2 + (fs.length : Int) + 1 + 1) := hcn
          have gw691 : w.grownBy W683 (some b) := grown_trans gw681 hg
          have hzgw691 := gw691.size
          have hlcu690 := cu690.lt
          clear c674 c675 c676 c677 c678 R679 cu680 gw681
          clear hg
          obtain ⟨gf', hge, hBf', hOf⟩ := FreshA.row R689.out h0
          cases hge
          obtain ⟨u0, hu0⟩ := hOf.cell 0 (by have := FreshA.capLe R689.out; omega)
          have hz0 := hOf.frozen 0
          have HOF := hid hOf
          clear hOf
          go_wp2_with (fail)
          refine post_named ?_
          intro V692 hV
          have hkV692 : W683.heap.size ≤ V692.heap.size := by rw [hV]; first | with_reducible exact Nat.le_refl _ | (simp [World.setCell]; done) | (simp; omega)
          have cu693 : CurS V692 b A cs cap (m + 2 + (fs.length : Int) + 1 + 1) := by rw [hV]; (repeat' (first | with_reducible refine CurS.setc ?_ ?_ | with_reducible refine CurS.allo ?_ | with_reducible refine CurS.drw ?_ | with_reducible exact cu690 | (dsimp only; omega) | (simp; done) | (simp; omega)))
          have gw694 : w.grownBy V692 (some b) := by rw [hV]; (repeat' (first | with_reducible exact World.grownBy.refl _ _ | with_reducible exact gw691 | with_reducible refine grownA ?_ | with_reducible refine grownS ?_ ?_ | with_reducible refine grown_drew ?_ | (dsimp only; omega) | (simp; done) | omega))
          have hzgw694 := gw694.size
          have hlcu693 := cu693.lt
          clear cu690 gw691
          have RFN := hid (show FreshA cIn 1 3 (w.heap.size + 1) V692 (some ⟨gf, 0, none⟩) cp2 (xs.set 0 dx682) by rw [hV]; refine FreshA.of_own1 ?_ (by omega); repeat' (first | with_reducible exact (OwnS.put1 (y := dx682) (k := 0) (j := 0) cIn_len HOF.out (by omega) (by omega) rfl) | with_reducible refine OwnS.set_far ?_ ?_ _ | (dsimp only; omega) | (simp; done)))
          clear hV
          refine bodyPost_ret (v := .slice (some ⟨gf, 0, none⟩) xs.length cp2) ?_ rfl ⟨(some ⟨gf, 0, none⟩), cp2, xs.set 0 dx682, by simp, FreshA.mono RFN.out (by omega), by simp; omega, CurS.mono cu693 (by omega), gw694⟩
          simp [results, Try.results70, go_sem]
        go_wp2_with (fail)
        refine post_named ?_
        intro V695 hV
        have hkV695 : W639.heap.size ≤ V695.heap.size := by rw [hV]; first | with_reducible exact Nat.le_refl _ | (simp [World.setCell]; done) | (simp; omega)
        have R696 : Hid (FreshA cIn 1 3 (w.heap.size + 1) V695 A2 cp2 xs) := hid (by rw [hV]; (repeat' (first | with_reducible exact R645.out | with_reducible refine FreshA.set_at ?_ (by assumption) _ | with_reducible refine FreshA.set_low ?_ ?_ _ | with_reducible refine FreshA.below ?_ (Below.drew (Below.refl _ _)) | with_reducible refine FreshA.below ?_ (Below.alloc (Below.refl _ _) (Nat.le_refl _) _) | (dsimp only; omega) | (simp; done) | (simp; omega))))
        have cu697 : CurS V695 b A cs cap (m + 2 + (fs.length : Int) + 1) := by rw [hV]; (repeat' (first | with_reducible refine CurS.setc ?_ ?_ | with_reducible refine CurS.allo ?_ | with_reducible refine CurS.drw ?_ | with_reducible exact cu646 | (dsimp only; omega) | (simp; done) | (simp; omega)))
        have gw698 : w.grownBy V695 (some b) := by rw [hV]; (repeat' (first | with_reducible exact World.grownBy.refl _ _ | with_reducible exact gw647 | with_reducible refine grownA ?_ | with_reducible refine grownS ?_ ?_ | with_reducible refine grown_drew ?_ | (dsimp only; omega) | (simp; done) | omega))
        have hzgw698 := gw698.size
        have hlcu697 := cu697.lt
        clear R645 cu646 gw647
        clear hV
        refine bodyPost_ret (v := .slice A2 xs.length cp2) ?_ rfl ⟨A2, cp2, xs, rfl, FreshA.mono R696.out (by omega), by first | (simp; omega) | omega, CurS.mono cu697 (by omega), gw698⟩
        simp [results, Try.results70, go_sem]
      go_wp2_with (fail)
      refine calls_named ?_
      intro V699 hV
      have hkV699 : wr.heap.size ≤ V699.heap.size := by rw [hV]; first | with_reducible exact Nat.le_refl _ | (simp [World.setCell]; done) | (simp; omega)
      have c700 : V699.cell? ⟨w.heap.size, 0, none⟩ = some (.int .i64 l) := by rw [hV]; first | ((repeat' (first | with_reducible exact p0 | with_reducible refine cellK_drew ?_ | with_reducible refine cellK_alloc ?_ | with_reducible refine cellK_set ?_ (by dsimp only; omega))); done) | (first | (simp [go_sem, ↓IntWalk.iteOmega, *]; done) | (simp [go_sem, ↓IntWalk.iteOmega, *]; intros; omega))
      have c701 : V699.cell? ⟨w.heap.size, 1, none⟩ = some (.int .i64 u) := by rw [hV]; first | ((repeat' (first | with_reducible exact p1 | with_reducible refine cellK_drew ?_ | with_reducible refine cellK_alloc ?_ | with_reducible refine cellK_set ?_ (by dsimp only; omega))); done) | (first | (simp [go_sem, ↓IntWalk.iteOmega, *]; done) | (simp [go_sem, ↓IntWalk.iteOmega, *]; intros; omega))
      have c702 : V699.cell? ⟨w.heap.size, 2, none⟩ = some (.int .i64 v) := by rw [hV]; first | ((repeat' (first | with_reducible exact p2 | with_reducible refine cellK_drew ?_ | with_reducible refine cellK_alloc ?_ | with_reducible refine cellK_set ?_ (by dsimp only; omega))); done) | (first | (simp [go_sem, ↓IntWalk.iteOmega, *]; done) | (simp [go_sem, ↓IntWalk.iteOmega, *]; intros; omega))
      have c703 : V699.cell? ⟨w.heap.size, 3, none⟩ = some (.slice Af fs.length capf) := by rw [hV]; first | ((repeat' (first | with_reducible exact p3 | with_reducible refine cellK_drew ?_ | with_reducible refine cellK_alloc ?_ | with_reducible refine cellK_set ?_ (by dsimp only; omega))); done) | (first | (simp [go_sem, ↓IntWalk.iteOmega, *]; done) | (simp [go_sem, ↓IntWalk.iteOmega, *]; intros; omega))
      have c704 : V699.cell? ⟨w.heap.size, 4, none⟩ = some (.slice Aq ps.length capq) := by rw [hV]; first | ((repeat' (first | with_reducible exact p4 | with_reducible refine cellK_drew ?_ | with_reducible refine cellK_alloc ?_ | with_reducible refine cellK_set ?_ (by dsimp only; omega))); done) | (first | (simp [go_sem, ↓IntWalk.iteOmega, *]; done) | (simp [go_sem, ↓IntWalk.iteOmega, *]; intros; omega))
      have R705 : Hid (FreshA cIn 1 3 (w.heap.size + 1) V699 A2 cp2 xs) := hid (by rw [hV]; (repeat' (first | with_reducible exact RF.out | with_reducible refine FreshA.set_at ?_ (by assumption) _ | with_reducible refine FreshA.set_low ?_ ?_ _ | with_reducible refine FreshA.below ?_ (Below.drew (Below.refl _ _)) | with_reducible refine FreshA.below ?_ (Below.alloc (Below.refl _ _) (Nat.le_refl _) _) | (dsimp only; omega) | (simp; done) | (simp; omega))))
      have cu706 : CurS V699 b A cs cap (m + 2 + (k : Int)) := by rw [hV]; (repeat' (first | with_reducible refine CurS.setc ?_ ?_ | with_reducible refine CurS.allo ?_ | with_reducible refine CurS.drw ?_ | with_reducible exact hcr | (dsimp only; omega) | (simp; done) | (simp; omega)))
      have gw707 : w.grownBy V699 (some b) := by rw [hV]; (repeat' (first | with_reducible exact World.grownBy.refl _ _ | with_reducible exact hgr | with_reducible refine grownA ?_ | with_reducible refine grownS ?_ ?_ | with_reducible refine grown_drew ?_ | (dsimp only; omega) | (simp; done) | omega))
      have hzgw707 := gw707.size
      have hlcu706 := cu706.lt
      clear p0 p1 p2 p3 p4 RF hcr hgr
      clear hV
      refine (c_spec_l1Least _ _ _).mono ?_
      rintro e W708 ⟨rfl, hb⟩
      have hkW708 := hb.size
      have c709 : W708.cell? ⟨w.heap.size, 0, none⟩ = some (.int .i64 l) := (hb.cell (p := ⟨w.heap.size, 0, none⟩) (by show w.heap.size < _; omega)).trans c700
      have c710 : W708.cell? ⟨w.heap.size, 1, none⟩ = some (.int .i64 u) := (hb.cell (p := ⟨w.heap.size, 1, none⟩) (by show w.heap.size < _; omega)).trans c701
      have c711 : W708.cell? ⟨w.heap.size, 2, none⟩ = some (.int .i64 v) := (hb.cell (p := ⟨w.heap.size, 2, none⟩) (by show w.heap.size < _; omega)).trans c702
      have c712 : W708.cell? ⟨w.heap.size, 3, none⟩ = some (.slice Af fs.length capf) := (hb.cell (p := ⟨w.heap.size, 3, none⟩) (by show w.heap.size < _; omega)).trans c703
      have c713 : W708.cell? ⟨w.heap.size, 4, none⟩ = some (.slice Aq ps.length capq) := (hb.cell (p := ⟨w.heap.size, 4, none⟩) (by show w.heap.size < _; omega)).trans c704
      have R714 : Hid (FreshA cIn 1 3 (w.heap.size + 1) W708 A2 cp2 xs) := hid (FreshA.below R705.out hb)
      have cu715 : CurS W708 b A cs cap (m + 2 + (k : Int)) := CurS.below cu706 hb
      have gw716 : w.grownBy W708 (some b) := grown_trans gw707 (grown_of_below hb)
      have hzgw716 := gw716.size
      have hlcu715 := cu715.lt
      clear c700 c701 c702 c703 c704 R705 cu706 gw707
      clear hb
      obtain ⟨n2, hn2, hn2b⟩ : ∃ n2 : Nat, min (ps.length : Int) 2 = n2 ∧ n2 ≤ 2 := ⟨min ps.length 2, by omega, by omega⟩
      rw [hn2]
      have hsh : ∀ z : Int, z = 1 ∨ z = 2 ∨ z = 4 → z ≤ 200 := by intro z h; omega
      go_wp2_with (fail)
      refine calls_named ?_
      intro V717 hV
      have hkV717 : W708.heap.size ≤ V717.heap.size := by rw [hV]; first | with_reducible exact Nat.le_refl _ | (simp [World.setCell]; done) | (simp; omega)
      have c718 : V717.cell? ⟨w.heap.size, 0, none⟩ = some (.int .i64 l) := by rw [hV]; first | ((repeat' (first | with_reducible exact c709 | with_reducible refine cellK_drew ?_ | with_reducible refine cellK_alloc ?_ | with_reducible refine cellK_set ?_ (by dsimp only; omega))); done) | (first | (simp [go_sem, ↓IntWalk.iteOmega, *]; done) | (simp [go_sem, ↓IntWalk.iteOmega, *]; intros; omega))
      have c719 : V717.cell? ⟨w.heap.size, 1, none⟩ = some (.int .i64 u) := by rw [hV]; first | ((repeat' (first | with_reducible exact c710 | with_reducible refine cellK_drew ?_ | with_reducible refine cellK_alloc ?_ | with_reducible refine cellK_set ?_ (by dsimp only; omega))); done) | (first | (simp [go_sem, ↓IntWalk.iteOmega, *]; done) | (simp [go_sem, ↓IntWalk.iteOmega, *]; intros; omega))
      have c720 : V717.cell? ⟨w.heap.size, 2, none⟩ = some (.int .i64 v) := by rw [hV]; first | ((repeat' (first | with_reducible exact c711 | with_reducible refine cellK_drew ?_ | with_reducible refine cellK_alloc ?_ | with_reducible refine cellK_set ?_ (by dsimp only; omega))); done) | (first | (simp [go_sem, ↓IntWalk.iteOmega, *]; done) | (simp [go_sem, ↓IntWalk.iteOmega, *]; intros; omega))
      have c721 : V717.cell? ⟨w.heap.size, 3, none⟩ = some (.slice Af fs.length capf) := by rw [hV]; first | ((repeat' (first | with_reducible exact c712 | with_reducible refine cellK_drew ?_ | with_reducible refine cellK_alloc ?_ | with_reducible refine cellK_set ?_ (by dsimp only; omega))); done) | (first | (simp [go_sem, ↓IntWalk.iteOmega, *]; done) | (simp [go_sem, ↓IntWalk.iteOmega, *]; intros; omega))
      have c722 : V717.cell? ⟨w.heap.size, 4, none⟩ = some (.slice Aq ps.length capq) := by rw [hV]; first | ((repeat' (first | with_reducible exact c713 | with_reducible refine cellK_drew ?_ | with_reducible refine cellK_alloc ?_ | with_reducible refine cellK_set ?_ (by dsimp only; omega))); done) | (first | (simp [go_sem, ↓IntWalk.iteOmega, *]; done) | (simp [go_sem, ↓IntWalk.iteOmega, *]; intros; omega))
      have R723 : Hid (FreshA cIn 1 3 (w.heap.size + 1) V717 A2 cp2 xs) := hid (by rw [hV]; (repeat' (first | with_reducible exact R714.out | with_reducible refine FreshA.set_at ?_ (by assumption) _ | with_reducible refine FreshA.set_low ?_ ?_ _ | with_reducible refine FreshA.below ?_ (Below.drew (Below.refl _ _)) | with_reducible refine FreshA.below ?_ (Below.alloc (Below.refl _ _) (Nat.le_refl _) _) | (dsimp only; omega) | (simp; done) | (simp; omega))))
      have cu724 : CurS V717 b A cs cap (m + 2 + (k : Int)) := by rw [hV]; (repeat' (first | with_reducible refine CurS.setc ?_ ?_ | with_reducible refine CurS.allo ?_ | with_reducible refine CurS.drw ?_ | with_reducible exact cu715 | (dsimp only; omega) | (simp; done) | (simp; omega)))
      have gw725 : w.grownBy V717 (some b) := by rw [hV]; (repeat' (first | with_reducible exact World.grownBy.refl _ _ | with_reducible exact gw716 | with_reducible refine grownA ?_ | with_reducible refine grownS ?_ ?_ | with_reducible refine grown_drew ?_ | (dsimp only; omega) | (simp; done) | omega))
      have hzgw725 := gw725.size
      have hlcu724 := cu724.lt
      clear c709 c710 c711 c712 c713 R714 cu715 gw716
      clear hV
      have hpw : (2 : Int) ^ n2 ≤ 4 := by rcases (show n2 = 0 ∨ n2 = 1 ∨ n2 = 2 by omega) with rfl | rfl | rfl <;> decide
      refine (c_pick b A cs cap (m + 2 + (k : Int)) _ _ cu724 hby (by omega) hl (by rcases (show n2 = 0 ∨ n2 = 1 ∨ n2 = 2 by omega) with rfl | rfl | rfl <;> (rw [IntWalk.wrap64_in _ (by decide)]; decide))).mono ?_
      rintro e W726 ⟨dx, rfl, hdxa, hdxb, hcn, hg⟩
      have hkW726 := hg.size
      have c727 : W726.cell? ⟨w.heap.size, 0, none⟩ = some (.int .i64 l) := (cellRow hg (w.heap.size) 0).trans (by rw [if_pos ⟨by omega, by omega⟩]; exact c718)
      have c728 : W726.cell? ⟨w.heap.size, 1, none⟩ = some (.int .i64 u) := (cellRow hg (w.heap.size) 1).trans (by rw [if_pos ⟨by omega, by omega⟩]; exact c719)
      have c729 : W726.cell? ⟨w.heap.size, 2, none⟩ = some (.int .i64 v) := (cellRow hg (w.heap.size) 2).trans (by rw [if_pos ⟨by omega, by omega⟩]; exact c720)
      have c730 : W726.cell? ⟨w.heap.size, 3, none⟩ = some (.slice Af fs.length capf) := (cellRow hg (w.heap.size) 3).trans (by rw [if_pos ⟨by omega, by omega⟩]; exact c721)
      have c731 : W726.cell? ⟨w.heap.size, 4, none⟩ = some (.slice Aq ps.length capq) := (cellRow hg (w.heap.size) 4).trans (by rw [if_pos ⟨by omega, by omega⟩]; exact c722)
      have R732 : Hid (FreshA cIn 1 3 (w.heap.size + 1) W726 A2 cp2 xs) := hid (FreshA.rowb R723.out hg (by omega))
      have cu733 : CurS W726 b A cs cap (m + 2 + (k : Int) + 1) := hcn
      have gw734 : w.grownBy W726 (some b) := grown_trans gw725 hg
      have hzgw734 := gw734.size
      have hlcu733 := cu733.lt
      clear c718 c719 c720 c721 c722 R723 cu724 gw725
      clear hg
      go_wp2_with (at_builtin; refine wlist_named ?_)
      intro V735 hV
      have hkV735 : W726.heap.size ≤ V735.heap.size := by rw [hV]; first | with_reducible exact Nat.le_refl _ | (simp [World.setCell]; done) | (simp; omega)
      have c736 : V735.cell? ⟨w.heap.size, 0, none⟩ = some (.int .i64 l) := by rw [hV]; first | ((repeat' (first | with_reducible exact c727 | with_reducible refine cellK_drew ?_ | with_reducible refine cellK_alloc ?_ | with_reducible refine cellK_set ?_ (by dsimp only; omega))); done) | (first | (simp [go_sem, ↓IntWalk.iteOmega, *]; done) | (simp [go_sem, ↓IntWalk.iteOmega, *]; intros; omega))
      have c737 : V735.cell? ⟨w.heap.size, 1, none⟩ = some (.int .i64 u) := by rw [hV]; first | ((repeat' (first | with_reducible exact c728 | with_reducible refine cellK_drew ?_ | with_reducible refine cellK_alloc ?_ | with_reducible refine cellK_set ?_ (by dsimp only; omega))); done) | (first | (simp [go_sem, ↓IntWalk.iteOmega, *]; done) | (simp [go_sem, ↓IntWalk.iteOmega, *]; intros; omega))
      have c738 : V735.cell? ⟨w.heap.size, 2, none⟩ = some (.int .i64 v) := by rw [hV]; first | ((repeat' (first | with_reducible exact c729 | with_reducible refine cellK_drew ?_ | with_reducible refine cellK_alloc ?_ | with_reducible refine cellK_set ?_ (by dsimp only; omega))); done) | (first | (simp [go_sem, ↓IntWalk.iteOmega, *]; done) | (simp [go_sem, ↓IntWalk.iteOmega, *]; intros; omega))
      have c739 : V735.cell? ⟨w.heap.size, 3, none⟩ = some (.slice Af fs.length capf) := by rw [hV]; first | ((repeat' (first | with_reducible exact c730 | with_reducible refine cellK_drew ?_ | with_reducible refine cellK_alloc ?_ | with_reducible refine cellK_set ?_ (by dsimp only; omega))); done) | (first | (simp [go_sem, ↓IntWalk.iteOmega, *]; done) | (simp [go_sem, ↓IntWalk.iteOmega, *]; intros; omega))
      have c740 : V735.cell? ⟨w.heap.size, 4, none⟩ = some (.slice Aq ps.length capq) := by rw [hV]; first | ((repeat' (first | with_reducible exact c731 | with_reducible refine cellK_drew ?_ | with_reducible refine cellK_alloc ?_ | with_reducible refine cellK_set ?_ (by dsimp only; omega))); done) | (first | (simp [go_sem, ↓IntWalk.iteOmega, *]; done) | (simp [go_sem, ↓IntWalk.iteOmega, *]; intros; omega))
      have R741 : Hid (FreshA cIn 1 3 (w.heap.size + 1) V735 A2 cp2 xs) := hid (by rw [hV]; (repeat' (first | with_reducible exact R732.out | with_reducible refine FreshA.set_at ?_ (by assumption) _ | with_reducible refine FreshA.set_low ?_ ?_ _ | with_reducible refine FreshA.below ?_ (Below.drew (Below.refl _ _)) | with_reducible refine FreshA.below ?_ (Below.alloc (Below.refl _ _) (Nat.le_refl _) _) | (dsimp only; omega) | (simp; done) | (simp; omega))))
      have cu742 : CurS V735 b A cs cap (m + 2 + (k : Int) + 1) := by rw [hV]; (repeat' (first | with_reducible refine CurS.setc ?_ ?_ | with_reducible refine CurS.allo ?_ | with_reducible refine CurS.drw ?_ | with_reducible exact cu733 | (dsimp only; omega) | (simp; done) | (simp; omega)))
      have gw743 : w.grownBy V735 (some b) := by rw [hV]; (repeat' (first | with_reducible exact World.grownBy.refl _ _ | with_reducible exact gw734 | with_reducible refine grownA ?_ | with_reducible refine grownS ?_ ?_ | with_reducible refine grown_drew ?_ | (dsimp only; omega) | (simp; done) | omega))
      have hzgw743 := gw743.size
      have hlcu742 := cu742.lt
      clear c727 c728 c729 c730 c731 R732 cu733 gw734
      refine wpList_pushesR (xs := xs) rfl (.tmp 30) (.tmp 39) 22 rfl 3 i0 _ 8 Try.underlying22 hI0 hI1 hI2 hI3 rfl (by decide) (fun _ => rfl) one_In _ rfl rfl R741.out [dx] 1 rfl _ _ rfl (by rw [hV]; exact Rds.of_lit (by simp) (by intro i x h; rcases i with _ | i <;> simp at h ⊢ <;> first | exact h | omega)) (by unfold maxLen; omega) (by first | omega | (simp; omega)) (by omega) ?_
      intro A5 cp5 W5 hF3 hg3 hat3
      clear hV
      have hkW5 := hg3.size
      have hlo := R741.out.lo
      have c744 : W5.cell? ⟨w.heap.size, 0, none⟩ = some (.int .i64 l) := (World.cell?_of_block (a := ⟨w.heap.size, 0, none⟩) (hg3.block (w.heap.size) (by omega) (ne_blk hlo (by omega)))).trans c736
      have c745 : W5.cell? ⟨w.heap.size, 1, none⟩ = some (.int .i64 u) := (World.cell?_of_block (a := ⟨w.heap.size, 1, none⟩) (hg3.block (w.heap.size) (by omega) (ne_blk hlo (by omega)))).trans c737
      have c746 : W5.cell? ⟨w.heap.size, 2, none⟩ = some (.int .i64 v) := (World.cell?_of_block (a := ⟨w.heap.size, 2, none⟩) (hg3.block (w.heap.size) (by omega) (ne_blk hlo (by omega)))).trans c738
      have c747 : W5.cell? ⟨w.heap.size, 3, none⟩ = some (.slice Af fs.length capf) := (World.cell?_of_block (a := ⟨w.heap.size, 3, none⟩) (hg3.block (w.heap.size) (by omega) (ne_blk hlo (by omega)))).trans c739
      have c748 : W5.cell? ⟨w.heap.size, 4, none⟩ = some (.slice Aq ps.length capq) := (World.cell?_of_block (a := ⟨w.heap.size, 4, none⟩) (hg3.block (w.heap.size) (by omega) (ne_blk hlo (by omega)))).trans c740
      have R749 : Hid (FreshA cIn 1 3 (w.heap.size + 1) W5 A5 cp5 (xs ++ [dx])) := hid (hF3)
      have cu750 : CurS W5 b A cs cap (m + 2 + (k : Int) + 1) := CurS.other cu742 hg3 hlo (by omega)
      have gw751 : w.grownBy W5 (some b) := grown_other gw743 hg3 (hlo.mono (by omega))
      have hzgw751 := gw751.size
      have hlcu750 := cu750.lt
      clear c736 c737 c738 c739 c740 R741 cu742 gw743
      clear hlo
      clear hF3 hg3 hat3
      have hl5 : (xs ++ [dx]).length = xs.length + 1 := by simp
      go_wp2_with (fail)
      go_roundw
      case rel =>
        refine ⟨k + 1, A5, cp5, xs ++ [dx], by first | rfl | (rw [hl5]; done) | (simp; done), by go_num, by simp; omega, by omega, ?_, ?_, ?_, ?_, ?_, ?_, ?_, ?_, ?_⟩
        · first | ((repeat' (first | with_reducible exact c744 | with_reducible refine cellK_drew ?_ | with_reducible refine cellK_alloc ?_ | with_reducible refine cellK_set ?_ (by dsimp only; omega))); done) | (first | (simp [go_sem, ↓IntWalk.iteOmega, *]; done) | (simp [go_sem, ↓IntWalk.iteOmega, *]; intros; omega))
        · first | ((repeat' (first | with_reducible exact c745 | with_reducible refine cellK_drew ?_ | with_reducible refine cellK_alloc ?_ | with_reducible refine cellK_set ?_ (by dsimp only; omega))); done) | (first | (simp [go_sem, ↓IntWalk.iteOmega, *]; done) | (simp [go_sem, ↓IntWalk.iteOmega, *]; intros; omega))
        · first | ((repeat' (first | with_reducible exact c746 | with_reducible refine cellK_drew ?_ | with_reducible refine cellK_alloc ?_ | with_reducible refine cellK_set ?_ (by dsimp only; omega))); done) | (first | (simp [go_sem, ↓IntWalk.iteOmega, *]; done) | (simp [go_sem, ↓IntWalk.iteOmega, *]; intros; omega))
        · first | ((repeat' (first | with_reducible exact c747 | with_reducible refine cellK_drew ?_ | with_reducible refine cellK_alloc ?_ | with_reducible refine cellK_set ?_ (by dsimp only; omega))); done) | (first | (simp [go_sem, ↓IntWalk.iteOmega, *]; done) | (simp [go_sem, ↓IntWalk.iteOmega, *]; intros; omega))
        · first | ((repeat' (first | with_reducible exact c748 | with_reducible refine cellK_drew ?_ | with_reducible refine cellK_alloc ?_ | with_reducible refine cellK_set ?_ (by dsimp only; omega))); done) | (first | (simp [go_sem, ↓IntWalk.iteOmega, *]; done) | (simp [go_sem, ↓IntWalk.iteOmega, *]; intros; omega))
        · first | omega | (simp; omega)
        · (repeat' (first | with_reducible exact R749.out | with_reducible refine FreshA.set_at ?_ (by assumption) _ | with_reducible refine FreshA.set_low ?_ ?_ _ | with_reducible refine FreshA.below ?_ (Below.drew (Below.refl _ _)) | with_reducible refine FreshA.below ?_ (Below.alloc (Below.refl _ _) (Nat.le_refl _) _) | (dsimp only; omega) | (simp; done) | (simp; omega)))
        · refine CurS.mono ?_ (m := m + 2 + (k : Int) + 1) (by omega)
          (repeat' (first | with_reducible refine CurS.setc ?_ ?_ | with_reducible refine CurS.allo ?_ | with_reducible refine CurS.drw ?_ | with_reducible exact cu750 | (dsimp only; omega) | (simp; done) | (simp; omega)))
        · (repeat' (first | with_reducible exact World.grownBy.refl _ _ | with_reducible exact gw751 | with_reducible refine grownA ?_ | with_reducible refine grownS ?_ ?_ | with_reducible refine grown_drew ?_ | (dsimp only; omega) | (simp; done) | omega))
      case measure => simp [intOf]; omega
  go_wp2_with (fail)
  refine post_named ?_
  intro V752 hV
  have hkV752 : W620.heap.size ≤ V752.heap.size := by rw [hV]; first | with_reducible exact Nat.le_refl _ | (simp [World.setCell]; done) | (simp; omega)
  have R753 : Hid (FreshA cIn 1 3 (V470.heap.size) V752 Aq1 cq1 q) := hid (by rw [hV]; (repeat' (first | with_reducible exact R626.out | with_reducible refine FreshA.set_at ?_ (by assumption) _ | with_reducible refine FreshA.set_low ?_ ?_ _ | with_reducible refine FreshA.below ?_ (Below.drew (Below.refl _ _)) | with_reducible refine FreshA.below ?_ (Below.alloc (Below.refl _ _) (Nat.le_refl _) _) | (dsimp only; omega) | (simp; done) | (simp; omega))))
  have cu754 : CurS V752 b A cs cap (m + 1) := by rw [hV]; (repeat' (first | with_reducible refine CurS.setc ?_ ?_ | with_reducible refine CurS.allo ?_ | with_reducible refine CurS.drw ?_ | with_reducible exact cu627 | (dsimp only; omega) | (simp; done) | (simp; omega)))
  have gw755 : w.grownBy V752 (some b) := by rw [hV]; (repeat' (first | with_reducible exact World.grownBy.refl _ _ | with_reducible exact gw628 | with_reducible refine grownA ?_ | with_reducible refine grownS ?_ ?_ | with_reducible refine grown_drew ?_ | (dsimp only; omega) | (simp; done) | omega))
  have hzgw755 := gw755.size
  have hlcu754 := cu754.lt
  clear R626 cu627 gw628
  clear hV
  refine bodyPost_ret (v := .slice Aq1 q.length cq1) ?_ rfl ⟨Aq1, cq1, q, rfl, FreshA.mono R753.out (by omega), by omega, CurS.mono cu754 (by omega), gw755⟩
  simp [results, Try.results70, go_sem]

end Go.Proofs.Ytpaclngjmdacjaa
namespace Go.Proofs.Ytpaclngjmdacjaa
set_option linter.unusedSimpArgs false
set_option linter.unusedVariables false
open Go.RowKit

def PlO (b B : Nat) (v : Value) (w : World) : Prop := ∃ (A : Option Addr) (c : Nat) (pl : List Int), v = .slice A pl.length c ∧ b < B ∧ FreshA cIn 1 3 B w A c pl ∧ pl.length ≤ 20
theorem PlO.keep {b B : Nat} {v : Value} {w w' : World} (h : PlO b B v w) (hg : w.grownBy w' (some b)) : PlO b B v w' := by
  obtain ⟨A, c, pl, rfl, hb, hF, hl⟩ := h
  exact ⟨A, c, pl, rfl, hb, hF.rowb hg hb, hl⟩
theorem below_gw {w w' : World} {b : Nat} (hg : w.grownBy w' (some b)) (hb : w.heap.size ≤ b) : Below w.heap.size w w' := below_row (Below.refl _ _) hg hb (Nat.le_refl _)
/-- all but block b and block g stay -/
def RBg (b g : Nat) (w w' : World) : Prop := w'.os = w.os ∧ w'.tape = w.tape ∧ w'.output = w.output ∧ w.heap.size ≤ w'.heap.size ∧ (∀ i, i < w.heap.size → i ≠ b → i ≠ g → w'.heap[i]? = w.heap[i]?) ∧ (∀ o, w'.frozen? ⟨g, o, none⟩ = w.frozen? ⟨g, o, none⟩)
theorem RBg.trans {b g : Nat} {x y z : World} (h : RBg b g x y) (h' : RBg b g y z) : RBg b g x z := by
  obtain ⟨a1, a2, a3, a4, a5, a6⟩ := h
  obtain ⟨b1, b2, b3, b4, b5, b6⟩ := h'
  exact ⟨b1.trans a1, b2.trans a2, b3.trans a3, Nat.le_trans a4 b4, fun i hi h1 h2 => (b5 i (by omega) h1 h2).trans (a5 i hi h1 h2), fun o => (b6 o).trans (a6 o)⟩
theorem RBg.refl {b g : Nat} {w : World} : RBg b g w w := ⟨rfl, rfl, rfl, Nat.le_refl _, fun _ _ _ _ => rfl, fun _ => rfl⟩
theorem RBg.setg {b g o : Nat} {a w : World} {v : Value} (h : RBg b g a w) : RBg b g a (w.setCell ⟨g, o, none⟩ v) :=
  h.trans ⟨rfl, rfl, rfl, by simp [World.setCell], fun i hi h1 h2 => Below.heap_setCell _ _ _ _ (by simpa using h2), fun o => by simp [go_sem]⟩
theorem RBg.drw {b g : Nat} {a w : World} (h : RBg b g a w) : RBg b g a w.drew := h
theorem CurS.setr {w0 w : World} {b cap : Nat} {A : Option Addr} {cs : List Int} {m : Int} {p : Addr} {u : Value} (h : CurS w b A cs cap m) (hr : Rds cB 1 w0 A cs) (hp : p.block = w0.heap.size) (hne : p.block ≠ b) : CurS (w.setCell p u) b A cs cap m := by
  obtain ⟨⟨hlt, q0, ⟨a, h1, h2, q1⟩, ⟨s, q2⟩, qz⟩, hrd⟩ := h
  have hk : (w.setCell p u).heap[b]? = w.heap[b]? := Below.heap_setCell w p u b (Ne.symm hne)
  have hc : ∀ o, (w.setCell p u).cell? ⟨b, o, none⟩ = w.cell? ⟨b, o, none⟩ := fun o => World.cell?_of_block (a := ⟨b, o, none⟩) hk
  refine ⟨⟨by simp [World.setCell]; exact hlt, by rw [hc]; exact q0, ⟨a, h1, h2, by rw [hc]; exact q1⟩, ⟨s, by rw [hc]; exact q2⟩, fun o => by rw [World.frozen?_of_block (a := ⟨b, o, none⟩) hk]; exact qz o⟩, ?_⟩
  intro i x hx
  obtain ⟨g, off, hA, hg, hcc⟩ := hrd i x hx
  obtain ⟨g', off', hA', hg', _⟩ := hr i x hx
  have he : g = g' := by rw [hA] at hA'; cases hA'; rfl
  exact ⟨g, off, hA, hg, fun j v hv => (World.cell?_of_block (a := ⟨g, off + i * 1 + j, none⟩) (Below.heap_setCell w p u g (by omega))).trans (hcc j v hv)⟩
/-- and the cells of g stay, or are vs -/
def RG (b g : Nat) (vs : List Value) (w w' : World) : Prop := RBg b g w w' ∧ ((∀ j, w'.cell? ⟨g, j, none⟩ = w.cell? ⟨g, j, none⟩) ∨ (∀ j v, vs[j]? = some v → w'.cell? ⟨g, j, none⟩ = some v))
theorem RG.trans {b g : Nat} {O : List Value} {x y z : World} (h : RG b g O x y) (h' : RG b g O y z) : RG b g O x z := by
  refine ⟨h.1.trans h'.1, ?_⟩
  rcases h'.2 with b6 | b6
  · rcases h.2 with a6 | a6
    · exact .inl (fun j => (b6 j).trans (a6 j))
    · exact .inr (fun j v hj => (b6 j).trans (a6 j v hj))
  · exact .inr b6
theorem RG.of_grown {b g : Nat} {O : List Value} {w w' : World} (h : w.grownBy w' (some b)) (hg : g < w.heap.size) (hne : g ≠ b) : RG b g O w w' :=
  ⟨⟨h.os, h.tape, h.output, h.size, fun i hi h1 _ => h.block i hi (by simpa using h1), fun o => World.frozen?_of_block (a := ⟨g, o, none⟩) (h.block g hg (by simpa using hne))⟩, .inl (fun j => World.cell?_of_block (a := ⟨g, j, none⟩) (h.block g hg (by simpa using hne)))⟩
theorem RG.refl {b g : Nat} {O : List Value} {w : World} : RG b g O w w := ⟨RBg.refl, .inl (fun _ => rfl)⟩
theorem RG.cell {b g i : Nat} {O : List Value} {w w' : World} (h : RG b g O w w') (hi : i < w.heap.size) (h1 : i ≠ b) (h2 : i ≠ g) (o : Nat) : w'.cell? ⟨i, o, none⟩ = w.cell? ⟨i, o, none⟩ := World.cell?_of_block (a := ⟨i, o, none⟩) (h.1.2.2.2.2.1 i hi h1 h2)
theorem RG.own {b g j : Nat} {O : List Value} {w w' : World} {v u : Value} (h : RG b g O w w') (hv : w.cell? ⟨g, j, none⟩ = some v) (hu : O[j]? = some u) : ∃ x, w'.cell? ⟨g, j, none⟩ = some x := by
  rcases h.2 with e | e
  · exact ⟨v, (e j).trans hv⟩
  · exact ⟨u, e j u hu⟩
theorem FreshA.rg {α : Type} {cf : α → List Value} {sz B cap b g : Nat} {O : List Value} {T : TypeId} {w w' : World} {A : Option Addr} {xs : List α} (h : FreshA cf sz T B w A cap xs) (hg : RG b g O w w') (hb : b < B) (hb2 : g < B) : FreshA cf sz T B w' A cap xs := by
  rcases h with h | ⟨p, rfl, hp, h⟩
  · exact .inl h
  · exact .inr ⟨p, rfl, hp, h.block (hg.1.2.2.2.2.1 p h.lt (by omega) (by omega))⟩
theorem Below.rg {b g B : Nat} {O : List Value} {a w w' : World} (h : Below B a w) (hg : RG b g O w w') (hb : B ≤ b) (hb2 : B ≤ g) (hB : B ≤ w.heap.size) : Below B a w' :=
  h.trans ⟨hg.1.1, hg.1.2.1, hg.1.2.2.1, hg.1.2.2.2.1, fun i hi => hg.1.2.2.2.2.1 i (by omega) (by omega) (by omega)⟩

def FLv (b B : Nat) (ag : Value) (iq : Nat) (v : Value) (w1 : World) : Prop := match iq with
  | 0 => v = ag
  | 1 => v = .pointer (some ⟨b, 0, none⟩)
  | 2 => v = ag
  | 3 => PlO b B v w1
  | _ => True
set_option maxRecDepth 100000 in
set_option maxHeartbeats 8000000 in
theorem c_spec_DrawLevelsWith (A : Option Addr) (cs : List Int) (cap : Nat) (w : World) (hr : Rds cB 1 w A cs) (hby : Bytes cs) (hl : cs.length ≤ 1000000000) :
    Calls Try.prog 41 #[.slice A cs.length cap] w fun e w' => ∃ (l u v : Int) (Af : Option Addr) (cf : Nat) (fs : List Int) (Aq : Option Addr) (cq : Nat) (ps : List (Int × Int × Int)) (Ap : Option Addr) (cp : Nat) (pl : List Int), e = .returned (.tuple #[.agg #[.int .i64 l, .int .i64 u, .int .i64 v, .slice Af fs.length cf, .slice Aq ps.length cq], .slice Ap pl.length cp]) ∧ FreshA cIn 1 3 w.heap.size w' Af cf fs ∧ FreshA cPu 3 71 w.heap.size w' Aq cq ps ∧ FreshA cIn 1 3 w.heap.size w' Ap cp pl ∧ fs.length ≤ 10 ∧ ps.length ≤ 3 ∧ pl.length ≤ 20 ∧ Below w.heap.size w w' := by
  go_enter Try.func41, Try.ntmps41
  go_wp2_with (fail)
  refine calls_named ?_
  intro V1 hV
  have hcu : CurS V1 (w.heap.size + 1) A cs cap 0 := by rw [hV]; exact CurS.new hr (by (repeat' (first | exact Below.refl _ _ | assumption | refine Below.setCell ?_ ?_ _ | refine Below.drew ?_ | refine Below.alloc ?_ ?_ _ | refine Below.trans ?_ (Below.mono (by assumption) ?_) | (simp; done) | (simp; omega) | omega))) (by simp)
  have gw0 : w.grownBy V1 (some (w.heap.size + 1)) := by rw [hV]; (repeat' (first | with_reducible exact World.grownBy.refl _ _ | with_reducible assumption | with_reducible refine grownA ?_ | with_reducible refine grownS ?_ ?_ | with_reducible refine grown_drew ?_ | (dsimp only; omega) | (simp; done) | omega))
  have d756 : V1.cell? ⟨w.heap.size, 0, none⟩ = some (.int .i64 0) := by rw [hV]; first | (simp [go_sem, ↓IntWalk.iteOmega, *]; done) | (simp [go_sem, ↓IntWalk.iteOmega, *]; intros; omega)
  have d757 : V1.cell? ⟨w.heap.size, 1, none⟩ = some (.int .i64 0) := by rw [hV]; first | (simp [go_sem, ↓IntWalk.iteOmega, *]; done) | (simp [go_sem, ↓IntWalk.iteOmega, *]; intros; omega)
  have d758 : V1.cell? ⟨w.heap.size, 2, none⟩ = some (.int .i64 0) := by rw [hV]; first | (simp [go_sem, ↓IntWalk.iteOmega, *]; done) | (simp [go_sem, ↓IntWalk.iteOmega, *]; intros; omega)
  have d759 : V1.cell? ⟨w.heap.size, 3, none⟩ = some (.slice none 0 0) := by rw [hV]; first | (simp [go_sem, ↓IntWalk.iteOmega, *]; done) | (simp [go_sem, ↓IntWalk.iteOmega, *]; intros; omega)
  have d760 : V1.cell? ⟨w.heap.size, 4, none⟩ = some (.slice none 0 0) := by rw [hV]; first | (simp [go_sem, ↓IntWalk.iteOmega, *]; done) | (simp [go_sem, ↓IntWalk.iteOmega, *]; intros; omega)
  have e761 : ∀ o, V1.frozen? ⟨w.heap.size, o, none⟩ = false := by rw [hV]; intro o; first | (simp [go_sem, ↓IntWalk.iteOmega, *]; done) | (simp [go_sem, ↓IntWalk.iteOmega, *]; intros; omega)
  clear hV
  have hltb := hcu.lt
  generalize hbd : w.heap.size + 1 = b at *
  refine (c_pumpTask b A cs cap (0) _ hcu hby (by omega) hl).mono ?_
  rintro e W762 ⟨l, u, v, Af, cf, fs, Aq, cq, ps, rfl, hFf, hFq, hfl, hpl, hcn, hg⟩
  have hkW762 := hg.size
  have c763 : W762.cell? ⟨w.heap.size, 0, none⟩ = some (.int .i64 0) := (cellRow hg (w.heap.size) 0).trans (by rw [if_pos ⟨by omega, by omega⟩]; exact d756)
  have c764 : W762.cell? ⟨w.heap.size, 1, none⟩ = some (.int .i64 0) := (cellRow hg (w.heap.size) 1).trans (by rw [if_pos ⟨by omega, by omega⟩]; exact d757)
  have c765 : W762.cell? ⟨w.heap.size, 2, none⟩ = some (.int .i64 0) := (cellRow hg (w.heap.size) 2).trans (by rw [if_pos ⟨by omega, by omega⟩]; exact d758)
  have c766 : W762.cell? ⟨w.heap.size, 3, none⟩ = some (.slice none 0 0) := (cellRow hg (w.heap.size) 3).trans (by rw [if_pos ⟨by omega, by omega⟩]; exact d759)
  have c767 : W762.cell? ⟨w.heap.size, 4, none⟩ = some (.slice none 0 0) := (cellRow hg (w.heap.size) 4).trans (by rw [if_pos ⟨by omega, by omega⟩]; exact d760)
  have z768 : ∀ o, W762.frozen? ⟨w.heap.size, o, none⟩ = false := fun o => (frozRow hg (w.heap.size) o).trans (by rw [if_pos ⟨by omega, by omega⟩]; exact e761 o)
  have cu769 : CurS W762 b A cs cap (0 + 300) := hcn
  have gw770 : w.grownBy W762 (some b) := grown_trans gw0 hg
  have hzgw770 := gw770.size
  have hlcu769 := cu769.lt
  clear d756 d757 d758 d759 d760 e761 gw0
  clear hg
  have S771 : Hid (FreshA cIn 1 3 (V1.heap.size) W762 Af cf fs) := hid (hFf)
  have S772 : Hid (FreshA cPu 3 71 (V1.heap.size) W762 Aq cq ps) := hid (hFq)
  clear hFf hFq
  go_wp2_with (fail)
  refine wp_named ?_
  intro V773 hV
  have hkV773 : W762.heap.size ≤ V773.heap.size := by rw [hV]; first | with_reducible exact Nat.le_refl _ | (simp [World.setCell]; done) | (simp; omega)
  have c774 : V773.cell? ⟨w.heap.size, 0, none⟩ = some (.int .i64 0) := by rw [hV]; first | ((repeat' (first | with_reducible exact c763 | with_reducible refine cellK_drew ?_ | with_reducible refine cellK_alloc ?_ | with_reducible refine cellK_set ?_ (by dsimp only; omega))); done) | (first | (simp [go_sem, ↓IntWalk.iteOmega, *]; done) | (simp [go_sem, ↓IntWalk.iteOmega, *]; intros; omega))
  have c775 : V773.cell? ⟨w.heap.size, 1, none⟩ = some (.int .i64 0) := by rw [hV]; first | ((repeat' (first | with_reducible exact c764 | with_reducible refine cellK_drew ?_ | with_reducible refine cellK_alloc ?_ | with_reducible refine cellK_set ?_ (by dsimp only; omega))); done) | (first | (simp [go_sem, ↓IntWalk.iteOmega, *]; done) | (simp [go_sem, ↓IntWalk.iteOmega, *]; intros; omega))
  have c776 : V773.cell? ⟨w.heap.size, 2, none⟩ = some (.int .i64 0) := by rw [hV]; first | ((repeat' (first | with_reducible exact c765 | with_reducible refine cellK_drew ?_ | with_reducible refine cellK_alloc ?_ | with_reducible refine cellK_set ?_ (by dsimp only; omega))); done) | (first | (simp [go_sem, ↓IntWalk.iteOmega, *]; done) | (simp [go_sem, ↓IntWalk.iteOmega, *]; intros; omega))
  have c777 : V773.cell? ⟨w.heap.size, 3, none⟩ = some (.slice none 0 0) := by rw [hV]; first | ((repeat' (first | with_reducible exact c766 | with_reducible refine cellK_drew ?_ | with_reducible refine cellK_alloc ?_ | with_reducible refine cellK_set ?_ (by dsimp only; omega))); done) | (first | (simp [go_sem, ↓IntWalk.iteOmega, *]; done) | (simp [go_sem, ↓IntWalk.iteOmega, *]; intros; omega))
  have c778 : V773.cell? ⟨w.heap.size, 4, none⟩ = some (.slice none 0 0) := by rw [hV]; first | ((repeat' (first | with_reducible exact c767 | with_reducible refine cellK_drew ?_ | with_reducible refine cellK_alloc ?_ | with_reducible refine cellK_set ?_ (by dsimp only; omega))); done) | (first | (simp [go_sem, ↓IntWalk.iteOmega, *]; done) | (simp [go_sem, ↓IntWalk.iteOmega, *]; intros; omega))
  have z779 : ∀ o, V773.frozen? ⟨w.heap.size, o, none⟩ = false := by rw [hV]; first | ((repeat' (first | with_reducible exact z768 | with_reducible refine frozK_drew ?_ | with_reducible refine frozK_alloc ?_ | with_reducible refine frozK_set ?_)); done) | (intro o; first | (simp [go_sem, ↓IntWalk.iteOmega, *]; done) | (simp [go_sem, ↓IntWalk.iteOmega, *]; intros; omega))
  have R780 : Hid (FreshA cIn 1 3 (V1.heap.size) V773 Af cf fs) := hid (by rw [hV]; (repeat' (first | with_reducible exact S771.out | with_reducible refine FreshA.set_at ?_ (by assumption) _ | with_reducible refine FreshA.set_low ?_ ?_ _ | with_reducible refine FreshA.below ?_ (Below.drew (Below.refl _ _)) | with_reducible refine FreshA.below ?_ (Below.alloc (Below.refl _ _) (Nat.le_refl _) _) | (dsimp only; omega) | (simp; done) | (simp; omega))))
  have R781 : Hid (FreshA cPu 3 71 (V1.heap.size) V773 Aq cq ps) := hid (by rw [hV]; (repeat' (first | with_reducible exact S772.out | with_reducible refine FreshA.set_at ?_ (by assumption) _ | with_reducible refine FreshA.set_low ?_ ?_ _ | with_reducible refine FreshA.below ?_ (Below.drew (Below.refl _ _)) | with_reducible refine FreshA.below ?_ (Below.alloc (Below.refl _ _) (Nat.le_refl _) _) | (dsimp only; omega) | (simp; done) | (simp; omega))))
  have cu782 : CurS V773 b A cs cap (0 + 300) := by rw [hV]; (repeat' (first | with_reducible refine CurS.setc ?_ ?_ | with_reducible refine CurS.allo ?_ | with_reducible refine CurS.drw ?_ | with_reducible exact cu769 | (dsimp only; omega) | (simp; done) | (simp; omega)))
  have gw783 : w.grownBy V773 (some b) := by rw [hV]; (repeat' (first | with_reducible exact World.grownBy.refl _ _ | with_reducible exact gw770 | with_reducible refine grownA ?_ | with_reducible refine grownS ?_ ?_ | with_reducible refine grown_drew ?_ | (dsimp only; omega) | (simp; done) | omega))
  have hzgw783 := gw783.size
  have hlcu782 := cu782.lt
  clear c763 c764 c765 c766 c767 z768 S771 S772 cu769 gw770
  have d784 : V773.cell? ⟨W762.heap.size, 0, none⟩ = some (.int .i64 l) := by rw [hV]; first | (simp [go_sem, ↓IntWalk.iteOmega, *]; done) | (simp [go_sem, ↓IntWalk.iteOmega, *]; intros; omega)
  have d785 : V773.cell? ⟨W762.heap.size, 1, none⟩ = some (.int .i64 u) := by rw [hV]; first | (simp [go_sem, ↓IntWalk.iteOmega, *]; done) | (simp [go_sem, ↓IntWalk.iteOmega, *]; intros; omega)
  have d786 : V773.cell? ⟨W762.heap.size, 2, none⟩ = some (.int .i64 v) := by rw [hV]; first | (simp [go_sem, ↓IntWalk.iteOmega, *]; done) | (simp [go_sem, ↓IntWalk.iteOmega, *]; intros; omega)
  have d787 : V773.cell? ⟨W762.heap.size, 3, none⟩ = some (.slice Af fs.length cf) := by rw [hV]; first | (simp [go_sem, ↓IntWalk.iteOmega, *]; done) | (simp [go_sem, ↓IntWalk.iteOmega, *]; intros; omega)
  have d788 : V773.cell? ⟨W762.heap.size, 4, none⟩ = some (.slice Aq ps.length cq) := by rw [hV]; first | (simp [go_sem, ↓IntWalk.iteOmega, *]; done) | (simp [go_sem, ↓IntWalk.iteOmega, *]; intros; omega)
  have hTB : W762.heap.size < V773.heap.size := by rw [hV]; first | (simp; done) | (simp; omega)
  clear hV
  refine wp_region_c (n := 4) b (fun k w' => CurS w' b A cs cap (0 + 300 + 60 * k)) [] (FLv b V773.heap.size (.agg #[.int .i64 l, .int .i64 u, .int .i64 v, .slice Af fs.length cf, .slice Aq ps.length cq])) rfl (by kernel_rfl) (fun _ _ d _ _ h => by cases d <;> exact h) (CurS.mono (CurS.drw cu782) (by omega)) ?_ (fun i hi => absurd hi (by simp)) ?_ ?_
  · intro iq v w1 w2 hF hg
    match iq with
    | 0 => exact hF
    | 1 => exact hF
    | 2 => exact hF
    | 3 => exact hF.keep hg
    | q + 4 => exact (show True from trivial)
  · intro iq o hi ho vals k w1 hk hT hgW hf
    match iq, hi with
    | 0, _ =>
      injection ho with ho
      subst ho
      clear hf
      have hz1 := hgW.size
      have hlt1 := CurS.lt hT
      simp only [fillA, List.take, List.drop, put_none, Act.put, List.setIfInBounds_toArray, List.set_cons_zero, List.set_cons_succ, Nat.reduceAdd]
      have k0 : w1.cell? ⟨W762.heap.size, 0, none⟩ = some (.int .i64 l) := (cellRow hgW (W762.heap.size) 0).trans (by rw [if_pos ⟨by omega, by omega⟩]; exact d784)
      have k1 : w1.cell? ⟨W762.heap.size, 1, none⟩ = some (.int .i64 u) := (cellRow hgW (W762.heap.size) 1).trans (by rw [if_pos ⟨by omega, by omega⟩]; exact d785)
      have k2 : w1.cell? ⟨W762.heap.size, 2, none⟩ = some (.int .i64 v) := (cellRow hgW (W762.heap.size) 2).trans (by rw [if_pos ⟨by omega, by omega⟩]; exact d786)
      have k3 : w1.cell? ⟨W762.heap.size, 3, none⟩ = some (.slice Af fs.length cf) := (cellRow hgW (W762.heap.size) 3).trans (by rw [if_pos ⟨by omega, by omega⟩]; exact d787)
      have k4 : w1.cell? ⟨W762.heap.size, 4, none⟩ = some (.slice Aq ps.length cq) := (cellRow hgW (W762.heap.size) 4).trans (by rw [if_pos ⟨by omega, by omega⟩]; exact d788)
      go_wp2_with (fail)
      exact ⟨rfl, rfl, World.grownBy.refl _ _, CurS.mono hT (by omega), (by first | rfl | (simp [FLv]; done) | (simp [FLv, *]; done) | (simp [FLv, gotV]; done) | (simp [FLv, gotV, *]; done)), fun h => absurd h (by decide)⟩
    | 1, _ =>
      injection ho with ho
      subst ho
      clear hf
      have hz1 := hgW.size
      have hlt1 := CurS.lt hT
      simp only [fillA, List.take, List.drop, put_none, Act.put, List.setIfInBounds_toArray, List.set_cons_zero, List.set_cons_succ, Nat.reduceAdd]
      go_wp2_with (fail)
      exact ⟨rfl, rfl, World.grownBy.refl _ _, CurS.mono hT (by omega), (by first | rfl | (simp [FLv]; done) | (simp [FLv, *]; done) | (simp [FLv, gotV]; done) | (simp [FLv, gotV, *]; done)), fun h => absurd h (by decide)⟩
    | 2, _ =>
      injection ho with ho
      subst ho
      clear hf
      have hz1 := hgW.size
      have hlt1 := CurS.lt hT
      simp only [fillA, List.take, List.drop, put_none, Act.put, List.setIfInBounds_toArray, List.set_cons_zero, List.set_cons_succ, Nat.reduceAdd]
      have k0 : w1.cell? ⟨W762.heap.size, 0, none⟩ = some (.int .i64 l) := (cellRow hgW (W762.heap.size) 0).trans (by rw [if_pos ⟨by omega, by omega⟩]; exact d784)
      have k1 : w1.cell? ⟨W762.heap.size, 1, none⟩ = some (.int .i64 u) := (cellRow hgW (W762.heap.size) 1).trans (by rw [if_pos ⟨by omega, by omega⟩]; exact d785)
      have k2 : w1.cell? ⟨W762.heap.size, 2, none⟩ = some (.int .i64 v) := (cellRow hgW (W762.heap.size) 2).trans (by rw [if_pos ⟨by omega, by omega⟩]; exact d786)
      have k3 : w1.cell? ⟨W762.heap.size, 3, none⟩ = some (.slice Af fs.length cf) := (cellRow hgW (W762.heap.size) 3).trans (by rw [if_pos ⟨by omega, by omega⟩]; exact d787)
      have k4 : w1.cell? ⟨W762.heap.size, 4, none⟩ = some (.slice Aq ps.length cq) := (cellRow hgW (W762.heap.size) 4).trans (by rw [if_pos ⟨by omega, by omega⟩]; exact d788)
      go_wp2_with (fail)
      exact ⟨rfl, rfl, World.grownBy.refl _ _, CurS.mono hT (by omega), (by first | rfl | (simp [FLv]; done) | (simp [FLv, *]; done) | (simp [FLv, gotV]; done) | (simp [FLv, gotV, *]; done)), fun h => absurd h (by decide)⟩
    | 3, _ =>
      injection ho with ho
      subst ho
      have e1 : vals 1 = .pointer (some ⟨b, 0, none⟩) := hf 1 (by decide) (by kernel_rfl)
      have e2 : vals 2 = .agg #[.int .i64 l, .int .i64 u, .int .i64 v, .slice Af fs.length cf, .slice Aq ps.length cq] := hf 2 (by decide) (by kernel_rfl)
      clear hf
      have hz1 := hgW.size
      have hlt1 := CurS.lt hT
      simp only [fillA, List.take, List.drop, put_none, Act.put, List.setIfInBounds_toArray, List.set_cons_zero, List.set_cons_succ, Nat.reduceAdd, e1, e2]
      have hRf := (FreshA.rowb R780.out hgW (by omega)).rds
      have hRq := (FreshA.rowb R781.out hgW (by omega)).rds
      go_wp2_with (go_at_call 70; refine (c_plan12 b A cs cap (0 + 300 + 60 * k) _ hT hby (by omega) hl l u v Af fs cf Aq ps cq hRf (by omega) hRq (by omega)).mono ?_; rintro e w9 ⟨A9, c9, pl9, rfl, hF9, hpl9, hcu9, hg9⟩)
      exact RQO_of (.slice A9 pl9.length c9) rfl (by first | rfl | (simp [gotV]; done) | (simp [gotV, *]; done)) ⟨hg9, CurS.mono hcu9 (by omega), ⟨A9, c9, pl9, rfl, by omega, FreshA.mono hF9 (by omega), hpl9⟩, fun h => absurd h (by decide)⟩
    | q + 4, h => exact absurd h (by omega)
  · intro vals W5 hT hgW hf hd
    have e0 : vals 0 = .agg #[.int .i64 l, .int .i64 u, .int .i64 v, .slice Af fs.length cf, .slice Aq ps.length cq] := hf 0 (by decide)
    have e1 : vals 1 = .pointer (some ⟨b, 0, none⟩) := hf 1 (by decide)
    have e2 : vals 2 = .agg #[.int .i64 l, .int .i64 u, .int .i64 v, .slice Af fs.length cf, .slice Aq ps.length cq] := hf 2 (by decide)
    obtain ⟨Ap3, cp3, pl3, e3, hbB3, hFp3, hpl3⟩ := hf 3 (by decide)
    clear hf hd
    simp only [fillA, List.take, List.drop, put_none, Act.put, List.setIfInBounds_toArray, List.set_cons_zero, List.set_cons_succ, Nat.reduceAdd, e0, e1, e2, e3]
    have hkW5 := hgW.size
    have c789 : W5.cell? ⟨w.heap.size, 0, none⟩ = some (.int .i64 0) := (cellRow hgW (w.heap.size) 0).trans (by rw [if_pos ⟨by omega, by omega⟩]; exact c774)
    have c790 : W5.cell? ⟨w.heap.size, 1, none⟩ = some (.int .i64 0) := (cellRow hgW (w.heap.size) 1).trans (by rw [if_pos ⟨by omega, by omega⟩]; exact c775)
    have c791 : W5.cell? ⟨w.heap.size, 2, none⟩ = some (.int .i64 0) := (cellRow hgW (w.heap.size) 2).trans (by rw [if_pos ⟨by omega, by omega⟩]; exact c776)
    have c792 : W5.cell? ⟨w.heap.size, 3, none⟩ = some (.slice none 0 0) := (cellRow hgW (w.heap.size) 3).trans (by rw [if_pos ⟨by omega, by omega⟩]; exact c777)
    have c793 : W5.cell? ⟨w.heap.size, 4, none⟩ = some (.slice none 0 0) := (cellRow hgW (w.heap.size) 4).trans (by rw [if_pos ⟨by omega, by omega⟩]; exact c778)
    have c794 : W5.cell? ⟨W762.heap.size, 0, none⟩ = some (.int .i64 l) := (cellRow hgW (W762.heap.size) 0).trans (by rw [if_pos ⟨by omega, by omega⟩]; exact d784)
    have c795 : W5.cell? ⟨W762.heap.size, 1, none⟩ = some (.int .i64 u) := (cellRow hgW (W762.heap.size) 1).trans (by rw [if_pos ⟨by omega, by omega⟩]; exact d785)
    have c796 : W5.cell? ⟨W762.heap.size, 2, none⟩ = some (.int .i64 v) := (cellRow hgW (W762.heap.size) 2).trans (by rw [if_pos ⟨by omega, by omega⟩]; exact d786)
    have c797 : W5.cell? ⟨W762.heap.size, 3, none⟩ = some (.slice Af fs.length cf) := (cellRow hgW (W762.heap.size) 3).trans (by rw [if_pos ⟨by omega, by omega⟩]; exact d787)
    have c798 : W5.cell? ⟨W762.heap.size, 4, none⟩ = some (.slice Aq ps.length cq) := (cellRow hgW (W762.heap.size) 4).trans (by rw [if_pos ⟨by omega, by omega⟩]; exact d788)
    have z799 : ∀ o, W5.frozen? ⟨w.heap.size, o, none⟩ = false := fun o => (frozRow hgW (w.heap.size) o).trans (by rw [if_pos ⟨by omega, by omega⟩]; exact z779 o)
    have R800 : Hid (FreshA cIn 1 3 (V1.heap.size) W5 Af cf fs) := hid (FreshA.rowb R780.out hgW (by omega))
    have R801 : Hid (FreshA cPu 3 71 (V1.heap.size) W5 Aq cq ps) := hid (FreshA.rowb R781.out hgW (by omega))
    have cu802 : CurS W5 b A cs cap (0 + 300 + 240) := (CurS.mono hT (by omega))
    have gw803 : w.grownBy W5 (some b) := grown_trans gw783 hgW
    have hzgw803 := gw803.size
    have hlcu802 := cu802.lt
    clear c774 c775 c776 c777 c778 d784 d785 d786 d787 d788 z779 R780 R781 cu782 gw783
    clear hgW
    have S804 : Hid (FreshA cIn 1 3 (V773.heap.size) W5 Ap3 cp3 pl3) := hid (hFp3)
    clear hFp3
    go_wp2_with (fail)
    refine post_named ?_
    intro VP hV
    have r0 : VP.cell? ⟨w.heap.size, 0, none⟩ = some (.int .i64 l) := by rw [hV]; first | (simp [go_sem, ↓IntWalk.iteOmega, *]; done) | (simp [go_sem, ↓IntWalk.iteOmega, *]; intros; omega)
    have r1 : VP.cell? ⟨w.heap.size, 1, none⟩ = some (.int .i64 u) := by rw [hV]; first | (simp [go_sem, ↓IntWalk.iteOmega, *]; done) | (simp [go_sem, ↓IntWalk.iteOmega, *]; intros; omega)
    have r2 : VP.cell? ⟨w.heap.size, 2, none⟩ = some (.int .i64 v) := by rw [hV]; first | (simp [go_sem, ↓IntWalk.iteOmega, *]; done) | (simp [go_sem, ↓IntWalk.iteOmega, *]; intros; omega)
    have r3 : VP.cell? ⟨w.heap.size, 3, none⟩ = some (.slice Af fs.length cf) := by rw [hV]; first | (simp [go_sem, ↓IntWalk.iteOmega, *]; done) | (simp [go_sem, ↓IntWalk.iteOmega, *]; intros; omega)
    have r4 : VP.cell? ⟨w.heap.size, 4, none⟩ = some (.slice Aq ps.length cq) := by rw [hV]; first | (simp [go_sem, ↓IntWalk.iteOmega, *]; done) | (simp [go_sem, ↓IntWalk.iteOmega, *]; intros; omega)
    have hkVP : W5.heap.size ≤ VP.heap.size := by rw [hV]; first | with_reducible exact Nat.le_refl _ | (simp [World.setCell]; done) | (simp; omega)
    have R805 : Hid (FreshA cIn 1 3 (V1.heap.size) VP Af cf fs) := hid (by rw [hV]; (repeat' (first | with_reducible exact R800.out | with_reducible refine FreshA.set_at ?_ (by assumption) _ | with_reducible refine FreshA.set_low ?_ ?_ _ | with_reducible refine FreshA.below ?_ (Below.drew (Below.refl _ _)) | with_reducible refine FreshA.below ?_ (Below.alloc (Below.refl _ _) (Nat.le_refl _) _) | (dsimp only; omega) | (simp; done) | (simp; omega))))
    have R806 : Hid (FreshA cPu 3 71 (V1.heap.size) VP Aq cq ps) := hid (by rw [hV]; (repeat' (first | with_reducible exact R801.out | with_reducible refine FreshA.set_at ?_ (by assumption) _ | with_reducible refine FreshA.set_low ?_ ?_ _ | with_reducible refine FreshA.below ?_ (Below.drew (Below.refl _ _)) | with_reducible refine FreshA.below ?_ (Below.alloc (Below.refl _ _) (Nat.le_refl _) _) | (dsimp only; omega) | (simp; done) | (simp; omega))))
    have R807 : Hid (FreshA cIn 1 3 (V773.heap.size) VP Ap3 cp3 pl3) := hid (by rw [hV]; (repeat' (first | with_reducible exact S804.out | with_reducible refine FreshA.set_at ?_ (by assumption) _ | with_reducible refine FreshA.set_low ?_ ?_ _ | with_reducible refine FreshA.below ?_ (Below.drew (Below.refl _ _)) | with_reducible refine FreshA.below ?_ (Below.alloc (Below.refl _ _) (Nat.le_refl _) _) | (dsimp only; omega) | (simp; done) | (simp; omega))))
    have gw809 : w.grownBy VP (some b) := by rw [hV]; (repeat' (first | with_reducible exact World.grownBy.refl _ _ | with_reducible exact gw803 | with_reducible refine grownA ?_ | with_reducible refine grownS ?_ ?_ | with_reducible refine grown_drew ?_ | (dsimp only; omega) | (simp; done) | omega))
    have hzgw809 := gw809.size
    clear R800 R801 S804 cu802 gw803
    clear hV
    refine bodyPost_ret (v := .tuple #[.agg #[.int .i64 l, .int .i64 u, .int .i64 v, .slice Af fs.length cf, .slice Aq ps.length cq], .slice Ap3 pl3.length cp3]) ?_ rfl ⟨l, u, v, Af, cf, fs, Aq, cq, ps, Ap3, cp3, pl3, rfl, FreshA.mono R805.out (by omega), FreshA.mono R806.out (by omega), FreshA.mono R807.out (by omega), hfl, hpl, hpl3, below_gw gw809 (by omega)⟩
    simp [results, Try.results41, go_sem, r0, r1, r2, r3, r4]

end Go.Proofs.Ytpaclngjmdacjaa
namespace Go.Proofs.Ytpaclngjmdacjaa
set_option linter.unusedSimpArgs false
set_option linter.unusedVariables false
open Go.RowKit

set_option maxRecDepth 100000 in
set_option maxHeartbeats 8000000 in
theorem c_spec_DrawPlanCost (A : Option Addr) (cs : List Int) (cap : Nat) (w : World) (hr : Rds cB 1 w A cs) (hby : Bytes cs) (hl : cs.length ≤ 1000000000) :
    Calls Try.prog 39 #[.slice A cs.length cap] w fun e w' => ∃ (l u v : Int) (Af : Option Addr) (cf : Nat) (fs : List Int) (Aq : Option Addr) (cq : Nat) (ps : List (Int × Int × Int)) (Ap : Option Addr) (cp : Nat) (pl : List Int), e = .returned (.tuple #[.agg #[.int .i64 l, .int .i64 u, .int .i64 v, .slice Af fs.length cf, .slice Aq ps.length cq], .slice Ap pl.length cp]) ∧ FreshA cIn 1 3 w.heap.size w' Af cf fs ∧ FreshA cPu 3 71 w.heap.size w' Aq cq ps ∧ FreshA cIn 1 3 w.heap.size w' Ap cp pl ∧ fs.length ≤ 10 ∧ ps.length ≤ 3 ∧ pl.length ≤ 20 ∧ Below w.heap.size w w' := by
  go_enter Try.func39, Try.ntmps39
  go_wp2_with (fail)
  refine calls_named ?_
  intro V1 hV
  have d0 : V1.cell? ⟨w.heap.size, 0, none⟩ = some (.int .i64 0) := by rw [hV]; first | (simp [go_sem, ↓IntWalk.iteOmega, *]; done) | (simp [go_sem, ↓IntWalk.iteOmega, *]; intros; omega)
  have d1 : V1.cell? ⟨w.heap.size, 1, none⟩ = some (.int .i64 0) := by rw [hV]; first | (simp [go_sem, ↓IntWalk.iteOmega, *]; done) | (simp [go_sem, ↓IntWalk.iteOmega, *]; intros; omega)
  have d2 : V1.cell? ⟨w.heap.size, 2, none⟩ = some (.int .i64 0) := by rw [hV]; first | (simp [go_sem, ↓IntWalk.iteOmega, *]; done) | (simp [go_sem, ↓IntWalk.iteOmega, *]; intros; omega)
  have d3 : V1.cell? ⟨w.heap.size, 3, none⟩ = some (.slice none 0 0) := by rw [hV]; first | (simp [go_sem, ↓IntWalk.iteOmega, *]; done) | (simp [go_sem, ↓IntWalk.iteOmega, *]; intros; omega)
  have d4 : V1.cell? ⟨w.heap.size, 4, none⟩ = some (.slice none 0 0) := by rw [hV]; first | (simp [go_sem, ↓IntWalk.iteOmega, *]; done) | (simp [go_sem, ↓IntWalk.iteOmega, *]; intros; omega)
  have hz1 : ∀ o, V1.frozen? ⟨w.heap.size, o, none⟩ = false := by rw [hV]; intro o; first | (simp [go_sem, ↓IntWalk.iteOmega, *]; done) | (simp [go_sem, ↓IntWalk.iteOmega, *]; intros; omega)
  have hl1 : w.heap.size < V1.heap.size := by rw [hV]; simp
  have hb1 : Below w.heap.size w V1 := by rw [hV]; exact Below.alloc (Below.refl _ _) (Nat.le_refl _) _
  clear hV
  refine (c_spec_DrawLevelsWith A cs cap V1 (hr.below hb1) hby hl).mono ?_
  rintro e W2 ⟨l, u, v, Af, cf, fs, Aq, cq, ps, Ap, cp, pl, rfl, hFf, hFq, hFp, hfl, hpl, hpl3, hb2⟩
  have k0 : W2.cell? ⟨w.heap.size, 0, none⟩ = some (.int .i64 0) := (hb2.cell (p := ⟨w.heap.size, 0, none⟩) hl1).trans d0
  have k1 : W2.cell? ⟨w.heap.size, 1, none⟩ = some (.int .i64 0) := (hb2.cell (p := ⟨w.heap.size, 1, none⟩) hl1).trans d1
  have k2 : W2.cell? ⟨w.heap.size, 2, none⟩ = some (.int .i64 0) := (hb2.cell (p := ⟨w.heap.size, 2, none⟩) hl1).trans d2
  have k3 : W2.cell? ⟨w.heap.size, 3, none⟩ = some (.slice none 0 0) := (hb2.cell (p := ⟨w.heap.size, 3, none⟩) hl1).trans d3
  have k4 : W2.cell? ⟨w.heap.size, 4, none⟩ = some (.slice none 0 0) := (hb2.cell (p := ⟨w.heap.size, 4, none⟩) hl1).trans d4
  have hz2 : ∀ o, W2.frozen? ⟨w.heap.size, o, none⟩ = false := fun o => (hb2.frozen (p := ⟨w.heap.size, o, none⟩) hl1).trans (hz1 o)
  clear d0 d1 d2 d3 d4 hz1
  have hs2 := hb2.size
  have RA := hid hFf; have RB := hid hFq; have RC := hid hFp; clear hFf hFq hFp
  have hbb := Below.trans hb1 (Below.mono hb2 (by omega))
  go_wp2_with (fail)
  refine post_named ?_
  intro VP hV
  have r0 : VP.cell? ⟨w.heap.size, 0, none⟩ = some (.int .i64 l) := by rw [hV]; first | (simp [go_sem, ↓IntWalk.iteOmega, *]; done) | (simp [go_sem, ↓IntWalk.iteOmega, *]; intros; omega)
  have r1 : VP.cell? ⟨w.heap.size, 1, none⟩ = some (.int .i64 u) := by rw [hV]; first | (simp [go_sem, ↓IntWalk.iteOmega, *]; done) | (simp [go_sem, ↓IntWalk.iteOmega, *]; intros; omega)
  have r2 : VP.cell? ⟨w.heap.size, 2, none⟩ = some (.int .i64 v) := by rw [hV]; first | (simp [go_sem, ↓IntWalk.iteOmega, *]; done) | (simp [go_sem, ↓IntWalk.iteOmega, *]; intros; omega)
  have r3 : VP.cell? ⟨w.heap.size, 3, none⟩ = some (.slice Af fs.length cf) := by rw [hV]; first | (simp [go_sem, ↓IntWalk.iteOmega, *]; done) | (simp [go_sem, ↓IntWalk.iteOmega, *]; intros; omega)
  have r4 : VP.cell? ⟨w.heap.size, 4, none⟩ = some (.slice Aq ps.length cq) := by rw [hV]; first | (simp [go_sem, ↓IntWalk.iteOmega, *]; done) | (simp [go_sem, ↓IntWalk.iteOmega, *]; intros; omega)
  have SA : Hid (FreshA cIn 1 3 V1.heap.size VP Af cf fs) := hid (by rw [hV]; (repeat' (first | with_reducible exact RA.out | with_reducible refine FreshA.set_at ?_ (by assumption) _ | with_reducible refine FreshA.set_low ?_ ?_ _ | with_reducible refine FreshA.below ?_ (Below.drew (Below.refl _ _)) | with_reducible refine FreshA.below ?_ (Below.alloc (Below.refl _ _) (Nat.le_refl _) _) | (dsimp only; omega) | (simp; done) | (simp; omega))))
  have SB : Hid (FreshA cPu 3 71 V1.heap.size VP Aq cq ps) := hid (by rw [hV]; (repeat' (first | with_reducible exact RB.out | with_reducible refine FreshA.set_at ?_ (by assumption) _ | with_reducible refine FreshA.set_low ?_ ?_ _ | with_reducible refine FreshA.below ?_ (Below.drew (Below.refl _ _)) | with_reducible refine FreshA.below ?_ (Below.alloc (Below.refl _ _) (Nat.le_refl _) _) | (dsimp only; omega) | (simp; done) | (simp; omega))))
  have SC : Hid (FreshA cIn 1 3 V1.heap.size VP Ap cp pl) := hid (by rw [hV]; (repeat' (first | with_reducible exact RC.out | with_reducible refine FreshA.set_at ?_ (by assumption) _ | with_reducible refine FreshA.set_low ?_ ?_ _ | with_reducible refine FreshA.below ?_ (Below.drew (Below.refl _ _)) | with_reducible refine FreshA.below ?_ (Below.alloc (Below.refl _ _) (Nat.le_refl _) _) | (dsimp only; omega) | (simp; done) | (simp; omega))))
  have hbp : Below w.heap.size w VP := by rw [hV]; repeat' (first | with_reducible exact hbb | with_reducible refine Below.setCell ?_ ?_ _ | with_reducible refine Below.drew ?_ | (dsimp only; omega) | exact Nat.le_refl _)
  clear hV
  refine bodyPost_ret (v := .tuple #[.agg #[.int .i64 l, .int .i64 u, .int .i64 v, .slice Af fs.length cf, .slice Aq ps.length cq], .slice Ap pl.length cp]) ?_ rfl ⟨l, u, v, Af, cf, fs, Aq, cq, ps, Ap, cp, pl, rfl, FreshA.mono SA.out (by omega), FreshA.mono SB.out (by omega), FreshA.mono SC.out (by omega), hfl, hpl, hpl3, hbp⟩
  simp [results, Try.results39, go_sem, r0, r1, r2, r3, r4]

end Go.Proofs.Ytpaclngjmdacjaa
namespace Go.Proofs.Ytpaclngjmdacjaa
set_option linter.unusedSimpArgs false
set_option linter.unusedVariables false
open Go.RowKit

def FWo (b g : Nat) (ag : Value) (O : List Value) (iq : Nat) (v : Value) (w1 : World) : Prop := match iq with
  | 0 => v = ag
  | 1 => v = .pointer (some ⟨b, 0, none⟩)
  | 2 => XO 0 3 v w1
  | 3 => v = .pointer (some ⟨b, 0, none⟩)
  | 4 => XO 0 11 v w1
  | 5 => XO 0 2 v w1
  | 6 => XO (-2) 3 v w1
  | 7 => ∀ j v, O[j]? = some v → w1.cell? ⟨g, j, none⟩ = some v
  | _ => True
set_option maxRecDepth 100000 in
set_option maxHeartbeats 8000000 in
theorem c_spec_DrawWithoutPump (A : Option Addr) (cs : List Int) (cap : Nat) (w : World) (hr : Rds cB 1 w A cs) (hby : Bytes cs) (hl : cs.length ≤ 1000000000) :
    Calls Try.prog 45 #[.slice A cs.length cap] w fun e w' => ∃ (l u v : Int) (Af : Option Addr) (cf : Nat) (fs : List Int) (Aq : Option Addr) (cq : Nat) (ps : List (Int × Int × Int)) (x : Int), e = .returned (.tuple #[.agg #[.int .i64 l, .int .i64 u, .int .i64 v, .slice Af fs.length cf, .slice Aq ps.length cq], .int .i64 x]) ∧ FreshA cIn 1 3 w.heap.size w' Af cf fs ∧ FreshA cPu 3 71 w.heap.size w' Aq cq ps ∧ fs.length ≤ 10 ∧ ps.length ≤ 3 ∧ -2 ≤ x ∧ x ≤ 3 ∧ Below w.heap.size w w' := by
  go_enter Try.func45, Try.ntmps45
  go_wp2_with (fail)
  refine calls_named ?_
  intro V1 hV
  have hcu : CurS V1 (w.heap.size + 1) A cs cap 0 := by rw [hV]; exact CurS.new hr (by (repeat' (first | exact Below.refl _ _ | assumption | refine Below.setCell ?_ ?_ _ | refine Below.drew ?_ | refine Below.alloc ?_ ?_ _ | refine Below.trans ?_ (Below.mono (by assumption) ?_) | (simp; done) | (simp; omega) | omega))) (by simp)
  have gw0 : w.grownBy V1 (some (w.heap.size + 1)) := by rw [hV]; (repeat' (first | with_reducible exact World.grownBy.refl _ _ | with_reducible assumption | with_reducible refine grownA ?_ | with_reducible refine grownS ?_ ?_ | with_reducible refine grown_drew ?_ | (dsimp only; omega) | (simp; done) | omega))
  have d810 : V1.cell? ⟨w.heap.size, 0, none⟩ = some (.int .i64 0) := by rw [hV]; first | (simp [go_sem, ↓IntWalk.iteOmega, *]; done) | (simp [go_sem, ↓IntWalk.iteOmega, *]; intros; omega)
  have d811 : V1.cell? ⟨w.heap.size, 1, none⟩ = some (.int .i64 0) := by rw [hV]; first | (simp [go_sem, ↓IntWalk.iteOmega, *]; done) | (simp [go_sem, ↓IntWalk.iteOmega, *]; intros; omega)
  have d812 : V1.cell? ⟨w.heap.size, 2, none⟩ = some (.int .i64 0) := by rw [hV]; first | (simp [go_sem, ↓IntWalk.iteOmega, *]; done) | (simp [go_sem, ↓IntWalk.iteOmega, *]; intros; omega)
  have d813 : V1.cell? ⟨w.heap.size, 3, none⟩ = some (.slice none 0 0) := by rw [hV]; first | (simp [go_sem, ↓IntWalk.iteOmega, *]; done) | (simp [go_sem, ↓IntWalk.iteOmega, *]; intros; omega)
  have d814 : V1.cell? ⟨w.heap.size, 4, none⟩ = some (.slice none 0 0) := by rw [hV]; first | (simp [go_sem, ↓IntWalk.iteOmega, *]; done) | (simp [go_sem, ↓IntWalk.iteOmega, *]; intros; omega)
  have e815 : ∀ o, V1.frozen? ⟨w.heap.size, o, none⟩ = false := by rw [hV]; intro o; first | (simp [go_sem, ↓IntWalk.iteOmega, *]; done) | (simp [go_sem, ↓IntWalk.iteOmega, *]; intros; omega)
  clear hV
  have hltb := hcu.lt
  generalize hbd : w.heap.size + 1 = b at *
  refine (c_pumpTask b A cs cap (0) _ hcu hby (by omega) hl).mono ?_
  rintro e W816 ⟨l, u, v, Af, cf, fs, Aq, cq, ps, rfl, hFf, hFq, hfl, hpl, hcn, hg⟩
  have hkW816 := hg.size
  have c817 : W816.cell? ⟨w.heap.size, 0, none⟩ = some (.int .i64 0) := (cellRow hg (w.heap.size) 0).trans (by rw [if_pos ⟨by omega, by omega⟩]; exact d810)
  have c818 : W816.cell? ⟨w.heap.size, 1, none⟩ = some (.int .i64 0) := (cellRow hg (w.heap.size) 1).trans (by rw [if_pos ⟨by omega, by omega⟩]; exact d811)
  have c819 : W816.cell? ⟨w.heap.size, 2, none⟩ = some (.int .i64 0) := (cellRow hg (w.heap.size) 2).trans (by rw [if_pos ⟨by omega, by omega⟩]; exact d812)
  have c820 : W816.cell? ⟨w.heap.size, 3, none⟩ = some (.slice none 0 0) := (cellRow hg (w.heap.size) 3).trans (by rw [if_pos ⟨by omega, by omega⟩]; exact d813)
  have c821 : W816.cell? ⟨w.heap.size, 4, none⟩ = some (.slice none 0 0) := (cellRow hg (w.heap.size) 4).trans (by rw [if_pos ⟨by omega, by omega⟩]; exact d814)
  have z822 : ∀ o, W816.frozen? ⟨w.heap.size, o, none⟩ = false := fun o => (frozRow hg (w.heap.size) o).trans (by rw [if_pos ⟨by omega, by omega⟩]; exact e815 o)
  have cu823 : CurS W816 b A cs cap (0 + 300) := hcn
  have gw824 : w.grownBy W816 (some b) := grown_trans gw0 hg
  have hzgw824 := gw824.size
  have hlcu823 := cu823.lt
  clear d810 d811 d812 d813 d814 e815 gw0
  clear hg
  have S825 : Hid (FreshA cIn 1 3 (V1.heap.size) W816 Af cf fs) := hid (hFf)
  have S826 : Hid (FreshA cPu 3 71 (V1.heap.size) W816 Aq cq ps) := hid (hFq)
  clear hFf hFq
  go_wp2_with (fail)
  refine wp_named ?_
  intro V827 hV
  have hkV827 : W816.heap.size ≤ V827.heap.size := by rw [hV]; first | with_reducible exact Nat.le_refl _ | (simp [World.setCell]; done) | (simp; omega)
  have c828 : V827.cell? ⟨w.heap.size, 0, none⟩ = some (.int .i64 0) := by rw [hV]; first | ((repeat' (first | with_reducible exact c817 | with_reducible refine cellK_drew ?_ | with_reducible refine cellK_alloc ?_ | with_reducible refine cellK_set ?_ (by dsimp only; omega))); done) | (first | (simp [go_sem, ↓IntWalk.iteOmega, *]; done) | (simp [go_sem, ↓IntWalk.iteOmega, *]; intros; omega))
  have c829 : V827.cell? ⟨w.heap.size, 1, none⟩ = some (.int .i64 0) := by rw [hV]; first | ((repeat' (first | with_reducible exact c818 | with_reducible refine cellK_drew ?_ | with_reducible refine cellK_alloc ?_ | with_reducible refine cellK_set ?_ (by dsimp only; omega))); done) | (first | (simp [go_sem, ↓IntWalk.iteOmega, *]; done) | (simp [go_sem, ↓IntWalk.iteOmega, *]; intros; omega))
  have c830 : V827.cell? ⟨w.heap.size, 2, none⟩ = some (.int .i64 0) := by rw [hV]; first | ((repeat' (first | with_reducible exact c819 | with_reducible refine cellK_drew ?_ | with_reducible refine cellK_alloc ?_ | with_reducible refine cellK_set ?_ (by dsimp only; omega))); done) | (first | (simp [go_sem, ↓IntWalk.iteOmega, *]; done) | (simp [go_sem, ↓IntWalk.iteOmega, *]; intros; omega))
  have c831 : V827.cell? ⟨w.heap.size, 3, none⟩ = some (.slice none 0 0) := by rw [hV]; first | ((repeat' (first | with_reducible exact c820 | with_reducible refine cellK_drew ?_ | with_reducible refine cellK_alloc ?_ | with_reducible refine cellK_set ?_ (by dsimp only; omega))); done) | (first | (simp [go_sem, ↓IntWalk.iteOmega, *]; done) | (simp [go_sem, ↓IntWalk.iteOmega, *]; intros; omega))
  have c832 : V827.cell? ⟨w.heap.size, 4, none⟩ = some (.slice none 0 0) := by rw [hV]; first | ((repeat' (first | with_reducible exact c821 | with_reducible refine cellK_drew ?_ | with_reducible refine cellK_alloc ?_ | with_reducible refine cellK_set ?_ (by dsimp only; omega))); done) | (first | (simp [go_sem, ↓IntWalk.iteOmega, *]; done) | (simp [go_sem, ↓IntWalk.iteOmega, *]; intros; omega))
  have z833 : ∀ o, V827.frozen? ⟨w.heap.size, o, none⟩ = false := by rw [hV]; first | ((repeat' (first | with_reducible exact z822 | with_reducible refine frozK_drew ?_ | with_reducible refine frozK_alloc ?_ | with_reducible refine frozK_set ?_)); done) | (intro o; first | (simp [go_sem, ↓IntWalk.iteOmega, *]; done) | (simp [go_sem, ↓IntWalk.iteOmega, *]; intros; omega))
  have R834 : Hid (FreshA cIn 1 3 (V1.heap.size) V827 Af cf fs) := hid (by rw [hV]; (repeat' (first | with_reducible exact S825.out | with_reducible refine FreshA.set_at ?_ (by assumption) _ | with_reducible refine FreshA.set_low ?_ ?_ _ | with_reducible refine FreshA.below ?_ (Below.drew (Below.refl _ _)) | with_reducible refine FreshA.below ?_ (Below.alloc (Below.refl _ _) (Nat.le_refl _) _) | (dsimp only; omega) | (simp; done) | (simp; omega))))
  have R835 : Hid (FreshA cPu 3 71 (V1.heap.size) V827 Aq cq ps) := hid (by rw [hV]; (repeat' (first | with_reducible exact S826.out | with_reducible refine FreshA.set_at ?_ (by assumption) _ | with_reducible refine FreshA.set_low ?_ ?_ _ | with_reducible refine FreshA.below ?_ (Below.drew (Below.refl _ _)) | with_reducible refine FreshA.below ?_ (Below.alloc (Below.refl _ _) (Nat.le_refl _) _) | (dsimp only; omega) | (simp; done) | (simp; omega))))
  have cu836 : CurS V827 b A cs cap (0 + 300) := by rw [hV]; (repeat' (first | with_reducible refine CurS.setc ?_ ?_ | with_reducible refine CurS.allo ?_ | with_reducible refine CurS.drw ?_ | with_reducible exact cu823 | (dsimp only; omega) | (simp; done) | (simp; omega)))
  have gw837 : w.grownBy V827 (some b) := by rw [hV]; (repeat' (first | with_reducible exact World.grownBy.refl _ _ | with_reducible exact gw824 | with_reducible refine grownA ?_ | with_reducible refine grownS ?_ ?_ | with_reducible refine grown_drew ?_ | (dsimp only; omega) | (simp; done) | omega))
  have hzgw837 := gw837.size
  have hlcu836 := cu836.lt
  clear c817 c818 c819 c820 c821 z822 S825 S826 cu823 gw824
  have d838 : V827.cell? ⟨W816.heap.size, 0, none⟩ = some (.int .i64 l) := by rw [hV]; first | (simp [go_sem, ↓IntWalk.iteOmega, *]; done) | (simp [go_sem, ↓IntWalk.iteOmega, *]; intros; omega)
  have d839 : V827.cell? ⟨W816.heap.size, 1, none⟩ = some (.int .i64 u) := by rw [hV]; first | (simp [go_sem, ↓IntWalk.iteOmega, *]; done) | (simp [go_sem, ↓IntWalk.iteOmega, *]; intros; omega)
  have d840 : V827.cell? ⟨W816.heap.size, 2, none⟩ = some (.int .i64 v) := by rw [hV]; first | (simp [go_sem, ↓IntWalk.iteOmega, *]; done) | (simp [go_sem, ↓IntWalk.iteOmega, *]; intros; omega)
  have d841 : V827.cell? ⟨W816.heap.size, 3, none⟩ = some (.slice Af fs.length cf) := by rw [hV]; first | (simp [go_sem, ↓IntWalk.iteOmega, *]; done) | (simp [go_sem, ↓IntWalk.iteOmega, *]; intros; omega)
  have d842 : V827.cell? ⟨W816.heap.size, 4, none⟩ = some (.slice Aq ps.length cq) := by rw [hV]; first | (simp [go_sem, ↓IntWalk.iteOmega, *]; done) | (simp [go_sem, ↓IntWalk.iteOmega, *]; intros; omega)
  have hTB : W816.heap.size < V827.heap.size := by rw [hV]; first | (simp; done) | (simp; omega)
  clear hV
  have hlw : w.heap.size < V827.heap.size := by omega
  refine wp_region_r (n := 8) (RG b w.heap.size ([.int .i64 l, .int .i64 u, .int .i64 v, .slice Af fs.length cf, .slice Aq ps.length cq])) (fun k w' => CurS w' b A cs cap (0 + 300 + k)) [] (fun _ _ _ h1 h2 => RG.trans h1 h2) (FWo b w.heap.size (.agg #[.int .i64 l, .int .i64 u, .int .i64 v, .slice Af fs.length cf, .slice Aq ps.length cq]) ([.int .i64 l, .int .i64 u, .int .i64 v, .slice Af fs.length cf, .slice Aq ps.length cq])) rfl (by kernel_rfl) (fun _ _ d _ _ h => by cases d <;> exact h) RG.refl (CurS.mono (CurS.drw cu836) (by omega)) ?_ (fun i hi => absurd hi (by simp)) ?_ ?_
  · intro iq v w1 w2 hF hg
    match iq with
    | 0 => exact hF
    | 1 => exact hF
    | 2 => exact hF
    | 3 => exact hF
    | 4 => exact hF
    | 5 => exact hF
    | 6 => exact hF
    | 7 => exact hg.2.elim (fun e j v hj => (e j).trans (hF j v hj)) id
    | q + 8 => exact (show True from trivial)
  · intro iq o hi ho vals k w1 hk hT hgW hf
    match iq, hi with
    | 0, _ =>
      injection ho with ho
      subst ho
      clear hf
      have hz1 := hgW.1.2.2.2.1
      have hlt1 := CurS.lt hT
      simp only [fillA, List.take, List.drop, put_none, Act.put, List.setIfInBounds_toArray, List.set_cons_zero, List.set_cons_succ, Nat.reduceAdd]
      have k0 : w1.cell? ⟨W816.heap.size, 0, none⟩ = some (.int .i64 l) := (hgW.cell (by omega) (by omega) (by omega) 0).trans d838
      have k1 : w1.cell? ⟨W816.heap.size, 1, none⟩ = some (.int .i64 u) := (hgW.cell (by omega) (by omega) (by omega) 1).trans d839
      have k2 : w1.cell? ⟨W816.heap.size, 2, none⟩ = some (.int .i64 v) := (hgW.cell (by omega) (by omega) (by omega) 2).trans d840
      have k3 : w1.cell? ⟨W816.heap.size, 3, none⟩ = some (.slice Af fs.length cf) := (hgW.cell (by omega) (by omega) (by omega) 3).trans d841
      have k4 : w1.cell? ⟨W816.heap.size, 4, none⟩ = some (.slice Aq ps.length cq) := (hgW.cell (by omega) (by omega) (by omega) 4).trans d842
      go_wp2_with (fail)
      exact ⟨rfl, rfl, RG.refl, CurS.mono hT (by omega), (by first | rfl | (simp [FWo]; done) | (simp [FWo, *]; done) | (simp [FWo, gotV]; done) | (simp [FWo, gotV, *]; done)), fun h => absurd h (by decide)⟩
    | 1, _ =>
      injection ho with ho
      subst ho
      clear hf
      have hz1 := hgW.1.2.2.2.1
      have hlt1 := CurS.lt hT
      simp only [fillA, List.take, List.drop, put_none, Act.put, List.setIfInBounds_toArray, List.set_cons_zero, List.set_cons_succ, Nat.reduceAdd]
      go_wp2_with (fail)
      exact ⟨rfl, rfl, RG.refl, CurS.mono hT (by omega), (by first | rfl | (simp [FWo]; done) | (simp [FWo, *]; done) | (simp [FWo, gotV]; done) | (simp [FWo, gotV, *]; done)), fun h => absurd h (by decide)⟩
    | 2, _ =>
      injection ho with ho
      subst ho
      have e1 : vals 1 = .pointer (some ⟨b, 0, none⟩) := hf 1 (by decide) (by kernel_rfl)
      clear hf
      have hz1 := hgW.1.2.2.2.1
      have hlt1 := CurS.lt hT
      simp only [fillA, List.take, List.drop, put_none, Act.put, List.setIfInBounds_toArray, List.set_cons_zero, List.set_cons_succ, Nat.reduceAdd, e1]
      go_wp2_with (go_at_call 75; refine (c_pick b A cs cap (0 + 300 + k) 3 _ hT hby (by omega) hl (by omega)).mono ?_; rintro e w9 ⟨x9, rfl, hx9a, hx9b, hcu9, hg9⟩)
      exact RQO_of (.int .i64 x9) rfl (by first | rfl | (simp [gotV]; done) | (simp [gotV, *]; done)) ⟨RG.of_grown hg9 (by omega) (by omega), CurS.mono hcu9 (by omega), ⟨x9, rfl, by omega, by omega⟩, fun h => absurd h (by decide)⟩
    | 3, _ =>
      injection ho with ho
      subst ho
      clear hf
      have hz1 := hgW.1.2.2.2.1
      have hlt1 := CurS.lt hT
      simp only [fillA, List.take, List.drop, put_none, Act.put, List.setIfInBounds_toArray, List.set_cons_zero, List.set_cons_succ, Nat.reduceAdd]
      go_wp2_with (fail)
      exact ⟨rfl, rfl, RG.refl, CurS.mono hT (by omega), (by first | rfl | (simp [FWo]; done) | (simp [FWo, *]; done) | (simp [FWo, gotV]; done) | (simp [FWo, gotV, *]; done)), fun h => absurd h (by decide)⟩
    | 4, _ =>
      injection ho with ho
      subst ho
      have e3 : vals 3 = .pointer (some ⟨b, 0, none⟩) := hf 3 (by decide) (by kernel_rfl)
      clear hf
      have hz1 := hgW.1.2.2.2.1
      have hlt1 := CurS.lt hT
      simp only [fillA, List.take, List.drop, put_none, Act.put, List.setIfInBounds_toArray, List.set_cons_zero, List.set_cons_succ, Nat.reduceAdd, e3]
      go_wp2_with (go_at_call 75; refine (c_pick b A cs cap (0 + 300 + k) 12 _ hT hby (by omega) hl (by omega)).mono ?_; rintro e w9 ⟨x9, rfl, hx9a, hx9b, hcu9, hg9⟩)
      exact RQO_of (.int .i64 x9) rfl (by first | rfl | (simp [gotV]; done) | (simp [gotV, *]; done)) ⟨RG.of_grown hg9 (by omega) (by omega), CurS.mono hcu9 (by omega), ⟨x9, rfl, by omega, by omega⟩, fun h => absurd h (by decide)⟩
    | 5, _ =>
      injection ho with ho
      subst ho
      obtain ⟨x4, e4, hxa4, hxb4⟩ := hf 4 (by decide) (by kernel_rfl)
      clear hf
      have hz1 := hgW.1.2.2.2.1
      have hlt1 := CurS.lt hT
      simp only [fillA, List.take, List.drop, put_none, Act.put, List.setIfInBounds_toArray, List.set_cons_zero, List.set_cons_succ, Nat.reduceAdd, e4]
      have hx5 : (x4 = 11 ∧ Int.tdiv x4 11 = 1) ∨ Int.tdiv x4 11 = 0 := by
        clear e4
        by_cases h11 : x4 = 11
        · exact .inl ⟨h11, by rw [h11]; decide⟩
        · right
          rcases (show x4 = 0 ∨ x4 = 1 ∨ x4 = 2 ∨ x4 = 3 ∨ x4 = 4 ∨ x4 = 5 ∨ x4 = 6 ∨ x4 = 7 ∨ x4 = 8 ∨ x4 = 9 ∨ x4 = 10 by omega) with rfl | rfl | rfl | rfl | rfl | rfl | rfl | rfl | rfl | rfl | rfl <;> decide
      rcases hx5 with ⟨_, hx5⟩ | hx5
      · go_wp2_with (fail)
        exact RQO_of (.int .i64 1) rfl (by first | rfl | (simp [gotV]; done)) ⟨RG.refl, CurS.mono hT (by omega), ⟨1, rfl, by omega, by omega⟩, fun h => absurd h (by decide)⟩
      · go_wp2_with (fail)
        exact RQO_of (.int .i64 0) rfl (by first | rfl | (simp [gotV]; done)) ⟨RG.refl, CurS.mono hT (by omega), ⟨0, rfl, by omega, by omega⟩, fun h => absurd h (by decide)⟩
    | 6, _ =>
      injection ho with ho
      subst ho
      obtain ⟨x2, e2, hxa2, hxb2⟩ := hf 2 (by decide) (by kernel_rfl)
      obtain ⟨x5, e5, hxa5, hxb5⟩ := hf 5 (by decide) (by kernel_rfl)
      clear hf
      have hz1 := hgW.1.2.2.2.1
      have hlt1 := CurS.lt hT
      simp only [fillA, List.take, List.drop, put_none, Act.put, List.setIfInBounds_toArray, List.set_cons_zero, List.set_cons_succ, Nat.reduceAdd, e2, e5]
      go_wp2_with (fail)
      exact RQO_of (.int .i64 (x2 - x5)) rfl (by first | rfl | (simp [gotV]; done) | (simp [gotV]; omega)) ⟨RG.refl, CurS.mono hT (by omega), ⟨_, rfl, by omega, by omega⟩, fun h => absurd h (by decide)⟩
    | 7, _ =>
      injection ho with ho
      subst ho
      have e0 : vals 0 = .agg #[.int .i64 l, .int .i64 u, .int .i64 v, .slice Af fs.length cf, .slice Aq ps.length cq] := hf 0 (by decide) (by kernel_rfl)
      clear hf
      have hz1 := hgW.1.2.2.2.1
      have hlt1 := CurS.lt hT
      simp only [fillA, List.take, List.drop, put_none, Act.put, List.setIfInBounds_toArray, List.set_cons_zero, List.set_cons_succ, Nat.reduceAdd, e0]
      obtain ⟨c0, k0⟩ := hgW.own (j := 0) c828 rfl
      obtain ⟨c1, k1⟩ := hgW.own (j := 1) c829 rfl
      obtain ⟨c2, k2⟩ := hgW.own (j := 2) c830 rfl
      obtain ⟨c3, k3⟩ := hgW.own (j := 3) c831 rfl
      obtain ⟨c4, k4⟩ := hgW.own (j := 4) c832 rfl
      have hzz : ∀ o, w1.frozen? ⟨w.heap.size, o, none⟩ = false := fun o => (hgW.1.2.2.2.2.2 o).trans (z833 o)
      go_wp2_with (fail)
      refine ⟨rfl, rfl, ⟨?_, .inr ?_⟩, ?_, ?_, fun h => absurd h (by decide)⟩
      · repeat' (first | with_reducible exact RBg.refl | with_reducible refine RBg.setg ?_ | with_reducible refine RBg.drw ?_)
      · intro j v hj
        match j, hj with
        | 0, hj => cases hj; first | (simp [go_sem, ↓IntWalk.iteOmega, *]; done) | (simp [go_sem, ↓IntWalk.iteOmega, *]; intros; omega)
        | 1, hj => cases hj; first | (simp [go_sem, ↓IntWalk.iteOmega, *]; done) | (simp [go_sem, ↓IntWalk.iteOmega, *]; intros; omega)
        | 2, hj => cases hj; first | (simp [go_sem, ↓IntWalk.iteOmega, *]; done) | (simp [go_sem, ↓IntWalk.iteOmega, *]; intros; omega)
        | 3, hj => cases hj; first | (simp [go_sem, ↓IntWalk.iteOmega, *]; done) | (simp [go_sem, ↓IntWalk.iteOmega, *]; intros; omega)
        | 4, hj => cases hj; first | (simp [go_sem, ↓IntWalk.iteOmega, *]; done) | (simp [go_sem, ↓IntWalk.iteOmega, *]; intros; omega)
      · refine CurS.mono ?_ (m := 0 + 300 + k) (by omega)
        (repeat' (first | with_reducible exact hT | with_reducible refine CurS.setr ?_ hr rfl (by dsimp only; omega) | with_reducible refine CurS.drw ?_))
      · intro j v hj
        match j, hj with
        | 0, hj => cases hj; first | (simp [go_sem, ↓IntWalk.iteOmega, *]; done) | (simp [go_sem, ↓IntWalk.iteOmega, *]; intros; omega)
        | 1, hj => cases hj; first | (simp [go_sem, ↓IntWalk.iteOmega, *]; done) | (simp [go_sem, ↓IntWalk.iteOmega, *]; intros; omega)
        | 2, hj => cases hj; first | (simp [go_sem, ↓IntWalk.iteOmega, *]; done) | (simp [go_sem, ↓IntWalk.iteOmega, *]; intros; omega)
        | 3, hj => cases hj; first | (simp [go_sem, ↓IntWalk.iteOmega, *]; done) | (simp [go_sem, ↓IntWalk.iteOmega, *]; intros; omega)
        | 4, hj => cases hj; first | (simp [go_sem, ↓IntWalk.iteOmega, *]; done) | (simp [go_sem, ↓IntWalk.iteOmega, *]; intros; omega)
    | q + 8, h => exact absurd h (by omega)
  · intro vals W5 hT hgW hf hd
    obtain ⟨x6, e6, hxa6, hxb6⟩ := hf 6 (by decide)
    have hO5 := hf 7 (by decide)
    clear hf hd
    simp only [fillA, List.take, List.drop, put_none, Act.put, List.setIfInBounds_toArray, List.set_cons_zero, List.set_cons_succ, Nat.reduceAdd, e6]
    have r0 : W5.cell? ⟨w.heap.size, 0, none⟩ = some (.int .i64 l) := hO5 0 _ rfl
    have r1 : W5.cell? ⟨w.heap.size, 1, none⟩ = some (.int .i64 u) := hO5 1 _ rfl
    have r2 : W5.cell? ⟨w.heap.size, 2, none⟩ = some (.int .i64 v) := hO5 2 _ rfl
    have r3 : W5.cell? ⟨w.heap.size, 3, none⟩ = some (.slice Af fs.length cf) := hO5 3 _ rfl
    have r4 : W5.cell? ⟨w.heap.size, 4, none⟩ = some (.slice Aq ps.length cq) := hO5 4 _ rfl
    clear hO5
    have hzw : V827.heap.size ≤ W5.heap.size := hgW.1.2.2.2.1
    have RA := hid (FreshA.rg R834.out hgW (by omega) (by omega)); have RBq := hid (FreshA.rg R835.out hgW (by omega) (by omega))
    have hbp : Below w.heap.size w W5 := Below.rg (below_gw gw837 (by omega)) hgW (by omega) (by omega) (by omega)
    go_wp2_with (fail)
    refine bodyPost_ret (v := .tuple #[.agg #[.int .i64 l, .int .i64 u, .int .i64 v, .slice Af fs.length cf, .slice Aq ps.length cq], .int .i64 x6]) ?_ rfl ⟨l, u, v, Af, cf, fs, Aq, cq, ps, x6, rfl, FreshA.mono RA.out (by omega), FreshA.mono RBq.out (by omega), hfl, hpl, by omega, by omega, hbp⟩
    simp [results, Try.results45, go_sem, r0, r1, r2, r3, r4]

end Go.Proofs.Ytpaclngjmdacjaa
