import Derived.Test.YtpaclngjmdacjaaQP05
import Derived.Test.YtpaclngjmdacjaaQP07
namespace Go.Proofs.Ytpaclngjmdacjaa
set_option linter.unusedSimpArgs false
set_option linter.unusedVariables false
open Go.RowKit

set_option maxRecDepth 100000 in
set_option maxHeartbeats 4000000 in
theorem c_laws_rPumpTasks (l u v : Int) (A : Option Addr) (fs : List Int) (ca : Nat) (B : Option Addr) (ps : List (Int × Int × Int)) (cb : Nat) (A' : Option Addr) (ca' : Nat) (B' : Option Addr) (cb' : Nat) (w : World) (h0 : Rds cIn 1 w A fs) (h1 : Rds cIn 1 w A' fs) (g0 : Rds cPu 3 w B ps) (g1 : Rds cPu 3 w B' ps) (hn : fs.length ≤ 1000) (hm : ps.length ≤ 1000) :
    Calls Try.prog 46 #[.agg #[.int .i64 l, .int .i64 u, .int .i64 v, .slice A fs.length ca, .slice B ps.length cb], .agg #[.int .i64 l, .int .i64 u, .int .i64 v, .slice A' fs.length ca', .slice B' ps.length cb']] w fun e w' => e = .returned (.bool true) ∧ Below w.heap.size w w' := by
  go_enter Try.func46, Try.ntmps46
  go_wp2_with (fail)
  refine calls_named ?_
  intro V hV
  have hb : Below w.heap.size w V := by rw [hV]; (repeat' (first | exact Below.refl _ _ | assumption | refine Below.setCell ?_ ?_ _ | refine Below.drew ?_ | refine Below.alloc ?_ ?_ _ | refine Below.trans ?_ (Below.mono (by assumption) ?_) | (simp; done) | (simp; omega) | omega))
  have d1 : V.cell? ⟨w.heap.size, 4, none⟩ = some (.slice B ps.length cb) := by rw [hV]; first | (simp [go_sem, ↓IntWalk.iteOmega, *]; done) | (simp [go_sem, ↓IntWalk.iteOmega, *]; intros; omega)
  have d2 : V.cell? ⟨w.heap.size + 1, 4, none⟩ = some (.slice B' ps.length cb') := by rw [hV]; first | (simp [go_sem, ↓IntWalk.iteOmega, *]; done) | (simp [go_sem, ↓IntWalk.iteOmega, *]; intros; omega)
  have hsz : w.heap.size + 1 < V.heap.size := by rw [hV]; first | (simp; done) | (simp; omega)
  clear hV
  refine (c_laws_rInts _ _ fs _ _ V (h0.below hb) (h1.below hb) (by omega)).mono ?_
  rintro e W ⟨rfl, hb2⟩
  have p1 := (hb2.cell (p := ⟨w.heap.size, 4, none⟩) (by show w.heap.size < _; omega)).trans d1
  have p2 := (hb2.cell (p := ⟨w.heap.size + 1, 4, none⟩) (by show w.heap.size + 1 < _; omega)).trans d2
  have hs2 := hb2.size
  have hbw := Below.trans hb (Below.mono hb2 (by omega))
  clear h0 h1 hb hb2 d1 d2
  go_wp2_with (fail)
  go_loopw [5] (fun i wr => ∃ k : Nat, k ≤ ps.length ∧ i = .int .i64 k ∧ wr.cell? ⟨w.heap.size, 4, none⟩ = some (.slice B ps.length cb) ∧ wr.cell? ⟨w.heap.size + 1, 4, none⟩ = some (.slice B' ps.length cb') ∧ w.heap.size + 1 < wr.heap.size ∧ Below w.heap.size w wr) (fun i _ => ps.length - (intOf i).toNat)
  case atStart => exact ⟨0, Nat.zero_le _, rfl, p1, p2, by omega, hbw⟩
  case round =>
    clear p1 p2 hbw hsz hs2
    obtain ⟨k, hk, rfl, p1, p2, hsz, hbr⟩ := hrel
    by_cases hlt : k < ps.length
    · obtain ⟨bx, ox, rfl, hbx, hcx⟩ := g0 k ps[k] (List.getElem?_eq_getElem hlt)
      obtain ⟨by_, oy, rfl, hby, hcy⟩ := g1 k ps[k] (List.getElem?_eq_getElem hlt)
      have hx0 := hcx 0 _ rfl
      have hx1 := hcx 1 _ rfl
      have hx2 := hcx 2 _ rfl
      have hy0 := hcy 0 _ rfl
      have hy1 := hcy 1 _ rfl
      have hy2 := hcy 2 _ rfl
      simp only [Nat.add_zero, Nat.mul_one] at hx0 hx1 hx2 hy0 hy1 hy2
      clear hcx hcy g0 g1
      generalize ps[k] = x at *
      have hc : ∀ b o, b < w.heap.size → wr.cell? ⟨b, o, none⟩ = w.cell? ⟨b, o, none⟩ := fun b o hb => hbr.cell (p := ⟨b, o, none⟩) hb
      have rx0 := (hc _ _ hbx).trans hx0
      have rx1 := (hc _ _ hbx).trans hx1
      have rx2 := (hc _ _ hbx).trans hx2
      have ry0 := (hc _ _ hby).trans hy0
      have ry1 := (hc _ _ hby).trans hy1
      have ry2 := (hc _ _ hby).trans hy2
      clear hx0 hx1 hx2 hy0 hy1 hy2 hc
      go_wp2_with (fail)
      go_region_held3 (fun w' => w'.cell? ⟨bx, ox + k * 3, none⟩ = some (.int .i64 x.1) ∧ w'.cell? ⟨bx, ox + k * 3 + 1, none⟩ = some (.int .i64 x.2.1) ∧ w'.cell? ⟨bx, ox + k * 3 + 2, none⟩ = some (.int .i64 x.2.2) ∧ w'.cell? ⟨by_, oy + k * 3, none⟩ = some (.int .i64 x.1) ∧ w'.cell? ⟨by_, oy + k * 3 + 1, none⟩ = some (.int .i64 x.2.1) ∧ w'.cell? ⟨by_, oy + k * 3 + 2, none⟩ = some (.int .i64 x.2.2) ∧ w'.cell? ⟨w.heap.size, 4, none⟩ = some (.slice (some ⟨bx, ox, none⟩) ps.length cb) ∧ w'.cell? ⟨w.heap.size + 1, 4, none⟩ = some (.slice (some ⟨by_, oy, none⟩) ps.length cb')) (first | assumption | exact ⟨rx0, rx1, rx2, ry0, ry1, ry2, p1, p2⟩) (fail)
      go_wp2_with (fail)
      go_roundw
      case rel => exact ⟨k + 1, by omega, by go_num, by first | exact p1 | (first | (simp [go_sem, ↓IntWalk.iteOmega, *]; done) | (simp [go_sem, ↓IntWalk.iteOmega, *]; intros; omega)), by first | exact p2 | (first | (simp [go_sem, ↓IntWalk.iteOmega, *]; done) | (simp [go_sem, ↓IntWalk.iteOmega, *]; intros; omega)), by first | exact hsz | (simp; omega), by (repeat' (first | exact Below.refl _ _ | assumption | refine Below.setCell ?_ ?_ _ | refine Below.drew ?_ | refine Below.alloc ?_ ?_ _ | refine Below.trans ?_ (Below.mono (by assumption) ?_) | (simp; done) | (simp; omega) | omega))⟩
      case measure => simp [intOf]; omega
    · obtain rfl : k = ps.length := by omega
      go_wp2_with (fail)
      go_ret
      exact ⟨rfl, by (repeat' (first | exact Below.refl _ _ | assumption | refine Below.setCell ?_ ?_ _ | refine Below.drew ?_ | refine Below.alloc ?_ ?_ _ | refine Below.trans ?_ (Below.mono (by assumption) ?_) | (simp; done) | (simp; omega) | omega))⟩

end Go.Proofs.Ytpaclngjmdacjaa
