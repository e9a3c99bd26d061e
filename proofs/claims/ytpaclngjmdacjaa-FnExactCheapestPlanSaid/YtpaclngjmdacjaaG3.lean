import Derived.Test.YtpaclngjmdacjaaG2
import Derived.Deep.RegionHeld3
namespace Go.Proofs.Ytpaclngjmdacjaa
set_option linter.unusedSimpArgs false
set_option linter.unusedVariables false
open Go.RowKit

theorem upd_take {s r : List Int × Int} (h1 : 0 ≤ r.2) (h2 : s.2 < 0 ∨ r.2 < s.2) : Cheap.upd s r = r := by
  unfold Cheap.upd
  rw [if_pos ⟨h1, h2⟩]
theorem upd_keep {s r : List Int × Int} (h : ¬ (0 ≤ r.2 ∧ (s.2 < 0 ∨ r.2 < s.2))) : Cheap.upd s r = s := by
  unfold Cheap.upd
  rw [if_neg h]
set_option maxRecDepth 100000 in
set_option maxHeartbeats 8000000 in
theorem c_spec_l12BestS (l h v : Int) (A : Option Addr) (fs : List Int) (capf : Nat) (B : Option Addr) (ps : List (Int × Int × Int)) (capq : Nat) (d : Nat) (hf5 : fs.length ≤ 5) (hv : 0 ≤ v ∧ v ≤ 500) (hfl : ∀ k (hk : k < fs.length), -50 ≤ fs[k] ∧ fs[k] ≤ 50) (hpu : ∀ k (hk : k < ps.length), puOk ps[k] = true) (hn2 : ps.length ≤ 2)
    (ih : ∀ (g : Nat) (pl : List Int) (capp G : Nat) (w : World) (hx : Rds cIn 1 w A fs) (hn : fs.length ≤ 9223372036854775807) (hy : Rds cPu 3 w B ps) (hm : ps.length ≤ 9223372036854775807) (hg : FreshA cIn 1 3 G w (some ⟨g, 0, none⟩) capp pl) (hG : G ≤ w.heap.size) (hpl : pl.length + d = fs.length) (hbt : ∀ k (hk : k < pl.length), 0 ≤ pl[k] ∧ pl[k] ≤ 3),
      Calls Try.prog 67 #[.agg #[.int .i64 l, .int .i64 h, .int .i64 v, .slice A fs.length capf, .slice B ps.length capq], .slice (some ⟨g, 0, none⟩) pl.length capp] w fun e w' => ∃ A' cap', e = .returned (.tuple #[.slice A' (bestP l h v fs ps d pl).1.length cap', .int .i64 (bestP l h v fs ps d pl).2]) ∧ FreshA cIn 1 3 G w' A' cap' (bestP l h v fs ps d pl).1 ∧ Below w.heap.size w w')
    (g : Nat) (pl : List Int) (capp G : Nat) (w : World) (hx : Rds cIn 1 w A fs) (hn : fs.length ≤ 9223372036854775807) (hy : Rds cPu 3 w B ps) (hm : ps.length ≤ 9223372036854775807) (hg : FreshA cIn 1 3 G w (some ⟨g, 0, none⟩) capp pl) (hG : G ≤ w.heap.size) (hpl : pl.length + (d + 1) = fs.length) (hbt : ∀ k (hk : k < pl.length), 0 ≤ pl[k] ∧ pl[k] ≤ 3) :
    Calls Try.prog 67 #[.agg #[.int .i64 l, .int .i64 h, .int .i64 v, .slice A fs.length capf, .slice B ps.length capq], .slice (some ⟨g, 0, none⟩) pl.length capp] w fun e w' => ∃ A' cap', e = .returned (.tuple #[.slice A' (bestP l h v fs ps (d + 1) pl).1.length cap', .int .i64 (bestP l h v fs ps (d + 1) pl).2]) ∧ FreshA cIn 1 3 G w' A' cap' (bestP l h v fs ps (d + 1) pl).1 ∧ Below w.heap.size w w' := by
  obtain ⟨i0, hI0, hI1, hI2, hI3⟩ := info_parts info_In
  have hr := hg.rds
  have hnr : pl.length ≤ 4 := by omega
  have hl1 : pl.length < fs.length := by omega
  have HPL := hid hpl
  have HIH := hid ih
  have HO := hid hg
  clear hg hpl ih
  by_cases hb0 : badP l h v fs ps pl = true
  · have HV := hid (bestP_bad (d + 1) pl hb0)
    have hix := (badP_idx pl).2 hb0
    clear hb0
    go_enter Try.func67, Try.ntmps67
    go_wp2_with (go_at_call 56; refine (c_spec_l12Unsafe _ _ _ _ fs _ _ ps _ _ pl _ _ (by first | assumption | exact Rds.below hx (by (repeat' (first | exact Below.refl _ _ | assumption | refine Below.setCell ?_ ?_ _ | refine Below.drew ?_ | refine Below.alloc ?_ ?_ _ | refine Below.trans ?_ (Below.mono (by assumption) ?_) | (simp; done) | (simp; omega) | omega)))) (by omega) (by first | assumption | exact Rds.below hy (by (repeat' (first | exact Below.refl _ _ | assumption | refine Below.setCell ?_ ?_ _ | refine Below.drew ?_ | refine Below.alloc ?_ ?_ _ | refine Below.trans ?_ (Below.mono (by assumption) ?_) | (simp; done) | (simp; omega) | omega)))) (by omega) (by first | assumption | exact Rds.below hr (by (repeat' (first | exact Below.refl _ _ | assumption | refine Below.setCell ?_ ?_ _ | refine Below.drew ?_ | refine Below.alloc ?_ ?_ _ | refine Below.trans ?_ (Below.mono (by assumption) ?_) | (simp; done) | (simp; omega) | omega)))) (by omega) (by omega) hfl hpu (by omega) (by omega) hbt).mono ?_; rintro e w' ⟨rfl, hb⟩; have hc := cellOf hb; have hf := frozOf hb; have hz := sizeOf hb; try simp at hz)
    go_ret2
    simp only [HV.out]
    exact ⟨_, _, rfl, FreshA.new (by first | omega | (simp at *; omega)), by (repeat' (first | exact Below.refl _ _ | assumption | refine Below.setCell ?_ ?_ _ | refine Below.drew ?_ | refine Below.alloc ?_ ?_ _ | refine Below.trans ?_ (Below.mono (by assumption) ?_) | (simp; done) | (simp; omega) | omega))⟩
  have HV := hid (bestP_go d pl (Bool.eq_false_iff.2 hb0))
  have hix : ¬ 0 ≤ idxF (outL l h) (levsTo v fs pl ps pl.length) := fun e => hb0 ((badP_idx pl).1 e)
  have hpw := topB_shl (n := ps.length) (by omega)
  have htb := topB_bd ps.length
  have htn := topN_cast ps.length
  have hne0 : ((pl.length : Int) == (fs.length : Int)) = false := by simp; omega
  clear hb0
  go_enter Try.func67, Try.ntmps67
  go_wp2_with (go_at_call 56; refine (c_spec_l12Unsafe _ _ _ _ fs _ _ ps _ _ pl _ _ (by first | assumption | exact Rds.below hx (by (repeat' (first | exact Below.refl _ _ | assumption | refine Below.setCell ?_ ?_ _ | refine Below.drew ?_ | refine Below.alloc ?_ ?_ _ | refine Below.trans ?_ (Below.mono (by assumption) ?_) | (simp; done) | (simp; omega) | omega)))) (by omega) (by first | assumption | exact Rds.below hy (by (repeat' (first | exact Below.refl _ _ | assumption | refine Below.setCell ?_ ?_ _ | refine Below.drew ?_ | refine Below.alloc ?_ ?_ _ | refine Below.trans ?_ (Below.mono (by assumption) ?_) | (simp; done) | (simp; omega) | omega)))) (by omega) (by first | assumption | exact Rds.below hr (by (repeat' (first | exact Below.refl _ _ | assumption | refine Below.setCell ?_ ?_ _ | refine Below.drew ?_ | refine Below.alloc ?_ ?_ _ | refine Below.trans ?_ (Below.mono (by assumption) ?_) | (simp; done) | (simp; omega) | omega)))) (by omega) (by omega) hfl hpu (by omega) (by omega) hbt).mono ?_; rintro e w' ⟨rfl, hb⟩; have hc := cellOf hb; have hf := frozOf hb; have hz := sizeOf hb; try simp at hz)
  clear hix
  go_loopw [8, 9, 10] (fun b s i wr => ∃ (k : Nat) (A' : Option Addr) (cp : Nat), k ≤ topN ps.length ∧ i = .int .i64 k ∧ b = .slice A' (bestTo l h v fs ps d pl k).1.length cp ∧ s = .int .i64 (bestTo l h v fs ps d pl k).2 ∧ FreshA cIn 1 3 G wr A' cp (bestTo l h v fs ps d pl k).1 ∧ wr.cell? ⟨w.heap.size, 0, none⟩ = some (.int .i64 l) ∧ wr.cell? ⟨w.heap.size, 1, none⟩ = some (.int .i64 h) ∧ wr.cell? ⟨w.heap.size, 2, none⟩ = some (.int .i64 v) ∧ wr.cell? ⟨w.heap.size, 3, none⟩ = some (.slice A fs.length capf) ∧ wr.cell? ⟨w.heap.size, 4, none⟩ = some (.slice B ps.length capq) ∧ w.heap.size + 1 ≤ wr.heap.size ∧ Below w.heap.size w wr) (fun _ _ i _ => topN ps.length - (intOf i).toNat)
  case atStart =>
    refine ⟨0, _, _, Nat.zero_le _, rfl, rfl, rfl, FreshA.new (by first | omega | (simp; omega) | (simp at *; omega)), ?_, ?_, ?_, ?_, ?_, ?_, by (repeat' (first | exact Below.refl _ _ | assumption | refine Below.setCell ?_ ?_ _ | refine Below.drew ?_ | refine Below.alloc ?_ ?_ _ | refine Below.trans ?_ (Below.mono (by assumption) ?_) | (simp; done) | (simp; omega) | omega))⟩
    all_goals first | (simp [go_sem, ↓IntWalk.iteOmega, *]; done) | (simp at *; omega)
  case round =>
    obtain ⟨k, A', cp, hk, rfl, rfl, rfl, hF, hp0, hp1, hp2, hp3, hp4, hzz, hbr⟩ := hrel
    clear hc hf hz hb
    have hc := cellOf hbr
    have hf := frozOf hbr
    have hz := sizeOf hbr
    by_cases hlt : k < topN ps.length
    rotate_left
    · obtain rfl : k = topN ps.length := by omega
      go_wp2_with (fail)
      go_ret2
      exact ⟨A', cp, by rw [HV.out]; rfl, by rw [HV.out]; exact hF, by (repeat' (first | exact Below.refl _ _ | assumption | refine Below.setCell ?_ ?_ _ | refine Below.drew ?_ | refine Below.alloc ?_ ?_ _ | refine Below.trans ?_ (Below.mono (by assumption) ?_) | (simp; done) | (simp; omega) | omega))⟩
    have hki : (k : Int) < topB ps.length + 1 := by omega
    have hk3 : k ≤ 3 := by omega
    have HB1 := hid (bestTo_succ (l := l) (h := h) (v := v) (fs := fs) (ps := ps) d pl k)
    have HF := hid hF
    have HKEEP : Hid (∀ w' : World, Below wr.heap.size wr w' → w'.cell? ⟨w.heap.size, 0, none⟩ = some (.int .i64 l) ∧ w'.cell? ⟨w.heap.size, 1, none⟩ = some (.int .i64 h) ∧ w'.cell? ⟨w.heap.size, 2, none⟩ = some (.int .i64 v) ∧ w'.cell? ⟨w.heap.size, 3, none⟩ = some (.slice A fs.length capf) ∧ w'.cell? ⟨w.heap.size, 4, none⟩ = some (.slice B ps.length capq) ∧ Below wr.heap.size wr w') := fun w' hbb => by
      have hcc := cellOf hbb
      have hss := hbb.size
      have hlt0 : w.heap.size < wr.heap.size := by omega
      exact ⟨by rw [hcc, if_pos hlt0]; exact hp0, by rw [hcc, if_pos hlt0]; exact hp1, by rw [hcc, if_pos hlt0]; exact hp2, by rw [hcc, if_pos hlt0]; exact hp3, by rw [hcc, if_pos hlt0]; exact hp4, hbb⟩
    have hrr : Rds cIn 1 wr (some ⟨g, 0, none⟩) pl := hr.below hbr
    have hxr : Rds cIn 1 wr A fs := hx.below hbr
    have hyr : Rds cPu 3 wr B ps := hy.below hbr
    have HX := hid hxr
    have HY := hid hyr
    have HR := hid hrr
    have HBT := hid hbt
    have hl9 : (pl ++ [(k : Int)]).length = pl.length + 1 := by simp
    have HL9 := hid hl9
    have HP9 : Hid ((pl ++ [(k : Int)]).length + d = fs.length) := by
      show _ = _
      have := HPL.out
      rw [hl9]
      omega
    have HBT9 : Hid (∀ q (hq : q < (pl ++ [(k : Int)]).length), 0 ≤ (pl ++ [(k : Int)])[q] ∧ (pl ++ [(k : Int)])[q] ≤ 3) := fun q hq => by
      rw [List.getElem_append]
      split
      · exact HBT.out q _
      · simp
        omega
    clear hF hr hx hy hrr hxr hyr hl9 hbt
    generalize bestTo l h v fs ps d pl k = b at *
    go_wp2_with (fail)
    go_region_held3 (fun w' => w'.cell? ⟨w.heap.size, 0, none⟩ = some (.int .i64 l) ∧ w'.cell? ⟨w.heap.size, 1, none⟩ = some (.int .i64 h) ∧ w'.cell? ⟨w.heap.size, 2, none⟩ = some (.int .i64 v) ∧ w'.cell? ⟨w.heap.size, 3, none⟩ = some (.slice A fs.length capf) ∧ w'.cell? ⟨w.heap.size, 4, none⟩ = some (.slice B ps.length capq) ∧ Below wr.heap.size wr w') (first | assumption | exact HKEEP.out _ (by (repeat' (first | exact Below.refl _ _ | assumption | refine Below.setCell ?_ ?_ _ | refine Below.drew ?_ | refine Below.alloc ?_ ?_ _ | refine Below.trans ?_ (Below.mono (by assumption) ?_) | (simp; done) | (simp; omega) | omega)))) (first | (go_at_call 60; refine (c_spec_l1Own g pl capp _ (HR.out.below (by (repeat' (first | exact Below.refl _ _ | assumption | refine Below.setCell ?_ ?_ _ | refine Below.drew ?_ | refine Below.alloc ?_ ?_ _ | refine Below.trans ?_ (Below.mono (by assumption) ?_) | (simp; done) | (simp; omega) | omega)))) (by omega)).mono ?_; rintro e w' ⟨A1, cp1, rfl, hF1, hb⟩; have HF1 := hid (FreshA.mono (B' := wr.heap.size) hF1 (by first | omega | (simp; done) | (simp; omega))); clear hF1; have hlo1 := HF1.out.lo; have hhi1 := HF1.out.hi; have hc := cellOf hb; have hf := frozOf hb; have hz := sizeOf hb; try simp at hz) | (rw [if_pos (by rfl)]; refine wp_push (.tmp 45) (.tmp 47) 22 rfl 3 i0 _ 1 8 Try.underlying22 hI0 hI1 hI2 hI3 rfl (by decide) (fun _ => rfl) one_In wr.heap.size A1 pl.length cp1 pl rfl rfl (HF1.out.below (by (repeat' (first | exact Below.refl _ _ | assumption | refine Below.setCell ?_ ?_ _ | refine Below.drew ?_ | refine Below.alloc ?_ ?_ _ | refine Below.trans ?_ (Below.mono (by assumption) ?_) | (simp; done) | (simp; omega) | omega)))) (k : Int) _ 1 rfl ?_ ?_ ?_ ?_ ?_; (refine news_In _ _ _ ?_ <;> simp [go_sem, ↓IntWalk.iteOmega, *]); (unfold maxLen; omega); omega; (exact (show Below wr.heap.size wr _ by (repeat' (first | exact Below.refl _ _ | assumption | refine Below.setCell ?_ ?_ _ | refine Below.drew ?_ | refine Below.alloc ?_ ?_ _ | refine Below.trans ?_ (Below.mono (by assumption) ?_) | (simp; done) | (simp; omega) | omega))).size); intro A3 cp3 w3 hF3 hg3 hat3; have hb3 := below_of_grown (B := wr.heap.size) hg3 hlo1 (by exact (show Below wr.heap.size wr _ by (repeat' (first | exact Below.refl _ _ | assumption | refine Below.setCell ?_ ?_ _ | refine Below.drew ?_ | refine Below.alloc ?_ ?_ _ | refine Below.trans ?_ (Below.mono (by assumption) ?_) | (simp; done) | (simp; omega) | omega))).size); have hs3 := hg3.size; (try simp at hs3); have hBB : Below wr.heap.size wr w3 := Below.trans (show Below wr.heap.size wr _ by (repeat' (first | exact Below.refl _ _ | assumption | refine Below.setCell ?_ ?_ _ | refine Below.drew ?_ | refine Below.alloc ?_ ?_ _ | refine Below.trans ?_ (Below.mono (by assumption) ?_) | (simp; done) | (simp; omega) | omega))) hb3; obtain ⟨g3, rfl, hgB3, hO3⟩ := hF3.row (by simp); have HF3 := hid hF3; clear hF3 hO3) | (go_at_call 67; have hq := HIH.out g3 (pl ++ [(k : Int)]) cp3 G _ (HX.out.below (by (repeat' (first | exact Below.refl _ _ | assumption | refine Below.setCell ?_ ?_ _ | refine Below.drew ?_ | refine Below.alloc ?_ ?_ _ | refine Below.trans ?_ (Below.mono (by assumption) ?_) | (simp; done) | (simp; omega) | omega)))) hn (HY.out.below (by (repeat' (first | exact Below.refl _ _ | assumption | refine Below.setCell ?_ ?_ _ | refine Below.drew ?_ | refine Below.alloc ?_ ?_ _ | refine Below.trans ?_ (Below.mono (by assumption) ?_) | (simp; done) | (simp; omega) | omega)))) hm (HF3.out.mono (by omega)) (by have := hBB.size; omega) HP9.out HBT9.out; rw [HL9.out] at hq; refine hq.mono ?_; clear hq; rintro e w' ⟨A9, c9, rfl, hF9, hb⟩; have HF9 := hid hF9; clear hF9; have hc := cellOf hb; have hf := frozOf hb; have hz := sizeOf hb; try simp at hz))
    all_goals
      obtain ⟨q0, q1, q2, q3, q4, q5⟩ := HKEEP.out _ (show Below wr.heap.size wr w' by (repeat' (first | exact Below.refl _ _ | assumption | refine Below.setCell ?_ ?_ _ | refine Below.drew ?_ | refine Below.alloc ?_ ?_ _ | refine Below.trans ?_ (Below.mono (by assumption) ?_) | (simp; done) | (simp; omega) | omega)))
      have hzz2 := q5.size
      generalize bestP l h v fs ps d (pl ++ [(k : Int)]) = r at *
      by_cases hT : 0 ≤ r.2 ∧ (b.2 < 0 ∨ r.2 < b.2)
      · have HT := hid (HB1.out.trans (upd_take hT.1 hT.2))
        have h1 := hT.1
        by_cases h2 : b.2 < 0
        · clear hT
          go_wp2_with (fail)
          go_roundw
          case rel => exact ⟨k + 1, A9, c9, by omega, by go_num, by rw [HT.out], by rw [HT.out], by rw [HT.out]; exact HF9.out, q0, q1, q2, q3, q4, by omega, by (repeat' (first | exact Below.refl _ _ | assumption | refine Below.setCell ?_ ?_ _ | refine Below.drew ?_ | refine Below.alloc ?_ ?_ _ | refine Below.trans ?_ (Below.mono (by assumption) ?_) | (simp; done) | (simp; omega) | omega))⟩
          case measure => simp [intOf]; omega
        · have h3 : r.2 < b.2 := by omega
          clear hT
          go_wp2_with (fail)
          go_roundw
          case rel => exact ⟨k + 1, A9, c9, by omega, by go_num, by rw [HT.out], by rw [HT.out], by rw [HT.out]; exact HF9.out, q0, q1, q2, q3, q4, by omega, by (repeat' (first | exact Below.refl _ _ | assumption | refine Below.setCell ?_ ?_ _ | refine Below.drew ?_ | refine Below.alloc ?_ ?_ _ | refine Below.trans ?_ (Below.mono (by assumption) ?_) | (simp; done) | (simp; omega) | omega))⟩
          case measure => simp [intOf]; omega
      · have HT := hid (HB1.out.trans (upd_keep hT))
        by_cases h1 : 0 ≤ r.2
        · have h2 : ¬ b.2 < 0 := by omega
          have h3 : ¬ r.2 < b.2 := by omega
          clear hT
          go_wp2_with (fail)
          go_roundw
          case rel => exact ⟨k + 1, A', cp, by omega, by go_num, by rw [HT.out], by rw [HT.out], by rw [HT.out]; exact HF.out.below (by (repeat' (first | exact Below.refl _ _ | assumption | refine Below.setCell ?_ ?_ _ | refine Below.drew ?_ | refine Below.alloc ?_ ?_ _ | refine Below.trans ?_ (Below.mono (by assumption) ?_) | (simp; done) | (simp; omega) | omega))), q0, q1, q2, q3, q4, by omega, by (repeat' (first | exact Below.refl _ _ | assumption | refine Below.setCell ?_ ?_ _ | refine Below.drew ?_ | refine Below.alloc ?_ ?_ _ | refine Below.trans ?_ (Below.mono (by assumption) ?_) | (simp; done) | (simp; omega) | omega))⟩
          case measure => simp [intOf]; omega
        · clear hT
          go_wp2_with (fail)
          go_roundw
          case rel => exact ⟨k + 1, A', cp, by omega, by go_num, by rw [HT.out], by rw [HT.out], by rw [HT.out]; exact HF.out.below (by (repeat' (first | exact Below.refl _ _ | assumption | refine Below.setCell ?_ ?_ _ | refine Below.drew ?_ | refine Below.alloc ?_ ?_ _ | refine Below.trans ?_ (Below.mono (by assumption) ?_) | (simp; done) | (simp; omega) | omega))), q0, q1, q2, q3, q4, by omega, by (repeat' (first | exact Below.refl _ _ | assumption | refine Below.setCell ?_ ?_ _ | refine Below.drew ?_ | refine Below.alloc ?_ ?_ _ | refine Below.trans ?_ (Below.mono (by assumption) ?_) | (simp; done) | (simp; omega) | omega))⟩
          case measure => simp [intOf]; omega

end Go.Proofs.Ytpaclngjmdacjaa
