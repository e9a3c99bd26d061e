import Derived.Test.YtpaclngjmdacjaaQP03
import Derived.Deep.RegionHeld3
namespace Go.Proofs.Ytpaclngjmdacjaa
set_option linter.unusedSimpArgs false
set_option linter.unusedVariables false
open Go.RowKit

theorem upd_take {s r : List Int × Int} (h1 : 0 ≤ r.2) (h2 : s.2 < 0 ∨ r.2 < s.2) : Cheap.upd s r = r := by
  unfold Cheap.upd
  rw [if_pos ⟨h1, h2⟩]
theorem upd_keep {s r : List Int × Int} (h : ¬ (0 ≤ r.2 ∧ (s.2 < 0 ∨ r.2 < s.2))) : Cheap.upd s r = s := by
  unfold Cheap.upd
  rw [if_neg h]
set_option maxRecDepth 100000 in
set_option maxHeartbeats 8000000 in
theorem c_spec_l12BestS (l h v : Int) (A : Option Addr) (fs : List Int) (capf : Nat) (B : Option Addr) (ps : List (Int × Int × Int)) (capq : Nat) (d : Nat) (hf5 : fs.length ≤ 5) (hv : 0 ≤ v ∧ v ≤ 500) (hfl : ∀ k (hk : k < fs.length), -50 ≤ fs[k] ∧ fs[k] ≤ 50) (hpu : ∀ k (hk : k < ps.length), puOk ps[k] = true) (hn2 : ps.length ≤ 2)
    (ih : ∀ (g : Nat) (pl : List Int) (capp G : Nat) (w : World) (hx : Rds cIn 1 w A fs) (hn : fs.length ≤ 9223372036854775807) (hy : Rds cPu 3 w B ps) (hm : ps.length ≤ 9223372036854775807) (hg : FreshA cIn 1 3 G w (some ⟨g, 0, none⟩) capp pl) (hG : G ≤ w.heap.size) (hpl : pl.length + d = fs.length) (hbt : ∀ k (hk : k < pl.length), 0 ≤ pl[k] ∧ pl[k] ≤ 3),
      Calls Try.prog 67 #[.agg #[.int .i64 l, .int .i64 h, .int .i64 v, .slice A fs.length capf, .slice B ps.length capq], .slice (some ⟨g, 0, none⟩) pl.length capp] w fun e w' => ∃ A' cap', e = .returned (.tuple #[.slice A' (bestP l h v fs ps d pl).1.length cap', .int .i64 (bestP l h v fs ps d pl).2]) ∧ FreshA cIn 1 3 G w' A' cap' (bestP l h v fs ps d pl).1 ∧ Below w.heap.size w w')
    (g : Nat) (pl : List Int) (capp G : Nat) (w : World) (hx : Rds cIn 1 w A fs) (hn : fs.length ≤ 9223372036854775807) (hy : Rds cPu 3 w B ps) (hm : ps.length ≤ 9223372036854775807) (hg : FreshA cIn 1 3 G w (some ⟨g, 0, none⟩) capp pl) (hG : G ≤ w.heap.size) (hpl : pl.length + (d + 1) = fs.length) (hbt : ∀ k (hk : k < pl.length), 0 ≤ pl[k] ∧ pl[k] ≤ 3) :
    Calls Try.prog 67 #[.agg #[.int .i64 l, .int .i64 h, .int .i64 v, .slice A fs.length capf, .slice B ps.length capq], .slice (some ⟨g, 0, none⟩) pl.length capp] w fun e w' => ∃ A' cap', e = .returned (.tuple #[.slice A' (bestP l h v fs ps (d + 1) pl).1.length cap', .int .i64 (bestP l h v fs ps (d + 1) pl).2]) ∧ FreshA cIn 1 3 G w' A' cap' (bestP l h v fs ps (d + 1) pl).1 ∧ Below w.heap.size w w' := by
  obtain ⟨i0, hI0, hI1, hI2, hI3⟩ := info_parts info_In
  have hr := hg.rds
  have hnr : pl.length ≤ 4 := by omega
  have hl1 : pl.length < fs.length := by omega
  have HPL := hid hpl
  have HIH := hid ih
  have HO := hid hg
  clear hg hpl ih
  by_cases hb0 : badP l h v fs ps pl = true
  · have HV := hid (bestP_bad (d + 1) pl hb0)
    have hix := (badP_idx pl).2 hb0
    clear hb0
    go_enter Try.func67, Try.ntmps67
    go_wp2_with (go_at_call 56; refine (c_spec_l12Unsafe _ _ _ _ fs _ _ ps _ _ pl _ _ (by first | assumption | exact Rds.below hx (by (repeat' (first | exact Below.refl _ _ | assumption | refine Below.setCell ?_ ?_ _ | refine Below.drew ?_ | refine Below.alloc ?_ ?_ _ | refine Below.trans ?_ (Below.mono (by assumption) ?_) | (simp; done) | (simp; omega) | omega)))) (by omega) (by first | assumption | exact Rds.below hy (by (repeat' (first | exact Below.refl _ _ | assumption | refine Below.setCell ?_ ?_ _ | refine Below.drew ?_ | refine Below.alloc ?_ ?_ _ | refine Below.trans ?_ (Below.mono (by assumption) ?_) | (simp; done) | (simp; omega) | omega)))) (by omega) (by first | assumption | exact Rds.below hr (by (repeat' (first | exact Below.refl _ _ | assumption | refine Below.setCell ?_ ?_ _ | refine Below.drew ?_ | refine Below.alloc ?_ ?_ _ | refine Below.trans ?_ (Below.mono (by assumption) ?_) | (simp; done) | (simp; omega) | omega)))) (by omega) (by omega) hfl hpu (by omega) (by omega) hbt).mono ?_; rintro e w' ⟨rfl, hb⟩; have hc := cellOf hb; have hf := frozOf hb; have hz := sizeOf hb; try simp at hz)
    go_ret2
    simp only [HV.out]
    exact ⟨_, _, rfl, FreshA.new (by first | omega | (simp at *; omega)), by (repeat' (first | exact Below.refl _ _ | assumption | refine Below.setCell ?_ ?_ _ | refine Below.drew ?_ | refine Below.alloc ?_ ?_ _ | refine Below.trans ?_ (Below.mono (by assumption) ?_) | (simp; done) | (simp; omega) | omega))⟩
  have HV := hid (bestP_go d pl (Bool.eq_false_iff.2 hb0))
  have hix : ¬ 0 ≤ idxF (outL l h) (levsTo v fs pl ps pl.length) := fun e => hb0 ((badP_idx pl).1 e)
  have hpw := topB_shl (n := ps.length) (by omega)
  have htb := topB_bd ps.length
  have htn := topN_cast ps.length
  have hne0 : ((pl.length : Int) == (fs.length : Int)) = false := by simp; omega
  clear hb0
  go_enter Try.func67, Try.ntmps67
  go_wp2_with (go_at_call 56; refine (c_spec_l12Unsafe _ _ _ _ fs _ _ ps _ _ pl _ _ (by first | assumption | exact Rds.below hx (by (repeat' (first | exact Below.refl _ _ | assumption | refine Below.setCell ?_ ?_ _ | refine Below.drew ?_ | refine Below.alloc ?_ ?_ _ | refine Below.trans ?_ (Below.mono (by assumption) ?_) | (simp; done) | (simp; omega) | omega)))) (by omega) (by first | assumption | exact Rds.below hy (by (repeat' (first | exact Below.refl _ _ | assumption | refine Below.setCell ?_ ?_ _ | refine Below.drew ?_ | refine Below.alloc ?_ ?_ _ | refine Below.trans ?_ (Below.mono (by assumption) ?_) | (simp; done) | (simp; omega) | omega)))) (by omega) (by first | assumption | exact Rds.below hr (by (repeat' (first | exact Below.refl _ _ | assumption | refine Below.setCell ?_ ?_ _ | refine Below.drew ?_ | refine Below.alloc ?_ ?_ _ | refine Below.trans ?_ (Below.mono (by assumption) ?_) | (simp; done) | (simp; omega) | omega)))) (by omega) (by omega) hfl hpu (by omega) (by omega) hbt).mono ?_; rintro e w' ⟨rfl, hb⟩; have hc := cellOf hb; have hf := frozOf hb; have hz := sizeOf hb; try simp at hz)
  clear hix
  go_loopw [8, 9, 10] (fun b s i wr => ∃ (k : Nat) (A' : Option Addr) (cp : Nat), k ≤ topN ps.length ∧ i = .int .i64 k ∧ b = .slice A' (bestTo l h v fs ps d pl k).1.length cp ∧ s = .int .i64 (bestTo l h v fs ps d pl k).2 ∧ FreshA cIn 1 3 G wr A' cp (bestTo l h v fs ps d pl k).1 ∧ wr.cell? ⟨w.heap.size, 0, none⟩ = some (.int .i64 l) ∧ wr.cell? ⟨w.heap.size, 1, none⟩ = some (.int .i64 h) ∧ wr.cell? ⟨w.heap.size, 2, none⟩ = some (.int .i64 v) ∧ wr.cell? ⟨w.heap.size, 3, none⟩ = some (.slice A fs.length capf) ∧ wr.cell? ⟨w.heap.size, 4, none⟩ = some (.slice B ps.length capq) ∧ w.heap.size + 1 ≤ wr.heap.size ∧ Below w.heap.size w wr) (fun _ _ i _ => topN ps.length - (intOf i).toNat)
  case atStart =>
    refine ⟨0, _, _, Nat.zero_le _, rfl, rfl, rfl, FreshA.new (by first | omega | (simp; omega) | (simp at *; omega)), ?_, ?_, ?_, ?_, ?_, ?_, by (repeat' (first | exact Below.refl _ _ | assumption | refine Below.setCell ?_ ?_ _ | refine Below.drew ?_ | refine Below.alloc ?_ ?_ _ | refine Below.trans ?_ (Below.mono (by assumption) ?_) | (simp; done) | (simp; omega) | omega))⟩
    all_goals first | (simp [go_sem, ↓IntWalk.iteOmega, *]; done) | (simp at *; omega)
  case round =>
    obtain ⟨k, A', cp, hk, rfl, rfl, rfl, hF, hp0, hp1, hp2, hp3, hp4, hzz, hbr⟩ := hrel
    clear hc hf hz hb
    have hc := cellOf hbr
    have hf := frozOf hbr
    have hz := sizeOf hbr
    by_cases hlt : k < topN ps.length
    rotate_left
    · obtain rfl : k = topN ps.length := by omega
      go_wp2_with (fail)
      go_ret2
      exact ⟨A', cp, by rw [HV.out]; rfl, by rw [HV.out]; exact hF, by (repeat' (first | exact Below.refl _ _ | assumption | refine Below.setCell ?_ ?_ _ | refine Below.drew ?_ | refine Below.alloc ?_ ?_ _ | refine Below.trans ?_ (Below.mono (by assumption) ?_) | (simp; done) | (simp; omega) | omega))⟩
    have hki : (k : Int) < topB ps.length + 1 := by omega
    have hk3 : k ≤ 3 := by omega
    have HB1 := hid (bestTo_succ (l := l) (h := h) (v := v) (fs := fs) (ps := ps) d pl k)
    have HF := hid hF
    have HKEEP : Hid (∀ w' : World, Below wr.heap.size wr w' → w'.cell? ⟨w.heap.size, 0, none⟩ = some (.int .i64 l) ∧ w'.cell? ⟨w.heap.size, 1, none⟩ = some (.int .i64 h) ∧ w'.cell? ⟨w.heap.size, 2, none⟩ = some (.int .i64 v) ∧ w'.cell? ⟨w.heap.size, 3, none⟩ = some (.slice A fs.length capf) ∧ w'.cell? ⟨w.heap.size, 4, none⟩ = some (.slice B ps.length capq) ∧ Below wr.heap.size wr w') := fun w' hbb => by
      have hcc := cellOf hbb
      have hss := hbb.size
      have hlt0 : w.heap.size < wr.heap.size := by omega
      exact ⟨by rw [hcc, if_pos hlt0]; exact hp0, by rw [hcc, if_pos hlt0]; exact hp1, by rw [hcc, if_pos hlt0]; exact hp2, by rw [hcc, if_pos hlt0]; exact hp3, by rw [hcc, if_pos hlt0]; exact hp4, hbb⟩
    have hrr : Rds cIn 1 wr (some ⟨g, 0, none⟩) pl := hr.below hbr
    have hxr : Rds cIn 1 wr A fs := hx.below hbr
    have hyr : Rds cPu 3 wr B ps := hy.below hbr
    have HX := hid hxr
    have HY := hid hyr
    have HR := hid hrr
    have HBT := hid hbt
    have hl9 : (pl ++ [(k : Int)]).length = pl.length + 1 := by simp
    have HL9 := hid hl9
    have HP9 : Hid ((pl ++ [(k : Int)]).length + d = fs.length) := by
      show _ = _
      have := HPL.out
      rw [hl9]
      omega
    have HBT9 : Hid (∀ q (hq : q < (pl ++ [(k : Int)]).length), 0 ≤ (pl ++ [(k : Int)])[q] ∧ (pl ++ [(k : Int)])[q] ≤ 3) := fun q hq => by
      rw [List.getElem_append]
      split
      · exact HBT.out q _
      · simp
        omega
    clear hF hr hx hy hrr hxr hyr hl9 hbt
    generalize bestTo l h v fs ps d pl k = b at *
    go_wp2_with (fail)
    go_region_held3 (fun w' => w'.cell? ⟨w.heap.size, 0, none⟩ = some (.int .i64 l) ∧ w'.cell? ⟨w.heap.size, 1, none⟩ = some (.int .i64 h) ∧ w'.cell? ⟨w.heap.size, 2, none⟩ = some (.int .i64 v) ∧ w'.cell? ⟨w.heap.size, 3, none⟩ = some (.slice A fs.length capf) ∧ w'.cell? ⟨w.heap.size, 4, none⟩ = some (.slice B ps.length capq) ∧ Below wr.heap.size wr w') (first | assumption | exact HKEEP.out _ (by (repeat' (first | exact Below.refl _ _ | assumption | refine Below.setCell ?_ ?_ _ | refine Below.drew ?_ | refine Below.alloc ?_ ?_ _ | refine Below.trans ?_ (Below.mono (by assumption) ?_) | (simp; done) | (simp; omega) | omega)))) (first | (go_at_call 60; refine (c_spec_l1Own g pl capp _ (HR.out.below (by (repeat' (first | exact Below.refl _ _ | assumption | refine Below.setCell ?_ ?_ _ | refine Below.drew ?_ | refine Below.alloc ?_ ?_ _ | refine Below.trans ?_ (Below.mono (by assumption) ?_) | (simp; done) | (simp; omega) | omega)))) (by omega)).mono ?_; rintro e w' ⟨A1, cp1, rfl, hF1, hb⟩; have HF1 := hid (FreshA.mono (B' := wr.heap.size) hF1 (by first | omega | (simp; done) | (simp; omega))); clear hF1; have hlo1 := HF1.out.lo; have hhi1 := HF1.out.hi; have hc := cellOf hb; have hf := frozOf hb; have hz := sizeOf hb; try simp at hz) | (rw [if_pos (by rfl)]; refine wp_push (.tmp 45) (.tmp 47) 22 rfl 3 i0 _ 1 8 Try.underlying22 hI0 hI1 hI2 hI3 rfl (by decide) (fun _ => rfl) one_In wr.heap.size A1 pl.length cp1 pl rfl rfl (HF1.out.below (by (repeat' (first | exact Below.refl _ _ | assumption | refine Below.setCell ?_ ?_ _ | refine Below.drew ?_ | refine Below.alloc ?_ ?_ _ | refine Below.trans ?_ (Below.mono (by assumption) ?_) | (simp; done) | (simp; omega) | omega)))) (k : Int) _ 1 rfl ?_ ?_ ?_ ?_ ?_; (refine news_In _ _ _ ?_ <;> simp [go_sem, ↓IntWalk.iteOmega, *]); (unfold maxLen; omega); omega; (exact (show Below wr.heap.size wr _ by (repeat' (first | exact Below.refl _ _ | assumption | refine Below.setCell ?_ ?_ _ | refine Below.drew ?_ | refine Below.alloc ?_ ?_ _ | refine Below.trans ?_ (Below.mono (by assumption) ?_) | (simp; done) | (simp; omega) | omega))).size); intro A3 cp3 w3 hF3 hg3 hat3; have hb3 := below_of_grown (B := wr.heap.size) hg3 hlo1 (by exact (show Below wr.heap.size wr _ by (repeat' (first | exact Below.refl _ _ | assumption | refine Below.setCell ?_ ?_ _ | refine Below.drew ?_ | refine Below.alloc ?_ ?_ _ | refine Below.trans ?_ (Below.mono (by assumption) ?_) | (simp; done) | (simp; omega) | omega))).size); have hs3 := hg3.size; (try simp at hs3); have hBB : Below wr.heap.size wr w3 := Below.trans (show Below wr.heap.size wr _ by (repeat' (first | exact Below.refl _ _ | assumption | refine Below.setCell ?_ ?_ _ | refine Below.drew ?_ | refine Below.alloc ?_ ?_ _ | refine Below.trans ?_ (Below.mono (by assumption) ?_) | (simp; done) | (simp; omega) | omega))) hb3; obtain ⟨g3, rfl, hgB3, hO3⟩ := hF3.row (by simp); have HF3 := hid hF3; clear hF3 hO3) | (go_at_call 67; have hq := HIH.out g3 (pl ++ [(k : Int)]) cp3 G _ (HX.out.below (by (repeat' (first | exact Below.refl _ _ | assumption | refine Below.setCell ?_ ?_ _ | refine Below.drew ?_ | refine Below.alloc ?_ ?_ _ | refine Below.trans ?_ (Below.mono (by assumption) ?_) | (simp; done) | (simp; omega) | omega)))) hn (HY.out.below (by (repeat' (first | exact Below.refl _ _ | assumption | refine Below.setCell ?_ ?_ _ | refine Below.drew ?_ | refine Below.alloc ?_ ?_ _ | refine Below.trans ?_ (Below.mono (by assumption) ?_) | (simp; done) | (simp; omega) | omega)))) hm (HF3.out.mono (by omega)) (by have := hBB.size; omega) HP9.out HBT9.out; rw [HL9.out] at hq; refine hq.mono ?_; clear hq; rintro e w' ⟨A9, c9, rfl, hF9, hb⟩; have HF9 := hid hF9; clear hF9; have hc := cellOf hb; have hf := frozOf hb; have hz := sizeOf hb; try simp at hz))
    all_goals
      obtain ⟨q0, q1, q2, q3, q4, q5⟩ := HKEEP.out _ (show Below wr.heap.size wr w' by (repeat' (first | exact Below.refl _ _ | assumption | refine Below.setCell ?_ ?_ _ | refine Below.drew ?_ | refine Below.alloc ?_ ?_ _ | refine Below.trans ?_ (Below.mono (by assumption) ?_) | (simp; done) | (simp; omega) | omega)))
      have hzz2 := q5.size
      generalize bestP l h v fs ps d (pl ++ [(k : Int)]) = r at *
      by_cases hT : 0 ≤ r.2 ∧ (b.2 < 0 ∨ r.2 < b.2)
      · have HT := hid (HB1.out.trans (upd_take hT.1 hT.2))
        have h1 := hT.1
        by_cases h2 : b.2 < 0
        · clear hT
          go_wp2_with (fail)
          go_roundw
          case rel => exact ⟨k + 1, A9, c9, by omega, by go_num, by rw [HT.out], by rw [HT.out], by rw [HT.out]; exact HF9.out, q0, q1, q2, q3, q4, by omega, by (repeat' (first | exact Below.refl _ _ | assumption | refine Below.setCell ?_ ?_ _ | refine Below.drew ?_ | refine Below.alloc ?_ ?_ _ | refine Below.trans ?_ (Below.mono (by assumption) ?_) | (simp; done) | (simp; omega) | omega))⟩
          case measure => simp [intOf]; omega
        · have h3 : r.2 < b.2 := by omega
          clear hT
          go_wp2_with (fail)
          go_roundw
          case rel => exact ⟨k + 1, A9, c9, by omega, by go_num, by rw [HT.out], by rw [HT.out], by rw [HT.out]; exact HF9.out, q0, q1, q2, q3, q4, by omega, by (repeat' (first | exact Below.refl _ _ | assumption | refine Below.setCell ?_ ?_ _ | refine Below.drew ?_ | refine Below.alloc ?_ ?_ _ | refine Below.trans ?_ (Below.mono (by assumption) ?_) | (simp; done) | (simp; omega) | omega))⟩
          case measure => simp [intOf]; omega
      · have HT := hid (HB1.out.trans (upd_keep hT))
        by_cases h1 : 0 ≤ r.2
        · have h2 : ¬ b.2 < 0 := by omega
          have h3 : ¬ r.2 < b.2 := by omega
          clear hT
          go_wp2_with (fail)
          go_roundw
          case rel => exact ⟨k + 1, A', cp, by omega, by go_num, by rw [HT.out], by rw [HT.out], by rw [HT.out]; exact HF.out.below (by (repeat' (first | exact Below.refl _ _ | assumption | refine Below.setCell ?_ ?_ _ | refine Below.drew ?_ | refine Below.alloc ?_ ?_ _ | refine Below.trans ?_ (Below.mono (by assumption) ?_) | (simp; done) | (simp; omega) | omega))), q0, q1, q2, q3, q4, by omega, by (repeat' (first | exact Below.refl _ _ | assumption | refine Below.setCell ?_ ?_ _ | refine Below.drew ?_ | refine Below.alloc ?_ ?_ _ | refine Below.trans ?_ (Below.mono (by assumption) ?_) | (simp; done) | (simp; omega) | omega))⟩
          case measure => simp [intOf]; omega
        · clear hT
          go_wp2_with (fail)
          go_roundw
          case rel => exact ⟨k + 1, A', cp, by omega, by go_num, by rw [HT.out], by rw [HT.out], by rw [HT.out]; exact HF.out.below (by (repeat' (first | exact Below.refl _ _ | assumption | refine Below.setCell ?_ ?_ _ | refine Below.drew ?_ | refine Below.alloc ?_ ?_ _ | refine Below.trans ?_ (Below.mono (by assumption) ?_) | (simp; done) | (simp; omega) | omega))), q0, q1, q2, q3, q4, by omega, by (repeat' (first | exact Below.refl _ _ | assumption | refine Below.setCell ?_ ?_ _ | refine Below.drew ?_ | refine Below.alloc ?_ ?_ _ | refine Below.trans ?_ (Below.mono (by assumption) ?_) | (simp; done) | (simp; omega) | omega))⟩
          case measure => simp [intOf]; omega

end Go.Proofs.Ytpaclngjmdacjaa
namespace Go.Proofs.Ytpaclngjmdacjaa
set_option linter.unusedSimpArgs false
set_option linter.unusedVariables false
open Go.RowKit

/-- two blocks may have changed, and new ones made -/
structure Cut2 (p q : Nat) (w w' : World) : Prop where
  os : w'.os = w.os
  tape : w'.tape = w.tape
  output : w'.output = w.output
  size : w.heap.size ≤ w'.heap.size
  block : ∀ k, k < w.heap.size → k ≠ p → k ≠ q → w'.heap[k]? = w.heap[k]?
theorem Cut2.of {p q : Nat} {w w' : World} (h : Below w.heap.size w w') : Cut2 p q w w' := ⟨h.os, h.tape, h.output, h.size, fun k hk _ _ => h.block k hk⟩
theorem Cut2.trans {p q : Nat} {a b c : World} (h : Cut2 p q a b) (k : Cut2 p q b c) : Cut2 p q a c := ⟨k.os.trans h.os, k.tape.trans h.tape, k.output.trans h.output, Nat.le_trans h.size k.size, fun i hi h1 h2 => (k.block i (Nat.lt_of_lt_of_le hi h.size) h1 h2).trans (h.block i hi h1 h2)⟩
theorem Cut2.below {p q B : Nat} {w w' : World} (h : Cut2 p q w w') (hB : B ≤ w.heap.size) (hp : B ≤ p) (hq : B ≤ q) : Below B w w' := ⟨h.os, h.tape, h.output, h.size, fun k hk => h.block k (by omega) (by omega) (by omega)⟩
theorem Cut2.put {p q : Nat} {w w' : World} (h : Cut2 p q w w') (u v : Value) : Cut2 p q w ((w'.setCell ⟨p, 0, none⟩ u).setCell ⟨q, 0, none⟩ v) := by
  refine ⟨h.os, h.tape, h.output, ?_, fun k hk h1 h2 => ?_⟩
  · have := h.size
    simpa [World.setCell] using this
  · rw [Below.heap_setCell _ _ _ _ h2, Below.heap_setCell _ _ _ _ h1]
    exact h.block k hk h1 h2
theorem Cut2.drew {p q : Nat} {w w' : World} (h : Cut2 p q w w') : Cut2 p q w w'.drew := ⟨h.os, h.tape, h.output, h.size, h.block⟩
theorem FreshA.cut {α : Type} {cf : α → List Value} {sz B cap p q : Nat} {T : TypeId} {w w' : World} {A : Option Addr} {xs : List α} (h : FreshA cf sz T B w A cap xs) (hc : Cut2 p q w w') (hp : p < B) (hq : q < B) : FreshA cf sz T B w' A cap xs := by
  rcases h with h | ⟨g, hA, hB, ho⟩
  · exact .inl h
  · exact .inr ⟨g, hA, hB, ho.block (hc.block g ho.lt (by omega) (by omega))⟩
def visF (b0 bv bl bs : Nat) : Value := .func (.func 68) #[] #[.pointer (some ⟨b0, 0, none⟩), .pointer (some ⟨bv, 0, none⟩), .pointer (some ⟨bl, 0, none⟩), .pointer (some ⟨bs, 0, none⟩)]
/-- what stands in memory while the plans are tried: the task, the function, the least cost, the best plan -/
structure VSt (l h v : Int) (A : Option Addr) (fs : List Int) (capf : Nat) (B : Option Addr) (ps : List (Int × Int × Int)) (capq : Nat) (W0 : World) (b0 bs bl bv : Nat) (w : World) (s : List Int × Int) : Prop where
  c0 : w.cell? ⟨b0, 0, none⟩ = some (.int .i64 l)
  c1 : w.cell? ⟨b0, 1, none⟩ = some (.int .i64 h)
  c2 : w.cell? ⟨b0, 2, none⟩ = some (.int .i64 v)
  c3 : w.cell? ⟨b0, 3, none⟩ = some (.slice A fs.length capf)
  c4 : w.cell? ⟨b0, 4, none⟩ = some (.slice B ps.length capq)
  cv : w.cell? ⟨bv, 0, none⟩ = some (visF b0 bv bl bs)
  cl : w.cell? ⟨bl, 0, none⟩ = some (.int .i64 s.2)
  zl : w.frozen? ⟨bl, 0, none⟩ = false
  cs : ∃ Ab cb, w.cell? ⟨bs, 0, none⟩ = some (.slice Ab s.1.length cb) ∧ (0 ≤ s.2 → FreshA cIn 1 3 (bv + 1) w Ab cb s.1)
  zs : w.frozen? ⟨bs, 0, none⟩ = false
  lt : bv < w.heap.size
  bel : Below W0.heap.size W0 w
section
variable {l h v : Int} {A : Option Addr} {fs : List Int} {capf : Nat} {B : Option Addr} {ps : List (Int × Int × Int)} {capq : Nat} {W0 : World} {b0 bs bl bv : Nat} {w w' : World} {s : List Int × Int}
theorem VSt.below (hs : VSt l h v A fs capf B ps capq W0 b0 bs bl bv w s) (ho : W0.heap.size ≤ b0 ∧ b0 < bs ∧ bs < bl ∧ bl < bv) (hb : Below w.heap.size w w') : VSt l h v A fs capf B ps capq W0 b0 bs bl bv w' s := by
  have hlt := hs.lt
  have hc : ∀ b o, b < w.heap.size → w'.cell? ⟨b, o, none⟩ = w.cell? ⟨b, o, none⟩ := fun b o hbb => hb.cell (p := ⟨b, o, none⟩) hbb
  have hz : ∀ b o, b < w.heap.size → w'.frozen? ⟨b, o, none⟩ = w.frozen? ⟨b, o, none⟩ := fun b o hbb => hb.frozen (p := ⟨b, o, none⟩) hbb
  obtain ⟨Ab, cb, e1, e2⟩ := hs.cs
  exact ⟨by rw [hc _ _ (by omega)]; exact hs.c0, by rw [hc _ _ (by omega)]; exact hs.c1, by rw [hc _ _ (by omega)]; exact hs.c2, by rw [hc _ _ (by omega)]; exact hs.c3, by rw [hc _ _ (by omega)]; exact hs.c4, by rw [hc _ _ (by omega)]; exact hs.cv, by rw [hc _ _ (by omega)]; exact hs.cl, by rw [hz _ _ (by omega)]; exact hs.zl, ⟨Ab, cb, by rw [hc _ _ (by omega)]; exact e1, fun e => (e2 e).below hb⟩, by rw [hz _ _ (by omega)]; exact hs.zs, Nat.lt_of_lt_of_le hlt hb.size, hs.bel.trans (hb.mono hs.bel.size)⟩
theorem VSt.put (hs : VSt l h v A fs capf B ps capq W0 b0 bs bl bv w s) (ho : W0.heap.size ≤ b0 ∧ b0 < bs ∧ bs < bl ∧ bl < bv) {Ab : Option Addr} {cb : Nat} {p : List Int} {c : Int} (hF : FreshA cIn 1 3 (bv + 1) w Ab cb p) : VSt l h v A fs capf B ps capq W0 b0 bs bl bv ((w.setCell ⟨bs, 0, none⟩ (.slice Ab p.length cb)).setCell ⟨bl, 0, none⟩ (.int .i64 c)) (p, c) := by
  have hlt := hs.lt
  obtain ⟨Ax, cx, e1, e2⟩ := hs.cs
  have hk : ∀ g, g ≠ bs → g ≠ bl → ((w.setCell ⟨bs, 0, none⟩ (.slice Ab p.length cb)).setCell ⟨bl, 0, none⟩ (.int .i64 c)).heap[g]? = w.heap[g]? := fun g h1 h2 => by
    rw [Below.heap_setCell _ _ _ _ h2, Below.heap_setCell _ _ _ _ h1]
  have hc : ∀ g o, g ≠ bs → g ≠ bl → ((w.setCell ⟨bs, 0, none⟩ (.slice Ab p.length cb)).setCell ⟨bl, 0, none⟩ (.int .i64 c)).cell? ⟨g, o, none⟩ = w.cell? ⟨g, o, none⟩ := fun g o h1 h2 => World.cell?_of_block (a := ⟨g, o, none⟩) (hk g h1 h2)
  refine ⟨by rw [hc _ _ (by omega) (by omega)]; exact hs.c0, by rw [hc _ _ (by omega) (by omega)]; exact hs.c1, by rw [hc _ _ (by omega) (by omega)]; exact hs.c2, by rw [hc _ _ (by omega) (by omega)]; exact hs.c3, by rw [hc _ _ (by omega) (by omega)]; exact hs.c4, by rw [hc _ _ (by omega) (by omega)]; exact hs.cv, ?_, ?_, ⟨Ab, cb, ?_, fun _ => ?_⟩, ?_, ?_, ?_⟩
  · rw [cellSet, if_pos ⟨rfl, rfl⟩, cellSet, if_neg (by omega), hs.cl]
    rfl
  · have h2 := hs.zl
    simpa [go_sem] using h2
  · rw [cellSet, if_neg (by omega), cellSet, if_pos ⟨rfl, rfl⟩, e1]
    rfl
  · exact (hF.set_low (p := ⟨bs, 0, none⟩) (by show bs < bv + 1; omega) _).set_low (p := ⟨bl, 0, none⟩) (by show bl < bv + 1; omega) _
  · have h2 := hs.zs
    simpa [go_sem] using h2
  · simpa [World.setCell] using hlt
  · exact Below.setCell (Below.setCell hs.bel (by show W0.heap.size ≤ bs; omega) _) (by show W0.heap.size ≤ bl; omega) _
theorem VSt.drew (hs : VSt l h v A fs capf B ps capq W0 b0 bs bl bv w s) (ho : W0.heap.size ≤ b0 ∧ b0 < bs ∧ bs < bl ∧ bl < bv) : VSt l h v A fs capf B ps capq W0 b0 bs bl bv w.drew s := hs.below ho (Below.drew (Below.refl _ _))
end

end Go.Proofs.Ytpaclngjmdacjaa
namespace Go.Proofs.Ytpaclngjmdacjaa
set_option linter.unusedSimpArgs false
set_option linter.unusedVariables false
open Go.RowKit

set_option maxRecDepth 100000 in
set_option maxHeartbeats 8000000 in
theorem c_visit0 (l h v : Int) (A : Option Addr) (fs : List Int) (capf : Nat) (B : Option Addr) (ps : List (Int × Int × Int)) (capq : Nat) (W0 : World) (hx : Rds cIn 1 W0 A fs) (hn : fs.length ≤ 9223372036854775807) (hy : Rds cPu 3 W0 B ps) (hm : ps.length ≤ 9223372036854775807) (b0 bs bl bv : Nat) (ho : W0.heap.size ≤ b0 ∧ b0 < bs ∧ bs < bl ∧ bl < bv) (hf5 : fs.length ≤ 5) (hv : 0 ≤ v ∧ v ≤ 500) (hfl : ∀ k (hk : k < fs.length), -50 ≤ fs[k] ∧ fs[k] ≤ 50) (hpu : ∀ k (hk : k < ps.length), puOk ps[k] = true) (hn2 : ps.length ≤ 2)
    (g : Nat) (pl : List Int) (capp : Nat) (s : List Int × Int) (w : World) (hS : VSt l h v A fs capf B ps capq W0 b0 bs bl bv w s) (hg : FreshA cIn 1 3 (bv + 1) w (some ⟨g, 0, none⟩) capp pl) (hpl : pl.length = fs.length) (hbt : ∀ k (hk : k < pl.length), 0 ≤ pl[k] ∧ pl[k] ≤ 3) :
    Calls Try.prog 68 #[.slice (some ⟨g, 0, none⟩) pl.length capp, .pointer (some ⟨b0, 0, none⟩), .pointer (some ⟨bv, 0, none⟩), .pointer (some ⟨bl, 0, none⟩), .pointer (some ⟨bs, 0, none⟩)] w fun e w' => e = .returned (.tuple #[]) ∧ VSt l h v A fs capf B ps capq W0 b0 bs bl bv w' (visitP l h v fs ps 0 pl s) ∧ Cut2 bs bl w w' := by
  have hr := hg.rds
  have hnr : pl.length ≤ 5 := by omega
  have hl1 : pl.length ≤ fs.length := by omega
  have hl2 : fs.length ≤ pl.length := by omega
  have hltc : ¬ ((pl.length : Int) < (fs.length : Int)) := by omega
  have hpb := payTo_bd (pl := pl) hpu hn2 pl.length (Nat.le_refl _)
  have hxw : Rds cIn 1 w A fs := hx.below hS.bel
  have hyw : Rds cPu 3 w B ps := hy.below hS.bel
  have HSS := hid hS
  have HG := hid hg
  have HX := hid hxw
  have HY := hid hyw
  have HRR := hid hr
  obtain ⟨Ab, cb, hcs, _⟩ := hS.cs
  have hq0 := hS.c0
  have hq1 := hS.c1
  have hq2 := hS.c2
  have hq3 := hS.c3
  have hq4 := hS.c4
  have hql := hS.cl
  have hqzl := hS.zl
  have hqzs := hS.zs
  have hlt := hS.lt
  have HV := hid (visitP_leaf (l := l) (h := h) (v := v) (fs := fs) pl s hpb.1)
  clear hpl hS hg hx hy hxw hyw hr
  have hb0 : b0 < w.heap.size := by omega
  have hbs : bs < w.heap.size := by omega
  have hbl : bl < w.heap.size := by omega
  have HLL := hid (fun k => levsTo_len (v := v) (fs := fs) (pl := pl) (ps := ps) k)
  by_cases hb1 : badP l h v fs ps pl = true
  · have hix := (badP_idx pl).2 hb1
    have HV2 := hid (HV.out.trans (if_neg (by simp [hb1])))
    clear hb1 HV
    go_enter Try.func68, Try.ntmps68
    go_wp2_with (first | (go_at_call 53; refine (c_impl_carriedOut _ _ _ _ fs _ _ ps _ _ pl _ _ (HX.out.below (by (repeat' (first | exact Below.refl _ _ | assumption | refine Below.setCell ?_ ?_ _ | refine Below.drew ?_ | refine Below.alloc ?_ ?_ _ | refine Below.trans ?_ (Below.mono (by assumption) ?_) | (simp; done) | (simp; omega) | omega)))) (by omega) (HY.out.below (by (repeat' (first | exact Below.refl _ _ | assumption | refine Below.setCell ?_ ?_ _ | refine Below.drew ?_ | refine Below.alloc ?_ ?_ _ | refine Below.trans ?_ (Below.mono (by assumption) ?_) | (simp; done) | (simp; omega) | omega)))) (by omega) (HRR.out.below (by (repeat' (first | exact Below.refl _ _ | assumption | refine Below.setCell ?_ ?_ _ | refine Below.drew ?_ | refine Below.alloc ?_ ?_ _ | refine Below.trans ?_ (Below.mono (by assumption) ?_) | (simp; done) | (simp; omega) | omega)))) (by omega) (by omega) hfl hpu (by omega) (by omega) hbt).mono ?_; rintro e wc ⟨A9, c9, rfl, hF9, hbc⟩; have HF9 := hid hF9; clear hF9; have hcc := cellOf hbc; have hfc := frozOf hbc; have hzc := sizeOf hbc; try simp at hzc) | (go_at_call 57; refine (c_impl_firstUnsafe _ _ _ _ _ _ _ _ _ _ (levsTo v fs pl ps pl.length) _ _ _ (HF9.out.rds.below (by (repeat' (first | exact Below.refl _ _ | assumption | refine Below.setCell ?_ ?_ _ | refine Below.drew ?_ | refine Below.alloc ?_ ?_ _ | refine Below.trans ?_ (Below.mono (by assumption) ?_) | (simp; done) | (simp; omega) | omega)))) (HLL.out _) (by rw [HLL.out]; omega)).mono ?_; rintro e w' ⟨rfl, hb⟩; have hc := cellOf hb; have hf := frozOf hb; have hz := sizeOf hb; try simp at hz))
    go_end0
    rw [HV2.out]
    exact ⟨rfl, HSS.out.below ho (by (repeat' (first | exact Below.refl _ _ | assumption | refine Below.setCell ?_ ?_ _ | refine Below.drew ?_ | refine Below.alloc ?_ ?_ _ | refine Below.trans ?_ (Below.mono (by assumption) ?_) | (simp; done) | (simp; omega) | omega))), Cut2.of (by (repeat' (first | exact Below.refl _ _ | assumption | refine Below.setCell ?_ ?_ _ | refine Below.drew ?_ | refine Below.alloc ?_ ?_ _ | refine Below.trans ?_ (Below.mono (by assumption) ?_) | (simp; done) | (simp; omega) | omega)))⟩
  have hix : ¬ 0 ≤ idxF (outL l h) (levsTo v fs pl ps pl.length) := fun e => hb1 ((badP_idx pl).1 e)
  have hix2 : idxF (outL l h) (levsTo v fs pl ps pl.length) < 0 := by omega
  have hbf : badP l h v fs ps pl = false := Bool.eq_false_iff.2 hb1
  by_cases hT : s.2 < 0 ∨ payTo pl ps pl.length < s.2
  · have HV2 := hid (HV.out.trans (if_pos ⟨hbf, hT⟩))
    have h1 := hT
    clear hb1 hbf HV hT
    by_cases h2 : s.2 < 0
    · clear h1
      go_enter Try.func68, Try.ntmps68
      go_wp2_with (first | (go_at_call 53; refine (c_impl_carriedOut _ _ _ _ fs _ _ ps _ _ pl _ _ (HX.out.below (by (repeat' (first | exact Below.refl _ _ | assumption | refine Below.setCell ?_ ?_ _ | refine Below.drew ?_ | refine Below.alloc ?_ ?_ _ | refine Below.trans ?_ (Below.mono (by assumption) ?_) | (simp; done) | (simp; omega) | omega)))) (by omega) (HY.out.below (by (repeat' (first | exact Below.refl _ _ | assumption | refine Below.setCell ?_ ?_ _ | refine Below.drew ?_ | refine Below.alloc ?_ ?_ _ | refine Below.trans ?_ (Below.mono (by assumption) ?_) | (simp; done) | (simp; omega) | omega)))) (by omega) (HRR.out.below (by (repeat' (first | exact Below.refl _ _ | assumption | refine Below.setCell ?_ ?_ _ | refine Below.drew ?_ | refine Below.alloc ?_ ?_ _ | refine Below.trans ?_ (Below.mono (by assumption) ?_) | (simp; done) | (simp; omega) | omega)))) (by omega) (by omega) hfl hpu (by omega) (by omega) hbt).mono ?_; rintro e wc ⟨A9, c9, rfl, hF9, hbc⟩; have HF9 := hid hF9; clear hF9; have hcc := cellOf hbc; have hfc := frozOf hbc; have hzc := sizeOf hbc; try simp at hzc) | (go_at_call 57; refine (c_impl_firstUnsafe _ _ _ _ _ _ _ _ _ _ (levsTo v fs pl ps pl.length) _ _ _ (HF9.out.rds.below (by (repeat' (first | exact Below.refl _ _ | assumption | refine Below.setCell ?_ ?_ _ | refine Below.drew ?_ | refine Below.alloc ?_ ?_ _ | refine Below.trans ?_ (Below.mono (by assumption) ?_) | (simp; done) | (simp; omega) | omega)))) (HLL.out _) (by rw [HLL.out]; omega)).mono ?_; rintro e w' ⟨rfl, hb⟩; have hc := cellOf hb; have hf := frozOf hb; have hz := sizeOf hb; try simp at hz))
      refine wp_named ?_
      intro W8 hW8
      have p0 : W8.cell? ⟨bs, 0, none⟩ = some (.slice Ab s.1.length cb) := by rw [hW8]; simp [go_sem, ↓IntWalk.iteOmega, *]
      have p1 : W8.cell? ⟨bl, 0, none⟩ = some (.int .i64 s.2) := by rw [hW8]; simp [go_sem, ↓IntWalk.iteOmega, *]
      have p2 : W8.frozen? ⟨bs, 0, none⟩ = false := by rw [hW8]; first | (simp [go_sem, ↓IntWalk.iteOmega, *]; done) | (simp [go_sem, ↓IntWalk.iteOmega, *]; intros; omega)
      have p3 : W8.frozen? ⟨bl, 0, none⟩ = false := by rw [hW8]; first | (simp [go_sem, ↓IntWalk.iteOmega, *]; done) | (simp [go_sem, ↓IntWalk.iteOmega, *]; intros; omega)
      have p4 : W8.cell? ⟨wc.heap.size, 1, none⟩ = some (.int .i64 (payTo pl ps pl.length)) := by rw [hW8]; simp [go_sem, ↓IntWalk.iteOmega, *]
      have p5 : bs ≠ wc.heap.size := by omega
      have p6 : bl ≠ wc.heap.size := by omega
      have p7 : bs ≠ bl := by omega
      have p8 : Below w.heap.size w W8 := by rw [hW8]; (repeat' (first | exact Below.refl _ _ | assumption | refine Below.setCell ?_ ?_ _ | refine Below.drew ?_ | refine Below.alloc ?_ ?_ _ | refine Below.trans ?_ (Below.mono (by assumption) ?_) | (simp; done) | (simp; omega) | omega))
      clear hW8 hcc hfc hzc hc hf hz hb
      go_region
      all_goals go_wp2_with (fail)
      all_goals go_end0
      all_goals rw [HV2.out]
      all_goals refine ⟨rfl, ?_, ?_⟩
      all_goals first | exact (HSS.out.below ho p8.drew).put ho (HG.out.below p8.drew) | exact ((HSS.out.below ho p8).put ho (HG.out.below p8)).drew ho | exact (Cut2.of p8.drew).put _ _ | exact ((Cut2.of p8).put _ _).drew
    · have h3 : payTo pl ps pl.length < s.2 := by omega
      clear h1
      go_enter Try.func68, Try.ntmps68
      go_wp2_with (first | (go_at_call 53; refine (c_impl_carriedOut _ _ _ _ fs _ _ ps _ _ pl _ _ (HX.out.below (by (repeat' (first | exact Below.refl _ _ | assumption | refine Below.setCell ?_ ?_ _ | refine Below.drew ?_ | refine Below.alloc ?_ ?_ _ | refine Below.trans ?_ (Below.mono (by assumption) ?_) | (simp; done) | (simp; omega) | omega)))) (by omega) (HY.out.below (by (repeat' (first | exact Below.refl _ _ | assumption | refine Below.setCell ?_ ?_ _ | refine Below.drew ?_ | refine Below.alloc ?_ ?_ _ | refine Below.trans ?_ (Below.mono (by assumption) ?_) | (simp; done) | (simp; omega) | omega)))) (by omega) (HRR.out.below (by (repeat' (first | exact Below.refl _ _ | assumption | refine Below.setCell ?_ ?_ _ | refine Below.drew ?_ | refine Below.alloc ?_ ?_ _ | refine Below.trans ?_ (Below.mono (by assumption) ?_) | (simp; done) | (simp; omega) | omega)))) (by omega) (by omega) hfl hpu (by omega) (by omega) hbt).mono ?_; rintro e wc ⟨A9, c9, rfl, hF9, hbc⟩; have HF9 := hid hF9; clear hF9; have hcc := cellOf hbc; have hfc := frozOf hbc; have hzc := sizeOf hbc; try simp at hzc) | (go_at_call 57; refine (c_impl_firstUnsafe _ _ _ _ _ _ _ _ _ _ (levsTo v fs pl ps pl.length) _ _ _ (HF9.out.rds.below (by (repeat' (first | exact Below.refl _ _ | assumption | refine Below.setCell ?_ ?_ _ | refine Below.drew ?_ | refine Below.alloc ?_ ?_ _ | refine Below.trans ?_ (Below.mono (by assumption) ?_) | (simp; done) | (simp; omega) | omega)))) (HLL.out _) (by rw [HLL.out]; omega)).mono ?_; rintro e w' ⟨rfl, hb⟩; have hc := cellOf hb; have hf := frozOf hb; have hz := sizeOf hb; try simp at hz))
      refine wp_named ?_
      intro W8 hW8
      have p0 : W8.cell? ⟨bs, 0, none⟩ = some (.slice Ab s.1.length cb) := by rw [hW8]; simp [go_sem, ↓IntWalk.iteOmega, *]
      have p1 : W8.cell? ⟨bl, 0, none⟩ = some (.int .i64 s.2) := by rw [hW8]; simp [go_sem, ↓IntWalk.iteOmega, *]
      have p2 : W8.frozen? ⟨bs, 0, none⟩ = false := by rw [hW8]; first | (simp [go_sem, ↓IntWalk.iteOmega, *]; done) | (simp [go_sem, ↓IntWalk.iteOmega, *]; intros; omega)
      have p3 : W8.frozen? ⟨bl, 0, none⟩ = false := by rw [hW8]; first | (simp [go_sem, ↓IntWalk.iteOmega, *]; done) | (simp [go_sem, ↓IntWalk.iteOmega, *]; intros; omega)
      have p4 : W8.cell? ⟨wc.heap.size, 1, none⟩ = some (.int .i64 (payTo pl ps pl.length)) := by rw [hW8]; simp [go_sem, ↓IntWalk.iteOmega, *]
      have p5 : bs ≠ wc.heap.size := by omega
      have p6 : bl ≠ wc.heap.size := by omega
      have p7 : bs ≠ bl := by omega
      have p8 : Below w.heap.size w W8 := by rw [hW8]; (repeat' (first | exact Below.refl _ _ | assumption | refine Below.setCell ?_ ?_ _ | refine Below.drew ?_ | refine Below.alloc ?_ ?_ _ | refine Below.trans ?_ (Below.mono (by assumption) ?_) | (simp; done) | (simp; omega) | omega))
      clear hW8 hcc hfc hzc hc hf hz hb
      go_region
      all_goals go_wp2_with (fail)
      all_goals go_end0
      all_goals rw [HV2.out]
      all_goals refine ⟨rfl, ?_, ?_⟩
      all_goals first | exact (HSS.out.below ho p8.drew).put ho (HG.out.below p8.drew) | exact ((HSS.out.below ho p8).put ho (HG.out.below p8)).drew ho | exact (Cut2.of p8.drew).put _ _ | exact ((Cut2.of p8).put _ _).drew
  · have HV2 := hid (HV.out.trans (if_neg (fun e => hT e.2)))
    have h2 : ¬ s.2 < 0 := by omega
    have h3 : ¬ payTo pl ps pl.length < s.2 := by omega
    clear hb1 hbf HV hT
    go_enter Try.func68, Try.ntmps68
    go_wp2_with (first | (go_at_call 53; refine (c_impl_carriedOut _ _ _ _ fs _ _ ps _ _ pl _ _ (HX.out.below (by (repeat' (first | exact Below.refl _ _ | assumption | refine Below.setCell ?_ ?_ _ | refine Below.drew ?_ | refine Below.alloc ?_ ?_ _ | refine Below.trans ?_ (Below.mono (by assumption) ?_) | (simp; done) | (simp; omega) | omega)))) (by omega) (HY.out.below (by (repeat' (first | exact Below.refl _ _ | assumption | refine Below.setCell ?_ ?_ _ | refine Below.drew ?_ | refine Below.alloc ?_ ?_ _ | refine Below.trans ?_ (Below.mono (by assumption) ?_) | (simp; done) | (simp; omega) | omega)))) (by omega) (HRR.out.below (by (repeat' (first | exact Below.refl _ _ | assumption | refine Below.setCell ?_ ?_ _ | refine Below.drew ?_ | refine Below.alloc ?_ ?_ _ | refine Below.trans ?_ (Below.mono (by assumption) ?_) | (simp; done) | (simp; omega) | omega)))) (by omega) (by omega) hfl hpu (by omega) (by omega) hbt).mono ?_; rintro e wc ⟨A9, c9, rfl, hF9, hbc⟩; have HF9 := hid hF9; clear hF9; have hcc := cellOf hbc; have hfc := frozOf hbc; have hzc := sizeOf hbc; try simp at hzc) | (go_at_call 57; refine (c_impl_firstUnsafe _ _ _ _ _ _ _ _ _ _ (levsTo v fs pl ps pl.length) _ _ _ (HF9.out.rds.below (by (repeat' (first | exact Below.refl _ _ | assumption | refine Below.setCell ?_ ?_ _ | refine Below.drew ?_ | refine Below.alloc ?_ ?_ _ | refine Below.trans ?_ (Below.mono (by assumption) ?_) | (simp; done) | (simp; omega) | omega)))) (HLL.out _) (by rw [HLL.out]; omega)).mono ?_; rintro e w' ⟨rfl, hb⟩; have hc := cellOf hb; have hf := frozOf hb; have hz := sizeOf hb; try simp at hz))
    go_end0
    rw [HV2.out]
    exact ⟨rfl, HSS.out.below ho (by (repeat' (first | exact Below.refl _ _ | assumption | refine Below.setCell ?_ ?_ _ | refine Below.drew ?_ | refine Below.alloc ?_ ?_ _ | refine Below.trans ?_ (Below.mono (by assumption) ?_) | (simp; done) | (simp; omega) | omega))), Cut2.of (by (repeat' (first | exact Below.refl _ _ | assumption | refine Below.setCell ?_ ?_ _ | refine Below.drew ?_ | refine Below.alloc ?_ ?_ _ | refine Below.trans ?_ (Below.mono (by assumption) ?_) | (simp; done) | (simp; omega) | omega)))⟩

end Go.Proofs.Ytpaclngjmdacjaa
namespace Go.Proofs.Ytpaclngjmdacjaa
set_option linter.unusedSimpArgs false
set_option linter.unusedVariables false
open Go.RowKit

set_option maxRecDepth 100000 in
set_option maxHeartbeats 8000000 in
theorem c_visitS (l h v : Int) (A : Option Addr) (fs : List Int) (capf : Nat) (B : Option Addr) (ps : List (Int × Int × Int)) (capq : Nat) (W0 : World) (hx : Rds cIn 1 W0 A fs) (hn : fs.length ≤ 9223372036854775807) (hy : Rds cPu 3 W0 B ps) (hm : ps.length ≤ 9223372036854775807) (b0 bs bl bv : Nat) (ho : W0.heap.size ≤ b0 ∧ b0 < bs ∧ bs < bl ∧ bl < bv) (hf5 : fs.length ≤ 5) (hn2 : ps.length ≤ 2) (d : Nat)
    (ih : ∀ (g : Nat) (pl : List Int) (capp : Nat) (s : List Int × Int) (w : World) (hS : VSt l h v A fs capf B ps capq W0 b0 bs bl bv w s) (hg : FreshA cIn 1 3 (bv + 1) w (some ⟨g, 0, none⟩) capp pl) (hpl : pl.length + d = fs.length) (hbt : ∀ k (hk : k < pl.length), 0 ≤ pl[k] ∧ pl[k] ≤ 3),
      Calls Try.prog 68 #[.slice (some ⟨g, 0, none⟩) pl.length capp, .pointer (some ⟨b0, 0, none⟩), .pointer (some ⟨bv, 0, none⟩), .pointer (some ⟨bl, 0, none⟩), .pointer (some ⟨bs, 0, none⟩)] w fun e w' => e = .returned (.tuple #[]) ∧ VSt l h v A fs capf B ps capq W0 b0 bs bl bv w' (visitP l h v fs ps d pl s) ∧ Cut2 bs bl w w')
    (g : Nat) (pl : List Int) (capp : Nat) (s : List Int × Int) (w : World) (hS : VSt l h v A fs capf B ps capq W0 b0 bs bl bv w s) (hg : FreshA cIn 1 3 (bv + 1) w (some ⟨g, 0, none⟩) capp pl) (hpl : pl.length + (d + 1) = fs.length) (hbt : ∀ k (hk : k < pl.length), 0 ≤ pl[k] ∧ pl[k] ≤ 3) :
    Calls Try.prog 68 #[.slice (some ⟨g, 0, none⟩) pl.length capp, .pointer (some ⟨b0, 0, none⟩), .pointer (some ⟨bv, 0, none⟩), .pointer (some ⟨bl, 0, none⟩), .pointer (some ⟨bs, 0, none⟩)] w fun e w' => e = .returned (.tuple #[]) ∧ VSt l h v A fs capf B ps capq W0 b0 bs bl bv w' (visitP l h v fs ps (d + 1) pl s) ∧ Cut2 bs bl w w' := by
  obtain ⟨i0, hI0, hI1, hI2, hI3⟩ := info_parts info_In
  have hnr : pl.length ≤ 4 := by omega
  have hl1 : pl.length < fs.length := by omega
  have hltc : (pl.length : Int) < (fs.length : Int) := by omega
  have HPL := hid hpl
  have HIH := hid ih
  have HSS := hid hS
  have HG := hid hg
  have HBT := hid hbt
  have hq3 := hS.c3
  have hq4 := hS.c4
  have hlt0 := hS.lt
  have HV := hid (visitP_go (l := l) (h := h) (v := v) (fs := fs) (ps := ps) d pl s)
  have hpw := topB_shl (n := ps.length) (by omega)
  have htb := topB_bd ps.length
  have htn := topN_cast ps.length
  clear hpl ih hS hg hbt hx hy
  go_enter Try.func68, Try.ntmps68
  go_wp2_with (fail)
  go_loopw [18] (fun i wr => ∃ k : Nat, k ≤ topN ps.length ∧ i = .int .i64 k ∧ VSt l h v A fs capf B ps capq W0 b0 bs bl bv wr (visitTo l h v fs ps d pl s k) ∧ Cut2 bs bl w wr) (fun i _ => topN ps.length - (intOf i).toNat)
  case atStart => exact ⟨0, Nat.zero_le _, rfl, HSS.out.below ho (by (repeat' (first | exact Below.refl _ _ | assumption | refine Below.setCell ?_ ?_ _ | refine Below.drew ?_ | refine Below.alloc ?_ ?_ _ | refine Below.trans ?_ (Below.mono (by assumption) ?_) | (simp; done) | (simp; omega) | omega))), Cut2.of (by (repeat' (first | exact Below.refl _ _ | assumption | refine Below.setCell ?_ ?_ _ | refine Below.drew ?_ | refine Below.alloc ?_ ?_ _ | refine Below.trans ?_ (Below.mono (by assumption) ?_) | (simp; done) | (simp; omega) | omega)))⟩
  case round =>
    obtain ⟨k, hk, rfl, hS, hC⟩ := hrel
    by_cases hlt : k < topN ps.length
    rotate_left
    · obtain rfl : k = topN ps.length := by omega
      go_wp2_with (fail)
      refine bodyPost_ret (results_none rfl _ _ _) rfl ?_
      rw [HV.out]
      exact ⟨rfl, hS, hC⟩
    have hki : (k : Int) < topB ps.length + 1 := by omega
    have hk3 : k ≤ 3 := by omega
    have HB1 := hid (visitTo_succ (l := l) (h := h) (v := v) (fs := fs) (ps := ps) d pl s k)
    have HS := hid hS
    have HC := hid hC
    have hzz := hC.size
    have hltr := hS.lt
    have hcvr := hS.cv
    have HKV : Hid (∀ w' : World, Below wr.heap.size wr w' → w'.cell? ⟨bv, 0, none⟩ = some (.func (.func 68) #[] #[.pointer (some ⟨b0, 0, none⟩), .pointer (some ⟨bv, 0, none⟩), .pointer (some ⟨bl, 0, none⟩), .pointer (some ⟨bs, 0, none⟩)])) := fun w' hbb => (hbb.cell (p := ⟨bv, 0, none⟩) hltr).trans hcvr
    have HR := hid ((HG.out.cut hC (by omega) (by omega)).rds)
    have HL9 := hid (show (pl ++ [(k : Int)]).length = pl.length + 1 by simp)
    have HP9 : Hid ((pl ++ [(k : Int)]).length + d = fs.length) := by
      show _ = _
      have := HPL.out
      rw [HL9.out]
      omega
    have HBT9 : Hid (∀ q (hq : q < (pl ++ [(k : Int)]).length), 0 ≤ (pl ++ [(k : Int)])[q] ∧ (pl ++ [(k : Int)])[q] ≤ 3) := fun q hq => by
      rw [List.getElem_append]
      split
      · exact HBT.out q _
      · simp
        omega
    clear hS hC hcvr hq3 hq4
    generalize visitTo l h v fs ps d pl s k = s1 at *
    go_wp2_with (fail)
    go_region_held3 (fun w' => w'.cell? ⟨bv, 0, none⟩ = some (.func (.func 68) #[] #[.pointer (some ⟨b0, 0, none⟩), .pointer (some ⟨bv, 0, none⟩), .pointer (some ⟨bl, 0, none⟩), .pointer (some ⟨bs, 0, none⟩)])) (first | assumption | exact HS9.out.cv | exact HKV.out _ (by (repeat' (first | exact Below.refl _ _ | assumption | refine Below.setCell ?_ ?_ _ | refine Below.drew ?_ | refine Below.alloc ?_ ?_ _ | refine Below.trans ?_ (Below.mono (by assumption) ?_) | (simp; done) | (simp; omega) | omega)))) (first | (go_at_call 62; refine (c_impl_copyInts g pl capp _ (HR.out.below (by (repeat' (first | exact Below.refl _ _ | assumption | refine Below.setCell ?_ ?_ _ | refine Below.drew ?_ | refine Below.alloc ?_ ?_ _ | refine Below.trans ?_ (Below.mono (by assumption) ?_) | (simp; done) | (simp; omega) | omega)))) (by omega)).mono ?_; rintro e w' ⟨A1, cp1, rfl, hF1, hb⟩; have HF1 := hid (FreshA.mono (B' := wr.heap.size) hF1 (by first | omega | (simp; done) | (simp; omega))); clear hF1; have hlo1 := HF1.out.lo; have hhi1 := HF1.out.hi; have hc := cellOf hb; have hf := frozOf hb; have hz := sizeOf hb; try simp at hz) | (rw [if_pos (by rfl)]; refine wp_push (.tmp 23) (.tmp 25) 22 rfl 3 i0 _ 1 8 Try.underlying22 hI0 hI1 hI2 hI3 rfl (by decide) (fun _ => rfl) one_In wr.heap.size A1 pl.length cp1 pl rfl rfl (HF1.out.below (by (repeat' (first | exact Below.refl _ _ | assumption | refine Below.setCell ?_ ?_ _ | refine Below.drew ?_ | refine Below.alloc ?_ ?_ _ | refine Below.trans ?_ (Below.mono (by assumption) ?_) | (simp; done) | (simp; omega) | omega)))) (k : Int) _ 1 rfl ?_ ?_ ?_ ?_ ?_; (refine news_In _ _ _ ?_ <;> simp [go_sem, ↓IntWalk.iteOmega, *]); (unfold maxLen; omega); omega; (exact (show Below wr.heap.size wr _ by (repeat' (first | exact Below.refl _ _ | assumption | refine Below.setCell ?_ ?_ _ | refine Below.drew ?_ | refine Below.alloc ?_ ?_ _ | refine Below.trans ?_ (Below.mono (by assumption) ?_) | (simp; done) | (simp; omega) | omega))).size); intro A3 cp3 w3 hF3 hg3 hat3; have hb3 := below_of_grown (B := wr.heap.size) hg3 hlo1 (by exact (show Below wr.heap.size wr _ by (repeat' (first | exact Below.refl _ _ | assumption | refine Below.setCell ?_ ?_ _ | refine Below.drew ?_ | refine Below.alloc ?_ ?_ _ | refine Below.trans ?_ (Below.mono (by assumption) ?_) | (simp; done) | (simp; omega) | omega))).size); have hs3 := hg3.size; (try simp at hs3); have hBB : Below wr.heap.size wr w3 := Below.trans (show Below wr.heap.size wr _ by (repeat' (first | exact Below.refl _ _ | assumption | refine Below.setCell ?_ ?_ _ | refine Below.drew ?_ | refine Below.alloc ?_ ?_ _ | refine Below.trans ?_ (Below.mono (by assumption) ?_) | (simp; done) | (simp; omega) | omega))) hb3; obtain ⟨g3, rfl, hgB3, hO3⟩ := hF3.row (by simp); have HF3 := hid hF3; clear hF3 hO3) | (go_at_call 68; have hq := HIH.out g3 (pl ++ [(k : Int)]) cp3 s1 _ (HS.out.below ho hBB) (HF3.out.mono (by omega)) HP9.out HBT9.out; rw [HL9.out] at hq; refine hq.mono ?_; clear hq; rintro e w' ⟨rfl, hS9, hC9⟩; have HS9 := hid hS9; have HC9 := hid hC9; clear hS9 hC9))
    all_goals
      go_wp2_with (fail)
      go_roundw
      case rel => exact ⟨k + 1, by omega, by go_num, by rw [HB1.out]; exact HS9.out, HC.out.trans ((Cut2.of hBB).trans HC9.out)⟩
      case measure => simp [intOf]; omega

end Go.Proofs.Ytpaclngjmdacjaa
namespace Go.Proofs.Ytpaclngjmdacjaa
set_option linter.unusedSimpArgs false
set_option linter.unusedVariables false
open Go.RowKit

theorem c_spec_l12Best (l h v : Int) (A : Option Addr) (fs : List Int) (capf : Nat) (B : Option Addr) (ps : List (Int × Int × Int)) (capq : Nat) (hf5 : fs.length ≤ 5) (hv : 0 ≤ v ∧ v ≤ 500) (hfl : ∀ k (hk : k < fs.length), -50 ≤ fs[k] ∧ fs[k] ≤ 50) (hpu : ∀ k (hk : k < ps.length), puOk ps[k] = true) (hn2 : ps.length ≤ 2) :
    ∀ (d g : Nat) (pl : List Int) (capp G : Nat) (w : World) (hx : Rds cIn 1 w A fs) (hn : fs.length ≤ 9223372036854775807) (hy : Rds cPu 3 w B ps) (hm : ps.length ≤ 9223372036854775807) (hg : FreshA cIn 1 3 G w (some ⟨g, 0, none⟩) capp pl) (hG : G ≤ w.heap.size) (hpl : pl.length + d = fs.length) (hbt : ∀ k (hk : k < pl.length), 0 ≤ pl[k] ∧ pl[k] ≤ 3),
      Calls Try.prog 67 #[.agg #[.int .i64 l, .int .i64 h, .int .i64 v, .slice A fs.length capf, .slice B ps.length capq], .slice (some ⟨g, 0, none⟩) pl.length capp] w fun e w' => ∃ A' cap', e = .returned (.tuple #[.slice A' (bestP l h v fs ps d pl).1.length cap', .int .i64 (bestP l h v fs ps d pl).2]) ∧ FreshA cIn 1 3 G w' A' cap' (bestP l h v fs ps d pl).1 ∧ Below w.heap.size w w' := by
  intro d
  induction d with
  | zero => exact fun g pl capp G w hx hn hy hm hg hG hpl hbt => c_spec_l12Best0 l h v A fs capf B ps capq (some ⟨g, 0, none⟩) pl capp G w hx hn hy hm hg hG hf5 hpl hv hfl hpu hn2 hbt
  | succ d ih => exact fun g pl capp G w hx hn hy hm hg hG hpl hbt => c_spec_l12BestS l h v A fs capf B ps capq d hf5 hv hfl hpu hn2 ih g pl capp G w hx hn hy hm hg hG hpl hbt
/-- the cheapest plan, its cost, and whether there is one -/
def cheapV (l h v : Int) (fs : List Int) (ps : List (Int × Int × Int)) : List Int × Int × Bool := if taskB l h v fs ps = true then (if (bestP l h v fs ps fs.length []).2 < 0 then ([], 0, false) else ((bestP l h v fs ps fs.length []).1, (bestP l h v fs ps fs.length []).2, true)) else ([], 0, false)
theorem taskB_facts {l h v : Int} {fs : List Int} {ps : List (Int × Int × Int)} (e : taskB l h v fs ps = true) : (0 ≤ v ∧ v ≤ 500) ∧ ps.length ≤ 2 ∧ fs.length ≤ 5 ∧ (∀ k (hk : k < fs.length), -50 ≤ fs[k] ∧ fs[k] ≤ 50) ∧ (∀ k (hk : k < ps.length), puOk ps[k] = true) := by
  have h2 := headB_bd (taskB_head e)
  exact ⟨by omega, by omega, by omega, taskB_fl e, taskB_pu e⟩
theorem FreshA.newg {α : Type} {cf : α → List Value} {sz : Nat} {T : TypeId} {B g : Nat} {w : World} (hg : w.heap.size = g) (hB : B ≤ g) : FreshA cf sz T B (w.alloc (.cells #[] T)) (some ⟨g, 0, none⟩) 0 ([] : List α) := by
  subst hg
  exact FreshA.new hB
theorem best_len (n : Nat) (bad : List Int → Bool) (cost : List Int → Int) (d : Nat) : ∀ p, ((Cheap.best n bad cost d p).2 < 0 ∧ (Cheap.best n bad cost d p).1 = []) ∨ (Cheap.best n bad cost d p).1.length = p.length + d := by
  induction d with
  | zero =>
    intro p
    show ((Cheap.leaf bad cost p).2 < 0 ∧ (Cheap.leaf bad cost p).1 = []) ∨ (Cheap.leaf bad cost p).1.length = p.length + 0
    unfold Cheap.leaf
    by_cases e : bad p = true
    · rw [if_pos e]; exact .inl ⟨by decide, rfl⟩
    · rw [if_neg e]; exact .inr rfl
  | succ d ih =>
    intro p
    rw [Cheap.best]
    by_cases e : bad p = true
    · rw [if_pos e]; exact .inl ⟨by decide, rfl⟩
    · rw [if_neg e]
      have key : ∀ (l : List Nat) (s : List Int × Int), ((s.2 < 0 ∧ s.1 = []) ∨ s.1.length = p.length + (d + 1)) → (((l.foldl (fun s (x : Nat) => Cheap.upd s (Cheap.best n bad cost d (p ++ [(x : Int)]))) s).2 < 0 ∧ (l.foldl (fun s (x : Nat) => Cheap.upd s (Cheap.best n bad cost d (p ++ [(x : Int)]))) s).1 = []) ∨ (l.foldl (fun s (x : Nat) => Cheap.upd s (Cheap.best n bad cost d (p ++ [(x : Int)]))) s).1.length = p.length + (d + 1)) := by
        intro l
        induction l with
        | nil => intro s h; exact h
        | cons x l ih2 =>
          intro s h
          rw [List.foldl_cons]
          refine ih2 _ (upd_len h ?_)
          have := ih (p ++ [(x : Int)])
          rw [List.length_append, List.length_singleton] at this
          rcases this with h1 | h1
          · exact .inl h1
          · exact .inr (by omega)
      exact key _ _ (.inl ⟨by decide, rfl⟩)
theorem cheapV_len (l h v : Int) (fs : List Int) (ps : List (Int × Int × Int)) : (cheapV l h v fs ps).1.length ≤ 5 := by
  unfold cheapV
  by_cases e : taskB l h v fs ps = true
  · rw [if_pos e]
    split
    · simp
    · have h2 := headB_bd (taskB_head e)
      rcases best_len (topN ps.length) (badP l h v fs ps) (fun p => payTo p ps p.length) fs.length [] with h1 | h1
      · show (Cheap.best _ _ _ _ _).1.length ≤ 5
        rw [h1.2]; simp
      · show (Cheap.best _ _ _ _ _).1.length ≤ 5
        rw [h1]
        simp
        omega
  · rw [if_neg e]; simp

end Go.Proofs.Ytpaclngjmdacjaa
namespace Go.Proofs.Ytpaclngjmdacjaa
set_option linter.unusedSimpArgs false
set_option linter.unusedVariables false
open Go.RowKit

namespace Cheap
theorem fold_low (f : Nat → List Int × Int) (c : Int) : ∀ (l : List Nat) (s : List Int × Int), ((0 ≤ s.2 ∧ s.2 ≤ c) ∨ ∃ x ∈ l, 0 ≤ (f x).2 ∧ (f x).2 ≤ c) → 0 ≤ (l.foldl (fun s x => upd s (f x)) s).2 ∧ (l.foldl (fun s x => upd s (f x)) s).2 ≤ c
  | [], s, h => by
    rcases h with h | ⟨x, hx, _⟩
    · exact h
    · cases hx
  | x :: l, s, h => by
    rw [List.foldl_cons]
    refine fold_low f c l _ ?_
    rcases h with h | ⟨y, hy, hc⟩
    · left
      unfold upd
      split <;> omega
    · rcases List.mem_cons.1 hy with rfl | hy
      · left
        unfold upd
        split <;> omega
      · exact .inr ⟨y, hy, hc⟩
theorem fold_is (f : Nat → List Int × Int) : ∀ (l : List Nat) (s : List Int × Int), l.foldl (fun s x => upd s (f x)) s = s ∨ ∃ x ∈ l, l.foldl (fun s x => upd s (f x)) s = f x
  | [], s => .inl rfl
  | x :: l, s => by
    rw [List.foldl_cons]
    rcases fold_is f l (upd s (f x)) with h | ⟨y, hy, h⟩
    · rw [h]
      unfold upd
      split
      · exact .inr ⟨x, List.mem_cons_self, rfl⟩
      · exact .inl rfl
    · exact .inr ⟨y, List.mem_cons_of_mem _ hy, h⟩
variable {n : Nat} {bad : List Int → Bool} {cost : List Int → Int}
theorem best_low (hb : ∀ p x, bad p = true → bad (p ++ [x]) = true) (hc : ∀ p, 0 ≤ cost p) : ∀ (q p : List Int), (∀ x ∈ q, 0 ≤ x ∧ x < n) → bad (p ++ q) = false → 0 ≤ (best n bad cost q.length p).2 ∧ (best n bad cost q.length p).2 ≤ cost (p ++ q)
  | [], p, _, h => by
    simp only [List.append_nil] at h ⊢
    simp only [List.length_nil, best, leaf, h]
    exact ⟨hc p, Int.le_refl _⟩
  | x :: q, p, hx, h => by
    have e : p ++ x :: q = (p ++ [x]) ++ q := by simp
    rw [e] at h ⊢
    have ih := best_low hb hc q (p ++ [x]) (fun y hy => hx y (List.mem_cons_of_mem _ hy)) h
    have hmono : ∀ (r p : List Int), bad p = true → bad (p ++ r) = true := by
      intro r
      induction r with
      | nil => intro p h; simpa using h
      | cons y r ih =>
        intro p h
        have := ih (p ++ [y]) (hb p y h)
        simpa using this
    have hp : ¬ bad p = true := fun hp => by
      have := hmono q _ (hb p x hp)
      rw [h] at this
      cases this
    have h0 := hx x List.mem_cons_self
    rw [List.length_cons, best, if_neg hp]
    refine fold_low _ _ _ _ (.inr ⟨x.toNat, List.mem_range.2 (by omega), ?_⟩)
    have ex : ((x.toNat : Nat) : Int) = x := Int.toNat_of_nonneg h0.1
    rw [ex]
    exact ih
theorem best_is : ∀ (d : Nat) (p : List Int), 0 ≤ (best n bad cost d p).2 → ∃ q : List Int, q.length = d ∧ (∀ x ∈ q, 0 ≤ x ∧ x < n) ∧ (best n bad cost d p).1 = p ++ q ∧ bad (p ++ q) = false ∧ (best n bad cost d p).2 = cost (p ++ q)
  | 0, p, h => by
    refine ⟨[], rfl, by simp, ?_⟩
    simp only [best, leaf] at h ⊢
    by_cases hp : bad p = true
    · simp [hp] at h
    · simp [hp]
  | d + 1, p, h => by
    rw [best] at h ⊢
    by_cases hp : bad p = true
    · simp [hp] at h
    · rw [if_neg hp] at h ⊢
      rcases fold_is (fun x => best n bad cost d (p ++ [(x : Int)])) (List.range n) ([], -1) with e | ⟨x, hx, e⟩
      · rw [e] at h; simp at h
      · rw [e] at h ⊢
        obtain ⟨q, h1, h2, h3, h4, h5⟩ := best_is d (p ++ [(x : Int)]) h
        refine ⟨(x : Int) :: q, by simp [h1], ?_, by rw [h3]; simp, by simpa using h4, by rw [h5]; simp⟩
        intro y hy
        rcases List.mem_cons.1 hy with rfl | hy
        · have := List.mem_range.1 hx
          omega
        · exact h2 y hy
end Cheap
section
variable {l h v : Int} {fs : List Int} {ps : List (Int × Int × Int)}
theorem bits_iff (n : Nat) (x : Int) : bitsOk n x = true ↔ 0 ≤ x ∧ x < (topN n : Int) := by
  rw [topN_cast]
  simp [bitsOk, inB]
  omega
theorem pay_pos (hp : ∀ k (hk : k < ps.length), puOk ps[k] = true) (hn : ps.length ≤ 2) (p : List Int) : 0 ≤ payTo p ps p.length := (payTo_bd hp hn p.length (Nat.le_refl _)).1
theorem safe_iff {pl : List Int} : safeV l h v fs ps pl = (true, true) ↔ planB l h v fs ps pl = true ∧ badP l h v fs ps pl = false := by
  have hi := badP_idx (l := l) (h := h) (v := v) (fs := fs) (ps := ps) pl
  unfold safeV
  by_cases e : planB l h v fs ps pl = true
  · rw [if_pos e]
    simp only [Prod.mk.injEq, and_true, decide_eq_true_eq, e, true_and]
    constructor
    · intro h1
      cases hb : badP l h v fs ps pl with
      | false => rfl
      | true => have := hi.2 hb; omega
    · intro h1
      rw [h1] at hi
      have : ¬ 0 ≤ idxF (outL l h) (levsTo v fs pl ps pl.length) := fun h2 => by
        have := hi.1 h2
        cases this
      omega
  · rw [if_neg e]
    simp [e]
theorem cheap_facts (ht : taskB l h v fs ps = true) (hc : (cheapV l h v fs ps).2.2 = true) : ∃ q : List Int, (cheapV l h v fs ps).1 = q ∧ planB l h v fs ps q = true ∧ badP l h v fs ps q = false ∧ (cheapV l h v fs ps).2.1 = payTo q ps q.length := by
  unfold cheapV at hc ⊢
  rw [if_pos ht] at hc ⊢
  by_cases h0 : (bestP l h v fs ps fs.length []).2 < 0
  · rw [if_pos h0] at hc; cases hc
  · rw [if_neg h0] at hc ⊢
    obtain ⟨q, h1, h2, h3, h4, h5⟩ := Cheap.best_is (n := topN ps.length) (bad := badP l h v fs ps) (cost := fun p => payTo p ps p.length) fs.length [] (show 0 ≤ (bestP l h v fs ps fs.length []).2 by omega)
    refine ⟨q, h3, ?_, by simpa using h4, h5⟩
    simp only [planB, ht, h1, Bool.true_and, decide_true, Bool.true_and, List.all_eq_true]
    exact fun x hx => (bits_iff _ _).2 (h2 x hx)
theorem cheap_low {pl : List Int} (hs : safeV l h v fs ps pl = (true, true)) : (cheapV l h v fs ps).2.2 = true ∧ (cheapV l h v fs ps).2.1 ≤ payTo pl ps pl.length := by
  obtain ⟨h1, h2⟩ := safe_iff.1 hs
  have ht := planB_task h1
  have hl := planB_len h1
  obtain ⟨_, hn2, _, _, _, hpu, _⟩ := planB_facts h1
  have hb := planB_bits h1
  have := Cheap.best_low (n := topN ps.length) (bad := badP l h v fs ps) (cost := fun p => payTo p ps p.length) (fun p x => badP_app p x) (pay_pos hpu hn2) pl [] (by
    intro x hx
    obtain ⟨k, hk, rfl⟩ := List.getElem_of_mem hx
    exact (bits_iff _ _).1 (hb k hk)) (by simpa using h2)
  simp only [List.nil_append] at this
  have e : Cheap.best (topN ps.length) (badP l h v fs ps) (fun p => payTo p ps p.length) pl.length [] = bestP l h v fs ps fs.length [] := by rw [hl]; rfl
  rw [e] at this
  unfold cheapV
  rw [if_pos ht, if_neg (by omega)]
  exact ⟨rfl, this.2⟩
theorem out_dbl {ps : List (Int × Int × Int)} {a : Int × Int × Int} (hn : ps.length ≤ 1) {x : Int} (hx : bitsOk ps.length x = true) : outTo (a :: ps) (2 * x) (a :: ps).length = outTo ps x ps.length := by
  match ps, hn, hx with
  | [], _, hx =>
    have := inB_bd hx
    simp [topB] at this
    obtain rfl : x = 0 := by omega
    simp [outTo, bitB]
  | [b], _, hx =>
    have := inB_bd hx
    simp [topB] at this
    obtain rfl | rfl : x = 0 ∨ x = 1 := by omega
    · simp [outTo, bitB]
    · simp [outTo, bitB]
theorem cost_dbl {ps : List (Int × Int × Int)} {a : Int × Int × Int} (hn : ps.length ≤ 1) {b x : Int} (hb : bitsOk ps.length b = true) (hx : bitsOk ps.length x = true) : costTo (a :: ps) (2 * b) (2 * x) (a :: ps).length = costTo ps b x ps.length := by
  match ps, hn, hx, hb with
  | [], _, hx, hb =>
    have := inB_bd hx
    simp [topB] at this
    obtain rfl : x = 0 := by omega
    simp [costTo, bitB]
  | [c], _, hx, hb =>
    have h1 := inB_bd hx
    have h2 := inB_bd hb
    simp [topB] at h1 h2
    obtain rfl | rfl : x = 0 ∨ x = 1 := by omega
    · simp [costTo, bitB]
    · obtain rfl | rfl : b = 0 ∨ b = 1 := by omega
      · simp [costTo, bitB]
      · simp [costTo, bitB]
theorem bits_zero (n : Nat) : bitsOk n 0 = true := (bits_iff n 0).2 ⟨Int.le_refl _, by rw [topN_cast]; have := topB_bd n; omega⟩
theorem bef_map (q : List Int) (k : Nat) : befB (q.map (2 * ·)) k = 2 * befB q k := by
  cases k with
  | zero => rfl
  | succ k =>
    simp only [befB, List.getElem?_map]
    cases q[k]? <;> rfl
theorem bef_ok {n : Nat} {q : List Int} (hb : ∀ x ∈ q, bitsOk n x = true) (k : Nat) : bitsOk n (befB q k) = true := by
  cases k with
  | zero => exact bits_zero n
  | succ k =>
    simp only [befB]
    cases h : q[k]? with
    | none => exact bits_zero n
    | some x => exact hb x (List.mem_of_getElem? h)
theorem lev_dbl {ps : List (Int × Int × Int)} {a : Int × Int × Int} {q : List Int} (hn : ps.length ≤ 1) (hb : ∀ x ∈ q, bitsOk ps.length x = true) : ∀ k : Nat, levTo v fs (q.map (2 * ·)) (a :: ps) k = levTo v fs q ps k
  | 0 => rfl
  | k + 1 => by
    have ih := lev_dbl (a := a) hn hb k
    unfold levTo
    rw [ih, List.getElem?_map]
    cases hq : q[k]? with
    | none => cases fs[k]? <;> rfl
    | some x =>
      cases fs[k]? with
      | none => rfl
      | some f =>
        simp only [Option.map_some]
        rw [out_dbl hn (hb x (List.mem_of_getElem? hq))]
theorem pay_dbl {ps : List (Int × Int × Int)} {a : Int × Int × Int} {q : List Int} (hn : ps.length ≤ 1) (hb : ∀ x ∈ q, bitsOk ps.length x = true) : ∀ k : Nat, payTo (q.map (2 * ·)) (a :: ps) k = payTo q ps k
  | 0 => rfl
  | k + 1 => by
    have ih := pay_dbl (a := a) hn hb k
    unfold payTo
    rw [ih, List.getElem?_map]
    cases hq : q[k]? with
    | none => rfl
    | some x =>
      simp only [Option.map_some]
      rw [bef_map, cost_dbl hn (bef_ok hb k) (hb x (List.mem_of_getElem? hq))]
theorem top_dbl {n : Nat} (hn : n ≤ 1) {x : Int} (h : bitsOk n x = true) : bitsOk (n + 1) (2 * x) = true := by
  have h1 := inB_bd h
  obtain rfl | rfl : n = 0 ∨ n = 1 := by omega
  · simp [topB] at h1
    simp [bitsOk, inB, topB]
    omega
  · simp [topB] at h1
    simp [bitsOk, inB, topB]
    omega
/-- without the first pump it is not cheaper -/
theorem cheap_less {a : Int × Int × Int} (ht : taskB l h v fs (a :: ps) = true) (hl : (cheapV l h v fs ps).2.2 = true) : (cheapV l h v fs (a :: ps)).2.1 ≤ (cheapV l h v fs ps).2.1 := by
  have hd := headB_bd (taskB_head ht)
  simp only [List.length_cons] at hd
  have hn1 : ps.length ≤ 1 := by omega
  have ht2 : taskB l h v fs ps = true := by
    have := ht
    simp only [taskB, List.all_cons, Bool.and_eq_true] at this ⊢
    refine ⟨⟨?_, this.1.2⟩, this.2.2⟩
    simp [headB]
    omega
  obtain ⟨q, e1, hp, hb, e2⟩ := cheap_facts ht2 hl
  have hbits : ∀ x ∈ q, bitsOk ps.length x = true := by
    intro x hx
    obtain ⟨k, hk, rfl⟩ := List.getElem_of_mem hx
    exact planB_bits hp k hk
  have hs : safeV l h v fs (a :: ps) (q.map (2 * ·)) = (true, true) := by
    refine safe_iff.2 ⟨?_, ?_⟩
    · have hlq := planB_len hp
      simp only [planB, ht, List.length_map, hlq, Bool.true_and, decide_true, List.all_eq_true, List.length_cons]
      intro x hx
      obtain ⟨y, hy, rfl⟩ := List.mem_map.1 hx
      exact top_dbl hn1 (hbits y hy)
    · have : badP l h v fs (a :: ps) (q.map (2 * ·)) = badP l h v fs ps q := by
        unfold badP levsTo
        rw [List.length_map]
        congr 1
        exact List.map_congr_left fun j _ => lev_dbl hn1 hbits (j + 1)
      rw [this]
      exact hb
  have := (cheap_low hs).2
  rw [List.length_map, pay_dbl hn1 hbits, ← e2] at this
  exact this
end

end Go.Proofs.Ytpaclngjmdacjaa
namespace Go.Proofs.Ytpaclngjmdacjaa
set_option linter.unusedSimpArgs false
set_option linter.unusedVariables false
open Go.RowKit

def sumL (ys : List Int) : Int := ys.foldl (fun s y => s + y) 0
theorem sumL_snoc (ys : List Int) (k : Nat) (h : k < ys.length) : sumL (ys.take (k + 1)) = sumL (ys.take k) + ys[k] := by
  unfold sumL
  rw [List.take_succ_eq_append_getElem h, List.foldl_append]; rfl
section
variable {l h v : Int} {fs pl : List Int} {ps : List (Int × Int × Int)}
theorem lev_sum (hl : pl.length ≤ fs.length) : ∀ k : Nat, k ≤ pl.length → levTo v fs pl ps k = v + sumL (fs.take k) - pumpTo pl ps k
  | 0, _ => by simp [levTo, pumpTo, sumL]
  | k + 1, hk => by
    rw [levTo_succ k (by omega) (by omega), pumpTo_succ k (by omega), sumL_snoc fs k (by omega), lev_sum hl k (by omega)]
    omega
theorem levsTo_at (n k : Nat) (hk : k < n) : (levsTo v fs pl ps n)[k]? = some (levTo v fs pl ps (k + 1)) := by
  unfold levsTo
  simp [hk]
theorem idxF_some {α : Type} {p : α → Bool} {xs : List α} (h : 0 ≤ idxF p xs) : ∃ k : Nat, idxF p xs = k ∧ ∃ hk : k < xs.length, p xs[k] = true := by
  unfold idxF at *
  cases hf : xs.findIdx? p with
  | none => rw [hf] at h; simp at h
  | some i =>
    rw [List.findIdx?_eq_some_iff_getElem] at hf
    obtain ⟨hi, hp, _⟩ := hf
    exact ⟨i, rfl, hi, hp⟩
/-- all that the law asks of a plan that is one -/
theorem pumps_law (e : planB l h v fs ps pl = true) : levV l h v fs ps pl = (levsTo v fs pl ps pl.length, true) ∧ waterV l h v fs ps pl = (pumpTo pl ps pl.length, true) ∧ 1 ≤ pl.length ∧ pl.length ≤ 5 ∧ (levsTo v fs pl ps pl.length)[pl.length - 1]? = some (v + sumL fs - pumpTo pl ps pl.length) ∧
    ((safeV l h v fs ps pl = (true, true) ∧ unsV l h v fs ps pl = (0, false)) ∨ (safeV l h v fs ps pl = (false, true) ∧ ∃ (j : Nat) (y : Int), unsV l h v fs ps pl = ((j : Int), true) ∧ j < pl.length ∧ (levsTo v fs pl ps pl.length)[j]? = some y ∧ ¬ (l ≤ y ∧ y ≤ h))) := by
  have hf := planB_facts e
  have hl := planB_len e
  have hd := headB_bd (taskB_head (planB_task e))
  refine ⟨by simp [levV, e], by simp [waterV, e], by omega, by omega, ?_, ?_⟩
  · rw [levsTo_at _ _ (by omega), show pl.length - 1 + 1 = pl.length by omega, lev_sum (by omega) _ (Nat.le_refl _), show fs.take pl.length = fs by rw [hl, List.take_length]]
  · by_cases hi : idxF (outL l h) (levsTo v fs pl ps pl.length) < 0
    · left
      refine ⟨?_, ?_⟩
      · unfold safeV; rw [if_pos e]; simp [hi]
      · unfold unsV; rw [if_neg (by simp [hi])]
    · right
      obtain ⟨j, hj, hk, hp⟩ := idxF_some (p := outL l h) (xs := levsTo v fs pl ps pl.length) (by omega)
      refine ⟨?_, j, (levsTo v fs pl ps pl.length)[j], ?_, ?_, List.getElem?_eq_getElem hk, ?_⟩
      · unfold safeV; rw [if_pos e]; simp [hi]
      · unfold unsV; rw [if_pos ⟨e, hi⟩, hj]
      · rw [levsTo_len] at hk; exact hk
      · have := hp
        simp [outL, inB] at this
        omega
theorem pumps_no (e : planB l h v fs ps pl = false) : levV l h v fs ps pl = ([], false) ∧ waterV l h v fs ps pl = (0, false) ∧ safeV l h v fs ps pl = (false, false) ∧ unsV l h v fs ps pl = (0, false) := by
  refine ⟨by simp [levV, e], by simp [waterV, e], by simp [safeV, e], by simp [unsV, e]⟩
theorem all_drop {α : Type} {p : α → Bool} {xs : List α} (h : xs.all p = true) (i : Nat) : (xs.take i ++ xs.drop (i + 1)).all p = true := by
  rw [List.all_eq_true] at *
  intro x hx
  rcases List.mem_append.1 hx with hx | hx
  · exact h x (List.mem_of_mem_take hx)
  · exact h x (List.mem_of_mem_drop hx)
theorem wo_law {i : Int} (e : taskB l h v fs ps = true) (hi : 0 ≤ i ∧ i < ps.length) : woV l h v fs ps i = ((l, h, v, fs, ps.take i.toNat ++ ps.drop (i.toNat + 1)), true) ∧ (ps.take i.toNat ++ ps.drop (i.toNat + 1)).length = ps.length - 1 ∧ taskB l h v fs (ps.take i.toNat ++ ps.drop (i.toNat + 1)) = true := by
  have hlen : (ps.take i.toNat ++ ps.drop (i.toNat + 1)).length = ps.length - 1 := by simp; omega
  refine ⟨by unfold woV; rw [if_pos ⟨e, hi⟩], hlen, ?_⟩
  have hd := headB_bd (taskB_head e)
  have h2 := e
  simp only [taskB, Bool.and_eq_true] at h2 ⊢
  refine ⟨⟨?_, h2.1.2⟩, all_drop h2.2 _⟩
  rw [hlen]
  simp [headB]
  omega
theorem wo_no {i : Int} (e : ¬ (taskB l h v fs ps = true ∧ 0 ≤ i ∧ i < ps.length)) : woV l h v fs ps i = ((0, 0, 0, [], []), false) := by unfold woV; rw [if_neg e]
end

end Go.Proofs.Ytpaclngjmdacjaa
namespace Go.Proofs.Ytpaclngjmdacjaa
set_option linter.unusedSimpArgs false
set_option linter.unusedVariables false
open Go.RowKit

theorem wr_id2 {x : Int} (h : -9223372036854775808 ≤ x ∧ x ≤ 9223372036854775807) : IntKind.i64.wrap x = x := by
  rw [IntKind.wrap_i64]
  omega
section
variable {l u v : Int} {fs pl : List Int} {ps : List (Int × Int × Int)}
theorem sumL_bd {ys : List Int} (hb : ∀ k (hk : k < ys.length), -50 ≤ ys[k] ∧ ys[k] ≤ 50) : ∀ k : Nat, k ≤ ys.length → -(50 * (k : Int)) ≤ sumL (ys.take k) ∧ sumL (ys.take k) ≤ 50 * (k : Int)
  | 0, _ => by simp [sumL]
  | k + 1, hk => by
    have ih := sumL_bd hb k (by omega)
    have h1 := hb k (by omega)
    rw [sumL_snoc ys k (by omega)]
    omega
theorem fp_cases {lv : List Int} {pw ho : Int} {ok fine sf told uns : Bool} (hL : levV l u v fs ps pl = (lv, ok)) (hW : waterV l u v fs ps pl = (pw, fine)) (hS : safeV l u v fs ps pl = (sf, told)) (hU : unsV l u v fs ps pl = (ho, uns)) :
    (ok = false ∧ fine = false ∧ told = false ∧ uns = false) ∨
    (ok = true ∧ fine = true ∧ told = true ∧ fs.length ≤ 5 ∧ (∀ k (hk : k < fs.length), -50 ≤ fs[k] ∧ fs[k] ≤ 50) ∧ (0 ≤ v ∧ v ≤ 500) ∧ (0 ≤ pw ∧ pw ≤ 500) ∧ (-250 ≤ sumL fs ∧ sumL fs ≤ 250) ∧
      ∃ n : Nat, lv.length = n + 1 ∧ n < 5 ∧ lv[n]? = some (v + sumL fs - pw) ∧
      ((sf = true ∧ uns = false) ∨ (sf = false ∧ uns = true ∧ ∃ (j : Nat) (y : Int), ho = (j : Int) ∧ j ≤ n ∧ lv[j]? = some y ∧ ¬ (l ≤ y ∧ y ≤ u)))) := by
  cases e : planB l u v fs ps pl with
  | false =>
    obtain ⟨h1, h2, h3, h4⟩ := pumps_no e
    rw [h1] at hL
    rw [h2] at hW
    rw [h3] at hS
    rw [h4] at hU
    simp only [Prod.mk.injEq] at hL hW hS hU
    exact .inl ⟨hL.2.symm, hW.2.symm, hS.2.symm, hU.2.symm⟩
  | true =>
    obtain ⟨h1, h2, h3, h4, h5, h6⟩ := pumps_law e
    obtain ⟨f1, f2, f3, f4, f5, f6, f7⟩ := planB_facts e
    have hl := planB_len e
    have hp := pumpTo_bd (pl := pl) f6 f2 pl.length (Nat.le_refl _)
    have hs := sumL_bd f5 fs.length (Nat.le_refl _)
    rw [List.take_length] at hs
    rw [h1] at hL
    rw [h2] at hW
    simp only [Prod.mk.injEq] at hL hW
    obtain ⟨rfl, rfl⟩ := hL
    obtain ⟨rfl, rfl⟩ := hW
    have hll := levsTo_len (v := v) (fs := fs) (pl := pl) (ps := ps) pl.length
    rcases h6 with ⟨h7, h8⟩ | ⟨h7, j, y, h8, h9, h10, h11⟩
    · rw [h7] at hS
      rw [h8] at hU
      simp only [Prod.mk.injEq] at hS hU
      obtain ⟨rfl, rfl⟩ := hS
      obtain ⟨rfl, rfl⟩ := hU
      exact .inr ⟨rfl, rfl, rfl, by omega, f5, f1, by omega, by omega, pl.length - 1, by omega, by omega, h5, .inl ⟨rfl, rfl⟩⟩
    · rw [h7] at hS
      rw [h8] at hU
      simp only [Prod.mk.injEq] at hS hU
      obtain ⟨rfl, rfl⟩ := hS
      obtain ⟨rfl, rfl⟩ := hU
      exact .inr ⟨rfl, rfl, rfl, by omega, f5, f1, by omega, by omega, pl.length - 1, by omega, by omega, h5, .inr ⟨rfl, rfl, j, y, rfl, by omega, h10, h11⟩⟩
theorem fp_wo {l3 u3 v3 i : Int} {fs3 : List Int} {ps3 : List (Int × Int × Int)} {known : Bool} (h : woV l u v fs ps i = ((l3, u3, v3, fs3, ps3), known)) : known = false ∨ (known = true ∧ ps3.length + 1 = ps.length ∧ taskB l3 u3 v3 fs3 ps3 = true) := by
  by_cases e : taskB l u v fs ps = true ∧ 0 ≤ i ∧ i < ps.length
  · obtain ⟨h1, h2, h3⟩ := wo_law e.1 e.2
    rw [h1] at h
    simp only [Prod.mk.injEq] at h
    obtain ⟨⟨rfl, rfl, rfl, rfl, rfl⟩, rfl⟩ := h
    exact .inr ⟨rfl, by omega, h3⟩
  · rw [wo_no e] at h
    simp only [Prod.mk.injEq] at h
    exact .inl h.2.symm
end

end Go.Proofs.Ytpaclngjmdacjaa
namespace Go.Proofs.Ytpaclngjmdacjaa
set_option linter.unusedSimpArgs false
set_option linter.unusedVariables false
open Go.RowKit

set_option maxHeartbeats 400000 in
theorem c_laws_rBig (A : Option Addr) (n cap : Nat) (w : World) (hl : n ≤ 9223372036854775807) :
    Calls Try.prog 38 #[.slice A n cap] w fun e w' => e = .returned (.bool (decide (65536 < n))) ∧ Below w.heap.size w w' := by
  go_enter Try.func38, Try.ntmps38
  go_wp2_with (fail)
  go_ret
  exact ⟨ret_bool (by simp; try omega), by (repeat' (first | exact Below.refl _ _ | assumption | refine Below.setCell ?_ ?_ _ | refine Below.drew ?_ | refine Below.alloc ?_ ?_ _ | refine Below.trans ?_ (Below.mono (by assumption) ?_) | (simp; done) | (simp; omega) | omega))⟩

set_option maxRecDepth 100000 in
set_option maxHeartbeats 2000000 in
theorem c_laws_rInts (A0 A1 : Option Addr) (xs : List (Int)) (cap0 cap1 : Nat) (w : World) (h0 : Rds cIn 1 w A0 xs) (h1 : Rds cIn 1 w A1 xs) (hn : xs.length ≤ 1000000000) :
    Calls Try.prog 40 #[.slice A0 xs.length cap0, .slice A1 xs.length cap1] w fun e w' => e = .returned (.bool true) ∧ Below w.heap.size w w' := by
  go_enter Try.func40, Try.ntmps40
  go_wp2_with (fail)
  go_loopw [5] (fun i wr => ∃ k : Nat, k ≤ xs.length ∧ i = .int .i64 k ∧ Below w.heap.size w wr) (fun i _ => xs.length - (intOf i).toNat)
  case atStart => exact ⟨0, Nat.zero_le _, rfl, Below.refl _ _⟩
  case round =>
    obtain ⟨k, hk, rfl, hbr⟩ := hrel
    by_cases hlt : k < xs.length
    · obtain ⟨bx, ox, rfl, hbx, hcx⟩ := h0 k xs[k] (List.getElem?_eq_getElem hlt)
      obtain ⟨by_, oy, rfl, hby, hcy⟩ := h1 k xs[k] (List.getElem?_eq_getElem hlt)
      have hx0 := hcx 0 _ rfl
      have hy0 := hcy 0 _ rfl
      simp only [Nat.add_zero, Nat.mul_one] at hx0 hy0
      clear hcx hcy h0 h1
      generalize xs[k] = x at *
      have hc : ∀ b o, b < w.heap.size → wr.cell? ⟨b, o, none⟩ = w.cell? ⟨b, o, none⟩ := fun b o hb => hbr.cell (p := ⟨b, o, none⟩) hb
      have hz := sizeOf hbr
      have rx0 := (hc _ _ hbx).trans hx0
      have ry0 := (hc _ _ hby).trans hy0
      clear hx0 hy0
      go_wp2_with (fail)
      go_region_held3 (fun w' => w'.cell? ⟨bx, ox + k, none⟩ = some (.int .i64 (x)) ∧ w'.cell? ⟨by_, oy + k, none⟩ = some (.int .i64 (x))) (first | assumption | exact ⟨rx0, ry0⟩) (fail)
      go_wp2_with (fail)
      go_roundw
      case rel => exact ⟨k + 1, by omega, by go_num, by (repeat' (first | exact Below.refl _ _ | assumption | refine Below.setCell ?_ ?_ _ | refine Below.drew ?_ | refine Below.alloc ?_ ?_ _ | refine Below.trans ?_ (Below.mono (by assumption) ?_) | (simp; done) | (simp; omega) | omega))⟩
      case measure => simp [intOf]; omega
    · obtain rfl : k = xs.length := by omega
      go_wp2_with (fail)
      go_ret
      exact ⟨rfl, by (repeat' (first | exact Below.refl _ _ | assumption | refine Below.setCell ?_ ?_ _ | refine Below.drew ?_ | refine Below.alloc ?_ ?_ _ | refine Below.trans ?_ (Below.mono (by assumption) ?_) | (simp; done) | (simp; omega) | omega))⟩

set_option maxRecDepth 100000 in
set_option maxHeartbeats 2000000 in
theorem c_laws_rSum (A : Option Addr) (xs : List Int) (cap : Nat) (w : World) (h0 : Rds cIn 1 w A xs) (hn : xs.length ≤ 1000) (hb : ∀ k (hk : k < xs.length), -50 ≤ xs[k] ∧ xs[k] ≤ 50) :
    Calls Try.prog 44 #[.slice A xs.length cap] w fun e w' => e = .returned (.int .i64 (sumL xs)) ∧ Below w.heap.size w w' := by
  have HB := hid hb
  clear hb
  go_enter Try.func44, Try.ntmps44
  go_wp2_with (fail)
  go_loopw [3, 4] (fun s i wr => ∃ (k : Nat) (q : Int), k ≤ xs.length ∧ s = .int .i64 q ∧ i = .int .i64 k ∧ Hid (q = sumL (xs.take k)) ∧ (-50 * (k : Int) ≤ q ∧ q ≤ 50 * (k : Int)) ∧ Below w.heap.size w wr) (fun _ i _ => xs.length - (intOf i).toNat)
  case atStart => exact ⟨0, 0, Nat.zero_le _, rfl, rfl, rfl, by omega, Below.refl _ _⟩
  case round =>
    obtain ⟨k, q, hk, rfl, rfl, HQ, hq, hbr⟩ := hrel
    by_cases hlt : k < xs.length
    · obtain ⟨bx, ox, rfl, hbx, hcx⟩ := h0 k xs[k] (List.getElem?_eq_getElem hlt)
      have hx0 := (hbr.cell (p := ⟨bx, _, none⟩) hbx).trans (hcx 0 _ rfl)
      simp only [Nat.add_zero, Nat.mul_one] at hx0
      have hbd := HB.out k hlt
      have HN := hid (show q + xs[k] = sumL (xs.take (k + 1)) by rw [sumL_snoc xs k hlt, ← HQ.out])
      clear hcx h0
      generalize xs[k] = x at *
      have hz := sizeOf hbr
      go_wp2_with (fail)
      go_roundw
      case rel => exact ⟨k + 1, q + x, by omega, by first | rfl | go_num | (congr 1; omega), by go_num, HN, by omega, by (repeat' (first | exact Below.refl _ _ | assumption | refine Below.setCell ?_ ?_ _ | refine Below.drew ?_ | refine Below.alloc ?_ ?_ _ | refine Below.trans ?_ (Below.mono (by assumption) ?_) | (simp; done) | (simp; omega) | omega))⟩
      case measure => simp [intOf]; omega
    · obtain rfl : k = xs.length := by omega
      go_wp2_with (fail)
      go_ret
      have hq9 : q = sumL xs := by have h9 := HQ.out; rw [List.take_length] at h9; exact h9
      exact ⟨by first | (rw [hq9]; done) | (rw [hq9]; rfl) | (simp [hq9]; done), by (repeat' (first | exact Below.refl _ _ | assumption | refine Below.setCell ?_ ?_ _ | refine Below.drew ?_ | refine Below.alloc ?_ ?_ _ | refine Below.trans ?_ (Below.mono (by assumption) ?_) | (simp; done) | (simp; omega) | omega))⟩

end Go.Proofs.Ytpaclngjmdacjaa
