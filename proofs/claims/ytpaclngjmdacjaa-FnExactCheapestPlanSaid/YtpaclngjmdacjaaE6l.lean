import Derived.Test.YtpaclngjmdacjaaE4s
import Derived.Test.YtpaclngjmdacjaaE5s
namespace Go.Proofs.Ytpaclngjmdacjaa
set_option linter.unusedSimpArgs false
set_option linter.unusedVariables false
open Go.RowKit

def FS66_6 (l h vv : Int) (bf of_ nf capf : Nat) (B : Option Addr) (np capq : Nat) (lv f : Int) (k : Nat) (ps : List (Int × Int × Int)) (x : Int) (C : Option Addr) (n0 capp : Nat) (w W0 : World) (iq : Nat) (v : Value) (w1 : World) : Prop := match iq with
  | 0 => v = .int .i64 (lv)
  | 1 => v = .pointer (some ⟨w.heap.size, 3, none⟩)
  | 2 => v = .slice (some ⟨bf, of_, none⟩) nf capf
  | 3 => v = .int .i64 (k)
  | 4 => v = .pointer (some ⟨bf, of_ + k, none⟩)
  | 5 => v = .int .i64 (f)
  | 6 => v = .int .i64 (lv + f)
  | 7 => v = .agg #[.int .i64 (l), .int .i64 (h), .int .i64 (vv), .slice (some ⟨bf, of_, none⟩) nf capf, .slice B np capq]
  | 8 => v = .slice C n0 capp
  | 9 => v = .int .i64 (k)
  | 10 => v = .int .i64 (outTo ps x np)
  | 11 => v = .int .i64 ((lv + f) - (outTo ps x np))
  | _ => True

set_option maxRecDepth 100000 in
set_option maxHeartbeats 4000000 in
theorem c_spec_l12Levels (l h v : Int) (A : Option Addr) (fs : List Int) (capf : Nat) (B : Option Addr) (ps : List (Int × Int × Int)) (capq : Nat) (C : Option Addr) (pl : List Int) (capp : Nat) (w : World) (hx : Rds cIn 1 w A fs) (hn : fs.length ≤ 9223372036854775807) (hy : Rds cPu 3 w B ps) (hm : ps.length ≤ 9223372036854775807) (hr : Rds cIn 1 w C pl) (hnr : pl.length ≤ 5) (hv : 0 ≤ v ∧ v ≤ 500) (hfl : ∀ k (hk : k < fs.length), -50 ≤ fs[k] ∧ fs[k] ≤ 50) (hpu : ∀ k (hk : k < ps.length), puOk ps[k] = true) (hn2 : ps.length ≤ 2) (hl1 : pl.length ≤ fs.length) (hbt : ∀ k (hk : k < pl.length), 0 ≤ pl[k] ∧ pl[k] ≤ 3) :
    Calls Try.prog 66 #[.agg #[.int .i64 l, .int .i64 h, .int .i64 v, .slice A fs.length capf, .slice B ps.length capq], .slice C pl.length capp] w fun e w' => ∃ A' cap', e = .returned (.slice A' pl.length cap') ∧ FreshA cIn 1 3 w.heap.size w' A' cap' (levsTo v fs pl ps pl.length) ∧ Below w.heap.size w w' := by
  obtain ⟨i0, hI0, hI1, hI2, hI3⟩ := info_parts info_In
  go_enter Try.func66, Try.ntmps66
  go_wp2_with (fail)
  go_loopw [5, 6, 7] (fun o lev i wr => ∃ (k : Nat) (A' : Option Addr) (cp : Nat), k ≤ pl.length ∧ i = .int .i64 k ∧ o = .slice A' k cp ∧ lev = .int .i64 (levTo v fs pl ps k) ∧ FreshA cIn 1 3 (w.heap.size + 1) wr A' cp (levsTo v fs pl ps k) ∧ wr.cell? ⟨w.heap.size, 0, none⟩ = some (.int .i64 l) ∧ wr.cell? ⟨w.heap.size, 1, none⟩ = some (.int .i64 h) ∧ wr.cell? ⟨w.heap.size, 2, none⟩ = some (.int .i64 v) ∧ wr.cell? ⟨w.heap.size, 3, none⟩ = some (.slice A fs.length capf) ∧ wr.cell? ⟨w.heap.size, 4, none⟩ = some (.slice B ps.length capq) ∧ w.heap.size + 1 ≤ wr.heap.size ∧ Below w.heap.size w wr) (fun _ _ i _ => pl.length - (intOf i).toNat)
  case atStart =>
    refine ⟨0, some ⟨w.heap.size + 1, 0, none⟩, 0, Nat.zero_le _, rfl, by simp, rfl, FreshA.emp2 (by (repeat' (first | exact Below.refl _ _ | assumption | refine Below.setCell ?_ ?_ _ | refine Below.drew ?_ | refine Below.alloc ?_ ?_ _ | refine Below.trans ?_ (Below.mono (by assumption) ?_) | (simp; done) | (simp; omega) | omega))), ?_, ?_, ?_, ?_, ?_, ?_, by (repeat' (first | exact Below.refl _ _ | assumption | refine Below.setCell ?_ ?_ _ | refine Below.drew ?_ | refine Below.alloc ?_ ?_ _ | refine Below.trans ?_ (Below.mono (by assumption) ?_) | (simp; done) | (simp; omega) | omega))⟩
    all_goals first | (simp [go_sem, ↓IntWalk.iteOmega, *]; done) | (simp at *; omega)
  case round =>
    obtain ⟨k, A', cp, hk, rfl, rfl, rfl, hF, hp0, hp1, hp2, hp3, hp4, hzz, hbr⟩ := hrel
    have hlo := hF.lo
    have hhi := hF.hi
    have hc := cellOf hbr
    have hf := frozOf hbr
    have hz := sizeOf hbr
    by_cases hlt : k < pl.length
    rotate_left
    · obtain rfl : k = pl.length := by omega
      go_wp2_with (fail)
      go_ret
      exact ⟨A', cp, rfl, hF.mono (by omega), by (repeat' (first | exact Below.refl _ _ | assumption | refine Below.setCell ?_ ?_ _ | refine Below.drew ?_ | refine Below.alloc ?_ ?_ _ | refine Below.trans ?_ (Below.mono (by assumption) ?_) | (simp; done) | (simp; omega) | omega))⟩
    have hltf : k < fs.length := by omega
    obtain ⟨bf, of_, rfl, hbf, hcf⟩ := hx k fs[k] (List.getElem?_eq_getElem hltf)
    have hf0 := hcf 0 _ rfl
    simp only [Nat.add_zero, Nat.mul_one] at hf0
    have hp0' : far _ _ _ = _ := hp0
    have hp1' : far _ _ _ = _ := hp1
    have hp2' : far _ _ _ = _ := hp2
    have hp3' : far _ _ _ = _ := hp3
    have hp4' : far _ _ _ = _ := hp4
    have hfb := hfl k hltf
    have hlb := levTo_bd hv hfl hpu hn2 hl1 k hk
    have hob := outTo_bd hpu pl[k] ps.length (Nat.le_refl _)
    have hxb := hbt k hlt
    have HXK := hid (List.getElem?_eq_getElem hlt)
    have HL1 := hid (levTo_succ (v := v) (ps := ps) k hlt hltf)
    have HLS := hid (levsTo_succ (v := v) (fs := fs) (pl := pl) (ps := ps) k)
    have HLL := hid (levsTo_len (v := v) (fs := fs) (pl := pl) (ps := ps) k)
    have HF := hid hF
    have HFL := hid hfl
    clear hcf hF hfl
    obtain ⟨x, hxk⟩ : ∃ x, x = pl[k] := ⟨_, rfl⟩
    obtain ⟨f, hfk⟩ : ∃ f, f = fs[k] := ⟨_, rfl⟩
    simp only [← hxk] at hxb HXK HL1 hob
    simp only [← hfk] at hf0 hfb HL1
    clear hxk hfk
    have HLS2 := hid (HLS.out.trans (by rw [HL1.out]))
    generalize levTo v fs pl ps k = lv at *
    go_wp2_with (fail)
    refine wp_region_w (n := 12) [] [] (FS66_6 l h v bf of_ fs.length capf B ps.length capq lv f k ps x C pl.length capp w) rfl (by kernel_rfl) (fun _ _ d _ _ h => by cases d <;> exact h) ?_ ?_ ?_ ?_ ?_ ?_
    · intro iq
      match iq with
      | 0 | 1 | 2 | 3 | 4 | 5 | 6 | 7 | 8 | 9 | 10 | 11 => exact Stable.const _
      | n + 12 => exact Stable.const _
    · intro iq hi
      exact absurd hi (by simp)
    · intro iq hi
      exact absurd hi (by simp)
    · intro iq o hi hl ho vals w1 hb1 hf
      exact absurd hl (by simp)
    · intro iq o hi hl ho vals w1 hb1 hf
      match iq, hi with
      | 0, _ =>
        injection ho with ho
        subst ho
        clear hl
        simp only [fillA, List.take, List.drop, put_none, Act.put, List.setIfInBounds_toArray, List.set_cons_zero, List.set_cons_succ, Nat.reduceAdd]
        clear hf
        go_wp2_with (fail)
        exact RQ.mk rfl ⟨(by first | rfl | (simp [FS66_6]; done) | (simp [FS66_6, *]; done) | (simp [FS66_6, gotV]; done) | (simp [FS66_6, gotV]; omega)), fun h => absurd h (by decide)⟩ (Below.refl _ _)
      | 1, _ =>
        injection ho with ho
        subst ho
        clear hl
        simp only [fillA, List.take, List.drop, put_none, Act.put, List.setIfInBounds_toArray, List.set_cons_zero, List.set_cons_succ, Nat.reduceAdd]
        clear hf
        go_wp2_with (fail)
        exact RQ.mk rfl ⟨(by first | rfl | (simp [FS66_6]; done) | (simp [FS66_6, *]; done) | (simp [FS66_6, gotV]; done) | (simp [FS66_6, gotV]; omega)), fun h => absurd h (by decide)⟩ (Below.refl _ _)
      | 2, _ =>
        injection ho with ho
        subst ho
        clear hl
        simp only [fillA, List.take, List.drop, put_none, Act.put, List.setIfInBounds_toArray, List.set_cons_zero, List.set_cons_succ, Nat.reduceAdd]
        have f1 := hf 1 (by decide) (by kernel_rfl)
        generalize vals 1 = v1 at *
        subst f1
        clear hf
        have hc1 := cellOf hb1
        have hf1 := frozOf hb1
        have hz1 := sizeOf hb1
        try simp at hz1
        go_wp2_with (fail)
        exact RQ.mk rfl ⟨(by first | rfl | (simp [FS66_6]; done) | (simp [FS66_6, *]; done) | (simp [FS66_6, gotV]; done) | (simp [FS66_6, gotV]; omega)), fun h => absurd h (by decide)⟩ (Below.refl _ _)
      | 3, _ =>
        injection ho with ho
        subst ho
        clear hl
        simp only [fillA, List.take, List.drop, put_none, Act.put, List.setIfInBounds_toArray, List.set_cons_zero, List.set_cons_succ, Nat.reduceAdd]
        clear hf
        go_wp2_with (fail)
        exact RQ.mk rfl ⟨(by first | rfl | (simp [FS66_6]; done) | (simp [FS66_6, *]; done) | (simp [FS66_6, gotV]; done) | (simp [FS66_6, gotV]; omega)), fun h => absurd h (by decide)⟩ (Below.refl _ _)
      | 4, _ =>
        injection ho with ho
        subst ho
        clear hl
        simp only [fillA, List.take, List.drop, put_none, Act.put, List.setIfInBounds_toArray, List.set_cons_zero, List.set_cons_succ, Nat.reduceAdd]
        have f2 := hf 2 (by decide) (by kernel_rfl)
        generalize vals 2 = v2 at *
        subst f2
        have f3 := hf 3 (by decide) (by kernel_rfl)
        generalize vals 3 = v3 at *
        subst f3
        clear hf
        go_wp2_with (fail)
        exact RQ.mk rfl ⟨(by first | rfl | (simp [FS66_6]; done) | (simp [FS66_6, *]; done) | (simp [FS66_6, gotV]; done) | (simp [FS66_6, gotV]; omega)), fun h => absurd h (by decide)⟩ (Below.refl _ _)
      | 5, _ =>
        injection ho with ho
        subst ho
        clear hl
        simp only [fillA, List.take, List.drop, put_none, Act.put, List.setIfInBounds_toArray, List.set_cons_zero, List.set_cons_succ, Nat.reduceAdd]
        have f4 := hf 4 (by decide) (by kernel_rfl)
        generalize vals 4 = v4 at *
        subst f4
        clear hf
        have hc1 := cellOf hb1
        have hf1 := frozOf hb1
        have hz1 := sizeOf hb1
        try simp at hz1
        go_wp2_with (fail)
        exact RQ.mk rfl ⟨(by first | rfl | (simp [FS66_6]; done) | (simp [FS66_6, *]; done) | (simp [FS66_6, gotV]; done) | (simp [FS66_6, gotV]; omega)), fun h => absurd h (by decide)⟩ (Below.refl _ _)
      | 6, _ =>
        injection ho with ho
        subst ho
        clear hl
        simp only [fillA, List.take, List.drop, put_none, Act.put, List.setIfInBounds_toArray, List.set_cons_zero, List.set_cons_succ, Nat.reduceAdd]
        have f0 := hf 0 (by decide) (by kernel_rfl)
        generalize vals 0 = v0 at *
        subst f0
        have f5 := hf 5 (by decide) (by kernel_rfl)
        generalize vals 5 = v5 at *
        subst f5
        clear hf
        go_wp2_with (fail)
        exact RQ.mk rfl ⟨(by first | rfl | (simp [FS66_6]; done) | (simp [FS66_6, *]; done) | (simp [FS66_6, gotV]; done) | (simp [FS66_6, gotV]; omega)), fun h => absurd h (by decide)⟩ (Below.refl _ _)
      | 7, _ =>
        injection ho with ho
        subst ho
        clear hl
        simp only [fillA, List.take, List.drop, put_none, Act.put, List.setIfInBounds_toArray, List.set_cons_zero, List.set_cons_succ, Nat.reduceAdd]
        clear hf
        have hc1 := cellOf hb1
        have hf1 := frozOf hb1
        have hz1 := sizeOf hb1
        try simp at hz1
        go_wp2_with (fail)
        exact RQ.mk rfl ⟨(by first | rfl | (simp [FS66_6]; done) | (simp [FS66_6, *]; done) | (simp [FS66_6, gotV]; done) | (simp [FS66_6, gotV]; omega)), fun h => absurd h (by decide)⟩ (Below.refl _ _)
      | 8, _ =>
        injection ho with ho
        subst ho
        clear hl
        simp only [fillA, List.take, List.drop, put_none, Act.put, List.setIfInBounds_toArray, List.set_cons_zero, List.set_cons_succ, Nat.reduceAdd]
        clear hf
        go_wp2_with (fail)
        exact RQ.mk rfl ⟨(by first | rfl | (simp [FS66_6]; done) | (simp [FS66_6, *]; done) | (simp [FS66_6, gotV]; done) | (simp [FS66_6, gotV]; omega)), fun h => absurd h (by decide)⟩ (Below.refl _ _)
      | 9, _ =>
        injection ho with ho
        subst ho
        clear hl
        simp only [fillA, List.take, List.drop, put_none, Act.put, List.setIfInBounds_toArray, List.set_cons_zero, List.set_cons_succ, Nat.reduceAdd]
        clear hf
        go_wp2_with (fail)
        exact RQ.mk rfl ⟨(by first | rfl | (simp [FS66_6]; done) | (simp [FS66_6, *]; done) | (simp [FS66_6, gotV]; done) | (simp [FS66_6, gotV]; omega)), fun h => absurd h (by decide)⟩ (Below.refl _ _)
      | 10, _ =>
        injection ho with ho
        subst ho
        clear hl
        simp only [fillA, List.take, List.drop, put_none, Act.put, List.setIfInBounds_toArray, List.set_cons_zero, List.set_cons_succ, Nat.reduceAdd]
        have f7 := hf 7 (by decide) (by kernel_rfl)
        generalize vals 7 = v7 at *
        subst f7
        have f8 := hf 8 (by decide) (by kernel_rfl)
        generalize vals 8 = v8 at *
        subst f8
        have f9 := hf 9 (by decide) (by kernel_rfl)
        generalize vals 9 = v9 at *
        subst f9
        clear hf
        have hc1 := cellOf hb1
        have hf1 := frozOf hb1
        have hz1 := sizeOf hb1
        try simp at hz1
        go_wp2_with (first | (first | (go_at_call 50; refine (c_spec_l12Out _ _ _ _ fs _ _ ps _ _ pl _ _ k x _ (by first | assumption | exact Rds.below hx (by (repeat' (first | exact Below.refl _ _ | assumption | refine Below.setCell ?_ ?_ _ | refine Below.drew ?_ | refine Below.alloc ?_ ?_ _ | refine Below.trans ?_ (Below.mono (by assumption) ?_) | (simp; done) | (simp; omega) | omega)))) (by omega) (by first | assumption | exact Rds.below hy (by (repeat' (first | exact Below.refl _ _ | assumption | refine Below.setCell ?_ ?_ _ | refine Below.drew ?_ | refine Below.alloc ?_ ?_ _ | refine Below.trans ?_ (Below.mono (by assumption) ?_) | (simp; done) | (simp; omega) | omega)))) (by omega) (by first | assumption | exact Rds.below hr (by (repeat' (first | exact Below.refl _ _ | assumption | refine Below.setCell ?_ ?_ _ | refine Below.drew ?_ | refine Below.alloc ?_ ?_ _ | refine Below.trans ?_ (Below.mono (by assumption) ?_) | (simp; done) | (simp; omega) | omega)))) rfl (by omega) hpu (by omega) HXK.out hxb).mono ?_; rintro e w' ⟨rfl, hb⟩; have hc := cellOf hb; have hf := frozOf hb; have hz := sizeOf hb; try simp at hz)))
        exact RQ.mk rfl ⟨(by first | rfl | (simp [FS66_6]; done) | (simp [FS66_6, *]; done) | (simp [FS66_6, gotV]; done) | (simp [FS66_6, gotV]; omega)), fun h => absurd h (by decide)⟩ (by (repeat' (first | exact Below.refl _ _ | assumption | refine Below.setCell ?_ ?_ _ | refine Below.drew ?_ | refine Below.alloc ?_ ?_ _ | refine Below.trans ?_ (Below.mono (by assumption) ?_) | (simp; done) | (simp; omega) | omega)))
      | 11, _ =>
        injection ho with ho
        subst ho
        clear hl
        simp only [fillA, List.take, List.drop, put_none, Act.put, List.setIfInBounds_toArray, List.set_cons_zero, List.set_cons_succ, Nat.reduceAdd]
        have f6 := hf 6 (by decide) (by kernel_rfl)
        generalize vals 6 = v6 at *
        subst f6
        have f10 := hf 10 (by decide) (by kernel_rfl)
        generalize vals 10 = v10 at *
        subst f10
        clear hf
        go_wp2_with (fail)
        exact RQ.mk rfl ⟨(by first | rfl | (simp [FS66_6]; done) | (simp [FS66_6, *]; done) | (simp [FS66_6, gotV]; done) | (simp [FS66_6, gotV]; omega)), fun h => absurd h (by decide)⟩ (Below.refl _ _)
    · intro vals w1 hb1 hf hd
      simp only [fillA, List.take, List.drop, put_none, Act.put, List.setIfInBounds_toArray, List.set_cons_zero, List.set_cons_succ, Nat.reduceAdd]
      clear hd
      have f0 := hf 0 (by decide)
      generalize vals 0 = v0 at *
      subst f0
      have f1 := hf 1 (by decide)
      generalize vals 1 = v1 at *
      subst f1
      have f2 := hf 2 (by decide)
      generalize vals 2 = v2 at *
      subst f2
      have f3 := hf 3 (by decide)
      generalize vals 3 = v3 at *
      subst f3
      have f4 := hf 4 (by decide)
      generalize vals 4 = v4 at *
      subst f4
      have f5 := hf 5 (by decide)
      generalize vals 5 = v5 at *
      subst f5
      have f6 := hf 6 (by decide)
      generalize vals 6 = v6 at *
      subst f6
      have f7 := hf 7 (by decide)
      generalize vals 7 = v7 at *
      subst f7
      have f8 := hf 8 (by decide)
      generalize vals 8 = v8 at *
      subst f8
      have f9 := hf 9 (by decide)
      generalize vals 9 = v9 at *
      subst f9
      have f10 := hf 10 (by decide)
      generalize vals 10 = v10 at *
      subst f10
      have f11 := hf 11 (by decide)
      generalize vals 11 = v11 at *
      subst f11
      clear hf
      have hc1 := cellOf hb1
      have hf1 := frozOf hb1
      have hz1 := sizeOf hb1
      try simp at hz1
      go_wp2_with (at_builtin; refine wpList_push rfl (.tmp 29) (.tmp 31) 22 rfl 3 i0 _ 1 8 Try.underlying22 hI0 hI1 hI2 hI3 rfl (by decide) (fun _ => rfl) one_In ((w.heap.size + 1)) A' k cp ((levsTo v fs pl ps k)) HLL.out rfl (HF.out.below (by (repeat' (first | exact Below.refl _ _ | assumption | refine Below.setCell ?_ ?_ _ | refine Below.drew ?_ | refine Below.alloc ?_ ?_ _ | refine Below.trans ?_ (Below.mono (by assumption) ?_) | (simp; done) | (simp; omega) | omega)))) ((lv + f - outTo ps x ps.length)) _ 1 rfl ?_ ?_ ?_ ?_ ?_; (refine news_In _ _ _ ?_ <;> simp [go_sem, ↓IntWalk.iteOmega]); (unfold maxLen; omega); omega; (simp; omega); intro A3 cp3 w3 hF3 hg3 hat3; have hc3 := cellGrown hg3 hlo hhi; have hf3 := frozGrown hg3 hlo hhi; have hs3 := hg3.size; (try simp at hs3); have hb3 := below_of_grown (B := w.heap.size) hg3 (hlo.mono (by omega)) (by simp; omega))
      go_roundw
      case rel =>
        refine ⟨k + 1, A3, cp3, by omega, by go_num, rfl, by rw [HL1.out], by rw [HLS2.out]; exact hF3, ?_, ?_, ?_, ?_, ?_, ?_, by (repeat' (first | exact Below.refl _ _ | assumption | refine Below.setCell ?_ ?_ _ | refine Below.drew ?_ | refine Below.alloc ?_ ?_ _ | refine Below.trans ?_ (Below.mono (by assumption) ?_) | (simp; done) | (simp; omega) | omega))⟩
        all_goals first | (simp [go_sem, ↓IntWalk.iteOmega, *]; done) | (simp [go_sem, ↓IntWalk.iteOmega, *]; omega) | omega
      case measure => simp [intOf]; omega

set_option maxRecDepth 100000 in
set_option maxHeartbeats 4000000 in
theorem c_spec_LevelsWith (l h v : Int) (A : Option Addr) (fs : List Int) (capf : Nat) (B : Option Addr) (ps : List (Int × Int × Int)) (capq : Nat) (C : Option Addr) (pl : List Int) (capp : Nat) (w : World) (hx : Rds cIn 1 w A fs) (hn : fs.length ≤ 9223372036854775807) (hy : Rds cPu 3 w B ps) (hm : ps.length ≤ 9223372036854775807) (hr : Rds cIn 1 w C pl) (hnr : pl.length ≤ 9223372036854775807) :
    Calls Try.prog 32 #[.agg #[.int .i64 l, .int .i64 h, .int .i64 v, .slice A fs.length capf, .slice B ps.length capq], .slice C pl.length capp] w fun e w' => ∃ A' cap', e = .returned (.tuple #[.slice A' (levV l h v fs ps pl).1.length cap', .bool (levV l h v fs ps pl).2]) ∧ FreshA cIn 1 3 w.heap.size w' A' cap' (levV l h v fs ps pl).1 ∧ Below w.heap.size w w' := by
  skip
  by_cases hs0 : planB l h v fs ps pl = true
  rotate_left
  · have hn0 : planB l h v fs ps pl = false := Bool.eq_false_iff.2 hs0
    have HV := hid (show levV l h v fs ps pl = ([], false) by simp [levV, hn0])
    clear hs0
    go_enter Try.func32, Try.ntmps32
    go_wp2_with (first | (go_at_call 49; refine (c_spec_l12Plan _ _ _ _ _ _ _ _ _ _ _ _ _ (by first | assumption | exact Rds.below hx (by (repeat' (first | exact Below.refl _ _ | assumption | refine Below.setCell ?_ ?_ _ | refine Below.drew ?_ | refine Below.alloc ?_ ?_ _ | refine Below.trans ?_ (Below.mono (by assumption) ?_) | (simp; done) | (simp; omega) | omega)))) (by omega) (by first | assumption | exact Rds.below hy (by (repeat' (first | exact Below.refl _ _ | assumption | refine Below.setCell ?_ ?_ _ | refine Below.drew ?_ | refine Below.alloc ?_ ?_ _ | refine Below.trans ?_ (Below.mono (by assumption) ?_) | (simp; done) | (simp; omega) | omega)))) (by omega) (by first | assumption | exact Rds.below hr (by (repeat' (first | exact Below.refl _ _ | assumption | refine Below.setCell ?_ ?_ _ | refine Below.drew ?_ | refine Below.alloc ?_ ?_ _ | refine Below.trans ?_ (Below.mono (by assumption) ?_) | (simp; done) | (simp; omega) | omega)))) (by omega)).mono ?_; rintro e w' ⟨rfl, hb⟩; have hc := cellOf hb; have hf := frozOf hb; have hz := sizeOf hb; try simp at hz))
    go_ret2
    simp only [HV.out]
    exact ⟨_, _, rfl, FreshA.new (by first | omega | (simp at *; omega)), by (repeat' (first | exact Below.refl _ _ | assumption | refine Below.setCell ?_ ?_ _ | refine Below.drew ?_ | refine Below.alloc ?_ ?_ _ | refine Below.trans ?_ (Below.mono (by assumption) ?_) | (simp; done) | (simp; omega) | omega))⟩
  obtain ⟨hv, hn2, hl1, hnr5, hfl, hpu, hbt⟩ := planB_facts hs0
  have HV := hid (show levV l h v fs ps pl = (levsTo v fs pl ps pl.length, true) by simp [levV, hs0])
  have HLL := hid (levsTo_len (v := v) (fs := fs) (pl := pl) (ps := ps) pl.length)
  go_enter Try.func32, Try.ntmps32
  go_wp2_with (first | (first | (go_at_call 49; refine (c_spec_l12Plan _ _ _ _ _ _ _ _ _ _ _ _ _ (by first | assumption | exact Rds.below hx (by (repeat' (first | exact Below.refl _ _ | assumption | refine Below.setCell ?_ ?_ _ | refine Below.drew ?_ | refine Below.alloc ?_ ?_ _ | refine Below.trans ?_ (Below.mono (by assumption) ?_) | (simp; done) | (simp; omega) | omega)))) (by omega) (by first | assumption | exact Rds.below hy (by (repeat' (first | exact Below.refl _ _ | assumption | refine Below.setCell ?_ ?_ _ | refine Below.drew ?_ | refine Below.alloc ?_ ?_ _ | refine Below.trans ?_ (Below.mono (by assumption) ?_) | (simp; done) | (simp; omega) | omega)))) (by omega) (by first | assumption | exact Rds.below hr (by (repeat' (first | exact Below.refl _ _ | assumption | refine Below.setCell ?_ ?_ _ | refine Below.drew ?_ | refine Below.alloc ?_ ?_ _ | refine Below.trans ?_ (Below.mono (by assumption) ?_) | (simp; done) | (simp; omega) | omega)))) (by omega)).mono ?_; rintro e w' ⟨rfl, hb⟩; have hc := cellOf hb; have hf := frozOf hb; have hz := sizeOf hb; try simp at hz)) | (go_at_call 66; refine (c_spec_l12Levels _ _ _ _ fs _ _ ps _ _ pl _ _ (by first | assumption | exact Rds.below hx (by (repeat' (first | exact Below.refl _ _ | assumption | refine Below.setCell ?_ ?_ _ | refine Below.drew ?_ | refine Below.alloc ?_ ?_ _ | refine Below.trans ?_ (Below.mono (by assumption) ?_) | (simp; done) | (simp; omega) | omega)))) (by omega) (by first | assumption | exact Rds.below hy (by (repeat' (first | exact Below.refl _ _ | assumption | refine Below.setCell ?_ ?_ _ | refine Below.drew ?_ | refine Below.alloc ?_ ?_ _ | refine Below.trans ?_ (Below.mono (by assumption) ?_) | (simp; done) | (simp; omega) | omega)))) (by omega) (by first | assumption | exact Rds.below hr (by (repeat' (first | exact Below.refl _ _ | assumption | refine Below.setCell ?_ ?_ _ | refine Below.drew ?_ | refine Below.alloc ?_ ?_ _ | refine Below.trans ?_ (Below.mono (by assumption) ?_) | (simp; done) | (simp; omega) | omega)))) (by omega) (by omega) hfl hpu (by omega) (by omega) hbt).mono ?_; rintro e w' ⟨A9, c9, rfl, hF9, hb⟩; have hc := cellOf hb; have hf := frozOf hb; have hz := sizeOf hb; try simp at hz))
  go_ret2
  simp only [HV.out]
  exact ⟨A9, c9, by first | (rw [HLL.out]; done) | (rw [HLL.out]; rfl), hF9.mono (by first | omega | (simp; done) | (simp; omega) | (simp at *; omega)), by (repeat' (first | exact Below.refl _ _ | assumption | refine Below.setCell ?_ ?_ _ | refine Below.drew ?_ | refine Below.alloc ?_ ?_ _ | refine Below.trans ?_ (Below.mono (by assumption) ?_) | (simp; done) | (simp; omega) | omega))⟩

end Go.Proofs.Ytpaclngjmdacjaa
