import Derived.Test.YtpaclngjmdacjaaE10
import Derived.Test.YtpaclngjmdacjaaE6l
namespace Go.Proofs.Ytpaclngjmdacjaa
set_option linter.unusedSimpArgs false
set_option linter.unusedVariables false
open Go.RowKit

def FS56_5 (l h vv : Int) (A : Option Addr) (nf capf : Nat) (B : Option Addr) (np capq : Nat) (x : Int) (bx ox k n0 c9 : Nat) (w W0 : World) (iq : Nat) (v : Value) (w1 : World) : Prop := match iq with
  | 0 => v = .slice (some ⟨bx, ox, none⟩) n0 c9
  | 1 => v = .int .i64 (k)
  | 2 => v = .pointer (some ⟨bx, ox + k, none⟩)
  | 3 => v = .int .i64 (x)
  | 4 => v = .pointer (some ⟨w.heap.size, 0, none⟩)
  | 5 => v = .int .i64 (l)
  | 6 => v = .pointer (some ⟨w.heap.size, 1, none⟩)
  | 7 => v = .int .i64 (h)
  | 8 => v = .bool (inB (x) (l) (h))
  | 9 => v = .bool (!(inB (x) (l) (h)))
  | _ => True

set_option maxRecDepth 100000 in
set_option maxHeartbeats 4000000 in
theorem c_spec_l12Unsafe (l h v : Int) (A : Option Addr) (fs : List Int) (capf : Nat) (B : Option Addr) (ps : List (Int × Int × Int)) (capq : Nat) (C : Option Addr) (pl : List Int) (capp : Nat) (w : World) (hx : Rds cIn 1 w A fs) (hn : fs.length ≤ 9223372036854775807) (hy : Rds cPu 3 w B ps) (hm : ps.length ≤ 9223372036854775807) (hr : Rds cIn 1 w C pl) (hnr : pl.length ≤ 5) (hv : 0 ≤ v ∧ v ≤ 500) (hfl : ∀ k (hk : k < fs.length), -50 ≤ fs[k] ∧ fs[k] ≤ 50) (hpu : ∀ k (hk : k < ps.length), puOk ps[k] = true) (hn2 : ps.length ≤ 2) (hl1 : pl.length ≤ fs.length) (hbt : ∀ k (hk : k < pl.length), 0 ≤ pl[k] ∧ pl[k] ≤ 3) :
    Calls Try.prog 56 #[.agg #[.int .i64 l, .int .i64 h, .int .i64 v, .slice A fs.length capf, .slice B ps.length capq], .slice C pl.length capp] w fun e w' => e = .returned (.int .i64 (idxF (outL l h) (levsTo v fs pl ps pl.length))) ∧ Below w.heap.size w w' := by
  have HLL := hid (levsTo_len (v := v) (fs := fs) (pl := pl) (ps := ps) pl.length)
  obtain ⟨ls, hls⟩ : ∃ ls, ls = levsTo v fs pl ps pl.length := ⟨_, rfl⟩
  have HLS := hid hls
  rw [← hls]
  rw [← hls] at HLL
  clear hls
  obtain ⟨n, hnn⟩ : ∃ n, n = pl.length := ⟨_, rfl⟩
  have HN := hid hnn
  have hnb : n ≤ 5 := by omega
  clear hnn
  go_enter Try.func56, Try.ntmps56
  go_wp2_with (first | (go_at_call 66; refine (c_spec_l12Levels _ _ _ _ fs _ _ ps _ _ pl _ _ (by first | assumption | exact Rds.below hx (by (repeat' (first | exact Below.refl _ _ | assumption | refine Below.setCell ?_ ?_ _ | refine Below.drew ?_ | refine Below.alloc ?_ ?_ _ | refine Below.trans ?_ (Below.mono (by assumption) ?_) | (simp; done) | (simp; omega) | omega)))) (by omega) (by first | assumption | exact Rds.below hy (by (repeat' (first | exact Below.refl _ _ | assumption | refine Below.setCell ?_ ?_ _ | refine Below.drew ?_ | refine Below.alloc ?_ ?_ _ | refine Below.trans ?_ (Below.mono (by assumption) ?_) | (simp; done) | (simp; omega) | omega)))) (by omega) (by first | assumption | exact Rds.below hr (by (repeat' (first | exact Below.refl _ _ | assumption | refine Below.setCell ?_ ?_ _ | refine Below.drew ?_ | refine Below.alloc ?_ ?_ _ | refine Below.trans ?_ (Below.mono (by assumption) ?_) | (simp; done) | (simp; omega) | omega)))) (by omega) (by omega) hfl hpu (by omega) (by omega) hbt).mono ?_; rw [← HLS.out, ← HN.out]; rintro e w' ⟨A9, c9, rfl, hF9, hb⟩; have hr9 := hF9.rds; have hlo9 : Lo w.heap.size A9 := hF9.lo.mono (by first | omega | (simp; done) | (simp; omega)); clear hF9; have hc := cellOf hb; have hf := frozOf hb; have hz := sizeOf hb; try simp at hz))
  clear hfl hpu hbt
  go_loopw [6] (fun i wr => ∃ k : Nat, k ≤ n ∧ i = .int .i64 k ∧ (ls.take k).any (outL l h) = false ∧ Rds cIn 1 wr A9 ls ∧ wr.cell? ⟨w.heap.size, 0, none⟩ = some (.int .i64 l) ∧ wr.cell? ⟨w.heap.size, 1, none⟩ = some (.int .i64 h) ∧ wr.cell? ⟨w.heap.size, 2, none⟩ = some (.int .i64 v) ∧ wr.cell? ⟨w.heap.size, 3, none⟩ = some (.slice A fs.length capf) ∧ wr.cell? ⟨w.heap.size, 4, none⟩ = some (.slice B ps.length capq) ∧ w.heap.size + 1 ≤ wr.heap.size ∧ Below w.heap.size w wr) (fun i _ => n - (intOf i).toNat)
  case atStart =>
    refine ⟨0, Nat.zero_le _, rfl, rfl, hr9, ?_, ?_, ?_, ?_, ?_, ?_, by (repeat' (first | exact Below.refl _ _ | assumption | refine Below.setCell ?_ ?_ _ | refine Below.drew ?_ | refine Below.alloc ?_ ?_ _ | refine Below.trans ?_ (Below.mono (by assumption) ?_) | (simp; done) | (simp; omega) | omega))⟩
    all_goals first | (simp [go_sem, ↓IntWalk.iteOmega, *]; done) | (simp at *; omega) | (simp [go_sem, ↓IntWalk.iteOmega, *]; omega)
  case round =>
    obtain ⟨k, hk, rfl, han, hrr, hp0, hp1, hp2, hp3, hp4, hzz, hbr⟩ := hrel
    clear hc hf hz hr9
    have hc := cellOf hbr
    have hf := frozOf hbr
    have hz := sizeOf hbr
    have hp0' : far _ _ _ = _ := hp0
    have hp1' : far _ _ _ = _ := hp1
    have hp2' : far _ _ _ = _ := hp2
    have hp3' : far _ _ _ = _ := hp3
    have hp4' : far _ _ _ = _ := hp4
    have HA := hid han
    clear han
    by_cases hlt : k < n
    · have hlt2 : k < ls.length := by rw [HLL.out, ← HN.out]; exact hlt
      obtain ⟨bx, ox, rfl, hbx, hcx⟩ := hrr k ls[k] (List.getElem?_eq_getElem hlt2)
      have hx0 := hcx 0 _ rfl
      simp only [Nat.add_zero, Nat.mul_one] at hx0
      have hbl : w.heap.size ≤ bx := hlo9 _ rfl
      have hx0' : far _ _ _ = _ := hx0
      have HR := hid hrr
      have HS := hid (any_snoc (outL l h) ls k hlt2)
      have HH := hid (fun hp => idxF_hit (p := outL l h) (xs := ls) HA.out hlt2 hp)
      clear hcx hrr
      generalize ls[k] = x at *
      go_wp2_with (fail)
      refine wp_region_w (n := 10) [] [] (FS56_5 l h v A fs.length capf B ps.length capq x bx ox k n c9 w) rfl (by kernel_rfl) (fun _ _ d _ _ h => by cases d <;> exact h) ?_ ?_ ?_ ?_ ?_ ?_
      · intro iq
        match iq with
        | 0 | 1 | 2 | 3 | 4 | 5 | 6 | 7 | 8 | 9 => exact Stable.const _
        | n + 10 => exact Stable.const _
      · intro iq hi
        exact absurd hi (by simp)
      · intro iq hi
        exact absurd hi (by simp)
      · intro iq o hi hl ho vals w1 hb1 hf
        exact absurd hl (by simp)
      · intro iq o hi hl ho vals w1 hb1 hf
        match iq, hi with
        | 0, _ =>
          injection ho with ho
          subst ho
          clear hl
          simp only [fillA, List.take, List.drop, put_none, Act.put, List.setIfInBounds_toArray, List.set_cons_zero, List.set_cons_succ, Nat.reduceAdd]
          clear hf
          go_wp2_with (fail)
          exact RQ.mk rfl ⟨(by first | rfl | (simp [FS56_5]; done) | (simp [FS56_5, *]; done) | (simp [FS56_5, gotV]; done) | (simp [FS56_5, gotV]; omega)), fun h => absurd h (by decide)⟩ (Below.refl _ _)
        | 1, _ =>
          injection ho with ho
          subst ho
          clear hl
          simp only [fillA, List.take, List.drop, put_none, Act.put, List.setIfInBounds_toArray, List.set_cons_zero, List.set_cons_succ, Nat.reduceAdd]
          clear hf
          go_wp2_with (fail)
          exact RQ.mk rfl ⟨(by first | rfl | (simp [FS56_5]; done) | (simp [FS56_5, *]; done) | (simp [FS56_5, gotV]; done) | (simp [FS56_5, gotV]; omega)), fun h => absurd h (by decide)⟩ (Below.refl _ _)
        | 2, _ =>
          injection ho with ho
          subst ho
          clear hl
          simp only [fillA, List.take, List.drop, put_none, Act.put, List.setIfInBounds_toArray, List.set_cons_zero, List.set_cons_succ, Nat.reduceAdd]
          have f0 := hf 0 (by decide) (by kernel_rfl)
          generalize vals 0 = v0 at *
          subst f0
          have f1 := hf 1 (by decide) (by kernel_rfl)
          generalize vals 1 = v1 at *
          subst f1
          clear hf
          go_wp2_with (fail)
          exact RQ.mk rfl ⟨(by first | rfl | (simp [FS56_5]; done) | (simp [FS56_5, *]; done) | (simp [FS56_5, gotV]; done) | (simp [FS56_5, gotV]; omega)), fun h => absurd h (by decide)⟩ (Below.refl _ _)
        | 3, _ =>
          injection ho with ho
          subst ho
          clear hl
          simp only [fillA, List.take, List.drop, put_none, Act.put, List.setIfInBounds_toArray, List.set_cons_zero, List.set_cons_succ, Nat.reduceAdd]
          have f2 := hf 2 (by decide) (by kernel_rfl)
          generalize vals 2 = v2 at *
          subst f2
          clear hf
          have hc1 := cellOf hb1
          have hf1 := frozOf hb1
          have hz1 := sizeOf hb1
          try simp at hz1
          go_wp2_with (fail)
          exact RQ.mk rfl ⟨(by first | rfl | (simp [FS56_5]; done) | (simp [FS56_5, *]; done) | (simp [FS56_5, gotV]; done) | (simp [FS56_5, gotV]; omega)), fun h => absurd h (by decide)⟩ (Below.refl _ _)
        | 4, _ =>
          injection ho with ho
          subst ho
          clear hl
          simp only [fillA, List.take, List.drop, put_none, Act.put, List.setIfInBounds_toArray, List.set_cons_zero, List.set_cons_succ, Nat.reduceAdd]
          clear hf
          go_wp2_with (fail)
          exact RQ.mk rfl ⟨(by first | rfl | (simp [FS56_5]; done) | (simp [FS56_5, *]; done) | (simp [FS56_5, gotV]; done) | (simp [FS56_5, gotV]; omega)), fun h => absurd h (by decide)⟩ (Below.refl _ _)
        | 5, _ =>
          injection ho with ho
          subst ho
          clear hl
          simp only [fillA, List.take, List.drop, put_none, Act.put, List.setIfInBounds_toArray, List.set_cons_zero, List.set_cons_succ, Nat.reduceAdd]
          have f4 := hf 4 (by decide) (by kernel_rfl)
          generalize vals 4 = v4 at *
          subst f4
          clear hf
          have hc1 := cellOf hb1
          have hf1 := frozOf hb1
          have hz1 := sizeOf hb1
          try simp at hz1
          go_wp2_with (fail)
          exact RQ.mk rfl ⟨(by first | rfl | (simp [FS56_5]; done) | (simp [FS56_5, *]; done) | (simp [FS56_5, gotV]; done) | (simp [FS56_5, gotV]; omega)), fun h => absurd h (by decide)⟩ (Below.refl _ _)
        | 6, _ =>
          injection ho with ho
          subst ho
          clear hl
          simp only [fillA, List.take, List.drop, put_none, Act.put, List.setIfInBounds_toArray, List.set_cons_zero, List.set_cons_succ, Nat.reduceAdd]
          clear hf
          go_wp2_with (fail)
          exact RQ.mk rfl ⟨(by first | rfl | (simp [FS56_5]; done) | (simp [FS56_5, *]; done) | (simp [FS56_5, gotV]; done) | (simp [FS56_5, gotV]; omega)), fun h => absurd h (by decide)⟩ (Below.refl _ _)
        | 7, _ =>
          injection ho with ho
          subst ho
          clear hl
          simp only [fillA, List.take, List.drop, put_none, Act.put, List.setIfInBounds_toArray, List.set_cons_zero, List.set_cons_succ, Nat.reduceAdd]
          have f6 := hf 6 (by decide) (by kernel_rfl)
          generalize vals 6 = v6 at *
          subst f6
          clear hf
          have hc1 := cellOf hb1
          have hf1 := frozOf hb1
          have hz1 := sizeOf hb1
          try simp at hz1
          go_wp2_with (fail)
          exact RQ.mk rfl ⟨(by first | rfl | (simp [FS56_5]; done) | (simp [FS56_5, *]; done) | (simp [FS56_5, gotV]; done) | (simp [FS56_5, gotV]; omega)), fun h => absurd h (by decide)⟩ (Below.refl _ _)
        | 8, _ =>
          injection ho with ho
          subst ho
          clear hl
          simp only [fillA, List.take, List.drop, put_none, Act.put, List.setIfInBounds_toArray, List.set_cons_zero, List.set_cons_succ, Nat.reduceAdd]
          have f3 := hf 3 (by decide) (by kernel_rfl)
          generalize vals 3 = v3 at *
          subst f3
          have f5 := hf 5 (by decide) (by kernel_rfl)
          generalize vals 5 = v5 at *
          subst f5
          have f7 := hf 7 (by decide) (by kernel_rfl)
          generalize vals 7 = v7 at *
          subst f7
          clear hf
          have hc1 := cellOf hb1
          have hf1 := frozOf hb1
          have hz1 := sizeOf hb1
          try simp at hz1
          go_wp2_with (first | (go_at_call 59; refine (c_spec_l1In _ _ _ _ ).mono ?_; rintro e w' ⟨rfl, hb⟩; have hc := cellOf hb; have hf := frozOf hb; have hz := sizeOf hb; try simp at hz))
          exact RQ.mk rfl ⟨(by first | rfl | (simp [FS56_5]; done) | (simp [FS56_5, *]; done) | (simp [FS56_5, gotV]; done) | (simp [FS56_5, gotV]; omega)), fun h => absurd h (by decide)⟩ (by (repeat' (first | exact Below.refl _ _ | assumption | refine Below.setCell ?_ ?_ _ | refine Below.drew ?_ | refine Below.alloc ?_ ?_ _ | refine Below.trans ?_ (Below.mono (by assumption) ?_) | (simp; done) | (simp; omega) | omega)))
        | 9, _ =>
          injection ho with ho
          subst ho
          clear hl
          simp only [fillA, List.take, List.drop, put_none, Act.put, List.setIfInBounds_toArray, List.set_cons_zero, List.set_cons_succ, Nat.reduceAdd]
          have f8 := hf 8 (by decide) (by kernel_rfl)
          generalize vals 8 = v8 at *
          subst f8
          clear hf
          go_wp2_with (fail)
          exact RQ.mk rfl ⟨(by first | rfl | (simp [FS56_5]; done) | (simp [FS56_5, *]; done) | (simp [FS56_5, gotV]; done) | (simp [FS56_5, gotV]; omega)), fun h => absurd h (by decide)⟩ (Below.refl _ _)
      · intro vals w1 hb1 hf hd
        simp only [fillA, List.take, List.drop, put_none, Act.put, List.setIfInBounds_toArray, List.set_cons_zero, List.set_cons_succ, Nat.reduceAdd]
        clear hd
        have f0 := hf 0 (by decide)
        generalize vals 0 = v0 at *
        subst f0
        have f1 := hf 1 (by decide)
        generalize vals 1 = v1 at *
        subst f1
        have f2 := hf 2 (by decide)
        generalize vals 2 = v2 at *
        subst f2
        have f3 := hf 3 (by decide)
        generalize vals 3 = v3 at *
        subst f3
        have f4 := hf 4 (by decide)
        generalize vals 4 = v4 at *
        subst f4
        have f5 := hf 5 (by decide)
        generalize vals 5 = v5 at *
        subst f5
        have f6 := hf 6 (by decide)
        generalize vals 6 = v6 at *
        subst f6
        have f7 := hf 7 (by decide)
        generalize vals 7 = v7 at *
        subst f7
        have f8 := hf 8 (by decide)
        generalize vals 8 = v8 at *
        subst f8
        have f9 := hf 9 (by decide)
        generalize vals 9 = v9 at *
        subst f9
        clear hf
        have hc1 := cellOf hb1
        have hf1 := frozOf hb1
        have hz1 := sizeOf hb1
        try simp at hz1
        by_cases hg : inB x l h = true
        · have HG : Hid (outL l h x = false) := by show _ = _; simp [outL, hg]
          clear HH
          simp only [hg]
          go_wp2_with (fail)
          go_roundw
          case rel =>
            refine ⟨k + 1, by omega, by go_num, by rw [HS.out, HA.out, HG.out]; rfl, HR.out.below (by (repeat' (first | exact Below.refl _ _ | assumption | refine Below.setCell ?_ ?_ _ | refine Below.drew ?_ | refine Below.alloc ?_ ?_ _ | refine Below.trans ?_ (Below.mono (by assumption) ?_) | (simp; done) | (simp; omega) | omega))), ?_, ?_, ?_, ?_, ?_, ?_, by (repeat' (first | exact Below.refl _ _ | assumption | refine Below.setCell ?_ ?_ _ | refine Below.drew ?_ | refine Below.alloc ?_ ?_ _ | refine Below.trans ?_ (Below.mono (by assumption) ?_) | (simp; done) | (simp; omega) | omega))⟩
            all_goals first | (simp [go_sem, ↓IntWalk.iteOmega, *]; done) | (simp [go_sem, ↓IntWalk.iteOmega, *]; omega) | omega
          case measure => simp [intOf]; omega
        · have hgf : inB x l h = false := by simpa using hg
          have HV := hid (HH.out (by simp [outL, hgf]))
          clear hg HH
          simp only [hgf]
          go_wp2_with (fail)
          go_ret
          exact ⟨ret_int (by rw [HV.out]), by (repeat' (first | exact Below.refl _ _ | assumption | refine Below.setCell ?_ ?_ _ | refine Below.drew ?_ | refine Below.alloc ?_ ?_ _ | refine Below.trans ?_ (Below.mono (by assumption) ?_) | (simp; done) | (simp; omega) | omega))⟩
    · obtain rfl : k = n := by omega
      have HV := hid (idxF_none (p := outL l h) (xs := ls) (by have := HA.out; rwa [List.take_of_length_le (by rw [HLL.out, ← HN.out]; exact Nat.le_refl _)] at this))
      go_wp2_with (fail)
      go_ret
      exact ⟨ret_int (by rw [HV.out]), by (repeat' (first | exact Below.refl _ _ | assumption | refine Below.setCell ?_ ?_ _ | refine Below.drew ?_ | refine Below.alloc ?_ ?_ _ | refine Below.trans ?_ (Below.mono (by assumption) ?_) | (simp; done) | (simp; omega) | omega))⟩

end Go.Proofs.Ytpaclngjmdacjaa
