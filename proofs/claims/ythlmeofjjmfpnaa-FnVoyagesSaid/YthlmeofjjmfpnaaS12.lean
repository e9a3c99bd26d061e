import Derived.Test.YthlmeofjjmfpnaaS9
namespace Go.Proofs.Ythlmeofjjmfpnaa
set_option linter.unusedSimpArgs false
set_option linter.unusedVariables false
open Go.RowKit

def FS39_8 (w5 : World) (x p : Int × Int) (bx ox k n0 cap : Nat) (w W0 : World) (iq : Nat) (v : Value) (w1 : World) : Prop := match iq with
  | 0 => v = .agg #[.int .i64 (p.1), .int .i64 (p.2)]
  | 1 => v = .slice (some ⟨bx, ox, none⟩) n0 cap
  | 2 => v = .int .i64 (k)
  | 3 => v = .pointer (some ⟨bx, ox + k * 2, none⟩)
  | 4 => v = .agg #[.int .i64 (x.1), .int .i64 (x.2)]
  | 5 => v = .agg #[.int .i64 ((p.1) + (x.1)), .int .i64 ((p.2) + (x.2))]
  | _ => True

set_option maxRecDepth 100000 in
set_option maxHeartbeats 4000000 in
theorem c_spec_AlongVoyage (a b : Int) (A : Option Addr) (xs : List (Int × Int)) (cap : Nat) (w : World) (hx : Rds cLeg 2 w A xs) (hn : xs.length ≤ 2000000) :
    Calls Try.prog 39 #[.agg #[.int .i64 a, .int .i64 b], .slice A xs.length cap] w fun e w' => ∃ A' cap', e = .returned (.tuple #[.slice A' (alongV a b xs).1.length cap', .bool (alongV a b xs).2]) ∧ FreshA cIv 2 25 w.heap.size w' A' cap' (alongV a b xs).1 ∧ Below w.heap.size w w' := by
  obtain ⟨i0, hI0, hI1, hI2, hI3⟩ := info_parts info_Iv
  by_cases hs0 : goodI a b = true
  rotate_left
  · have hn0 : goodI a b = false := by simpa using hs0
    have hV : alongV a b xs = ([], false) := by simp [alongV, hn0]
    simp only [hV]
    clear hs0 hV
    go_enter Try.func39, Try.ntmps39
    go_wp2_with (first | (go_at_call 55; refine (c_spec_l13Good _ _ _).mono ?_; rintro e w4 ⟨rfl, hb4⟩; have hc4 := cellOf hb4; have hf4 := frozOf hb4; have hz4 := sizeOf hb4; (try simp at hz4)) | (go_at_call 67; refine (c_spec_l13Legs _ _ _ _ (by first | assumption | exact Rds.below hx (by (repeat' (first | exact Below.refl _ _ | assumption | refine Below.setCell ?_ ?_ _ | refine Below.drew ?_ | refine Below.alloc ?_ ?_ _ | refine Below.trans ?_ (Below.mono (by assumption) ?_) | (simp; done) | (simp; omega) | omega)))) (by omega)).mono ?_; rintro e w5 ⟨rfl, hb5⟩; have hc5 := cellOf hb5; have hf5 := frozOf hb5; have hz5 := sizeOf hb5; (try simp at hz5)))
    all_goals go_ret2
    all_goals
      refine ⟨_, _, rfl, .inr ⟨_, rfl, by omega, ?_⟩, by (repeat' (first | exact Below.refl _ _ | assumption | refine Below.setCell ?_ ?_ _ | refine Below.drew ?_ | refine Below.alloc ?_ ?_ _ | refine Below.trans ?_ (Below.mono (by assumption) ?_) | (simp; done) | (simp; omega) | omega))⟩
      refine OwnS.block (w := (w.alloc (.cells #[.int .i64 a, .int .i64 b] 25)).alloc (.cells #[] 25)) ⟨#[], by (have := heap_alloc_new (w.alloc (.cells #[.int .i64 a, .int .i64 b] 25)) (.cells #[] 25)); simpa using this, rfl, Nat.le_refl _, by unfold maxLen; omega, fun i x h => by simp at h⟩ ?_
      refine Below.block (B := w.heap.size + 2) ?_ _ (by omega)
      first | exact Below.refl _ _ | (refine Below.mono (B := ((w.alloc (.cells #[.int .i64 a, .int .i64 b] 25)).alloc (.cells #[] 25)).heap.size) ?_ (by simp); (repeat' (first | exact Below.refl _ _ | assumption | refine Below.setCell ?_ ?_ _ | refine Below.drew ?_ | refine Below.alloc ?_ ?_ _ | refine Below.trans ?_ (Below.mono (by assumption) ?_) | (simp; done) | (simp; omega) | omega)))
  by_cases hs1 : voyB xs = true
  rotate_left
  · have hn1 : voyB xs = false := by simpa using hs1
    have hV : alongV a b xs = ([], false) := by simp [alongV, hn1]
    simp only [hV]
    clear hs1 hV
    go_enter Try.func39, Try.ntmps39
    go_wp2_with (first | (go_at_call 55; refine (c_spec_l13Good _ _ _).mono ?_; rintro e w4 ⟨rfl, hb4⟩; have hc4 := cellOf hb4; have hf4 := frozOf hb4; have hz4 := sizeOf hb4; (try simp at hz4)) | (go_at_call 67; refine (c_spec_l13Legs _ _ _ _ (by first | assumption | exact Rds.below hx (by (repeat' (first | exact Below.refl _ _ | assumption | refine Below.setCell ?_ ?_ _ | refine Below.drew ?_ | refine Below.alloc ?_ ?_ _ | refine Below.trans ?_ (Below.mono (by assumption) ?_) | (simp; done) | (simp; omega) | omega)))) (by omega)).mono ?_; rintro e w5 ⟨rfl, hb5⟩; have hc5 := cellOf hb5; have hf5 := frozOf hb5; have hz5 := sizeOf hb5; (try simp at hz5)))
    all_goals go_ret2
    all_goals
      refine ⟨_, _, rfl, .inr ⟨_, rfl, by omega, ?_⟩, by (repeat' (first | exact Below.refl _ _ | assumption | refine Below.setCell ?_ ?_ _ | refine Below.drew ?_ | refine Below.alloc ?_ ?_ _ | refine Below.trans ?_ (Below.mono (by assumption) ?_) | (simp; done) | (simp; omega) | omega))⟩
      refine OwnS.block (w := (w.alloc (.cells #[.int .i64 a, .int .i64 b] 25)).alloc (.cells #[] 25)) ⟨#[], by (have := heap_alloc_new (w.alloc (.cells #[.int .i64 a, .int .i64 b] 25)) (.cells #[] 25)); simpa using this, rfl, Nat.le_refl _, by unfold maxLen; omega, fun i x h => by simp at h⟩ ?_
      refine Below.block (B := w.heap.size + 2) ?_ _ (by omega)
      first | exact Below.refl _ _ | (refine Below.mono (B := ((w.alloc (.cells #[.int .i64 a, .int .i64 b] 25)).alloc (.cells #[] 25)).heap.size) ?_ (by simp); (repeat' (first | exact Below.refl _ _ | assumption | refine Below.setCell ?_ ?_ _ | refine Below.drew ?_ | refine Below.alloc ?_ ?_ _ | refine Below.trans ?_ (Below.mono (by assumption) ?_) | (simp; done) | (simp; omega) | omega)))
  have hlen := voyB_len hs1
  have hbd := goodI_bd hs0
  go_enter Try.func39, Try.ntmps39
  go_wp2_with (first | (go_at_call 55; refine (c_spec_l13Good _ _ _).mono ?_; rintro e w4 ⟨rfl, hb4⟩; have hc4 := cellOf hb4; have hf4 := frozOf hb4; have hz4 := sizeOf hb4; (try simp at hz4)) | (go_at_call 67; refine (c_spec_l13Legs _ _ _ _ (by first | assumption | exact Rds.below hx (by (repeat' (first | exact Below.refl _ _ | assumption | refine Below.setCell ?_ ?_ _ | refine Below.drew ?_ | refine Below.alloc ?_ ?_ _ | refine Below.trans ?_ (Below.mono (by assumption) ?_) | (simp; done) | (simp; omega) | omega)))) (by omega)).mono ?_; rintro e w5 ⟨rfl, hb5⟩; have hc5 := cellOf hb5; have hf5 := frozOf hb5; have hz5 := sizeOf hb5; (try simp at hz5)))
  go_loopw [6, 8] (fun v i wr => ∃ (k : Nat) (A' : Option Addr) (cp : Nat), k ≤ xs.length ∧ i = .int .i64 k ∧ v = .slice A' k cp ∧ FreshA cIv 2 25 (w.heap.size + 1) wr A' cp (alongR a b xs k) ∧ NeB w5.heap.size A' ∧ (alongR a b xs k).all gI = true
      ∧ wr.cell? ⟨w5.heap.size, 0, none⟩ = some (.int .i64 (alongP a b xs k).1) ∧ wr.cell? ⟨w5.heap.size, 1, none⟩ = some (.int .i64 (alongP a b xs k).2) ∧ (∀ o, wr.frozen? ⟨w5.heap.size, o, none⟩ = false) ∧ w5.heap.size + 1 ≤ wr.heap.size ∧ Below w.heap.size w wr) (fun _ i _ => xs.length - (intOf i).toNat)
  case atStart =>
    refine ⟨0, _, _, Nat.zero_le _, rfl, rfl, .inr ⟨_, rfl, by omega, ?_⟩, ?_, rfl, ?_, ?_, ?_, ?_, ?_⟩
    · refine OwnS.block (w := (w.alloc (.cells #[.int .i64 a, .int .i64 b] 25)).alloc (.cells #[] 25)) ⟨#[], by (have := heap_alloc_new (w.alloc (.cells #[.int .i64 a, .int .i64 b] 25)) (.cells #[] 25)); simpa using this, rfl, by simp [alongR], by unfold maxLen; omega, fun i x h => by simp [alongR] at h⟩ ?_
      refine Below.block (B := w.heap.size + 2) ?_ _ (by omega)
      refine Below.mono (B := ((w.alloc (.cells #[.int .i64 a, .int .i64 b] 25)).alloc (.cells #[] 25)).heap.size) ?_ (by simp)
      (repeat' (first | exact Below.refl _ _ | assumption | refine Below.setCell ?_ ?_ _ | refine Below.drew ?_ | refine Below.alloc ?_ ?_ _ | refine Below.trans ?_ (Below.mono (by assumption) ?_) | (simp; done) | (simp; omega) | omega))
    · intro q hq
      cases hq
      simp only
      omega
    all_goals first | (simp [go_sem, ↓IntWalk.iteOmega, alongP_zero, *]; done) | (intro o; simp [go_sem, ↓IntWalk.iteOmega, *]; done) | (simp at *; omega) | ((repeat' (first | exact Below.refl _ _ | assumption | refine Below.setCell ?_ ?_ _ | refine Below.drew ?_ | refine Below.alloc ?_ ?_ _ | refine Below.trans ?_ (Below.mono (by assumption) ?_) | (simp; done) | (simp; omega) | omega)); done)
  case round =>
    obtain ⟨k, A', cp, hk, rfl, rfl, hF, hNe, hal, hb0, hb1, hfz, hz, hbr⟩ := hrel
    by_cases hlt : k < xs.length
    · obtain ⟨bx, ox, rfl, hbx, hcx⟩ := hx k xs[k] (List.getElem?_eq_getElem hlt)
      have h0 := hcx 0 _ rfl
      have h1 := hcx 1 _ rfl
      simp only [Nat.add_zero] at h0
      have HS := hid (alongP_step (a := a) (b := b) hs1 k hlt)
      have hgp := alongR_last (xs := xs) hs0 k hal
      have hlb := legsB_at (voyB_legs hs1) k hlt
      have HA := hid hal
      clear hx hcx hal
      generalize hxk : xs[k] = x at *
      generalize hpk : alongP a b xs k = p at *
      clear hxk hpk
      have hpb := goodI_bd hgp
      have hlbd := legB_bd hlb
      have HF := hid hF
      have HN := hid hNe
      clear hF hNe hgp hlb
      have hc := cellOf hbr
      have hb0' : far wr w5.heap.size 0 = _ := hb0
      have hb1' : far wr w5.heap.size 1 = _ := hb1
      have hfz' : ∀ o, farz wr w5.heap.size o = false := hfz
      go_wp2_with (fail)
      refine wp_region_w (n := 6) [] [] (FS39_8 w5 x p bx ox k xs.length cap w) rfl (by kernel_rfl) (fun _ _ d _ _ h => by cases d <;> exact h) ?_ ?_ ?_ ?_ ?_ ?_
      · intro iq
        match iq with
        | 0 | 1 | 2 | 3 | 4 | 5 => exact Stable.const _
        | n + 6 => exact Stable.const _
      · intro iq hi
        exact absurd hi (by simp)
      · intro iq hi
        exact absurd hi (by simp)
      · intro iq o hi hl ho vals w1 hb1 hf
        exact absurd hl (by simp)
      · intro iq o hi hl ho vals w1 hb1 hf
        match iq, hi with
        | 0, _ =>
          injection ho with ho
          subst ho
          clear hl
          simp only [fillA, List.take, List.drop, put_none, Act.put, List.setIfInBounds_toArray, List.set_cons_zero, List.set_cons_succ, Nat.reduceAdd]
          clear hf
          have hc1 := cellOf hb1
          have hf1 := frozOf hb1
          have hz1 := sizeOf hb1
          try simp at hz1
          go_wp2_with (fail)
          exact RQ.mk rfl ⟨(by first | rfl | (simp [FS39_8]; done) | (simp [FS39_8, *]; done) | (simp [FS39_8, gotV]; done) | (simp [FS39_8, gotV]; omega)), fun h => absurd h (by decide)⟩ (Below.refl _ _)
        | 1, _ =>
          injection ho with ho
          subst ho
          clear hl
          simp only [fillA, List.take, List.drop, put_none, Act.put, List.setIfInBounds_toArray, List.set_cons_zero, List.set_cons_succ, Nat.reduceAdd]
          clear hf
          go_wp2_with (fail)
          exact RQ.mk rfl ⟨(by first | rfl | (simp [FS39_8]; done) | (simp [FS39_8, *]; done) | (simp [FS39_8, gotV]; done) | (simp [FS39_8, gotV]; omega)), fun h => absurd h (by decide)⟩ (Below.refl _ _)
        | 2, _ =>
          injection ho with ho
          subst ho
          clear hl
          simp only [fillA, List.take, List.drop, put_none, Act.put, List.setIfInBounds_toArray, List.set_cons_zero, List.set_cons_succ, Nat.reduceAdd]
          clear hf
          go_wp2_with (fail)
          exact RQ.mk rfl ⟨(by first | rfl | (simp [FS39_8]; done) | (simp [FS39_8, *]; done) | (simp [FS39_8, gotV]; done) | (simp [FS39_8, gotV]; omega)), fun h => absurd h (by decide)⟩ (Below.refl _ _)
        | 3, _ =>
          injection ho with ho
          subst ho
          clear hl
          simp only [fillA, List.take, List.drop, put_none, Act.put, List.setIfInBounds_toArray, List.set_cons_zero, List.set_cons_succ, Nat.reduceAdd]
          have f1 := hf 1 (by decide) (by kernel_rfl)
          generalize vals 1 = v1 at *
          subst f1
          have f2 := hf 2 (by decide) (by kernel_rfl)
          generalize vals 2 = v2 at *
          subst f2
          clear hf
          go_wp2_with (fail)
          exact RQ.mk rfl ⟨(by first | rfl | (simp [FS39_8]; done) | (simp [FS39_8, *]; done) | (simp [FS39_8, gotV]; done) | (simp [FS39_8, gotV]; omega)), fun h => absurd h (by decide)⟩ (Below.refl _ _)
        | 4, _ =>
          injection ho with ho
          subst ho
          clear hl
          simp only [fillA, List.take, List.drop, put_none, Act.put, List.setIfInBounds_toArray, List.set_cons_zero, List.set_cons_succ, Nat.reduceAdd]
          have f3 := hf 3 (by decide) (by kernel_rfl)
          generalize vals 3 = v3 at *
          subst f3
          clear hf
          have hc1 := cellOf hb1
          have hf1 := frozOf hb1
          have hz1 := sizeOf hb1
          try simp at hz1
          go_wp2_with (fail)
          exact RQ.mk rfl ⟨(by first | rfl | (simp [FS39_8]; done) | (simp [FS39_8, *]; done) | (simp [FS39_8, gotV]; done) | (simp [FS39_8, gotV]; omega)), fun h => absurd h (by decide)⟩ (Below.refl _ _)
        | 5, _ =>
          injection ho with ho
          subst ho
          clear hl
          simp only [fillA, List.take, List.drop, put_none, Act.put, List.setIfInBounds_toArray, List.set_cons_zero, List.set_cons_succ, Nat.reduceAdd]
          have f0 := hf 0 (by decide) (by kernel_rfl)
          generalize vals 0 = v0 at *
          subst f0
          have f4 := hf 4 (by decide) (by kernel_rfl)
          generalize vals 4 = v4 at *
          subst f4
          clear hf
          have hc1 := cellOf hb1
          have hf1 := frozOf hb1
          have hz1 := sizeOf hb1
          try simp at hz1
          go_wp2_with (first | (go_at_call 63; refine (c_spec_l13After _ _ _ _ _ (by omega) (by omega) (by omega) (by omega)).mono ?_; rintro e w' ⟨rfl, hb⟩; have hc := cellOf hb; have hf := frozOf hb; have hz := sizeOf hb; try simp at hz))
          exact RQ.mk rfl ⟨(by first | rfl | (simp [FS39_8]; done) | (simp [FS39_8, *]; done) | (simp [FS39_8, gotV]; done) | (simp [FS39_8, gotV]; omega)), fun h => absurd h (by decide)⟩ (by (repeat' (first | exact Below.refl _ _ | assumption | refine Below.setCell ?_ ?_ _ | refine Below.drew ?_ | refine Below.alloc ?_ ?_ _ | refine Below.trans ?_ (Below.mono (by assumption) ?_) | (simp; done) | (simp; omega) | omega)))
      · intro vals w1 hb1 hf hd
        simp only [fillA, List.take, List.drop, put_none, Act.put, List.setIfInBounds_toArray, List.set_cons_zero, List.set_cons_succ, Nat.reduceAdd]
        clear hd
        have f0 := hf 0 (by decide)
        generalize vals 0 = v0 at *
        subst f0
        have f1 := hf 1 (by decide)
        generalize vals 1 = v1 at *
        subst f1
        have f2 := hf 2 (by decide)
        generalize vals 2 = v2 at *
        subst f2
        have f3 := hf 3 (by decide)
        generalize vals 3 = v3 at *
        subst f3
        have f4 := hf 4 (by decide)
        generalize vals 4 = v4 at *
        subst f4
        have f5 := hf 5 (by decide)
        generalize vals 5 = v5 at *
        subst f5
        clear hf
        have hc1 := cellOf hb1
        have hf1 := frozOf hb1
        have hz1 := sizeOf hb1
        try simp at hz1
        by_cases hg : goodI (p.1 + x.1) (p.2 + x.2) = true
        · have HG := hid hg
          have HF2 := hid (((HF.out.below hb1).set_ne HN.out 0 (.int .i64 (p.1 + x.1))).set_ne HN.out 1 (.int .i64 (p.2 + x.2)))
          go_wp2_with (first | (go_at_call 55; refine (c_spec_l13Good _ _ _).mono ?_; rintro e w2 ⟨rfl, hb2⟩; have hc2 := cellOf hb2; have hf2 := frozOf hb2; have hs2 := sizeOf hb2; simp at hs2) | (at_builtin; refine wpList_push rfl (.tmp 36) (.tmp 38) 52 rfl 25 i0 _ 2 16 Try.underlying52 hI0 hI1 hI2 hI3 rfl (by decide) (fun _ => rfl) one_Iv (w.heap.size + 1) A' k cp (alongR a b xs k) (alongR_len _ _ _ _) rfl (HF2.out.below (by (repeat' (first | exact Below.refl _ _ | assumption | refine Below.setCell ?_ ?_ _ | refine Below.drew ?_ | refine Below.alloc ?_ ?_ _ | refine Below.trans ?_ (Below.mono (by assumption) ?_) | (simp; done) | (simp; omega) | omega)))) ((p.1 + x.1, p.2 + x.2)) _ 1 rfl ?_ ?_ ?_ ?_ ?_; (refine news_Iv _ _ _ ?_ ?_ <;> simp [go_sem, ↓IntWalk.iteOmega]); (unfold maxLen; omega); omega; (simp; omega); intro A3 cp3 w3 hF3 hg3 hat3; have hc3 := fun o => HN.out.cell hg3 (by simp; omega) o; have hf3 := fun o => HN.out.frozen hg3 (by simp; omega) o; have hs3 := hg3.size; (try simp at hs3); have hb3 := below_of_grown (B := w.heap.size) hg3 (HF.out.lo.mono (by omega)) (by simp; omega)))
          go_roundw
          case rel =>
            refine ⟨k + 1, A3, cp3, by omega, by go_num, rfl, ?_, ?_, ?_, ?_, ?_, ?_, ?_, ?_⟩
            · rw [alongR_snoc, HS.out]
              exact hF3
            · exact HN.out.next hat3 (by simp; omega)
            · rw [alongR_snoc, List.all_append, HA.out, HS.out]
              simp [gI, HG.out]
            all_goals first | (rw [HS.out]; simp [go_sem, ↓IntWalk.iteOmega, *]; done) | (intro o; simp [go_sem, ↓IntWalk.iteOmega, *]; done) | (intro o; simp [go_sem, ↓IntWalk.iteOmega, *]; intros; omega) | (simp; omega) | omega | ((repeat' (first | exact Below.refl _ _ | assumption | refine Below.setCell ?_ ?_ _ | refine Below.drew ?_ | refine Below.alloc ?_ ?_ _ | refine Below.trans ?_ (Below.mono (by assumption) ?_) | (simp; done) | (simp; omega) | omega)); done)
          case measure => simp [intOf]; omega
        · have hg' : goodI (p.1 + x.1) (p.2 + x.2) = false := by simpa using hg
          have HV : Hid (alongV a b xs = ([], false)) := by
            show _ = _
            have := alongR_bad (a := a) (b := b) (xs := xs) hlt (by rw [HS.out]; exact hg')
            simp [alongV, this]
          clear hg
          go_wp2_with (go_at_call 55; refine (c_spec_l13Good _ _ _).mono ?_; rintro e w2 ⟨rfl, hb2⟩; have hc2 := cellOf hb2; have hf2 := frozOf hb2; have hs2 := sizeOf hb2; simp at hs2)
          go_ret2
          simp only [HV.out]
          exact ⟨_, _, rfl, .inr ⟨_, rfl, by omega, #[], heap_alloc_new _ _, rfl, Nat.le_refl _, by unfold maxLen; omega, fun i x h => by simp at h⟩, by (repeat' (first | exact Below.refl _ _ | assumption | refine Below.setCell ?_ ?_ _ | refine Below.drew ?_ | refine Below.alloc ?_ ?_ _ | refine Below.trans ?_ (Below.mono (by assumption) ?_) | (simp; done) | (simp; omega) | omega))⟩
    · obtain rfl : k = xs.length := by omega
      have HV : Hid (alongV a b xs = (alongR a b xs xs.length, true)) := by
        show _ = _
        simp [alongV, hs0, hs1, hal]
      go_wp2_with (fail)
      go_ret2
      simp only [HV.out, alongR_len]
      exact ⟨_, _, rfl, hF.mono (by omega), by (repeat' (first | exact Below.refl _ _ | assumption | refine Below.setCell ?_ ?_ _ | refine Below.drew ?_ | refine Below.alloc ?_ ?_ _ | refine Below.trans ?_ (Below.mono (by assumption) ?_) | (simp; done) | (simp; omega) | omega))⟩

end Go.Proofs.Ythlmeofjjmfpnaa
