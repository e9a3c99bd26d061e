import Derived.Test.YtgjbdcalmodhpaaV4
import Derived.Test.YtgjbdcalmodhpaaV5
import Derived.Test.YtgjbdcalmodhpaaQ5i
import Derived.Test.YtgjbdcalmodhpaaQ5s
import Derived.Test.YtgjbdcalmodhpaaV3
import Derived.Test.YtgjbdcalmodhpaaSL
import Derived.Test.YtgjbdcalmodhpaaDp3
import Derived.Test.YtgjbdcalmodhpaaE2
import Derived.Test.YtgjbdcalmodhpaaE3
import Derived.Test.YtgjbdcalmodhpaaP2
import Derived.Test.YtgjbdcalmodhpaaB3i
import Derived.Test.YtgjbdcalmodhpaaB3s
import Derived.Test.YtgjbdcalmodhpaaB4i
import Derived.Test.YtgjbdcalmodhpaaB4s
namespace Go.Proofs.Ytgjbdcalmodhpaa
set_option linter.unusedSimpArgs false
set_option linter.unusedVariables false
open Go.RowKit

set_option maxRecDepth 100000 in
set_option maxHeartbeats 16000000 in
theorem c_laws_FnStretches (A : Option Addr) (cs : List Int) (cap : Nat) (w : World) (hr : Rds cB 1 w A cs) (hby : Bytes cs) (hn : cs.length ≤ 9223372036854775807) :
    Calls Try.prog 12 #[.slice A cs.length cap] w fun e w' => e = .returned (.bool true) ∧ Below w.heap.size w w' := by
  by_cases hbig : 65536 < cs.length
  · go_enter Try.func12, Try.ntmps12
    go_wp2_with (fail)
    refine (c_laws_vBig _ _ _ _ (by omega)).mono ?_
    rintro e W1 ⟨rfl, hb1⟩
    simp only [show decide (65536 < cs.length) = true by simp; omega]
    go_wp2_with (fail)
    go_ret
    exact ⟨rfl, by (repeat' (first | exact Below.refl _ _ | assumption | refine Below.setCell ?_ ?_ _ | refine Below.drew ?_ | refine Below.alloc ?_ ?_ _ | refine Below.trans ?_ (Below.mono (by assumption) ?_) | (simp; done) | (simp; omega) | omega))⟩
  go_enter Try.func12, Try.ntmps12
  go_wp2_with (fail)
  refine (c_laws_vBig _ _ _ _ (by omega)).mono ?_
  rintro e W1 ⟨rfl, hb1⟩
  have hc1 := cellOf hb1; have hf1 := frozOf hb1; have hz1 := sizeOf hb1; (try simp at hz1)
  simp only [show decide (65536 < cs.length) = false by simp; omega]
  go_wp2_with (fail)
  refine (c_spec_DrawMostPassages A cs cap _ (hr.below (by (repeat' (first | exact Below.refl _ _ | assumption | refine Below.setCell ?_ ?_ _ | refine Below.drew ?_ | refine Below.alloc ?_ ?_ _ | refine Below.trans ?_ (Below.mono (by assumption) ?_) | (simp; done) | (simp; omega) | omega)))) hby (by omega)).mono ?_
  rintro e W2 ⟨A2, cp2, xs, g, rfl, hF2, hxl, hg, hb2⟩
  have hcap := hF2.le_cap
  have hmax := hF2.cap_max
  have hc2 := cellOf hb2; have hf2 := frozOf hb2; have hz2 := sizeOf hb2; (try simp at hz2); have hr2 := hF2.rds; have hlo2 := hF2.lo; have hhi2 := hF2.hi; have HF2 := hid hF2; clear hF2; (try simp at hlo2)
  obtain ⟨hL1, hL2, hL3⟩ := most_law xs g
  have hil := most_len xs g
  have hpl := clashV_len xs g
  obtain ⟨ids, ok, hT⟩ : ∃ ids ok, mostV xs g = (ids, ok) := ⟨_, _, rfl⟩
  obtain ⟨prs, ok2, hC⟩ : ∃ prs ok2, clashV xs g = (prs, ok2) := ⟨_, _, rfl⟩
  simp only [hT, hC] at hL1 hL2 hL3 hil hpl
  subst hL1
  have HL3 := hid hL3
  clear hL3
  have HL2 := hid hL2
  clear hL2
  have HT := hid hT
  have HC := hid hC
  clear hT hC
  go_wp2_with (fail)
  refine (c_impl_MostPassages _ _ _ _ _ (by first | exact hr2 | exact Rds.below hr2 (by (repeat' (first | exact Below.refl _ _ | assumption | refine Below.setCell ?_ ?_ _ | refine Below.drew ?_ | refine Below.alloc ?_ ?_ _ | refine Below.trans ?_ (Below.mono (by assumption) ?_) | (simp; done) | (simp; omega) | omega)))) (by omega)).mono ?_
  rintro e W3 ⟨A3, cp3, rfl, hF3, hb3⟩
  simp only [HT.out] at hF3 ⊢
  have hc3 := cellOf hb3; have hf3 := frozOf hb3; have hz3 := sizeOf hb3; (try simp at hz3); have hr3 := hF3.rds; have hlo3 := hF3.lo; have hhi3 := hF3.hi; have HF3 := hid hF3; clear hF3; (try simp at hlo3)
  go_wp2_with (fail)
  refine (c_spec_MostPassages _ _ _ _ _ (by first | exact hr2 | exact Rds.below hr2 (by (repeat' (first | exact Below.refl _ _ | assumption | refine Below.setCell ?_ ?_ _ | refine Below.drew ?_ | refine Below.alloc ?_ ?_ _ | refine Below.trans ?_ (Below.mono (by assumption) ?_) | (simp; done) | (simp; omega) | omega)))) (by omega)).mono ?_
  rintro e W4 ⟨A4, cp4, rfl, hF4, hb4⟩
  simp only [HT.out] at hF4 ⊢
  have hc4 := cellOf hb4; have hf4 := frozOf hb4; have hz4 := sizeOf hb4; (try simp at hz4); have hr4 := hF4.rds; have hlo4 := hF4.lo; have hhi4 := hF4.hi; have HF4 := hid hF4; clear hF4; (try simp at hlo4)
  cases ok
  all_goals
    go_wp2_with (fail)
    refine (c_laws_vInts _ _ _ _ _ _ (by first | exact hr3 | exact Rds.below hr3 (by (repeat' (first | exact Below.refl _ _ | assumption | refine Below.setCell ?_ ?_ _ | refine Below.drew ?_ | refine Below.alloc ?_ ?_ _ | refine Below.trans ?_ (Below.mono (by assumption) ?_) | (simp; done) | (simp; omega) | omega)))) (by first | exact hr4 | exact Rds.below hr4 (by (repeat' (first | exact Below.refl _ _ | assumption | refine Below.setCell ?_ ?_ _ | refine Below.drew ?_ | refine Below.alloc ?_ ?_ _ | refine Below.trans ?_ (Below.mono (by assumption) ?_) | (simp; done) | (simp; omega) | omega)))) (by omega)).mono ?_
    rintro e W5 ⟨rfl, hb5⟩
    have hc5 := cellOf hb5; have hf5 := frozOf hb5; have hz5 := sizeOf hb5; (try simp at hz5)
    go_wp2_with (fail)
    refine (c_impl_ClashPairs _ _ _ _ _ (by first | exact hr2 | exact Rds.below hr2 (by (repeat' (first | exact Below.refl _ _ | assumption | refine Below.setCell ?_ ?_ _ | refine Below.drew ?_ | refine Below.alloc ?_ ?_ _ | refine Below.trans ?_ (Below.mono (by assumption) ?_) | (simp; done) | (simp; omega) | omega)))) (by omega) hcap hmax).mono ?_
    rintro e W6 ⟨A6, cp6, rfl, hF6, hb6⟩
    simp only [HC.out] at hF6 ⊢
    have hc6 := cellOf hb6; have hf6 := frozOf hb6; have hz6 := sizeOf hb6; (try simp at hz6); have hr6 := hF6.rds; have hlo6 := hF6.lo; have hhi6 := hF6.hi; have HF6 := hid hF6; clear hF6; (try simp at hlo6)
    go_wp2_with (fail)
    refine (c_spec_ClashPairs _ _ _ _ _ (by first | exact hr2 | exact Rds.below hr2 (by (repeat' (first | exact Below.refl _ _ | assumption | refine Below.setCell ?_ ?_ _ | refine Below.drew ?_ | refine Below.alloc ?_ ?_ _ | refine Below.trans ?_ (Below.mono (by assumption) ?_) | (simp; done) | (simp; omega) | omega)))) (by omega)).mono ?_
    rintro e W7 ⟨A7, cp7, rfl, hF7, hb7⟩
    simp only [HC.out] at hF7 ⊢
    have hc7 := cellOf hb7; have hf7 := frozOf hb7; have hz7 := sizeOf hb7; (try simp at hz7); have hr7 := hF7.rds; have hlo7 := hF7.lo; have hhi7 := hF7.hi; have HF7 := hid hF7; clear hF7; (try simp at hlo7)
    go_wp2_with (fail)
    refine (c_laws_vPairs _ _ _ _ _ _ (by first | exact hr6 | exact Rds.below hr6 (by (repeat' (first | exact Below.refl _ _ | assumption | refine Below.setCell ?_ ?_ _ | refine Below.drew ?_ | refine Below.alloc ?_ ?_ _ | refine Below.trans ?_ (Below.mono (by assumption) ?_) | (simp; done) | (simp; omega) | omega)))) (by first | exact hr7 | exact Rds.below hr7 (by (repeat' (first | exact Below.refl _ _ | assumption | refine Below.setCell ?_ ?_ _ | refine Below.drew ?_ | refine Below.alloc ?_ ?_ _ | refine Below.trans ?_ (Below.mono (by assumption) ?_) | (simp; done) | (simp; omega) | omega)))) (by omega)).mono ?_
    rintro e W8 ⟨rfl, hb8⟩
    have hc8 := cellOf hb8; have hf8 := frozOf hb8; have hz8 := sizeOf hb8; (try simp at hz8)
    try (have hbb : (!((prs.length : Int) == 0) == ((ids.length : Int) == (xs.length : Int))) = false := by
           have hq := HL2.out trivial
           by_cases hp0 : prs.length = 0
           · simp [hp0, hq.1 hp0]
           · have hi0 : ¬ ids.length = xs.length := fun e => hp0 (hq.2 e)
             have hi1 : ¬ (ids.length : Int) = (xs.length : Int) := by omega
             have hp1 : ¬ (prs.length : Int) = 0 := by omega
             rw [beq_false_of_ne hp1, beq_false_of_ne hi1]; rfl)
    go_wp2_with (fail)
    have hbZ : Below W6.heap.size W6 W8 := by (repeat' (first | exact Below.refl _ _ | assumption | refine Below.setCell ?_ ?_ _ | refine Below.drew ?_ | refine Below.alloc ?_ ?_ _ | refine Below.trans ?_ (Below.mono (by assumption) ?_) | (simp; done) | (simp; omega) | omega))
    have hri : Rds cIn 1 W8 A3 ids := (by first | exact hr3 | exact Rds.below hr3 (by (repeat' (first | exact Below.refl _ _ | assumption | refine Below.setCell ?_ ?_ _ | refine Below.drew ?_ | refine Below.alloc ?_ ?_ _ | refine Below.trans ?_ (Below.mono (by assumption) ?_) | (simp; done) | (simp; omega) | omega))))
    have hbY : Below w.heap.size w W8 := by (repeat' (first | exact Below.refl _ _ | assumption | refine Below.setCell ?_ ?_ _ | refine Below.drew ?_ | refine Below.alloc ?_ ?_ _ | refine Below.trans ?_ (Below.mono (by assumption) ?_) | (simp; done) | (simp; omega) | omega))
    have hzY := hbY.size
    have hzZ := hbZ.size
    clear hb1 hc1 hf1 hz1
    clear hb2 hc2 hf2 hz2
    clear hb3 hc3 hf3 hz3
    clear hb4 hc4 hf4 hz4
    clear hb5 hc5 hf5 hz5
    clear hb6 hc6 hf6 hz6
    clear hb7 hc7 hf7 hz7
    clear hb8 hc8 hf8 hz8
    clear HF2 HF3 HF4 HF6 HF7 hr2 hr3 hr4 hr7 hlo2 hlo3 hlo4 hlo6 hlo7 hhi2 hhi3 hhi4 hhi6 hhi7 HT HC HL2 hcap hmax
    go_loopw [13] (fun i wr => ∃ k : Nat, k ≤ prs.length ∧ i = .int .i64 k ∧ Below W8.heap.size W8 wr) (fun i _ => prs.length - (intOf i).toNat)
    case atStart => exact ⟨0, Nat.zero_le _, rfl, Below.refl _ _⟩
    case round =>
      obtain ⟨k, hk, rfl, hbr⟩ := hrel
      rename World => wo
      have hzr := hbr.size
      by_cases hlt : k < prs.length
      · have hno := HL3.out _ (List.getElem_mem hlt)
        have hbt : Below W6.heap.size W6 wo := Below.trans hbZ (Below.mono hbr (by omega))
        have hri2 : Rds cIn 1 wo A3 ids := Rds.below hri hbr
        obtain ⟨bx, ox, hAX, hbx, hcx⟩ := hr6 k prs[k] (List.getElem?_eq_getElem hlt)
        subst hAX
        have hx0 := (hbt.cell (p := ⟨bx, _, none⟩) hbx).trans (hcx 0 _ rfl)
        have hx1 := (hbt.cell (p := ⟨bx, _, none⟩) hbx).trans (hcx 1 _ rfl)
        simp only [Nat.add_zero] at hx0
        clear hcx
        generalize prs[k].1 = p at *
        generalize prs[k].2 = q at *
        by_cases hp : p ∈ ids
        · have hdp : decide (p ∈ ids) = true := decide_eq_true hp
          have hdq : decide (q ∈ ids) = false := decide_eq_false (fun h => hno ⟨hp, h⟩)
          clear hno hp
          go_wp2_with (fail)
          refine (c_laws_vHas _ _ _ _ _ hri2 (by omega)).mono ?_
          rintro e V1 ⟨rfl, hv1⟩
          have hvc1 := cellOf hv1; have hvf1 := frozOf hv1; have hvz1 := sizeOf hv1; (try simp at hvz1)
          simp only [hdp]
          go_wp2_with (fail)
          refine (c_laws_vHas _ _ _ _ _ (Rds.below hri2 (by (repeat' (first | exact Below.refl _ _ | assumption | refine Below.setCell ?_ ?_ _ | refine Below.drew ?_ | refine Below.alloc ?_ ?_ _ | refine Below.trans ?_ (Below.mono (by assumption) ?_) | (simp; done) | (simp; omega) | omega)))) (by omega)).mono ?_
          rintro e V2 ⟨rfl, hv2⟩
          have hvc2 := cellOf hv2; have hvf2 := frozOf hv2; have hvz2 := sizeOf hv2; (try simp at hvz2)
          simp only [hdq]
          go_wp2_with (fail)
          go_roundw
          case rel => exact ⟨k + 1, by omega, by go_num, by (repeat' (first | exact Below.refl _ _ | assumption | refine Below.setCell ?_ ?_ _ | refine Below.drew ?_ | refine Below.alloc ?_ ?_ _ | refine Below.trans ?_ (Below.mono (by assumption) ?_) | (simp; done) | (simp; omega) | omega))⟩
          case measure => simp [intOf]; omega
        · have hdp : decide (p ∈ ids) = false := decide_eq_false hp
          clear hno hp
          go_wp2_with (fail)
          refine (c_laws_vHas _ _ _ _ _ hri2 (by omega)).mono ?_
          rintro e V1 ⟨rfl, hv1⟩
          have hvc1 := cellOf hv1; have hvf1 := frozOf hv1; have hvz1 := sizeOf hv1; (try simp at hvz1)
          simp only [hdp]
          go_wp2_with (fail)
          go_roundw
          case rel => exact ⟨k + 1, by omega, by go_num, by (repeat' (first | exact Below.refl _ _ | assumption | refine Below.setCell ?_ ?_ _ | refine Below.drew ?_ | refine Below.alloc ?_ ?_ _ | refine Below.trans ?_ (Below.mono (by assumption) ?_) | (simp; done) | (simp; omega) | omega))⟩
          case measure => simp [intOf]; omega
      obtain rfl : k = prs.length := by omega
      have hbV : Below w.heap.size w wo := Below.trans hbY (Below.mono hbr (by omega))
      clear hbY hbZ hzY hzZ hri hbr
      have hbW := hbV
      clear hbV
      have hzW := hbW.size
      go_wp2_with (fail)
      refine (c_spec_DrawBusyMinutes A cs cap _ (hr.below (by (repeat' (first | exact Below.refl _ _ | assumption | refine Below.setCell ?_ ?_ _ | refine Below.drew ?_ | refine Below.alloc ?_ ?_ _ | refine Below.trans ?_ (Below.mono (by assumption) ?_) | (simp; done) | (simp; omega) | omega)))) hby (by omega)).mono ?_
      rintro e X1 ⟨AX, cpx, ys, rfl, hFx, hyl, hbx1⟩
      have hcx1 := cellOf hbx1; have hfx1 := frozOf hbx1; have hzx1 := sizeOf hbx1; (try simp at hzx1); have hrx := hFx.rds; have hlox := hFx.lo; have hhix := hFx.hi; have HFx := hid hFx; clear hFx; (try simp at hlox)
      go_wp2_with (fail)
      refine (c_impl_BusyMinutes _ _ _ _ (by first | exact hrx | exact Rds.below hrx (by (repeat' (first | exact Below.refl _ _ | assumption | refine Below.setCell ?_ ?_ _ | refine Below.drew ?_ | refine Below.alloc ?_ ?_ _ | refine Below.trans ?_ (Below.mono (by assumption) ?_) | (simp; done) | (simp; omega) | omega)))) (by omega)).mono ?_
      rintro e X2 ⟨rfl, hbx2⟩
      have hcx2 := cellOf hbx2; have hfx2 := frozOf hbx2; have hzx2 := sizeOf hbx2; (try simp at hzx2)
      go_wp2_with (fail)
      refine (c_spec_BusyMinutes _ _ _ _ (by first | exact hrx | exact Rds.below hrx (by (repeat' (first | exact Below.refl _ _ | assumption | refine Below.setCell ?_ ?_ _ | refine Below.drew ?_ | refine Below.alloc ?_ ?_ _ | refine Below.trans ?_ (Below.mono (by assumption) ?_) | (simp; done) | (simp; omega) | omega)))) (by omega)).mono ?_
      rintro e X3 ⟨rfl, hbx3⟩
      have hcx3 := cellOf hbx3; have hfx3 := frozOf hbx3; have hzx3 := sizeOf hbx3; (try simp at hzx3)
      go_wp2_with (fail)
      refine (c_impl_ArePassages _ _ _ _ (by first | exact hrx | exact Rds.below hrx (by (repeat' (first | exact Below.refl _ _ | assumption | refine Below.setCell ?_ ?_ _ | refine Below.drew ?_ | refine Below.alloc ?_ ?_ _ | refine Below.trans ?_ (Below.mono (by assumption) ?_) | (simp; done) | (simp; omega) | omega)))) (by omega)).mono ?_
      rintro e X4 ⟨rfl, hbx4⟩
      have hcx4 := cellOf hbx4; have hfx4 := frozOf hbx4; have hzx4 := sizeOf hbx4; (try simp at hzx4)
      cases hvv : vB pOk pLt 6 ys
      · have hmv : busyMV ys = (0, false) := by unfold busyMV; rw [hvv]; rfl
        simp only [hmv]
        go_wp2_with (fail)
        have hbV : Below w.heap.size w X4 := by (repeat' (first | exact Below.refl _ _ | assumption | refine Below.setCell ?_ ?_ _ | refine Below.drew ?_ | refine Below.alloc ?_ ?_ _ | refine Below.trans ?_ (Below.mono (by assumption) ?_) | (simp; done) | (simp; omega) | omega))
        clear hbW hzW hbx1 hcx1 hfx1 hzx1 hbx2 hcx2 hfx2 hzx2 hbx3 hcx3 hfx3 hzx3 hbx4 hcx4 hfx4 hzx4 hrx hlox hhix HFx hmv hvv
        have hbW := hbV
        clear hbV
        have hzW := hbW.size
        go_wp2_with (fail)
        refine (c_spec_DrawFreeFrom A cs cap _ (hr.below (by (repeat' (first | exact Below.refl _ _ | assumption | refine Below.setCell ?_ ?_ _ | refine Below.drew ?_ | refine Below.alloc ?_ ?_ _ | refine Below.trans ?_ (Below.mono (by assumption) ?_) | (simp; done) | (simp; omega) | omega)))) hby (by omega)).mono ?_
        rintro e Z1 ⟨AZ, cpz, zs, fr, ln, rfl, hFz, hzl, hfr, hln, hbz1⟩
        have hcz1 := cellOf hbz1; have hfz1 := frozOf hbz1; have hzz1 := sizeOf hbz1; (try simp at hzz1); have hrz := hFz.rds; have hloz := hFz.lo; have hhiz := hFz.hi; have HFz := hid hFz; clear hFz; (try simp at hloz)
        obtain ⟨mm, known, hS⟩ : ∃ mm known, freeFV zs fr ln = (mm, known) := ⟨_, _, rfl⟩
        go_wp2_with (fail)
        refine (c_impl_FreeFrom _ _ _ _ _ _ (by first | exact hrz | exact Rds.below hrz (by (repeat' (first | exact Below.refl _ _ | assumption | refine Below.setCell ?_ ?_ _ | refine Below.drew ?_ | refine Below.alloc ?_ ?_ _ | refine Below.trans ?_ (Below.mono (by assumption) ?_) | (simp; done) | (simp; omega) | omega)))) (by omega)).mono ?_
        rintro e Z2 ⟨rfl, hbz2⟩
        have hcz2 := cellOf hbz2; have hfz2 := frozOf hbz2; have hzz2 := sizeOf hbz2; (try simp at hzz2)
        simp only [hS]
        go_wp2_with (fail)
        refine (c_spec_FreeFrom _ _ _ _ _ _ (by first | exact hrz | exact Rds.below hrz (by (repeat' (first | exact Below.refl _ _ | assumption | refine Below.setCell ?_ ?_ _ | refine Below.drew ?_ | refine Below.alloc ?_ ?_ _ | refine Below.trans ?_ (Below.mono (by assumption) ?_) | (simp; done) | (simp; omega) | omega)))) (by omega)).mono ?_
        rintro e Z3 ⟨rfl, hbz3⟩
        have hcz3 := cellOf hbz3; have hfz3 := frozOf hbz3; have hzz3 := sizeOf hbz3; (try simp at hzz3)
        simp only [hS]
        cases known
        · go_wp2_with (fail)
          go_ret
          exact ⟨ret_bool (by simp), by (repeat' (first | exact Below.refl _ _ | assumption | refine Below.setCell ?_ ?_ _ | refine Below.drew ?_ | refine Below.alloc ?_ ?_ _ | refine Below.trans ?_ (Below.mono (by assumption) ?_) | (simp; done) | (simp; omega) | omega))⟩
        obtain ⟨hs1, hs2, hs3, hs4, hs5, hs6⟩ := free_law hS
        have HS6 := hid hs6
        clear hS hs6
        go_wp2_with (fail)
        have hbZ : Below Z1.heap.size Z1 Z3 := by (repeat' (first | exact Below.refl _ _ | assumption | refine Below.setCell ?_ ?_ _ | refine Below.drew ?_ | refine Below.alloc ?_ ?_ _ | refine Below.trans ?_ (Below.mono (by assumption) ?_) | (simp; done) | (simp; omega) | omega))
        have hbY : Below w.heap.size w Z3 := by (repeat' (first | exact Below.refl _ _ | assumption | refine Below.setCell ?_ ?_ _ | refine Below.drew ?_ | refine Below.alloc ?_ ?_ _ | refine Below.trans ?_ (Below.mono (by assumption) ?_) | (simp; done) | (simp; omega) | omega))
        have hzY := hbY.size
        have hzZ := hbZ.size
        clear hbz1 hcz1 hfz1 hzz1 hbz2 hcz2 hfz2 hzz2 hbz3 hcz3 hfz3 hzz3 hloz hhiz HFz hbW hzW
        go_loopw [30] (fun i wr => ∃ k : Nat, k ≤ zs.length ∧ i = .int .i64 k ∧ Below Z3.heap.size Z3 wr) (fun i _ => zs.length - (intOf i).toNat)
        case atStart => exact ⟨0, Nat.zero_le _, rfl, Below.refl _ _⟩
        case round =>
          obtain ⟨k, hk, rfl, hbr⟩ := hrel
          have hzr := hbr.size
          by_cases hlt : k < zs.length
          rotate_left
          · obtain rfl : k = zs.length := by omega
            go_wp2_with (fail)
            go_ret
            exact ⟨ret_bool (by first | (simp; done) | (simp; omega)), Below.trans hbY (Below.mono hbr (by omega))⟩
          have hno := HS6.out k hlt
          have hbt : Below Z1.heap.size Z1 wr := Below.trans hbZ (Below.mono hbr (by omega))
          obtain ⟨bx, ox, hAX, hbx, hcx⟩ := hrz k zs[k] (List.getElem?_eq_getElem hlt)
          subst hAX
          have hx2 := (hbt.cell (p := ⟨bx, _, none⟩) hbx).trans (hcx 2 _ rfl)
          have hx3 := (hbt.cell (p := ⟨bx, _, none⟩) hbx).trans (hcx 3 _ rfl)
          clear hcx
          generalize zs[k].2.2.1 = p at *
          generalize zs[k].2.2.2 = q at *
          by_cases h1 : p < mm + ln
          · have h2 : ¬ mm < q := fun h => hno ⟨h1, h⟩
            clear hno
            go_wp2_with (fail)
            go_roundw
            case rel => exact ⟨k + 1, by omega, by go_num, by (repeat' (first | exact Below.refl _ _ | assumption | refine Below.setCell ?_ ?_ _ | refine Below.drew ?_ | refine Below.alloc ?_ ?_ _ | refine Below.trans ?_ (Below.mono (by assumption) ?_) | (simp; done) | (simp; omega) | omega))⟩
            case measure => simp [intOf]; omega
          · clear hno
            go_wp2_with (fail)
            go_roundw
            case rel => exact ⟨k + 1, by omega, by go_num, by (repeat' (first | exact Below.refl _ _ | assumption | refine Below.setCell ?_ ?_ _ | refine Below.drew ?_ | refine Below.alloc ?_ ?_ _ | refine Below.trans ?_ (Below.mono (by assumption) ?_) | (simp; done) | (simp; omega) | omega))⟩
            case measure => simp [intOf]; omega
      have hmv : busyMV ys = ((busyC ys 9999 : Int), true) := by unfold busyMV; rw [hvv]; rfl
      have HBL := hid (busy_law hvv)
      have hyl6 := vB_len hvv
      have hN : (busyC ys 9999 : Int) ≤ 9999 := by have := busyC_le ys 9999; omega
      have hN0 : (0 : Int) ≤ (busyC ys 9999 : Int) := by omega
      simp only [hmv]
      clear hmv hvv
      have HTK := hid (show (busyC (ys.take ys.length) 9999 : Int) = (busyC ys 9999 : Int) by rw [List.take_length])
      generalize (busyC ys 9999 : Int) = bN at *
      go_wp2_with (fail)
      have hbZ : Below X1.heap.size X1 X4 := by (repeat' (first | exact Below.refl _ _ | assumption | refine Below.setCell ?_ ?_ _ | refine Below.drew ?_ | refine Below.alloc ?_ ?_ _ | refine Below.trans ?_ (Below.mono (by assumption) ?_) | (simp; done) | (simp; omega) | omega))
      have hbY : Below w.heap.size w X4 := by (repeat' (first | exact Below.refl _ _ | assumption | refine Below.setCell ?_ ?_ _ | refine Below.drew ?_ | refine Below.alloc ?_ ?_ _ | refine Below.trans ?_ (Below.mono (by assumption) ?_) | (simp; done) | (simp; omega) | omega))
      have hzY := hbY.size
      have hzZ := hbZ.size
      clear hbW hzW hbx1 hcx1 hfx1 hzx1 hbx2 hcx2 hfx2 hzx2 hbx3 hcx3 hfx3 hzx3 hbx4 hcx4 hfx4 hzx4 hlox hhix HFx
      go_loopw [19, 20, 21] (fun su mo i wr => ∃ (k : Nat) (s m : Int), k ≤ ys.length ∧ su = .int .i64 s ∧ mo = .int .i64 m ∧ i = .int .i64 k ∧ (busyC (ys.take k) 9999 : Int) ≤ s ∧ (0 ≤ s ∧ s ≤ 9999 * (k : Int)) ∧ (0 ≤ m ∧ m ≤ bN) ∧ Below X4.heap.size X4 wr) (fun _ _ i _ => ys.length - (intOf i).toNat)
      case atStart => exact ⟨0, 0, 0, Nat.zero_le _, rfl, rfl, rfl, by rw [List.take_zero, busyC_nil]; exact Int.le_refl _, ⟨by omega, by omega⟩, ⟨by omega, hN0⟩, Below.refl _ _⟩
      case round =>
        obtain ⟨k, s, m, hk, rfl, rfl, rfl, hs, hsb, hmb, hbr⟩ := hrel
        rename World => wo
        have HSS := hid hs
        clear hs
        have hzr := hbr.size
        by_cases hlt : k < ys.length
        · obtain ⟨q1, q2, q3⟩ := HBL.out k hlt
          have HST := hid (Int.le_trans q3 (Int.add_le_add_right HSS.out _))
          have hbt : Below X1.heap.size X1 wo := Below.trans hbZ (Below.mono hbr (by omega))
          obtain ⟨bx, ox, hAX, hbx, hcx⟩ := hrx k ys[k] (List.getElem?_eq_getElem hlt)
          subst hAX
          have hx2 := (hbt.cell (p := ⟨bx, _, none⟩) hbx).trans (hcx 2 _ rfl)
          have hx3 := (hbt.cell (p := ⟨bx, _, none⟩) hbx).trans (hcx 3 _ rfl)
          clear hcx q3
          generalize ys[k].2.2.1 = p at *
          generalize ys[k].2.2.2 = q at *
          have hw1 := wr_id2 (x := q - p) (by omega)
          by_cases hgt : m < q - p
          · go_wp2_with (fail)
            go_region_held3 (fun w' => w'.cell? ⟨bx, ox + k * 4 + 2, none⟩ = some (.int .i64 p) ∧ w'.cell? ⟨bx, ox + k * 4 + 3, none⟩ = some (.int .i64 q)) (first | assumption | exact ⟨hx2, hx3⟩) (fail)
            try simp only [hw1]
            go_wp2_with (fail)
            go_roundw
            case rel => exact ⟨k + 1, s + (q - p), q - p, by omega, by first | rfl | go_num, by first | rfl | go_num, by go_num, HST.out, ⟨by omega, by omega⟩, ⟨by omega, by omega⟩, by (repeat' (first | exact Below.refl _ _ | assumption | refine Below.setCell ?_ ?_ _ | refine Below.drew ?_ | refine Below.alloc ?_ ?_ _ | refine Below.trans ?_ (Below.mono (by assumption) ?_) | (simp; done) | (simp; omega) | omega))⟩
            case measure => simp [intOf]; omega
          · go_wp2_with (fail)
            go_region_held3 (fun w' => w'.cell? ⟨bx, ox + k * 4 + 2, none⟩ = some (.int .i64 p) ∧ w'.cell? ⟨bx, ox + k * 4 + 3, none⟩ = some (.int .i64 q)) (first | assumption | exact ⟨hx2, hx3⟩) (fail)
            try simp only [hw1]
            go_wp2_with (fail)
            go_roundw
            case rel => exact ⟨k + 1, s + (q - p), m, by omega, by first | rfl | go_num, by first | rfl | go_num, by go_num, HST.out, ⟨by omega, by omega⟩, ⟨by omega, by omega⟩, by (repeat' (first | exact Below.refl _ _ | assumption | refine Below.setCell ?_ ?_ _ | refine Below.drew ?_ | refine Below.alloc ?_ ?_ _ | refine Below.trans ?_ (Below.mono (by assumption) ?_) | (simp; done) | (simp; omega) | omega))⟩
            case measure => simp [intOf]; omega
        obtain rfl : k = ys.length := by omega
        have hsum : bN ≤ s := by have := HSS.out; rw [HTK.out] at this; exact this
        have hbV : Below w.heap.size w wo := Below.trans hbY (Below.mono hbr (by omega))
        clear hbY hbZ hzY hzZ HSS HBL HTK hrx hbr
        have hbW := hbV
        clear hbV
        have hzW := hbW.size
        have h8 : ¬ s < bN := by omega
        have h9 : ¬ bN < m := by omega
        go_wp2_with (fail)
        refine (c_spec_DrawFreeFrom A cs cap _ (hr.below (by (repeat' (first | exact Below.refl _ _ | assumption | refine Below.setCell ?_ ?_ _ | refine Below.drew ?_ | refine Below.alloc ?_ ?_ _ | refine Below.trans ?_ (Below.mono (by assumption) ?_) | (simp; done) | (simp; omega) | omega)))) hby (by omega)).mono ?_
        rintro e Z1 ⟨AZ, cpz, zs, fr, ln, rfl, hFz, hzl, hfr, hln, hbz1⟩
        have hcz1 := cellOf hbz1; have hfz1 := frozOf hbz1; have hzz1 := sizeOf hbz1; (try simp at hzz1); have hrz := hFz.rds; have hloz := hFz.lo; have hhiz := hFz.hi; have HFz := hid hFz; clear hFz; (try simp at hloz)
        obtain ⟨mm, known, hS⟩ : ∃ mm known, freeFV zs fr ln = (mm, known) := ⟨_, _, rfl⟩
        go_wp2_with (fail)
        refine (c_impl_FreeFrom _ _ _ _ _ _ (by first | exact hrz | exact Rds.below hrz (by (repeat' (first | exact Below.refl _ _ | assumption | refine Below.setCell ?_ ?_ _ | refine Below.drew ?_ | refine Below.alloc ?_ ?_ _ | refine Below.trans ?_ (Below.mono (by assumption) ?_) | (simp; done) | (simp; omega) | omega)))) (by omega)).mono ?_
        rintro e Z2 ⟨rfl, hbz2⟩
        have hcz2 := cellOf hbz2; have hfz2 := frozOf hbz2; have hzz2 := sizeOf hbz2; (try simp at hzz2)
        simp only [hS]
        go_wp2_with (fail)
        refine (c_spec_FreeFrom _ _ _ _ _ _ (by first | exact hrz | exact Rds.below hrz (by (repeat' (first | exact Below.refl _ _ | assumption | refine Below.setCell ?_ ?_ _ | refine Below.drew ?_ | refine Below.alloc ?_ ?_ _ | refine Below.trans ?_ (Below.mono (by assumption) ?_) | (simp; done) | (simp; omega) | omega)))) (by omega)).mono ?_
        rintro e Z3 ⟨rfl, hbz3⟩
        have hcz3 := cellOf hbz3; have hfz3 := frozOf hbz3; have hzz3 := sizeOf hbz3; (try simp at hzz3)
        simp only [hS]
        cases known
        · go_wp2_with (fail)
          go_ret
          exact ⟨ret_bool (by simp), by (repeat' (first | exact Below.refl _ _ | assumption | refine Below.setCell ?_ ?_ _ | refine Below.drew ?_ | refine Below.alloc ?_ ?_ _ | refine Below.trans ?_ (Below.mono (by assumption) ?_) | (simp; done) | (simp; omega) | omega))⟩
        obtain ⟨hs1, hs2, hs3, hs4, hs5, hs6⟩ := free_law hS
        have HS6 := hid hs6
        clear hS hs6
        go_wp2_with (fail)
        have hbZ : Below Z1.heap.size Z1 Z3 := by (repeat' (first | exact Below.refl _ _ | assumption | refine Below.setCell ?_ ?_ _ | refine Below.drew ?_ | refine Below.alloc ?_ ?_ _ | refine Below.trans ?_ (Below.mono (by assumption) ?_) | (simp; done) | (simp; omega) | omega))
        have hbY : Below w.heap.size w Z3 := by (repeat' (first | exact Below.refl _ _ | assumption | refine Below.setCell ?_ ?_ _ | refine Below.drew ?_ | refine Below.alloc ?_ ?_ _ | refine Below.trans ?_ (Below.mono (by assumption) ?_) | (simp; done) | (simp; omega) | omega))
        have hzY := hbY.size
        have hzZ := hbZ.size
        clear hbz1 hcz1 hfz1 hzz1 hbz2 hcz2 hfz2 hzz2 hbz3 hcz3 hfz3 hzz3 hloz hhiz HFz hbW hzW
        go_loopw [30] (fun i wr => ∃ k : Nat, k ≤ zs.length ∧ i = .int .i64 k ∧ Below Z3.heap.size Z3 wr) (fun i _ => zs.length - (intOf i).toNat)
        case atStart => exact ⟨0, Nat.zero_le _, rfl, Below.refl _ _⟩
        case round =>
          obtain ⟨k, hk, rfl, hbr⟩ := hrel
          have hzr := hbr.size
          by_cases hlt : k < zs.length
          rotate_left
          · obtain rfl : k = zs.length := by omega
            go_wp2_with (fail)
            go_ret
            exact ⟨ret_bool (by first | (simp; done) | (simp; omega)), Below.trans hbY (Below.mono hbr (by omega))⟩
          have hno := HS6.out k hlt
          have hbt : Below Z1.heap.size Z1 wr := Below.trans hbZ (Below.mono hbr (by omega))
          obtain ⟨bx, ox, hAX, hbx, hcx⟩ := hrz k zs[k] (List.getElem?_eq_getElem hlt)
          subst hAX
          have hx2 := (hbt.cell (p := ⟨bx, _, none⟩) hbx).trans (hcx 2 _ rfl)
          have hx3 := (hbt.cell (p := ⟨bx, _, none⟩) hbx).trans (hcx 3 _ rfl)
          clear hcx
          generalize zs[k].2.2.1 = p at *
          generalize zs[k].2.2.2 = q at *
          by_cases h1 : p < mm + ln
          · have h2 : ¬ mm < q := fun h => hno ⟨h1, h⟩
            clear hno
            go_wp2_with (fail)
            go_roundw
            case rel => exact ⟨k + 1, by omega, by go_num, by (repeat' (first | exact Below.refl _ _ | assumption | refine Below.setCell ?_ ?_ _ | refine Below.drew ?_ | refine Below.alloc ?_ ?_ _ | refine Below.trans ?_ (Below.mono (by assumption) ?_) | (simp; done) | (simp; omega) | omega))⟩
            case measure => simp [intOf]; omega
          · clear hno
            go_wp2_with (fail)
            go_roundw
            case rel => exact ⟨k + 1, by omega, by go_num, by (repeat' (first | exact Below.refl _ _ | assumption | refine Below.setCell ?_ ?_ _ | refine Below.drew ?_ | refine Below.alloc ?_ ?_ _ | refine Below.trans ?_ (Below.mono (by assumption) ?_) | (simp; done) | (simp; omega) | omega))⟩
            case measure => simp [intOf]; omega

end Go.Proofs.Ytgjbdcalmodhpaa
