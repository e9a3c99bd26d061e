import Derived.Test.YtgjbdcalmodhpaaQ4
import Derived.Test.YtgjbdcalmodhpaaP2s
import Derived.Test.YtgjbdcalmodhpaaP1c
namespace Go.Proofs.Ytgjbdcalmodhpaa
set_option linter.unusedSimpArgs false
set_option linter.unusedVariables false
open Go.RowKit

theorem below_dn {B n : Nat} {a w : World} (h : Below B a w) : Below B a (w.drewN n) := ⟨h.os, h.tape, h.output, h.size, h.block⟩

set_option maxRecDepth 100000 in
set_option maxHeartbeats 16000000 in
theorem c_spec_MostPassages (A : Option Addr) (xs : List (Int × Bool × Int × Int)) (cap : Nat) (g : Int) (w : World) (hx : Rds cPas 4 w A xs) (hn : xs.length ≤ 9223372036854775807) :
    Calls Try.prog 36 #[.slice A xs.length cap, .int .i64 g] w fun e w' => ∃ A' cap', e = .returned (.tuple #[.slice A' (mostV xs g).1.length cap', .bool (mostV xs g).2]) ∧ FreshA cIn 1 3 w.heap.size w' A' cap' (mostV xs g).1 ∧ Below w.heap.size w w' := by
  obtain ⟨i0, hI0, hI1, hI2, hI3⟩ := info_parts info_In
  by_cases hs0 : vB pOk pLt 6 xs = true
  rotate_left
  · have hn0 : vB pOk pLt 6 xs = false := Bool.eq_false_iff.2 hs0
    have HV := hid (show mostV xs g = ([], false) by simp [mostV, hn0])
    clear hs0
    go_enter Try.func36, Try.ntmps36
    go_wp2_with (first | (go_at_call 58; refine (c_spec_l14Good _ _ _ _ (by first | assumption | exact Rds.below hx (by (repeat' (first | exact Below.refl _ _ | assumption | refine Below.setCell ?_ ?_ _ | refine Below.drew ?_ | refine Below.alloc ?_ ?_ _ | refine Below.trans ?_ (Below.mono (by assumption) ?_) | (simp; done) | (simp; omega) | omega)))) (by omega)).mono ?_; rintro e w' ⟨rfl, hb⟩; have hc := cellOf hb; have hf := frozOf hb; have hz := sizeOf hb; try simp at hz) | (go_at_call 53; refine (c_spec_l14Gap _ _ ).mono ?_; rintro e w' ⟨rfl, hb⟩; have hc := cellOf hb; have hf := frozOf hb; have hz := sizeOf hb; try simp at hz))
    all_goals go_ret2
    all_goals simp only [HV.out]
    all_goals exact ⟨_, _, rfl, FreshA.emp (by (repeat' (first | exact Below.refl _ _ | assumption | refine Below.setCell ?_ ?_ _ | refine Below.drew ?_ | refine Below.alloc ?_ ?_ _ | refine Below.trans ?_ (Below.mono (by assumption) ?_) | (simp; done) | (simp; omega) | omega))), by (repeat' (first | exact Below.refl _ _ | assumption | refine Below.setCell ?_ ?_ _ | refine Below.drew ?_ | refine Below.alloc ?_ ?_ _ | refine Below.trans ?_ (Below.mono (by assumption) ?_) | (simp; done) | (simp; omega) | omega))⟩
  by_cases hs1 : gapB g = true
  rotate_left
  · have hn1 : gapB g = false := Bool.eq_false_iff.2 hs1
    have HV := hid (show mostV xs g = ([], false) by simp [mostV, hn1])
    clear hs1
    go_enter Try.func36, Try.ntmps36
    go_wp2_with (first | (go_at_call 58; refine (c_spec_l14Good _ _ _ _ (by first | assumption | exact Rds.below hx (by (repeat' (first | exact Below.refl _ _ | assumption | refine Below.setCell ?_ ?_ _ | refine Below.drew ?_ | refine Below.alloc ?_ ?_ _ | refine Below.trans ?_ (Below.mono (by assumption) ?_) | (simp; done) | (simp; omega) | omega)))) (by omega)).mono ?_; rintro e w' ⟨rfl, hb⟩; have hc := cellOf hb; have hf := frozOf hb; have hz := sizeOf hb; try simp at hz) | (go_at_call 53; refine (c_spec_l14Gap _ _ ).mono ?_; rintro e w' ⟨rfl, hb⟩; have hc := cellOf hb; have hf := frozOf hb; have hz := sizeOf hb; try simp at hz))
    all_goals go_ret2
    all_goals simp only [HV.out]
    all_goals exact ⟨_, _, rfl, FreshA.emp (by (repeat' (first | exact Below.refl _ _ | assumption | refine Below.setCell ?_ ?_ _ | refine Below.drew ?_ | refine Below.alloc ?_ ?_ _ | refine Below.trans ?_ (Below.mono (by assumption) ?_) | (simp; done) | (simp; omega) | omega))), by (repeat' (first | exact Below.refl _ _ | assumption | refine Below.setCell ?_ ?_ _ | refine Below.drew ?_ | refine Below.alloc ?_ ?_ _ | refine Below.trans ?_ (Below.mono (by assumption) ?_) | (simp; done) | (simp; omega) | omega))⟩
  have hlen := vB_len hs0
  obtain ⟨M, hM⟩ : ∃ M : Nat, 2 ^ xs.length = M := ⟨_, rfl⟩
  have HV := hid (show mostV xs g = (bstTo xs g M, true) by simp [mostV, hs0, hs1, hM])
  have HS0 := hid hs0
  have HX := hid hx
  have hshl := most_shl hlen
  have hpw := most_pw hlen
  have HM := hid hM
  rw [hM] at hshl hpw
  clear hM
  go_enter Try.func36, Try.ntmps36
  go_wp2_with (first | (go_at_call 58; refine (c_spec_l14Good _ _ _ _ (by first | assumption | exact Rds.below hx (by (repeat' (first | exact Below.refl _ _ | assumption | refine Below.setCell ?_ ?_ _ | refine Below.drew ?_ | refine Below.alloc ?_ ?_ _ | refine Below.trans ?_ (Below.mono (by assumption) ?_) | (simp; done) | (simp; omega) | omega)))) (by omega)).mono ?_; rintro e w' ⟨rfl, hb⟩; have hc := cellOf hb; have hf := frozOf hb; have hz := sizeOf hb; try simp at hz) | (go_at_call 53; refine (c_spec_l14Gap _ _ ).mono ?_; rintro e w' ⟨rfl, hb⟩; have hc := cellOf hb; have hf := frozOf hb; have hz := sizeOf hb; try simp at hz))
  clear hs0 hs1 hx
  go_loopw [6, 7] (fun b i wr => ∃ (s : Nat) (A' : Option Addr) (cp : Nat), s ≤ M ∧ i = .int .i64 s ∧ b = .slice A' (bstTo xs g s).length cp ∧ FreshA cIn 1 3 w.heap.size wr A' cp (bstTo xs g s) ∧ Below w.heap.size w wr) (fun _ i _ => M - (intOf i).toNat)
  case atStart => exact ⟨0, _, _, Nat.zero_le _, rfl, rfl, FreshA.emp (by (repeat' (first | exact Below.refl _ _ | assumption | refine Below.setCell ?_ ?_ _ | refine Below.drew ?_ | refine Below.alloc ?_ ?_ _ | refine Below.trans ?_ (Below.mono (by assumption) ?_) | (simp; done) | (simp; omega) | omega))), by (repeat' (first | exact Below.refl _ _ | assumption | refine Below.setCell ?_ ?_ _ | refine Below.drew ?_ | refine Below.alloc ?_ ?_ _ | refine Below.trans ?_ (Below.mono (by assumption) ?_) | (simp; done) | (simp; omega) | omega))⟩
  case round =>
    rename World => wo
    obtain ⟨s, A', cp, hk, rfl, rfl, hF, hbr⟩ := hrel
    clear hc hf hz hb
    have hzr := hbr.size
    by_cases hlt : s < M
    rotate_left
    · obtain rfl : s = M := by omega
      go_wp2_with (fail)
      go_ret2
      simp only [HV.out]
      exact ⟨A', cp, rfl, hF, by (repeat' (first | exact Below.refl _ _ | assumption | refine Below.setCell ?_ ?_ _ | refine Below.drew ?_ | refine Below.alloc ?_ ?_ _ | refine Below.trans ?_ (Below.mono (by assumption) ?_) | (simp; done) | (simp; omega) | omega))⟩
    have hs64 : s < 64 := by omega
    have hsi : (s : Int) < (M : Int) := by omega
    have HB1 := hid (bstTo_succ (xs := xs) (g := g) s)
    have hbl := bst_len (xs := xs) (g := g) s
    have HF := hid hF
    clear hF
    generalize bstTo xs g s = b at *
    go_wp2_with (fail)
    go_loopw [8, 9, 10] (fun u f i wr => ∃ (k : Nat) (A2 : Option Addr) (c2 : Nat), k ≤ xs.length ∧ i = .int .i64 k ∧ u = .slice A2 (idsK xs s k).length c2 ∧ f = .bool (frK xs s g k) ∧ FreshA cIn 1 3 wo.heap.size wr A2 c2 (idsK xs s k) ∧ Below wo.heap.size wo wr) (fun _ _ i _ => xs.length - (intOf i).toNat)
    case atStart => exact ⟨0, _, _, Nat.zero_le _, rfl, rfl, rfl, FreshA.emp (by (repeat' (first | exact Below.refl _ _ | assumption | refine Below.setCell ?_ ?_ _ | refine Below.drew ?_ | refine Below.alloc ?_ ?_ _ | refine Below.trans ?_ (Below.mono (by assumption) ?_) | (simp; done) | (simp; omega) | omega))), by (repeat' (first | exact Below.refl _ _ | assumption | refine Below.setCell ?_ ?_ _ | refine Below.drew ?_ | refine Below.alloc ?_ ?_ _ | refine Below.trans ?_ (Below.mono (by assumption) ?_) | (simp; done) | (simp; omega) | omega))⟩
    case round =>
      rename World => wm
      obtain ⟨k, A2, c2, hkx, rfl, rfl, rfl, hF2, hbm⟩ := hrel
      have hzm := hbm.size
      by_cases hltk : k < xs.length
      · obtain ⟨bx, ox, hxA, hbx, hcx⟩ := Rds.all HX.out (by omega)
        have hbxo : bx < wo.heap.size := by omega
        have hbxm : bx < wm.heap.size := by omega
        have hwv : ∀ o, wm.cell? ⟨bx, o, none⟩ = w.cell? ⟨bx, o, none⟩ := fun o => (hbm.cell (p := ⟨bx, o, none⟩) hbxo).trans (hbr.cell (p := ⟨bx, o, none⟩) hbx)
        have hx0 := (hwv _).trans (hcx k hltk 0 _ rfl)
        have hx1 := (hwv _).trans (hcx k hltk 1 _ rfl)
        have hx2 := (hwv _).trans (hcx k hltk 2 _ rfl)
        have hx3 := (hwv _).trans (hcx k hltk 3 _ rfl)
        simp only [Nat.add_zero] at hx0
        have hbit := most_bit hs64 (show k < 6 by omega)
        have HBIT : Hid (∀ q, q < 6 → bits BinOp.and IntKind.i64 ((s : Int) / 2 ^ q) 1 = if bitS s q = true then 1 else 0) := fun q hq => most_bit hs64 hq
        have hgd : xs.getD k p0 = xs[k] := by rw [List.getD_eq_getElem?_getD, List.getElem?_eq_getElem hltk]; rfl
        have HI1 := hid (ids_succ (xs := xs) (s := s) k)
        rw [hgd] at HI1
        have hl2 : (idsK xs s k).length ≤ 6 := by rw [ids_len]; have := pop_le s k; omega
        have HFR : Hid (frK xs s g (k + 1) = if bitS s k = true then frK xs s g k && innK xs s g k k else frK xs s g k) := rfl
        have hbdk := vB_bdP HS0.out k hltk
        have HF2 := hid hF2
        have HCX := hid hcx
        have HWV : Hid (∀ w' : World, Below wm.heap.size wm w' → ∀ o, w'.cell? ⟨bx, o, none⟩ = w.cell? ⟨bx, o, none⟩) := fun w' hbb o => (hbb.cell (p := ⟨bx, o, none⟩) hbxm).trans (hwv o)
        have HIN : Hid (∀ q (hq : q < k), innK xs s g k (q + 1) = (innK xs s g k q && (!bitS s q || !clash xs[k] (xs[q]'(by omega)) g))) := fun q hq => by
          show (innK xs s g k q && (!bitS s q || !clash (xs.getD k p0) (xs.getD q p0) g)) = _
          rw [hgd]
          have e2 : xs.getD q p0 = xs[q]'(by omega) := by rw [List.getD_eq_getElem?_getD, List.getElem?_eq_getElem (show q < xs.length by omega)]; rfl
          rw [e2]
        unfold bdP at hbdk
        subst hxA
        clear hcx hwv hgd hF2
        obtain ⟨x, hxk⟩ : ∃ x, x = xs[k] := ⟨_, rfl⟩
        simp only [← hxk] at hx0 hx1 hx2 hx3 HI1 HIN hbdk
        have HXK := hid hxk
        clear hxk
        obtain ⟨fr, hfr⟩ : ∃ fr, fr = frK xs s g k := ⟨_, rfl⟩
        simp only [← hfr] at HFR
        rw [← hfr]
        by_cases hbt : bitS s k = true
        · rw [if_pos hbt] at hbit HI1 HFR
          generalize idsK xs s k = ids at *
          clear hfr
          go_wp2_with (at_builtin; refine wpList_push rfl (.tmp 43) (.tmp 49) 51 rfl 3 i0 _ 1 8 Try.underlying51 hI0 hI1 hI2 hI3 rfl (by decide) (fun _ => rfl) one_In wo.heap.size A2 ids.length c2 ids rfl rfl (HF2.out.below (by (repeat' (first | exact Below.refl _ _ | assumption | refine Below.setCell ?_ ?_ _ | refine Below.drew ?_ | refine Below.alloc ?_ ?_ _ | refine Below.trans ?_ (Below.mono (by assumption) ?_) | (simp; done) | (simp; omega) | omega)))) x.1 _ 1 rfl ?_ ?_ ?_ ?_ ?_; (refine news_In _ _ _ ?_ <;> simp [go_sem, ↓IntWalk.iteOmega, *]); (unfold maxLen; omega); omega; (simp; omega); intro A5 cp5 w5 hF5 hg5 hat5; have hBB5 := row_below3 (HF2.out.below (by (repeat' (first | exact Below.refl _ _ | assumption | refine Below.setCell ?_ ?_ _ | refine Below.drew ?_ | refine Below.alloc ?_ ?_ _ | refine Below.trans ?_ (Below.mono (by assumption) ?_) | (simp; done) | (simp; omega) | omega)))) (show Below wo.heap.size wo _ by (repeat' (first | exact Below.refl _ _ | assumption | refine Below.setCell ?_ ?_ _ | refine Below.drew ?_ | refine Below.alloc ?_ ?_ _ | refine Below.trans ?_ (Below.mono (by assumption) ?_) | (simp; done) | (simp; omega) | omega))) hg5; have hb5x : ∀ o, w5.cell? ⟨bx, o, none⟩ = w.cell? ⟨bx, o, none⟩ := fun o => (hBB5.cell (p := ⟨bx, o, none⟩) hbxo).trans (hbr.cell (p := ⟨bx, o, none⟩) hbx))
          go_loopw [9, 11] (fun f i wr => ∃ q : Nat, q ≤ k ∧ i = .int .i64 q ∧ f = .bool (fr && innK xs s g k q) ∧ FreshA cIn 1 3 wo.heap.size wr A5 cp5 (ids ++ [x.1]) ∧ Below wo.heap.size wo wr) (fun _ i _ => k - (intOf i).toNat)
          case atStart => exact ⟨0, Nat.zero_le _, rfl, by simp [innK], hF5, hBB5⟩
          case round =>
            obtain ⟨q, hq, rfl, rfl, hF6, hb6⟩ := hrel
            have hz6 := hb6.size
            clear hb5x hBB5 hF5
            by_cases hqk : q < k
            · have hwr : ∀ o, wr.cell? ⟨bx, o, none⟩ = w.cell? ⟨bx, o, none⟩ := fun o => (hb6.cell (p := ⟨bx, o, none⟩) hbxo).trans (hbr.cell (p := ⟨bx, o, none⟩) hbx)
              have hqx : q < xs.length := by omega
              have hy0 := (hwr _).trans (HCX.out q hqx 0 _ rfl)
              have hy1 := (hwr _).trans (HCX.out q hqx 1 _ rfl)
              have hy2 := (hwr _).trans (HCX.out q hqx 2 _ rfl)
              have hy3 := (hwr _).trans (HCX.out q hqx 3 _ rfl)
              have hu0 := (hwr _).trans (HCX.out k hltk 0 _ rfl)
              have hu1 := (hwr _).trans (HCX.out k hltk 1 _ rfl)
              have hu2 := (hwr _).trans (HCX.out k hltk 2 _ rfl)
              have hu3 := (hwr _).trans (HCX.out k hltk 3 _ rfl)
              simp only [Nat.add_zero] at hy0 hu0
              have hbq := HBIT.out q (by omega)
              have HN := hid (HIN.out q hqk)
              have hbdq := vB_bdP HS0.out q hqx
              have hbdx := vB_bdP HS0.out k hltk
              unfold bdP at hbdq hbdx
              have HF6 := hid hF6
              clear hF6 hx0 hx1 hx2 hx3 hbit hwr
              obtain ⟨y, hyk⟩ : ∃ y, y = xs[q] := ⟨_, rfl⟩
              simp only [← hyk, ← HXK.out] at hy0 hy1 hy2 hy3 hu0 hu1 hu2 hu3 HN hbdq hbdx
              obtain ⟨v, hv⟩ : ∃ v, v = (fr && innK xs s g k q) := ⟨_, rfl⟩
              have HN2 : Hid ((fr && innK xs s g k (q + 1)) = (v && (!bitS s q || !clash x y g))) := by
                show _ = _
                rw [HN.out, hv]
                cases fr <;> rfl
              rw [← hv]
              clear hv HN hyk
              have hqi : (q : Int) < (k : Int) := by omega
              have hwq : IntKind.u64.wrap (q : Int) = (q : Int) := by rw [IntKind.wrap_u64]; omega
              have hmq : min q 64 = q := by omega
              cases v with
              | false =>
                rw [Bool.false_and] at HN2
                go_wp2_with (fail)
                go_quiet (fail)
                go_wp2_with (fail)
                go_roundw
                case rel => exact ⟨q + 1, by omega, by go_num, by rw [HN2.out], HF6.out.below (below_dn (Below.refl _ _)), below_dn hb6⟩
                case measure => simp [intOf]; omega
              | true =>
                rw [Bool.true_and] at HN2
                by_cases hbb : bitS s q = true
                · rw [if_pos hbb] at hbq
                  rw [hbb] at HN2
                  have HKQ : Hid (∀ w' : World, Below wr.heap.size wr w' → w'.cell? ⟨bx, ox + k * 4, none⟩ = some (.int .i64 x.1) ∧ w'.cell? ⟨bx, ox + k * 4 + 1, none⟩ = some (.bool x.2.1) ∧ w'.cell? ⟨bx, ox + k * 4 + 2, none⟩ = some (.int .i64 x.2.2.1) ∧ w'.cell? ⟨bx, ox + k * 4 + 3, none⟩ = some (.int .i64 x.2.2.2) ∧ w'.cell? ⟨bx, ox + q * 4, none⟩ = some (.int .i64 y.1) ∧ w'.cell? ⟨bx, ox + q * 4 + 1, none⟩ = some (.bool y.2.1) ∧ w'.cell? ⟨bx, ox + q * 4 + 2, none⟩ = some (.int .i64 y.2.2.1) ∧ w'.cell? ⟨bx, ox + q * 4 + 3, none⟩ = some (.int .i64 y.2.2.2)) := fun w' hbw => by
                    have hc9 : ∀ o, w'.cell? ⟨bx, o, none⟩ = wr.cell? ⟨bx, o, none⟩ := fun o => hbw.cell (p := ⟨bx, o, none⟩) (by show bx < wr.heap.size; omega)
                    exact ⟨(hc9 _).trans hu0, (hc9 _).trans hu1, (hc9 _).trans hu2, (hc9 _).trans hu3, (hc9 _).trans hy0, (hc9 _).trans hy1, (hc9 _).trans hy2, (hc9 _).trans hy3⟩
                  go_wp2_with (fail)
                  go_region_held3 (fun w' => w'.cell? ⟨bx, ox + k * 4, none⟩ = some (.int .i64 x.1) ∧ w'.cell? ⟨bx, ox + k * 4 + 1, none⟩ = some (.bool x.2.1) ∧ w'.cell? ⟨bx, ox + k * 4 + 2, none⟩ = some (.int .i64 x.2.2.1) ∧ w'.cell? ⟨bx, ox + k * 4 + 3, none⟩ = some (.int .i64 x.2.2.2) ∧ w'.cell? ⟨bx, ox + q * 4, none⟩ = some (.int .i64 y.1) ∧ w'.cell? ⟨bx, ox + q * 4 + 1, none⟩ = some (.bool y.2.1) ∧ w'.cell? ⟨bx, ox + q * 4 + 2, none⟩ = some (.int .i64 y.2.2.1) ∧ w'.cell? ⟨bx, ox + q * 4 + 3, none⟩ = some (.int .i64 y.2.2.2)) (first | assumption | exact HKQ.out _ (by (repeat' (first | exact Below.refl _ _ | assumption | refine Below.setCell ?_ ?_ _ | refine Below.drew ?_ | refine Below.alloc ?_ ?_ _ | refine Below.trans ?_ (Below.mono (by assumption) ?_) | (simp; done) | (simp; omega) | omega)))) (first | (go_at_call 54; refine (c_spec_l14Clash _ _ _ _ _ _ _ _ _ _ (by omega) (by omega) (by omega) (by omega)).mono ?_; rintro e w' ⟨rfl, hb⟩; have hz := hb.size))
                  go_wp2_with (fail)
                  go_roundw
                  case rel => exact ⟨q + 1, by omega, by go_num, by rw [HN2.out]; rfl, HF6.out.below (by (repeat' (first | exact Below.refl _ _ | assumption | refine Below.setCell ?_ ?_ _ | refine Below.drew ?_ | refine Below.alloc ?_ ?_ _ | refine Below.trans ?_ (Below.mono (by assumption) ?_) | (simp; done) | (simp; omega) | omega))), by (repeat' (first | exact Below.refl _ _ | assumption | refine Below.setCell ?_ ?_ _ | refine Below.drew ?_ | refine Below.alloc ?_ ?_ _ | refine Below.trans ?_ (Below.mono (by assumption) ?_) | (simp; done) | (simp; omega) | omega))⟩
                  case measure => simp [intOf]; omega
                · have hbf : bitS s q = false := Bool.eq_false_iff.2 hbb
                  rw [if_neg hbb] at hbq
                  rw [hbf] at HN2
                  go_wp2_with (fail)
                  go_quiet (fail)
                  go_wp2_with (fail)
                  go_roundw
                  case rel => exact ⟨q + 1, by omega, by go_num, by rw [HN2.out]; rfl, HF6.out.below (below_dn (Below.refl _ _)), below_dn hb6⟩
                  case measure => simp [intOf]; omega
            · obtain rfl : q = k := by omega
              go_wp2_with (fail)
              go_roundw
              case rel => exact ⟨q + 1, A5, cp5, by omega, by go_num, by rw [HI1.out]; simp, by rw [HFR.out], by rw [HI1.out]; exact hF6, hb6⟩
              case measure => simp [intOf]; omega
        · rw [if_neg hbt] at hbit HI1 HFR
          rw [List.append_nil] at HI1
          generalize idsK xs s k = ids at *
          clear hfr
          go_wp2_with (fail)
          go_roundw
          case rel => exact ⟨k + 1, A2, c2, by omega, by go_num, by rw [HI1.out], by rw [HFR.out], by rw [HI1.out]; exact HF2.out.below (by (repeat' (first | exact Below.refl _ _ | assumption | refine Below.setCell ?_ ?_ _ | refine Below.drew ?_ | refine Below.alloc ?_ ?_ _ | refine Below.trans ?_ (Below.mono (by assumption) ?_) | (simp; done) | (simp; omega) | omega))), by (repeat' (first | exact Below.refl _ _ | assumption | refine Below.setCell ?_ ?_ _ | refine Below.drew ?_ | refine Below.alloc ?_ ?_ _ | refine Below.trans ?_ (Below.mono (by assumption) ?_) | (simp; done) | (simp; omega) | omega))⟩
          case measure => simp [intOf]; omega
      obtain rfl : k = xs.length := by omega
      have HLN := hid (ids_len (xs := xs) (s := s) xs.length)
      have hil : (idsK xs s xs.length).length ≤ 6 := by rw [ids_len]; have := pop_le s xs.length; omega
      have HKP := hid (bst_keep (xs := xs) (g := g) (b := b) (s := s))
      have HTK := hid (bst_take (xs := xs) (g := g) (b := b) (s := s))
      have HF2 := hid hF2
      clear hF2 HLN
      generalize idsK xs s xs.length = ids at *
      generalize frK xs s g xs.length = fr at *
      cases fr with
      | false =>
        have HE := hid (HB1.out.trans (HKP.out (fun e => absurd e.1 (by decide))))
        go_wp2_with (fail)
        go_roundw
        case rel => exact ⟨s + 1, A', cp, by omega, by go_num, by rw [HE.out], by rw [HE.out]; exact HF.out.below (by (repeat' (first | exact Below.refl _ _ | assumption | refine Below.setCell ?_ ?_ _ | refine Below.drew ?_ | refine Below.alloc ?_ ?_ _ | refine Below.trans ?_ (Below.mono (by assumption) ?_) | (simp; done) | (simp; omega) | omega))), by (repeat' (first | exact Below.refl _ _ | assumption | refine Below.setCell ?_ ?_ _ | refine Below.drew ?_ | refine Below.alloc ?_ ?_ _ | refine Below.trans ?_ (Below.mono (by assumption) ?_) | (simp; done) | (simp; omega) | omega))⟩
        case measure => simp [intOf]; omega
      | true =>
        by_cases h1 : b.length < ids.length
        · have h1i : (b.length : Int) < (ids.length : Int) := by omega
          have HE := hid (HB1.out.trans (HTK.out rfl (.inl h1)))
          go_wp2_with (fail)
          go_roundw
          case rel => exact ⟨s + 1, A2, c2, by omega, by go_num, by rw [HE.out], by rw [HE.out]; exact (HF2.out.below (by (repeat' (first | exact Below.refl _ _ | assumption | refine Below.setCell ?_ ?_ _ | refine Below.drew ?_ | refine Below.alloc ?_ ?_ _ | refine Below.trans ?_ (Below.mono (by assumption) ?_) | (simp; done) | (simp; omega) | omega)))).mono hzr, by (repeat' (first | exact Below.refl _ _ | assumption | refine Below.setCell ?_ ?_ _ | refine Below.drew ?_ | refine Below.alloc ?_ ?_ _ | refine Below.trans ?_ (Below.mono (by assumption) ?_) | (simp; done) | (simp; omega) | omega))⟩
          case measure => simp [intOf]; omega
        have h1i : ¬ (b.length : Int) < (ids.length : Int) := by omega
        by_cases h2 : ids.length = b.length
        · have HEQ := hid h2
          have h2i : (ids.length : Int) = (b.length : Int) := by omega
          by_cases hlx : lexB ids b = true
          · have HE := hid (HB1.out.trans (HTK.out rfl (.inr ⟨h2, hlx⟩)))
            clear h2
            go_wp2_with (go_at_call 74; refine (c_l4Less _ ids _ _ b _ _ (HF2.out.rds.below (by (repeat' (first | exact Below.refl _ _ | assumption | refine Below.setCell ?_ ?_ _ | refine Below.drew ?_ | refine Below.alloc ?_ ?_ _ | refine Below.trans ?_ (Below.mono (by assumption) ?_) | (simp; done) | (simp; omega) | omega)))) (by omega) (HF.out.rds.below (by (repeat' (first | exact Below.refl _ _ | assumption | refine Below.setCell ?_ ?_ _ | refine Below.drew ?_ | refine Below.alloc ?_ ?_ _ | refine Below.trans ?_ (Below.mono (by assumption) ?_) | (simp; done) | (simp; omega) | omega)))) HEQ.out).mono ?_; rintro e w' ⟨rfl, hb⟩; have hz := hb.size)
            go_roundw
            case rel => exact ⟨s + 1, A2, c2, by omega, by go_num, by rw [HE.out], by rw [HE.out]; exact (HF2.out.below (by (repeat' (first | exact Below.refl _ _ | assumption | refine Below.setCell ?_ ?_ _ | refine Below.drew ?_ | refine Below.alloc ?_ ?_ _ | refine Below.trans ?_ (Below.mono (by assumption) ?_) | (simp; done) | (simp; omega) | omega)))).mono hzr, by (repeat' (first | exact Below.refl _ _ | assumption | refine Below.setCell ?_ ?_ _ | refine Below.drew ?_ | refine Below.alloc ?_ ?_ _ | refine Below.trans ?_ (Below.mono (by assumption) ?_) | (simp; done) | (simp; omega) | omega))⟩
            case measure => simp [intOf]; omega
          · have HE := hid (HB1.out.trans (HKP.out (fun e => e.2.elim h1 (fun q => hlx q.2))))
            have hlf : lexB ids b = false := Bool.eq_false_iff.2 hlx
            clear h2 hlx
            go_wp2_with (go_at_call 74; refine (c_l4Less _ ids _ _ b _ _ (HF2.out.rds.below (by (repeat' (first | exact Below.refl _ _ | assumption | refine Below.setCell ?_ ?_ _ | refine Below.drew ?_ | refine Below.alloc ?_ ?_ _ | refine Below.trans ?_ (Below.mono (by assumption) ?_) | (simp; done) | (simp; omega) | omega)))) (by omega) (HF.out.rds.below (by (repeat' (first | exact Below.refl _ _ | assumption | refine Below.setCell ?_ ?_ _ | refine Below.drew ?_ | refine Below.alloc ?_ ?_ _ | refine Below.trans ?_ (Below.mono (by assumption) ?_) | (simp; done) | (simp; omega) | omega)))) HEQ.out).mono ?_; rintro e w' ⟨rfl, hb⟩; have hz := hb.size)
            go_roundw
            case rel => exact ⟨s + 1, A', cp, by omega, by go_num, by rw [HE.out], by rw [HE.out]; exact HF.out.below (by (repeat' (first | exact Below.refl _ _ | assumption | refine Below.setCell ?_ ?_ _ | refine Below.drew ?_ | refine Below.alloc ?_ ?_ _ | refine Below.trans ?_ (Below.mono (by assumption) ?_) | (simp; done) | (simp; omega) | omega))), by (repeat' (first | exact Below.refl _ _ | assumption | refine Below.setCell ?_ ?_ _ | refine Below.drew ?_ | refine Below.alloc ?_ ?_ _ | refine Below.trans ?_ (Below.mono (by assumption) ?_) | (simp; done) | (simp; omega) | omega))⟩
            case measure => simp [intOf]; omega
        · have HE := hid (HB1.out.trans (HKP.out (fun e => e.2.elim h1 (fun q => h2 q.1))))
          have h2i : ¬ (ids.length : Int) = (b.length : Int) := by omega
          go_wp2_with (fail)
          go_roundw
          case rel => exact ⟨s + 1, A', cp, by omega, by go_num, by rw [HE.out], by rw [HE.out]; exact HF.out.below (by (repeat' (first | exact Below.refl _ _ | assumption | refine Below.setCell ?_ ?_ _ | refine Below.drew ?_ | refine Below.alloc ?_ ?_ _ | refine Below.trans ?_ (Below.mono (by assumption) ?_) | (simp; done) | (simp; omega) | omega))), by (repeat' (first | exact Below.refl _ _ | assumption | refine Below.setCell ?_ ?_ _ | refine Below.drew ?_ | refine Below.alloc ?_ ?_ _ | refine Below.trans ?_ (Below.mono (by assumption) ?_) | (simp; done) | (simp; omega) | omega))⟩
          case measure => simp [intOf]; omega

end Go.Proofs.Ytgjbdcalmodhpaa
