import Derived.Test.YtgjbdcalmodhpaaCu9
import Derived.Test.YtgjbdcalmodhpaaQ4
import Derived.Test.YtgjbdcalmodhpaaD7
namespace Go.Proofs.Ytgjbdcalmodhpaa
set_option linter.unusedSimpArgs false
set_option linter.unusedVariables false
open Go.RowKit

set_option maxRecDepth 100000 in
set_option maxHeartbeats 4000000 in
theorem c_passages (b : Nat) (A : Option Addr) (cs : List Int) (cap : Nat) (m : Int) (w : World) (hcu : CurS w b A cs cap m) (hby : Bytes cs) (hm : 0 ≤ m ∧ m ≤ 700000000) (hl : cs.length ≤ 1000000000) :
    Calls Try.prog 81 #[.pointer (some ⟨b, 0, none⟩)] w fun e w' => ∃ (A' : Option Addr) (cp : Nat) (xs : List (Int × Bool × Int × Int)), e = .returned (.slice A' xs.length cp) ∧ FreshA cPas 4 26 w.heap.size w' A' cp xs ∧ xs.length ≤ 14 ∧ CurS w' b A cs cap (m + 80) ∧ w.grownBy w' (some b) := by
  obtain ⟨i0, hI0, hI1, hI2, hI3⟩ := info_parts info_Pas
  have hlt0 := hcu.lt
  go_enter Try.func81, Try.ntmps81
  go_wp2_with (fail)
  refine (c_pick b A cs cap m 6 _ (by repeat' (first | exact CurS.mono hcu (by omega) | refine CurS.setc ?_ ?_ | refine CurS.allo ?_ | refine CurS.drw ?_ | (simp; done) | (simp at *; omega) | omega)) hby (by omega) hl (by omega)).mono ?_
  rintro e W1 ⟨x1, rfl, hx1a, hx1b, hcu1, hg1⟩
  have hz1 := hg1.size
  try simp at hz1
  obtain ⟨j1, rfl⟩ : ∃ j : Nat, x1 = j := ⟨x1.toNat, by omega⟩
  go_wp2_with (fail)
  go_loopw [3, 4, 5] (fun v d i wr => ∃ (j : Nat) (dd : Int) (A2 : Option Addr) (cp2 : Nat) (out : List (Int × Bool × Int × Int)), i = .int .i64 j ∧ d = .int .i64 dd ∧ 0 ≤ dd ∧ dd ≤ 60 - 7 * j ∧ v = .slice A2 out.length cp2 ∧ FreshA cPas 4 26 w.heap.size wr A2 cp2 out ∧ out.length + j ≤ 5 ∧ CurS wr b A cs cap (m + 50 - 8 * j) ∧ w.grownBy wr (some b)) (fun _ _ i _ => (intOf i).toNat)
  case atStart =>
    exact ⟨j1, 0, _, _, [], rfl, rfl, by omega, by omega, rfl, (FreshA.new (by omega)).rowb hg1 hlt0, by simp; omega, hcu1.mono (by omega), by (repeat' (first | exact World.grownBy.refl _ _ | assumption | refine grownA ?_ | refine grownS ?_ ?_ | refine grown_drew ?_ | refine grownT (by assumption) ?_ | (simp; done) | (simp at *; omega) | omega))⟩
  case round =>
    obtain ⟨j, dd, A2, cp2, out, rfl, rfl, hd0, hd1, rfl, hF, hol, hcr, hgr⟩ := hrel
    have hlo := hF.lo
    have hhi := hF.hi
    have hzr := hgr.size
    by_cases hj : j = 0
    · subst hj
      go_wp2_with (fail)
      refine (c_one b A cs cap (m + 50) 24 _ (hcr.mono (by omega)) hby (by omega) hl (by omega)).mono ?_
      rintro e W2 ⟨y2, rfl, hcu2, hg2⟩
      have hF2 := hF.rowb hg2 hlt0
      have hgw := grown_trans hgr hg2
      cases y2
      · go_wp2_with (fail)
        go_ret
        exact ⟨A2, cp2, out, rfl, hF2, by omega, hcu2.mono (by omega), hgw⟩
      · go_wp2_with (fail)
        have HF2 := hid hF2
        clear hF hF2
        go_loopw [3, 6] (fun v i wv => ∃ (q : Nat) (A3 : Option Addr) (cp3 : Nat) (ou : List (Int × Bool × Int × Int)), i = .int .i64 q ∧ q ≤ 8 ∧ v = .slice A3 ou.length cp3 ∧ FreshA cPas 4 26 w.heap.size wv A3 cp3 ou ∧ ou.length ≤ 5 + q ∧ CurS wv b A cs cap (m + 51 + q) ∧ w.grownBy wv (some b)) (fun _ i _ => 8 - (intOf i).toNat)
        case atStart => exact ⟨0, A2, cp2, out, rfl, by omega, rfl, HF2.out, by omega, hcu2.mono (by omega), hgw⟩
        case round =>
          obtain ⟨q, A3, cp3, ou, rfl, hq, rfl, hF3, hol3, hcr3, hgr3⟩ := hrel
          have hlo := hF3.lo
          have hhi := hF3.hi
          have hzr3 := hgr3.size
          go_wp2_with (fail)
          refine (c_pick b A cs cap (m + 51 + q) 2 _ hcr3 hby (by omega) hl (by omega)).mono ?_
          rintro e W4 ⟨x4, rfl, hx4a, hx4b, hcu4, hg4⟩
          have hz4 := hg4.size
          have HF := hid (hF3.rowb hg4 hlt0)
          have hgw4 := grown_trans hgr3 hg4
          clear hF3
          by_cases hle : (ou.length : Int) < 6 + x4 ∧ q < 8
          · obtain ⟨hle1, hle2⟩ := hle
            go_wp2_with ((at_builtin; refine wpList_push rfl (.tmp 39) (.tmp 48) 32 rfl 26 i0 _ 4 32 Try.underlying32 hI0 hI1 hI2 hI3 rfl (by decide) (fun _ => rfl) one_Pas (w.heap.size) A3 ou.length cp3 (ou) rfl rfl (HF.out.below (by (repeat' (first | exact Below.refl _ _ | assumption | refine Below.setCell ?_ ?_ _ | refine Below.drew ?_ | refine Below.alloc ?_ ?_ _ | refine Below.trans ?_ (Below.mono (by assumption) ?_) | (simp; done) | (simp; omega) | omega)))) ((60 + (q : Int), false, 20 * (q : Int), 20 * (q : Int) + 10)) _ 1 rfl ?_ ?_ ?_ ?_ ?_; (refine news_Pas _ _ _ ?_ ?_ ?_ ?_ <;> simp [go_sem, ↓IntWalk.iteOmega]); (unfold maxLen; omega); omega; (simp; omega); intro A5 cp5 w5 hF5 hg5 hat5; have hc5 := cellGrown hg5 hlo hhi; have hf5 := frozGrown hg5 hlo hhi; have hs5 := hg5.size; (try simp at hs5); have hb5 := below_of_grown (B := w.heap.size) hg5 (hlo.mono (by omega)) (by simp; omega)))
            go_roundw
            case rel =>
              refine ⟨q + 1, A5, cp5, ou ++ [(60 + (q : Int), false, 20 * (q : Int), 20 * (q : Int) + 10)], by go_num, by omega, by simp, hF5, by simp; omega, ?_, grown_other (by (repeat' (first | exact World.grownBy.refl _ _ | assumption | refine grownA ?_ | refine grownS ?_ ?_ | refine grown_drew ?_ | refine grownT (by assumption) ?_ | (simp; done) | (simp at *; omega) | omega))) hg5 hlo⟩
              exact CurS.mono (CurS.other (CurS.allo hcu4) hg5 hlo hlt0) (by omega)
            case measure => simp [intOf]; omega
          · go_wp2_with (fail)
            all_goals go_ret
            all_goals exact ⟨A3, cp3, ou, rfl, HF.out, by omega, hcu4.mono (by omega), hgw4⟩
    · go_wp2_with (fail)
      refine (c_pick b A cs cap (m + 50 - 8 * j) 6 _ hcr hby (by omega) hl (by omega)).mono ?_
      rintro e W2 ⟨x2, rfl, hx2a, hx2b, hcu2, hg2⟩
      have hz2 := hg2.size
      have hF2 := hF.rowb hg2 hlt0
      have hgw2 := grown_trans hgr hg2
      go_wp2_with (fail)
      refine (c_passage b A cs cap (m + 50 - 8 * j + 1) (dd + 1 + x2) _ hcu2 hby (by omega) hl (by omega)).mono ?_
      rintro e W3 ⟨⟨pi, pd, pa, pb, rfl⟩, hcu3, hg3⟩
      have hz3 := hg3.size
      have HF := hid (hF2.rowb hg3 hlt0)
      have hgw3 := grown_trans hgw2 hg3
      clear hF hF2
      go_wp2_with ((at_builtin; refine wpList_push rfl (.tmp 19) (.tmp 23) 32 rfl 26 i0 _ 4 32 Try.underlying32 hI0 hI1 hI2 hI3 rfl (by decide) (fun _ => rfl) one_Pas (w.heap.size) A2 out.length cp2 (out) rfl rfl (HF.out.below (by (repeat' (first | exact Below.refl _ _ | assumption | refine Below.setCell ?_ ?_ _ | refine Below.drew ?_ | refine Below.alloc ?_ ?_ _ | refine Below.trans ?_ (Below.mono (by assumption) ?_) | (simp; done) | (simp; omega) | omega)))) ((pi, pd, pa, pb)) _ 1 rfl ?_ ?_ ?_ ?_ ?_; (refine news_Pas _ _ _ ?_ ?_ ?_ ?_ <;> simp [go_sem, ↓IntWalk.iteOmega]); (unfold maxLen; omega); omega; (simp; omega); intro A5 cp5 w5 hF5 hg5 hat5; have hc5 := cellGrown hg5 hlo hhi; have hf5 := frozGrown hg5 hlo hhi; have hs5 := hg5.size; (try simp at hs5); have hb5 := below_of_grown (B := w.heap.size) hg5 (hlo.mono (by omega)) (by simp; omega)))
      go_roundw
      case rel =>
        refine ⟨j - 1, dd + 1 + x2, A5, cp5, out ++ [(pi, pd, pa, pb)], by first | go_num | (congr 1; omega), by first | rfl | go_num, by omega, by omega, by simp, hF5, by simp; omega, ?_, grown_other (by (repeat' (first | exact World.grownBy.refl _ _ | assumption | refine grownA ?_ | refine grownS ?_ ?_ | refine grown_drew ?_ | refine grownT (by assumption) ?_ | (simp; done) | (simp at *; omega) | omega))) hg5 hlo⟩
        exact CurS.mono (CurS.other (CurS.allo hcu3) hg5 hlo hlt0) (by omega)
      case measure => simp [intOf]; omega

end Go.Proofs.Ytgjbdcalmodhpaa
