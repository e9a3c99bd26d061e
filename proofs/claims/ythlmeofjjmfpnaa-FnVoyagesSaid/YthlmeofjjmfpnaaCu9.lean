import Derived.Test.YthlmeofjjmfpnaaCu8
import Derived.Test.YthlmeofjjmfpnaaS1
import Derived.Test.YthlmeofjjmfpnaaS3
namespace Go.Proofs.Ythlmeofjjmfpnaa
set_option linter.unusedSimpArgs false
set_option linter.unusedVariables false
open Go.RowKit

theorem FreshA.new {α : Type} {cf : α → List Value} {sz : Nat} {T : TypeId} {B : Nat} {w : World} (hB : B ≤ w.heap.size) : FreshA cf sz T B (w.alloc (.cells #[] T)) (some ⟨w.heap.size, 0, none⟩) 0 ([] : List α) :=
  .inr ⟨w.heap.size, rfl, hB, #[], heap_alloc_new _ _, by simp, Nat.le_refl _, by unfold maxLen; omega, fun i x h => by simp at h⟩

theorem news_Leg (w : World) (g : Nat) (x : (Int × Int)) (h0 : w.cell? ⟨g, 0, none⟩ = some (.int .i64 (x.1))) (h1 : w.cell? ⟨g, 1, none⟩ = some (.int .i64 (x.2))) : ∀ j u, (cLeg x)[j]? = some u → w.cell? ⟨g, j, none⟩ = some u := by
  intro j u hu
  match j, hu with
  | 0, hu => cases hu; exact h0
  | 1, hu => cases hu; exact h1
  | j + 2, hu => simp [cLeg] at hu

theorem one_Leg : ∀ x, ∀ u ∈ cLeg x, u.oneCell' = true := by
  intro x u hu
  simp [cLeg] at hu
  rcases hu with rfl | rfl <;> rfl

set_option maxRecDepth 100000 in
set_option maxHeartbeats 4000000 in
theorem c_legs (b : Nat) (A : Option Addr) (cs : List Int) (cap : Nat) (m : Int) (w : World) (hcu : CurS w b A cs cap m) (hby : Bytes cs) (hm : 0 ≤ m ∧ m ≤ 700000000) (hl : cs.length ≤ 1000000000) :
    Calls Try.prog 75 #[.pointer (some ⟨b, 0, none⟩)] w fun e w' => ∃ (A' : Option Addr) (cp : Nat) (xs : List (Int × Int)), e = .returned (.slice A' xs.length cp) ∧ FreshA cLeg 2 39 w.heap.size w' A' cp xs ∧ xs.length ≤ 14 ∧ CurS w' b A cs cap (m + 40) ∧ w.grownBy w' (some b) := by
  obtain ⟨i0, hI0, hI1, hI2, hI3⟩ := info_parts info_laws_toLegS
  have hlt0 := hcu.lt
  go_enter Try.func75, Try.ntmps75
  go_wp2_with (fail)
  refine (c_pick b A cs cap m 5 _ (by repeat' (first | exact CurS.mono hcu (by omega) | refine CurS.setc ?_ ?_ | refine CurS.allo ?_ | refine CurS.drw ?_ | (simp; done) | (simp at *; omega) | omega)) hby (by omega) hl (by omega)).mono ?_
  rintro e W1 ⟨x1, rfl, hx1a, hx1b, hcu1, hg1⟩
  have hz1 := hg1.size
  try simp at hz1
  obtain ⟨j1, rfl⟩ : ∃ j : Nat, x1 = j := ⟨x1.toNat, by omega⟩
  go_wp2_with (fail)
  go_loopw [3, 4] (fun v i wr => ∃ (j : Nat) (A2 : Option Addr) (cp2 : Nat) (out : List (Int × Int)), i = .int .i64 j ∧ v = .slice A2 out.length cp2 ∧ FreshA cLeg 2 39 w.heap.size wr A2 cp2 out ∧ out.length + j ≤ 4 ∧ CurS wr b A cs cap (m + 17 - 4 * j) ∧ w.grownBy wr (some b)) (fun _ i _ => (intOf i).toNat)
  case atStart =>
    exact ⟨j1, _, _, [], rfl, rfl, (FreshA.new (by omega)).rowb hg1 hlt0, by simp; omega, hcu1.mono (by omega), by (repeat' (first | exact World.grownBy.refl _ _ | assumption | refine grownA ?_ | refine grownS ?_ ?_ | refine grown_drew ?_ | refine grownT (by assumption) ?_ | (simp; done) | (simp at *; omega) | omega))⟩
  case round =>
    obtain ⟨j, A2, cp2, out, rfl, rfl, hF, hol, hcr, hgr⟩ := hrel
    have hlo := hF.lo
    have hhi := hF.hi
    have hzr := hgr.size
    by_cases hj : j = 0
    · subst hj
      go_wp2_with (fail)
      refine (c_one b A cs cap (m + 17) 24 _ (hcr.mono (by omega)) hby (by omega) hl (by omega)).mono ?_
      rintro e W2 ⟨y2, rfl, hcu2, hg2⟩
      have hF2 := hF.rowb hg2 hlt0
      have hgw := grown_trans hgr hg2
      cases y2
      · go_wp2_with (fail)
        go_ret
        exact ⟨A2, cp2, out, rfl, hF2, by omega, hcu2.mono (by omega), hgw⟩
      · go_wp2_with (fail)
        have HF2 := hid hF2
        clear hF hF2
        go_loopw [3, 5] (fun v i wv => ∃ (q : Nat) (A3 : Option Addr) (cp3 : Nat) (ou : List (Int × Int)), i = .int .i64 q ∧ q ≤ 10 ∧ v = .slice A3 ou.length cp3 ∧ FreshA cLeg 2 39 w.heap.size wv A3 cp3 ou ∧ ou.length ≤ 4 + q ∧ CurS wv b A cs cap (m + 18 + q) ∧ w.grownBy wv (some b)) (fun _ i _ => 10 - (intOf i).toNat)
        case atStart => exact ⟨0, A2, cp2, out, rfl, by omega, rfl, HF2.out, by omega, hcu2.mono (by omega), hgw⟩
        case round =>
          obtain ⟨q, A3, cp3, ou, rfl, hq, rfl, hF3, hol3, hcr3, hgr3⟩ := hrel
          have hlo := hF3.lo
          have hhi := hF3.hi
          have hzr3 := hgr3.size
          go_wp2_with (fail)
          refine (c_pick b A cs cap (m + 18 + q) 2 _ hcr3 hby (by omega) hl (by omega)).mono ?_
          rintro e W4 ⟨x4, rfl, hx4a, hx4b, hcu4, hg4⟩
          have hz4 := hg4.size
          have HF := hid (hF3.rowb hg4 hlt0)
          have hgw4 := grown_trans hgr3 hg4
          clear hF3
          by_cases hle : (ou.length : Int) < 8 + x4 ∧ q < 10
          · obtain ⟨hle1, hle2⟩ := hle
            go_wp2_with ((at_builtin; refine wpList_push rfl (.tmp 32) (.tmp 34) 45 rfl 39 i0 _ 2 16 Try.underlying45 hI0 hI1 hI2 hI3 rfl (by decide) (fun _ => rfl) one_Leg (w.heap.size) A3 ou.length cp3 (ou) rfl rfl (HF.out.below (by (repeat' (first | exact Below.refl _ _ | assumption | refine Below.setCell ?_ ?_ _ | refine Below.drew ?_ | refine Below.alloc ?_ ?_ _ | refine Below.trans ?_ (Below.mono (by assumption) ?_) | (simp; done) | (simp; omega) | omega)))) ((1, 3)) _ 1 rfl ?_ ?_ ?_ ?_ ?_; (refine news_Leg _ _ _ ?_ ?_ <;> simp [go_sem, ↓IntWalk.iteOmega]); (unfold maxLen; omega); omega; (simp; omega); intro A5 cp5 w5 hF5 hg5 hat5; have hc5 := cellGrown hg5 hlo hhi; have hf5 := frozGrown hg5 hlo hhi; have hs5 := hg5.size; (try simp at hs5); have hb5 := below_of_grown (B := w.heap.size) hg5 (hlo.mono (by omega)) (by simp; omega)))
            go_roundw
            case rel =>
              refine ⟨q + 1, A5, cp5, ou ++ [(1, 3)], by go_num, by omega, by simp, hF5, by simp; omega, ?_, grown_other (by (repeat' (first | exact World.grownBy.refl _ _ | assumption | refine grownA ?_ | refine grownS ?_ ?_ | refine grown_drew ?_ | refine grownT (by assumption) ?_ | (simp; done) | (simp at *; omega) | omega))) hg5 hlo⟩
              exact CurS.mono (CurS.other (CurS.allo hcu4) hg5 hlo hlt0) (by omega)
            case measure => simp [intOf]; omega
          · go_wp2_with (fail)
            all_goals go_ret
            all_goals exact ⟨A3, cp3, ou, rfl, HF.out, by omega, hcu4.mono (by omega), hgw4⟩
    · go_wp2_with (fail)
      refine (c_leg b A cs cap (m + 17 - 4 * j) _ hcr hby (by omega) hl).mono ?_
      rintro e W3 ⟨f, t, rfl, hfb, htb, hcu3, hg3⟩
      have hz3 := hg3.size
      have HF := hid (hF.rowb hg3 hlt0)
      have hgw3 := grown_trans hgr hg3
      clear hF
      go_wp2_with ((at_builtin; refine wpList_push rfl (.tmp 13) (.tmp 16) 45 rfl 39 i0 _ 2 16 Try.underlying45 hI0 hI1 hI2 hI3 rfl (by decide) (fun _ => rfl) one_Leg (w.heap.size) A2 out.length cp2 (out) rfl rfl (HF.out.below (by (repeat' (first | exact Below.refl _ _ | assumption | refine Below.setCell ?_ ?_ _ | refine Below.drew ?_ | refine Below.alloc ?_ ?_ _ | refine Below.trans ?_ (Below.mono (by assumption) ?_) | (simp; done) | (simp; omega) | omega)))) ((f, t)) _ 1 rfl ?_ ?_ ?_ ?_ ?_; (refine news_Leg _ _ _ ?_ ?_ <;> simp [go_sem, ↓IntWalk.iteOmega]); (unfold maxLen; omega); omega; (simp; omega); intro A5 cp5 w5 hF5 hg5 hat5; have hc5 := cellGrown hg5 hlo hhi; have hf5 := frozGrown hg5 hlo hhi; have hs5 := hg5.size; (try simp at hs5); have hb5 := below_of_grown (B := w.heap.size) hg5 (hlo.mono (by omega)) (by simp; omega)))
      go_roundw
      case rel =>
        refine ⟨j - 1, A5, cp5, out ++ [(f, t)], by first | go_num | (congr 1; omega), by simp, hF5, by simp; omega, ?_, grown_other (by (repeat' (first | exact World.grownBy.refl _ _ | assumption | refine grownA ?_ | refine grownS ?_ ?_ | refine grown_drew ?_ | refine grownT (by assumption) ?_ | (simp; done) | (simp at *; omega) | omega))) hg5 hlo⟩
        exact CurS.mono (CurS.other (CurS.allo hcu3) hg5 hlo hlt0) (by omega)
      case measure => simp [intOf]; omega

end Go.Proofs.Ythlmeofjjmfpnaa
