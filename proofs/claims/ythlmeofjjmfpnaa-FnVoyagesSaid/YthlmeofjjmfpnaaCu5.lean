import Derived.Test.YthlmeofjjmfpnaaCu4
namespace Go.Proofs.Ythlmeofjjmfpnaa
set_option linter.unusedSimpArgs false
set_option linter.unusedVariables false
open Go.RowKit

set_option maxRecDepth 100000 in
set_option maxHeartbeats 4000000 in
theorem c_minute (b : Nat) (A : Option Addr) (cs : List Int) (cap : Nat) (m : Int) (w : World) (hcu : CurS w b A cs cap m) (hby : Bytes cs) (hm : 0 ≤ m ∧ m ≤ 800000000) (hl : cs.length ≤ 1000000000) :
    Calls Try.prog 74 #[.pointer (some ⟨b, 0, none⟩)] w fun e w' => ∃ x : Int, e = .returned (.int .i64 x) ∧ -1 ≤ x ∧ x ≤ 10000 ∧ CurS w' b A cs cap (m + 2) ∧ w.grownBy w' (some b) := by
  have hlt0 := hcu.lt
  go_enter Try.func74, Try.ntmps74
  go_wp2_with (fail)
  refine (c_one b A cs cap (m) 20 _ (by repeat' (first | exact CurS.mono hcu (by omega) | refine CurS.setc ?_ ?_ | refine CurS.allo ?_ | refine CurS.drw ?_ | (simp; done) | (simp at *; omega) | omega)) hby (by omega) hl (by omega)).mono ?_
  rintro e W1 ⟨y1, rfl,  hcu1, hg1⟩
  have hc1 := cellRow hg1
  have hf1 := frozRow hg1
  have hz1 := hg1.size
  have hlt1 := hcu1.lt
  try simp at hz1
  cases y1
  · go_wp2_with (fail)
    refine (c_pick b A cs cap (m + 1) (120) _ (by repeat' (first | exact CurS.mono hcu1 (by omega) | refine CurS.setc ?_ ?_ | refine CurS.allo ?_ | refine CurS.drw ?_ | (simp; done) | (simp at *; omega) | omega)) hby (by omega) hl (by omega)).mono ?_
    rintro e W2 ⟨x2, rfl, hx2a, hx2b, hcu2, hg2⟩
    have hc2 := cellRow hg2
    have hf2 := frozRow hg2
    have hz2 := hg2.size
    have hlt2 := hcu2.lt
    try simp at hz2
    go_wp2_with (fail)
    go_ret
    exact ⟨x2, rfl, by omega, by omega, (by repeat' (first | exact CurS.mono hcu2 (by omega) | refine CurS.setc ?_ ?_ | refine CurS.allo ?_ | refine CurS.drw ?_ | (simp; done) | (simp at *; omega) | omega)), by (repeat' (first | exact World.grownBy.refl _ _ | assumption | refine grownA ?_ | refine grownS ?_ ?_ | refine grown_drew ?_ | refine grownT (by assumption) ?_ | (simp; done) | (simp at *; omega) | omega))⟩
  · go_wp2_with (fail)
    refine (c_among b A cs cap (m + 1) _ ([-1, 9999, 10000] : List Int) _ (-1) (10000) _ (by repeat' (first | exact CurS.mono hcu1 (by omega) | refine CurS.setc ?_ ?_ | refine CurS.allo ?_ | refine CurS.drw ?_ | (simp; done) | (simp at *; omega) | omega)) hby (by omega) hl (Rds.of_lit (by simp) (by intro i x h; rcases i with _ | _ | _ | i <;> simp at h ⊢ <;> first | exact h | omega)) (by simp) (by intro a ha; cases ha; simp; omega) (fun k hk => (show ∀ x ∈ ([-1, 9999, 10000] : List Int), -1 ≤ x ∧ x ≤ 10000 by intro x hx; simp at hx; omega) _ (List.getElem_mem hk))).mono ?_
    rintro e W2 ⟨x2, rfl, hx2a, hx2b, hcu2, hg2⟩
    have hc2 := cellRow hg2
    have hf2 := frozRow hg2
    have hz2 := hg2.size
    have hlt2 := hcu2.lt
    try simp at hz2
    go_wp2_with (fail)
    go_ret
    exact ⟨x2, rfl, by omega, by omega, (by repeat' (first | exact CurS.mono hcu2 (by omega) | refine CurS.setc ?_ ?_ | refine CurS.allo ?_ | refine CurS.drw ?_ | (simp; done) | (simp at *; omega) | omega)), by (repeat' (first | exact World.grownBy.refl _ _ | assumption | refine grownA ?_ | refine grownS ?_ ?_ | refine grown_drew ?_ | refine grownT (by assumption) ?_ | (simp; done) | (simp at *; omega) | omega))⟩

end Go.Proofs.Ythlmeofjjmfpnaa
