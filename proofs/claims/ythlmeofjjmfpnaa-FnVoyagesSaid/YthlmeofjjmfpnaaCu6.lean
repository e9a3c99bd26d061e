import Derived.Test.YthlmeofjjmfpnaaCu5
namespace Go.Proofs.Ythlmeofjjmfpnaa
set_option linter.unusedSimpArgs false
set_option linter.unusedVariables false
open Go.RowKit

set_option maxRecDepth 100000 in
set_option maxHeartbeats 4000000 in
theorem c_interval (b : Nat) (A : Option Addr) (cs : List Int) (cap : Nat) (m : Int) (w : World) (hcu : CurS w b A cs cap m) (hby : Bytes cs) (hm : 0 ≤ m ∧ m ≤ 800000000) (hl : cs.length ≤ 1000000000) :
    Calls Try.prog 72 #[.pointer (some ⟨b, 0, none⟩)] w fun e w' => ∃ f t : Int, e = .returned (.agg #[.int .i64 f, .int .i64 t]) ∧ (-1 ≤ f ∧ f ≤ 10000) ∧ (-2 ≤ t ∧ t ≤ 10060) ∧ CurS w' b A cs cap (m + 5) ∧ w.grownBy w' (some b) := by
  have hlt0 := hcu.lt
  go_enter Try.func72, Try.ntmps72
  go_wp2_with (fail)
  refine (c_minute b A cs cap (m) _ (by repeat' (first | exact CurS.mono hcu (by omega) | refine CurS.setc ?_ ?_ | refine CurS.allo ?_ | refine CurS.drw ?_ | (simp; done) | (simp at *; omega) | omega)) hby (by omega) hl).mono ?_
  rintro e W1 ⟨x1, rfl, hx1a, hx1b, hcu1, hg1⟩
  have hc1 := cellRow hg1
  have hf1 := frozRow hg1
  have hz1 := hg1.size
  have hlt1 := hcu1.lt
  try simp at hz1
  go_wp2_with (fail)
  refine (c_among b A cs cap (m + 2) _ ([0, 1, 5, 20, 60] : List Int) _ (0) (60) _ (by repeat' (first | exact CurS.mono hcu1 (by omega) | refine CurS.setc ?_ ?_ | refine CurS.allo ?_ | refine CurS.drw ?_ | (simp; done) | (simp at *; omega) | omega)) hby (by omega) hl (Rds.of_lit (by simp) (by intro i x h; rcases i with _ | _ | _ | _ | _ | i <;> simp at h ⊢ <;> first | exact h | omega)) (by simp) (by intro a ha; cases ha; simp; omega) (fun k hk => (show ∀ x ∈ ([0, 1, 5, 20, 60] : List Int), 0 ≤ x ∧ x ≤ 60 by intro x hx; simp at hx; omega) _ (List.getElem_mem hk))).mono ?_
  rintro e W2 ⟨x2, rfl, hx2a, hx2b, hcu2, hg2⟩
  have hc2 := cellRow hg2
  have hf2 := frozRow hg2
  have hz2 := hg2.size
  have hlt2 := hcu2.lt
  try simp at hz2
  go_wp2_with (fail)
  refine (c_one b A cs cap (m + 3) 24 _ (by repeat' (first | exact CurS.mono hcu2 (by omega) | refine CurS.setc ?_ ?_ | refine CurS.allo ?_ | refine CurS.drw ?_ | (simp; done) | (simp at *; omega) | omega)) hby (by omega) hl (by omega)).mono ?_
  rintro e W3 ⟨y3, rfl,  hcu3, hg3⟩
  have hc3 := cellRow hg3
  have hf3 := frozRow hg3
  have hz3 := hg3.size
  have hlt3 := hcu3.lt
  try simp at hz3
  cases y3
  · go_wp2_with (fail)
    refine bodyPost_ret (v := .agg #[.int .i64 x1, .int .i64 (x1 + x2)]) ?_ rfl ⟨x1, x1 + x2, rfl, by omega, by omega, (by repeat' (first | exact CurS.mono hcu3 (by omega) | refine CurS.setc ?_ ?_ | refine CurS.allo ?_ | refine CurS.drw ?_ | (simp; done) | (simp at *; omega) | omega)), by (repeat' (first | exact World.grownBy.refl _ _ | assumption | refine grownA ?_ | refine grownS ?_ ?_ | refine grown_drew ?_ | refine grownT (by assumption) ?_ | (simp; done) | (simp at *; omega) | omega))⟩
    simp [results, Try.results72, go_sem, ↓IntWalk.iteOmega, *]
  · go_wp2_with (fail)
    refine (c_among b A cs cap (m + 4) _ ([x1 - 1, 9999, 10000] : List Int) _ (-2) (10000) _ (by repeat' (first | exact CurS.mono hcu3 (by omega) | refine CurS.setc ?_ ?_ | refine CurS.allo ?_ | refine CurS.drw ?_ | (simp; done) | (simp at *; omega) | omega)) hby (by omega) hl (Rds.of_lit (by simp) (by intro i x h; rcases i with _ | _ | _ | i <;> simp at h ⊢ <;> first | exact h | omega)) (by simp) (by intro a ha; cases ha; simp; omega) (fun k hk => (show ∀ x ∈ ([x1 - 1, 9999, 10000] : List Int), -2 ≤ x ∧ x ≤ 10000 by intro x hx; simp at hx; omega) _ (List.getElem_mem hk))).mono ?_
    rintro e W4 ⟨x4, rfl, hx4a, hx4b, hcu4, hg4⟩
    have hc4 := cellRow hg4
    have hf4 := frozRow hg4
    have hz4 := hg4.size
    have hlt4 := hcu4.lt
    try simp at hz4
    go_wp2_with (fail)
    refine bodyPost_ret (v := .agg #[.int .i64 x1, .int .i64 x4]) ?_ rfl ⟨x1, x4, rfl, by omega, by omega, (by repeat' (first | exact CurS.mono hcu4 (by omega) | refine CurS.setc ?_ ?_ | refine CurS.allo ?_ | refine CurS.drw ?_ | (simp; done) | (simp at *; omega) | omega)), by (repeat' (first | exact World.grownBy.refl _ _ | assumption | refine grownA ?_ | refine grownS ?_ ?_ | refine grown_drew ?_ | refine grownT (by assumption) ?_ | (simp; done) | (simp at *; omega) | omega))⟩
    simp [results, Try.results72, go_sem, ↓IntWalk.iteOmega, *]

end Go.Proofs.Ythlmeofjjmfpnaa
