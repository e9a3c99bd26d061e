import Derived.Test.YtipipicfkjigdaaB4
import Derived.Test.YtipipicfkjigdaaH2i
import Derived.Test.YtipipicfkjigdaaH3i
import Derived.OwnWalk
import Derived.Laws.EntriesVeiled
namespace Go.Proofs.Ytipipicfkjigdaa
set_option linter.unusedSimpArgs false
set_option linter.unusedVariables false
open Go.RowKit

theorem FreshA.newg {α : Type} {cf : α → List Value} {sz : Nat} {T : TypeId} {B g : Nat} {w : World} (hg : w.heap.size = g) (hB : B ≤ g) : FreshA cf sz T B (w.alloc (.cells #[] T)) (some ⟨g, 0, none⟩) 0 ([] : List α) := by
  subst hg
  exact FreshA.new hB
set_option maxRecDepth 100000 in
set_option maxHeartbeats 4000000 in
theorem c_spec_BestTugs (A : Option Addr) (ts : List TugT) (capt : Nat) (B : Option Addr) (js : List JobT) (capj : Nat) (w : World) (hx : Rds cTug 3 w A ts) (hn : ts.length ≤ 9223372036854775807) (hy : Rds cJob 5 w B js) (hm : js.length ≤ 9223372036854775807) :
    Calls Try.prog 39 #[.slice A ts.length capt, .slice B js.length capj] w fun e w' => ∃ A' cap', e = .returned (.tuple #[.slice A' (bestTV ts js).1.length cap', .int .i64 (bestTV ts js).2.1, .bool (bestTV ts js).2.2]) ∧ FreshA cIn 1 3 w.heap.size w' A' cap' (bestTV ts js).1 ∧ Below w.heap.size w w' := by
  by_cases hs0 : vB tugOk tugLt 4 ts = true
  rotate_left
  · have hn0 : vB tugOk tugLt 4 ts = false := Bool.eq_false_iff.2 hs0
    have HV := hid (show bestTV ts js = ([], 0, false) by simp [bestTV, hn0])
    clear hs0
    go_enter Try.func39, Try.ntmps39
    go_wp2_with (first | (go_at_call 43; refine (c_spec_l17Tugs _ _ _ _ (by first | assumption | exact Rds.below hx (by (repeat' (first | exact Below.refl _ _ | assumption | refine Below.setCell ?_ ?_ _ | refine Below.drew ?_ | refine Below.alloc ?_ ?_ _ | refine Below.trans ?_ (Below.mono (by assumption) ?_) | (simp; done) | (simp; omega) | omega)))) (by omega)).mono ?_; rintro e w' ⟨rfl, hb⟩; have hc := cellOf hb; have hf := frozOf hb; have hz := sizeOf hb; try simp at hz) | (go_at_call 49; refine (c_spec_l17Jobs _ _ _ _ (by first | assumption | exact Rds.below hy (by (repeat' (first | exact Below.refl _ _ | assumption | refine Below.setCell ?_ ?_ _ | refine Below.drew ?_ | refine Below.alloc ?_ ?_ _ | refine Below.trans ?_ (Below.mono (by assumption) ?_) | (simp; done) | (simp; omega) | omega)))) (by omega)).mono ?_; rintro e w' ⟨rfl, hb⟩; have hc := cellOf hb; have hf := frozOf hb; have hz := sizeOf hb; try simp at hz))
    refine bodyPost_ret (results_tmp3 rfl _ _ _) rfl ?_
    simp only [HV.out]
    exact ⟨_, _, rfl, FreshA.new (by first | omega | (simp at *; omega)), by (repeat' (first | exact Below.refl _ _ | assumption | refine Below.setCell ?_ ?_ _ | refine Below.drew ?_ | refine Below.alloc ?_ ?_ _ | refine Below.trans ?_ (Below.mono (by assumption) ?_) | (simp; done) | (simp; omega) | omega))⟩
  by_cases hs1 : vB jobOk jobLt 5 js = true
  rotate_left
  · have hn1 : vB jobOk jobLt 5 js = false := Bool.eq_false_iff.2 hs1
    have HV := hid (show bestTV ts js = ([], 0, false) by simp [bestTV, hn1])
    clear hs1
    go_enter Try.func39, Try.ntmps39
    go_wp2_with (first | (go_at_call 43; refine (c_spec_l17Tugs _ _ _ _ (by first | assumption | exact Rds.below hx (by (repeat' (first | exact Below.refl _ _ | assumption | refine Below.setCell ?_ ?_ _ | refine Below.drew ?_ | refine Below.alloc ?_ ?_ _ | refine Below.trans ?_ (Below.mono (by assumption) ?_) | (simp; done) | (simp; omega) | omega)))) (by omega)).mono ?_; rintro e w' ⟨rfl, hb⟩; have hc := cellOf hb; have hf := frozOf hb; have hz := sizeOf hb; try simp at hz) | (go_at_call 49; refine (c_spec_l17Jobs _ _ _ _ (by first | assumption | exact Rds.below hy (by (repeat' (first | exact Below.refl _ _ | assumption | refine Below.setCell ?_ ?_ _ | refine Below.drew ?_ | refine Below.alloc ?_ ?_ _ | refine Below.trans ?_ (Below.mono (by assumption) ?_) | (simp; done) | (simp; omega) | omega)))) (by omega)).mono ?_; rintro e w' ⟨rfl, hb⟩; have hc := cellOf hb; have hf := frozOf hb; have hz := sizeOf hb; try simp at hz))
    refine bodyPost_ret (results_tmp3 rfl _ _ _) rfl ?_
    simp only [HV.out]
    exact ⟨_, _, rfl, FreshA.new (by first | omega | (simp at *; omega)), by (repeat' (first | exact Below.refl _ _ | assumption | refine Below.setCell ?_ ?_ _ | refine Below.drew ?_ | refine Below.alloc ?_ ?_ _ | refine Below.trans ?_ (Below.mono (by assumption) ?_) | (simp; done) | (simp; omega) | omega))⟩
  have ht4 := hs0
  have hj5 := hs1
  have HT4 := hid ht4
  have HJ5 := hid hj5
  by_cases h1 : (bst2 ts js js.length []).2 < 0
  · have HV := hid (show bestTV ts js = ([], 0, false) by simp [bestTV, hs0, hs1, h1])
    clear ht4 hj5
    go_enter Try.func39, Try.ntmps39
    go_wp2_with (first | (first | (go_at_call 43; refine (c_spec_l17Tugs _ _ _ _ (by first | assumption | exact Rds.below hx (by (repeat' (first | exact Below.refl _ _ | assumption | refine Below.setCell ?_ ?_ _ | refine Below.drew ?_ | refine Below.alloc ?_ ?_ _ | refine Below.trans ?_ (Below.mono (by assumption) ?_) | (simp; done) | (simp; omega) | omega)))) (by omega)).mono ?_; rintro e w' ⟨rfl, hb⟩; have hc := cellOf hb; have hf := frozOf hb; have hz := sizeOf hb; try simp at hz) | (go_at_call 49; refine (c_spec_l17Jobs _ _ _ _ (by first | assumption | exact Rds.below hy (by (repeat' (first | exact Below.refl _ _ | assumption | refine Below.setCell ?_ ?_ _ | refine Below.drew ?_ | refine Below.alloc ?_ ?_ _ | refine Below.trans ?_ (Below.mono (by assumption) ?_) | (simp; done) | (simp; omega) | omega)))) (by omega)).mono ?_; rintro e w' ⟨rfl, hb⟩; have hc := cellOf hb; have hf := frozOf hb; have hz := sizeOf hb; try simp at hz)) | (go_at_call 63; refine (c_spec_l17Best A ts capt B js capj HT4.out HJ5.out js.length _ [] 0 w.heap.size _ (Rds.below hx (by (repeat' (first | exact Below.refl _ _ | assumption | refine Below.setCell ?_ ?_ _ | refine Below.drew ?_ | refine Below.alloc ?_ ?_ _ | refine Below.trans ?_ (Below.mono (by assumption) ?_) | (simp; done) | (simp; omega) | omega)))) hn (Rds.below hy (by (repeat' (first | exact Below.refl _ _ | assumption | refine Below.setCell ?_ ?_ _ | refine Below.drew ?_ | refine Below.alloc ?_ ?_ _ | refine Below.trans ?_ (Below.mono (by assumption) ?_) | (simp; done) | (simp; omega) | omega)))) hm (FreshA.new (by first | omega | (simp; done) | (simp; omega) | (simp at *; omega))) (by exact (show Below w.heap.size w _ by (repeat' (first | exact Below.refl _ _ | assumption | refine Below.setCell ?_ ?_ _ | refine Below.drew ?_ | refine Below.alloc ?_ ?_ _ | refine Below.trans ?_ (Below.mono (by assumption) ?_) | (simp; done) | (simp; omega) | omega))).size) (by simp) (by simp)).mono ?_; rintro e w' ⟨A9, c9, rfl, hF9, hb⟩; have HF9 := hid hF9; clear hF9; have hc := cellOf hb; have hf := frozOf hb; have hz := sizeOf hb; try simp at hz))
    refine bodyPost_ret (results_tmp3 rfl _ _ _) rfl ?_
    simp only [HV.out]
    exact ⟨_, _, rfl, FreshA.new (by first | omega | (simp at *; omega)), by (repeat' (first | exact Below.refl _ _ | assumption | refine Below.setCell ?_ ?_ _ | refine Below.drew ?_ | refine Below.alloc ?_ ?_ _ | refine Below.trans ?_ (Below.mono (by assumption) ?_) | (simp; done) | (simp; omega) | omega))⟩
  · have HV := hid (show bestTV ts js = ((bst2 ts js js.length []).1, (bst2 ts js js.length []).2, true) by simp [bestTV, hs0, hs1, h1])
    clear ht4 hj5
    go_enter Try.func39, Try.ntmps39
    go_wp2_with (first | (first | (go_at_call 43; refine (c_spec_l17Tugs _ _ _ _ (by first | assumption | exact Rds.below hx (by (repeat' (first | exact Below.refl _ _ | assumption | refine Below.setCell ?_ ?_ _ | refine Below.drew ?_ | refine Below.alloc ?_ ?_ _ | refine Below.trans ?_ (Below.mono (by assumption) ?_) | (simp; done) | (simp; omega) | omega)))) (by omega)).mono ?_; rintro e w' ⟨rfl, hb⟩; have hc := cellOf hb; have hf := frozOf hb; have hz := sizeOf hb; try simp at hz) | (go_at_call 49; refine (c_spec_l17Jobs _ _ _ _ (by first | assumption | exact Rds.below hy (by (repeat' (first | exact Below.refl _ _ | assumption | refine Below.setCell ?_ ?_ _ | refine Below.drew ?_ | refine Below.alloc ?_ ?_ _ | refine Below.trans ?_ (Below.mono (by assumption) ?_) | (simp; done) | (simp; omega) | omega)))) (by omega)).mono ?_; rintro e w' ⟨rfl, hb⟩; have hc := cellOf hb; have hf := frozOf hb; have hz := sizeOf hb; try simp at hz)) | (go_at_call 63; refine (c_spec_l17Best A ts capt B js capj HT4.out HJ5.out js.length _ [] 0 w.heap.size _ (Rds.below hx (by (repeat' (first | exact Below.refl _ _ | assumption | refine Below.setCell ?_ ?_ _ | refine Below.drew ?_ | refine Below.alloc ?_ ?_ _ | refine Below.trans ?_ (Below.mono (by assumption) ?_) | (simp; done) | (simp; omega) | omega)))) hn (Rds.below hy (by (repeat' (first | exact Below.refl _ _ | assumption | refine Below.setCell ?_ ?_ _ | refine Below.drew ?_ | refine Below.alloc ?_ ?_ _ | refine Below.trans ?_ (Below.mono (by assumption) ?_) | (simp; done) | (simp; omega) | omega)))) hm (FreshA.new (by first | omega | (simp; done) | (simp; omega) | (simp at *; omega))) (by exact (show Below w.heap.size w _ by (repeat' (first | exact Below.refl _ _ | assumption | refine Below.setCell ?_ ?_ _ | refine Below.drew ?_ | refine Below.alloc ?_ ?_ _ | refine Below.trans ?_ (Below.mono (by assumption) ?_) | (simp; done) | (simp; omega) | omega))).size) (by simp) (by simp)).mono ?_; rintro e w' ⟨A9, c9, rfl, hF9, hb⟩; have HF9 := hid hF9; clear hF9; have hc := cellOf hb; have hf := frozOf hb; have hz := sizeOf hb; try simp at hz))
    refine bodyPost_ret (results_tmp3 rfl _ _ _) rfl ?_
    simp only [HV.out]
    exact ⟨_, _, rfl, HF9.out.below (by (repeat' (first | exact Below.refl _ _ | assumption | refine Below.setCell ?_ ?_ _ | refine Below.drew ?_ | refine Below.alloc ?_ ?_ _ | refine Below.trans ?_ (Below.mono (by assumption) ?_) | (simp; done) | (simp; omega) | omega))), by (repeat' (first | exact Below.refl _ _ | assumption | refine Below.setCell ?_ ?_ _ | refine Below.drew ?_ | refine Below.alloc ?_ ?_ _ | refine Below.trans ?_ (Below.mono (by assumption) ?_) | (simp; done) | (simp; omega) | omega))⟩
set_option maxRecDepth 100000 in
set_option maxHeartbeats 4000000 in
theorem c_impl_BestTugs (A : Option Addr) (ts : List TugT) (capt : Nat) (B : Option Addr) (js : List JobT) (capj : Nat) (w : World) (hx : Rds cTug 3 w A ts) (hn : ts.length ≤ 9223372036854775807) (hy : Rds cJob 5 w B js) (hm : js.length ≤ 9223372036854775807) :
    Calls Try.prog 40 #[.slice A ts.length capt, .slice B js.length capj] w fun e w' => ∃ A' cap', e = .returned (.tuple #[.slice A' (bestTV ts js).1.length cap', .int .i64 (bestTV ts js).2.1, .bool (bestTV ts js).2.2]) ∧ FreshA cIn 1 3 w.heap.size w' A' cap' (bestTV ts js).1 ∧ Below w.heap.size w w' := by
  by_cases hs0 : vB tugOk tugLt 4 ts = true
  rotate_left
  · have hn0 : vB tugOk tugLt 4 ts = false := Bool.eq_false_iff.2 hs0
    have HV := hid (show bestTV ts js = ([], 0, false) by simp [bestTV, hn0])
    clear hs0
    go_enter Try.func40, Try.ntmps40
    go_wp2_with (first | (go_at_call 15; refine (c_impl_AreTugs _ _ _ _ (by first | assumption | exact Rds.below hx (by (repeat' (first | exact Below.refl _ _ | assumption | refine Below.setCell ?_ ?_ _ | refine Below.drew ?_ | refine Below.alloc ?_ ?_ _ | refine Below.trans ?_ (Below.mono (by assumption) ?_) | (simp; done) | (simp; omega) | omega)))) (by omega)).mono ?_; rintro e w' ⟨rfl, hb⟩; have hc := cellOf hb; have hf := frozOf hb; have hz := sizeOf hb; try simp at hz) | (go_at_call 20; refine (c_impl_AreTugJobs _ _ _ _ (by first | assumption | exact Rds.below hy (by (repeat' (first | exact Below.refl _ _ | assumption | refine Below.setCell ?_ ?_ _ | refine Below.drew ?_ | refine Below.alloc ?_ ?_ _ | refine Below.trans ?_ (Below.mono (by assumption) ?_) | (simp; done) | (simp; omega) | omega)))) (by omega)).mono ?_; rintro e w' ⟨rfl, hb⟩; have hc := cellOf hb; have hf := frozOf hb; have hz := sizeOf hb; try simp at hz))
    refine bodyPost_ret (results_tmp3 rfl _ _ _) rfl ?_
    simp only [HV.out]
    exact ⟨none, 0, rfl, .inl ⟨rfl, rfl, rfl⟩, by (repeat' (first | exact Below.refl _ _ | assumption | refine Below.setCell ?_ ?_ _ | refine Below.drew ?_ | refine Below.alloc ?_ ?_ _ | refine Below.trans ?_ (Below.mono (by assumption) ?_) | (simp; done) | (simp; omega) | omega))⟩
  by_cases hs1 : vB jobOk jobLt 5 js = true
  rotate_left
  · have hn1 : vB jobOk jobLt 5 js = false := Bool.eq_false_iff.2 hs1
    have HV := hid (show bestTV ts js = ([], 0, false) by simp [bestTV, hn1])
    clear hs1
    go_enter Try.func40, Try.ntmps40
    go_wp2_with (first | (go_at_call 15; refine (c_impl_AreTugs _ _ _ _ (by first | assumption | exact Rds.below hx (by (repeat' (first | exact Below.refl _ _ | assumption | refine Below.setCell ?_ ?_ _ | refine Below.drew ?_ | refine Below.alloc ?_ ?_ _ | refine Below.trans ?_ (Below.mono (by assumption) ?_) | (simp; done) | (simp; omega) | omega)))) (by omega)).mono ?_; rintro e w' ⟨rfl, hb⟩; have hc := cellOf hb; have hf := frozOf hb; have hz := sizeOf hb; try simp at hz) | (go_at_call 20; refine (c_impl_AreTugJobs _ _ _ _ (by first | assumption | exact Rds.below hy (by (repeat' (first | exact Below.refl _ _ | assumption | refine Below.setCell ?_ ?_ _ | refine Below.drew ?_ | refine Below.alloc ?_ ?_ _ | refine Below.trans ?_ (Below.mono (by assumption) ?_) | (simp; done) | (simp; omega) | omega)))) (by omega)).mono ?_; rintro e w' ⟨rfl, hb⟩; have hc := cellOf hb; have hf := frozOf hb; have hz := sizeOf hb; try simp at hz))
    refine bodyPost_ret (results_tmp3 rfl _ _ _) rfl ?_
    simp only [HV.out]
    exact ⟨none, 0, rfl, .inl ⟨rfl, rfl, rfl⟩, by (repeat' (first | exact Below.refl _ _ | assumption | refine Below.setCell ?_ ?_ _ | refine Below.drew ?_ | refine Below.alloc ?_ ?_ _ | refine Below.trans ?_ (Below.mono (by assumption) ?_) | (simp; done) | (simp; omega) | omega))⟩
  have HX := hid hx
  have HY := hid hy
  have HT4 := hid hs0
  have HJ5 := hid hs1
  have hvis := vis2_is (ts := ts) (js := js) js.length [] ([], -1)
  by_cases h1 : (bst2 ts js js.length []).2 < 0
  · have HV := hid (show bestTV ts js = ([], 0, false) by simp [bestTV, hs0, hs1, h1])
    have HS := hid (hvis.trans (updI_keep (by omega)))
    clear hvis h1
    go_enter Try.func40, Try.ntmps40
    go_wp2_with (first | (first | (go_at_call 15; refine (c_impl_AreTugs _ _ _ _ (by first | assumption | exact Rds.below hx (by (repeat' (first | exact Below.refl _ _ | assumption | refine Below.setCell ?_ ?_ _ | refine Below.drew ?_ | refine Below.alloc ?_ ?_ _ | refine Below.trans ?_ (Below.mono (by assumption) ?_) | (simp; done) | (simp; omega) | omega)))) (by omega)).mono ?_; rintro e w' ⟨rfl, hb⟩; have hc := cellOf hb; have hf := frozOf hb; have hz := sizeOf hb; try simp at hz) | (go_at_call 20; refine (c_impl_AreTugJobs _ _ _ _ (by first | assumption | exact Rds.below hy (by (repeat' (first | exact Below.refl _ _ | assumption | refine Below.setCell ?_ ?_ _ | refine Below.drew ?_ | refine Below.alloc ?_ ?_ _ | refine Below.trans ?_ (Below.mono (by assumption) ?_) | (simp; done) | (simp; omega) | omega)))) (by omega)).mono ?_; rintro e w' ⟨rfl, hb⟩; have hc := cellOf hb; have hf := frozOf hb; have hz := sizeOf hb; try simp at hz)) | (go_at_call 64; refine (c_visit A ts capt B js capj w HX.out hn HY.out hm w.heap.size (w.heap.size + 1) (w'.heap.size + 1) (w'.heap.size + 1 + 1) (w'.heap.size + 1 + 1 + 1) (by omega) HT4.out HJ5.out js.length (w'.heap.size + 1 + 1 + 1 + 1) [] 0 ([], -1) _ ?_ ?_ (by simp) (by simp)).mono ?_; rotate_left; (exact FreshA.newg (by simp) (Nat.le_refl _)); rotate_left; (refine VSt.mk (by first | (simp [go_sem, ↓IntWalk.iteOmega, *]; done) | (simp [go_sem, ↓IntWalk.iteOmega, *]; intros; omega)) (by first | (simp [go_sem, ↓IntWalk.iteOmega, *]; done) | (simp [go_sem, ↓IntWalk.iteOmega, *]; intros; omega)) (by simp [go_sem, ↓IntWalk.iteOmega, visT]) (by first | (simp [go_sem, ↓IntWalk.iteOmega, *]; done) | (simp [go_sem, ↓IntWalk.iteOmega, *]; intros; omega)) (by first | (simp [go_sem, ↓IntWalk.iteOmega, *]; done) | (simp [go_sem, ↓IntWalk.iteOmega, *]; intros; omega)) ⟨some ⟨w'.heap.size, 0, none⟩, 0, ?_, fun e => absurd e (by show ¬ (0 : Int) ≤ -1; decide)⟩ (by first | (simp [go_sem, ↓IntWalk.iteOmega, *]; done) | (simp [go_sem, ↓IntWalk.iteOmega, *]; intros; omega)) (by simp) (by (repeat' (first | exact Below.refl _ _ | assumption | refine Below.setCell ?_ ?_ _ | refine Below.drew ?_ | refine Below.alloc ?_ ?_ _ | refine Below.trans ?_ (Below.mono (by assumption) ?_) | (simp; done) | (simp; omega) | omega))); (simp [go_sem, ↓IntWalk.iteOmega])); rintro e w2 ⟨rfl, hS2, hC2⟩; rw [HS.out] at hS2; have hq2 := hS2.cl; obtain ⟨Ab, cb, hcs, hFb⟩ := hS2.cs; have hz2 := hC2.size; (try simp at hz2); have HS2 := hid hS2; clear hS2))
    refine bodyPost_ret (results_tmp3 rfl _ _ _) rfl ?_
    simp only [HV.out]
    exact ⟨none, 0, rfl, .inl ⟨rfl, rfl, rfl⟩, HS2.out.bel⟩
  · have HV := hid (show bestTV ts js = ((bst2 ts js js.length []).1, (bst2 ts js js.length []).2, true) by simp [bestTV, hs0, hs1, h1])
    have HS := hid (hvis.trans (updI_take (by omega) (.inl (by show (-1 : Int) < 0; decide))))
    clear hvis
    go_enter Try.func40, Try.ntmps40
    go_wp2_with (first | (first | (go_at_call 15; refine (c_impl_AreTugs _ _ _ _ (by first | assumption | exact Rds.below hx (by (repeat' (first | exact Below.refl _ _ | assumption | refine Below.setCell ?_ ?_ _ | refine Below.drew ?_ | refine Below.alloc ?_ ?_ _ | refine Below.trans ?_ (Below.mono (by assumption) ?_) | (simp; done) | (simp; omega) | omega)))) (by omega)).mono ?_; rintro e w' ⟨rfl, hb⟩; have hc := cellOf hb; have hf := frozOf hb; have hz := sizeOf hb; try simp at hz) | (go_at_call 20; refine (c_impl_AreTugJobs _ _ _ _ (by first | assumption | exact Rds.below hy (by (repeat' (first | exact Below.refl _ _ | assumption | refine Below.setCell ?_ ?_ _ | refine Below.drew ?_ | refine Below.alloc ?_ ?_ _ | refine Below.trans ?_ (Below.mono (by assumption) ?_) | (simp; done) | (simp; omega) | omega)))) (by omega)).mono ?_; rintro e w' ⟨rfl, hb⟩; have hc := cellOf hb; have hf := frozOf hb; have hz := sizeOf hb; try simp at hz)) | (go_at_call 64; refine (c_visit A ts capt B js capj w HX.out hn HY.out hm w.heap.size (w.heap.size + 1) (w'.heap.size + 1) (w'.heap.size + 1 + 1) (w'.heap.size + 1 + 1 + 1) (by omega) HT4.out HJ5.out js.length (w'.heap.size + 1 + 1 + 1 + 1) [] 0 ([], -1) _ ?_ ?_ (by simp) (by simp)).mono ?_; rotate_left; (exact FreshA.newg (by simp) (Nat.le_refl _)); rotate_left; (refine VSt.mk (by first | (simp [go_sem, ↓IntWalk.iteOmega, *]; done) | (simp [go_sem, ↓IntWalk.iteOmega, *]; intros; omega)) (by first | (simp [go_sem, ↓IntWalk.iteOmega, *]; done) | (simp [go_sem, ↓IntWalk.iteOmega, *]; intros; omega)) (by simp [go_sem, ↓IntWalk.iteOmega, visT]) (by first | (simp [go_sem, ↓IntWalk.iteOmega, *]; done) | (simp [go_sem, ↓IntWalk.iteOmega, *]; intros; omega)) (by first | (simp [go_sem, ↓IntWalk.iteOmega, *]; done) | (simp [go_sem, ↓IntWalk.iteOmega, *]; intros; omega)) ⟨some ⟨w'.heap.size, 0, none⟩, 0, ?_, fun e => absurd e (by show ¬ (0 : Int) ≤ -1; decide)⟩ (by first | (simp [go_sem, ↓IntWalk.iteOmega, *]; done) | (simp [go_sem, ↓IntWalk.iteOmega, *]; intros; omega)) (by simp) (by (repeat' (first | exact Below.refl _ _ | assumption | refine Below.setCell ?_ ?_ _ | refine Below.drew ?_ | refine Below.alloc ?_ ?_ _ | refine Below.trans ?_ (Below.mono (by assumption) ?_) | (simp; done) | (simp; omega) | omega))); (simp [go_sem, ↓IntWalk.iteOmega])); rintro e w2 ⟨rfl, hS2, hC2⟩; rw [HS.out] at hS2; have hq2 := hS2.cl; obtain ⟨Ab, cb, hcs, hFb⟩ := hS2.cs; have hz2 := hC2.size; (try simp at hz2); have HS2 := hid hS2; clear hS2))
    go_region
    all_goals go_wp2_with (fail)
    all_goals refine bodyPost_ret (results_tmp3 rfl _ _ _) rfl ?_
    all_goals simp only [HV.out]
    all_goals exact ⟨_, _, rfl, ((hFb (by omega)).below (Below.drew (Below.refl _ _))).mono (by omega), HS2.out.bel.drew⟩

end Go.Proofs.Ytipipicfkjigdaa
