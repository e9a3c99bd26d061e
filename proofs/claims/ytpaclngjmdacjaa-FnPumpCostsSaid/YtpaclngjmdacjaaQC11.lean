import Derived.Test.YtpaclngjmdacjaaQC05
import Derived.OwnWalk
import Derived.Laws.EntriesVeiled
namespace Go.Proofs.Ytpaclngjmdacjaa
set_option linter.unusedSimpArgs false
set_option linter.unusedVariables false
open Go.RowKit

theorem c_visit (l h v : Int) (A : Option Addr) (fs : List Int) (capf : Nat) (B : Option Addr) (ps : List (Int × Int × Int)) (capq : Nat) (W0 : World) (hx : Rds cIn 1 W0 A fs) (hn : fs.length ≤ 9223372036854775807) (hy : Rds cPu 3 W0 B ps) (hm : ps.length ≤ 9223372036854775807) (b0 bs bl bv : Nat) (ho : W0.heap.size ≤ b0 ∧ b0 < bs ∧ bs < bl ∧ bl < bv) (hf5 : fs.length ≤ 5) (hv : 0 ≤ v ∧ v ≤ 500) (hfl : ∀ k (hk : k < fs.length), -50 ≤ fs[k] ∧ fs[k] ≤ 50) (hpu : ∀ k (hk : k < ps.length), puOk ps[k] = true) (hn2 : ps.length ≤ 2) :
    ∀ (d g : Nat) (pl : List Int) (capp : Nat) (s : List Int × Int) (w : World) (hS : VSt l h v A fs capf B ps capq W0 b0 bs bl bv w s) (hg : FreshA cIn 1 3 (bv + 1) w (some ⟨g, 0, none⟩) capp pl) (hpl : pl.length + d = fs.length) (hbt : ∀ k (hk : k < pl.length), 0 ≤ pl[k] ∧ pl[k] ≤ 3),
      Calls Try.prog 68 #[.slice (some ⟨g, 0, none⟩) pl.length capp, .pointer (some ⟨b0, 0, none⟩), .pointer (some ⟨bv, 0, none⟩), .pointer (some ⟨bl, 0, none⟩), .pointer (some ⟨bs, 0, none⟩)] w fun e w' => e = .returned (.tuple #[]) ∧ VSt l h v A fs capf B ps capq W0 b0 bs bl bv w' (visitP l h v fs ps d pl s) ∧ Cut2 bs bl w w' := by
  intro d
  induction d with
  | zero => exact fun g pl capp s w hS hg hpl hbt => c_visit0 l h v A fs capf B ps capq W0 hx hn hy hm b0 bs bl bv ho hf5 hv hfl hpu hn2 g pl capp s w hS hg hpl hbt
  | succ d ih => exact fun g pl capp s w hS hg hpl hbt => c_visitS l h v A fs capf B ps capq W0 hx hn hy hm b0 bs bl bv ho hf5 hn2 d ih g pl capp s w hS hg hpl hbt
set_option maxRecDepth 100000 in
set_option maxHeartbeats 1000000 in
theorem c_impl_CheapestPlan (l h v : Int) (A : Option Addr) (fs : List Int) (capf : Nat) (B : Option Addr) (ps : List (Int × Int × Int)) (capq : Nat) (w : World) (hx : Rds cIn 1 w A fs) (hn : fs.length ≤ 9223372036854775807) (hy : Rds cPu 3 w B ps) (hm : ps.length ≤ 9223372036854775807) :
    Calls Try.prog 37 #[.agg #[.int .i64 l, .int .i64 h, .int .i64 v, .slice A fs.length capf, .slice B ps.length capq]] w fun e w' => ∃ A' cap', e = .returned (.tuple #[.slice A' (cheapV l h v fs ps).1.length cap', .int .i64 (cheapV l h v fs ps).2.1, .bool (cheapV l h v fs ps).2.2]) ∧ FreshA cIn 1 3 w.heap.size w' A' cap' (cheapV l h v fs ps).1 ∧ Below w.heap.size w w' := by
  by_cases hs0 : taskB l h v fs ps = true
  rotate_left
  · have hn0 : taskB l h v fs ps = false := Bool.eq_false_iff.2 hs0
    have HV := hid (show cheapV l h v fs ps = ([], 0, false) by simp [cheapV, hn0])
    clear hs0
    go_enter Try.func37, Try.ntmps37
    go_wp2_with (first | (go_at_call 42; refine (c_impl_IsPumpTask _ _ _ _ _ _ _ _ _ _ (by first | assumption | exact Rds.below hx (by (repeat' (first | exact Below.refl _ _ | assumption | refine Below.setCell ?_ ?_ _ | refine Below.drew ?_ | refine Below.alloc ?_ ?_ _ | refine Below.trans ?_ (Below.mono (by assumption) ?_) | (simp; done) | (simp; omega) | omega)))) (by omega) (by first | assumption | exact Rds.below hy (by (repeat' (first | exact Below.refl _ _ | assumption | refine Below.setCell ?_ ?_ _ | refine Below.drew ?_ | refine Below.alloc ?_ ?_ _ | refine Below.trans ?_ (Below.mono (by assumption) ?_) | (simp; done) | (simp; omega) | omega)))) (by omega)).mono ?_; rintro e w' ⟨rfl, hb⟩; have hc := cellOf hb; have hf := frozOf hb; have hz := sizeOf hb; try simp at hz))
    refine bodyPost_ret (results_tmp3 rfl _ _ _) rfl ?_
    simp only [HV.out]
    exact ⟨none, 0, rfl, .inl ⟨rfl, rfl, rfl⟩, by (repeat' (first | exact Below.refl _ _ | assumption | refine Below.setCell ?_ ?_ _ | refine Below.drew ?_ | refine Below.alloc ?_ ?_ _ | refine Below.trans ?_ (Below.mono (by assumption) ?_) | (simp; done) | (simp; omega) | omega))⟩
  obtain ⟨hv, hn2, hf5, hfl, hpu⟩ := taskB_facts hs0
  have HX := hid hx
  have HY := hid hy
  have hvis := visit_is (l := l) (h := h) (v := v) (fs := fs) (ps := ps) fs.length
  by_cases h1 : (bestP l h v fs ps fs.length []).2 < 0
  · have HV := hid (show cheapV l h v fs ps = ([], 0, false) by simp [cheapV, hs0, h1])
    have HS := hid (hvis.trans (upd_keep (by omega)))
    clear hvis h1
    go_enter Try.func37, Try.ntmps37
    go_wp2_with (first | (first | (go_at_call 42; refine (c_impl_IsPumpTask _ _ _ _ _ _ _ _ _ _ (by first | assumption | exact Rds.below hx (by (repeat' (first | exact Below.refl _ _ | assumption | refine Below.setCell ?_ ?_ _ | refine Below.drew ?_ | refine Below.alloc ?_ ?_ _ | refine Below.trans ?_ (Below.mono (by assumption) ?_) | (simp; done) | (simp; omega) | omega)))) (by omega) (by first | assumption | exact Rds.below hy (by (repeat' (first | exact Below.refl _ _ | assumption | refine Below.setCell ?_ ?_ _ | refine Below.drew ?_ | refine Below.alloc ?_ ?_ _ | refine Below.trans ?_ (Below.mono (by assumption) ?_) | (simp; done) | (simp; omega) | omega)))) (by omega)).mono ?_; rintro e w' ⟨rfl, hb⟩; have hc := cellOf hb; have hf := frozOf hb; have hz := sizeOf hb; try simp at hz)) | (go_at_call 68; refine (c_visit l h v A fs capf B ps capq w HX.out hn HY.out hm w.heap.size (w'.heap.size + 1) (w'.heap.size + 1 + 1) (w'.heap.size + 1 + 1 + 1) (by omega) hf5 hv hfl hpu hn2 fs.length (w'.heap.size + 1 + 1 + 1 + 1) [] 0 ([], -1) _ ?_ ?_ (by simp) (by simp)).mono ?_; rotate_left; (exact FreshA.newg (by simp) (Nat.le_refl _)); rotate_left; (refine VSt.mk (by first | (simp [go_sem, ↓IntWalk.iteOmega, *]; done) | (simp [go_sem, ↓IntWalk.iteOmega, *]; intros; omega)) (by first | (simp [go_sem, ↓IntWalk.iteOmega, *]; done) | (simp [go_sem, ↓IntWalk.iteOmega, *]; intros; omega)) (by first | (simp [go_sem, ↓IntWalk.iteOmega, *]; done) | (simp [go_sem, ↓IntWalk.iteOmega, *]; intros; omega)) (by first | (simp [go_sem, ↓IntWalk.iteOmega, *]; done) | (simp [go_sem, ↓IntWalk.iteOmega, *]; intros; omega)) (by first | (simp [go_sem, ↓IntWalk.iteOmega, *]; done) | (simp [go_sem, ↓IntWalk.iteOmega, *]; intros; omega)) (by simp [go_sem, ↓IntWalk.iteOmega, visF]) (by first | (simp [go_sem, ↓IntWalk.iteOmega, *]; done) | (simp [go_sem, ↓IntWalk.iteOmega, *]; intros; omega)) (by first | (simp [go_sem, ↓IntWalk.iteOmega, *]; done) | (simp [go_sem, ↓IntWalk.iteOmega, *]; intros; omega)) ⟨some ⟨w'.heap.size, 0, none⟩, 0, ?_, fun e => absurd e (by decide)⟩ (by first | (simp [go_sem, ↓IntWalk.iteOmega, *]; done) | (simp [go_sem, ↓IntWalk.iteOmega, *]; intros; omega)) (by simp) (by (repeat' (first | exact Below.refl _ _ | assumption | refine Below.setCell ?_ ?_ _ | refine Below.drew ?_ | refine Below.alloc ?_ ?_ _ | refine Below.trans ?_ (Below.mono (by assumption) ?_) | (simp; done) | (simp; omega) | omega))); (simp [go_sem, ↓IntWalk.iteOmega])); rintro e w2 ⟨rfl, hS2, hC2⟩; rw [HS.out] at hS2; have hq2 := hS2.cl; obtain ⟨Ab, cb, hcs, hFb⟩ := hS2.cs; have hz2 := hC2.size; (try simp at hz2); have HS2 := hid hS2; clear hS2))
    refine bodyPost_ret (results_tmp3 rfl _ _ _) rfl ?_
    simp only [HV.out]
    exact ⟨none, 0, rfl, .inl ⟨rfl, rfl, rfl⟩, HS2.out.bel⟩
  · have HV := hid (show cheapV l h v fs ps = ((bestP l h v fs ps fs.length []).1, (bestP l h v fs ps fs.length []).2, true) by simp [cheapV, hs0, h1])
    have HS := hid (hvis.trans (upd_take (by omega) (.inl (by decide))))
    clear hvis
    go_enter Try.func37, Try.ntmps37
    go_wp2_with (first | (first | (go_at_call 42; refine (c_impl_IsPumpTask _ _ _ _ _ _ _ _ _ _ (by first | assumption | exact Rds.below hx (by (repeat' (first | exact Below.refl _ _ | assumption | refine Below.setCell ?_ ?_ _ | refine Below.drew ?_ | refine Below.alloc ?_ ?_ _ | refine Below.trans ?_ (Below.mono (by assumption) ?_) | (simp; done) | (simp; omega) | omega)))) (by omega) (by first | assumption | exact Rds.below hy (by (repeat' (first | exact Below.refl _ _ | assumption | refine Below.setCell ?_ ?_ _ | refine Below.drew ?_ | refine Below.alloc ?_ ?_ _ | refine Below.trans ?_ (Below.mono (by assumption) ?_) | (simp; done) | (simp; omega) | omega)))) (by omega)).mono ?_; rintro e w' ⟨rfl, hb⟩; have hc := cellOf hb; have hf := frozOf hb; have hz := sizeOf hb; try simp at hz)) | (go_at_call 68; refine (c_visit l h v A fs capf B ps capq w HX.out hn HY.out hm w.heap.size (w'.heap.size + 1) (w'.heap.size + 1 + 1) (w'.heap.size + 1 + 1 + 1) (by omega) hf5 hv hfl hpu hn2 fs.length (w'.heap.size + 1 + 1 + 1 + 1) [] 0 ([], -1) _ ?_ ?_ (by simp) (by simp)).mono ?_; rotate_left; (exact FreshA.newg (by simp) (Nat.le_refl _)); rotate_left; (refine VSt.mk (by first | (simp [go_sem, ↓IntWalk.iteOmega, *]; done) | (simp [go_sem, ↓IntWalk.iteOmega, *]; intros; omega)) (by first | (simp [go_sem, ↓IntWalk.iteOmega, *]; done) | (simp [go_sem, ↓IntWalk.iteOmega, *]; intros; omega)) (by first | (simp [go_sem, ↓IntWalk.iteOmega, *]; done) | (simp [go_sem, ↓IntWalk.iteOmega, *]; intros; omega)) (by first | (simp [go_sem, ↓IntWalk.iteOmega, *]; done) | (simp [go_sem, ↓IntWalk.iteOmega, *]; intros; omega)) (by first | (simp [go_sem, ↓IntWalk.iteOmega, *]; done) | (simp [go_sem, ↓IntWalk.iteOmega, *]; intros; omega)) (by simp [go_sem, ↓IntWalk.iteOmega, visF]) (by first | (simp [go_sem, ↓IntWalk.iteOmega, *]; done) | (simp [go_sem, ↓IntWalk.iteOmega, *]; intros; omega)) (by first | (simp [go_sem, ↓IntWalk.iteOmega, *]; done) | (simp [go_sem, ↓IntWalk.iteOmega, *]; intros; omega)) ⟨some ⟨w'.heap.size, 0, none⟩, 0, ?_, fun e => absurd e (by decide)⟩ (by first | (simp [go_sem, ↓IntWalk.iteOmega, *]; done) | (simp [go_sem, ↓IntWalk.iteOmega, *]; intros; omega)) (by simp) (by (repeat' (first | exact Below.refl _ _ | assumption | refine Below.setCell ?_ ?_ _ | refine Below.drew ?_ | refine Below.alloc ?_ ?_ _ | refine Below.trans ?_ (Below.mono (by assumption) ?_) | (simp; done) | (simp; omega) | omega))); (simp [go_sem, ↓IntWalk.iteOmega])); rintro e w2 ⟨rfl, hS2, hC2⟩; rw [HS.out] at hS2; have hq2 := hS2.cl; obtain ⟨Ab, cb, hcs, hFb⟩ := hS2.cs; have hz2 := hC2.size; (try simp at hz2); have HS2 := hid hS2; clear hS2))
    go_region
    all_goals go_wp2_with (fail)
    all_goals refine bodyPost_ret (results_tmp3 rfl _ _ _) rfl ?_
    all_goals simp only [HV.out]
    all_goals exact ⟨_, _, rfl, ((hFb (by omega)).below (Below.drew (Below.refl _ _))).mono (by omega), HS2.out.bel.drew⟩

end Go.Proofs.Ytpaclngjmdacjaa
