import Derived.Test.YtpaclngjmdacjaaQP03
import Derived.Test.YtpaclngjmdacjaaQP11
import Derived.Test.YtpaclngjmdacjaaQP06
import Derived.Deep.RegionHeld3
namespace Go.Proofs.Ytpaclngjmdacjaa
set_option linter.unusedSimpArgs false
set_option linter.unusedVariables false
open Go.RowKit

set_option maxRecDepth 100000 in
set_option maxHeartbeats 4000000 in
theorem c_spec_WithoutPump (l u v : Int) (A : Option Addr) (fs : List Int) (capf : Nat) (B : Option Addr) (ps : List (Int × Int × Int)) (capq : Nat) (i : Int) (w : World) (hx : Rds cIn 1 w A fs) (hn : fs.length ≤ 9223372036854775807) (hy : Rds cPu 3 w B ps) (hm : ps.length ≤ 9223372036854775807) (hcq : ps.length ≤ capq) :
    Calls Try.prog 28 #[.agg #[.int .i64 l, .int .i64 u, .int .i64 v, .slice A fs.length capf, .slice B ps.length capq], .int .i64 i] w fun e w' => ∃ A1 c1 A2 c2, e = .returned (.tuple #[.agg #[.int .i64 (woV l u v fs ps i).1.1, .int .i64 (woV l u v fs ps i).1.2.1, .int .i64 (woV l u v fs ps i).1.2.2.1, .slice A1 (woV l u v fs ps i).1.2.2.2.1.length c1, .slice A2 (woV l u v fs ps i).1.2.2.2.2.length c2], .bool (woV l u v fs ps i).2]) ∧ FreshA cIn 1 3 w.heap.size w' A1 c1 (woV l u v fs ps i).1.2.2.2.1 ∧ FreshA cPu 3 71 w.heap.size w' A2 c2 (woV l u v fs ps i).1.2.2.2.2 ∧ Below w.heap.size w w' := by
  obtain ⟨i0, hI0, hI1, hI2, hI3⟩ := info_parts info_Pu
  cases ht : taskB l u v fs ps
  · have hV : woV l u v fs ps i = ((0, 0, 0, [], []), false) := by simp [woV, ht]
    rw [hV]
    simp only
    go_enter Try.func28, Try.ntmps28
    go_wp2_with (fail)
    refine (c_spec_l12Good _ _ _ _ _ _ _ _ _ _ (by first | exact hx | exact Rds.below hx (by (repeat' (first | exact Below.refl _ _ | assumption | refine Below.setCell ?_ ?_ _ | refine Below.drew ?_ | refine Below.alloc ?_ ?_ _ | refine Below.trans ?_ (Below.mono (by assumption) ?_) | (simp; done) | (simp; omega) | omega)))) (by omega) (by first | exact hy | exact Rds.below hy (by (repeat' (first | exact Below.refl _ _ | assumption | refine Below.setCell ?_ ?_ _ | refine Below.drew ?_ | refine Below.alloc ?_ ?_ _ | refine Below.trans ?_ (Below.mono (by assumption) ?_) | (simp; done) | (simp; omega) | omega)))) (by omega)).mono ?_
    rintro e W1 ⟨rfl, hb1⟩
    have hc1 := cellOf hb1; have hf1 := frozOf hb1; have hz1 := sizeOf hb1; (try simp at hz1)
    simp only [ht]
    go_wp2_with (fail)
    refine bodyPost_ret (v := .tuple #[.agg #[.int .i64 0, .int .i64 0, .int .i64 0, .slice none 0 0, .slice none 0 0], .bool false]) ?_ rfl ⟨none, 0, none, 0, rfl, .inl ⟨rfl, rfl, rfl⟩, .inl ⟨rfl, rfl, rfl⟩, by (repeat' (first | exact Below.refl _ _ | assumption | refine Below.setCell ?_ ?_ _ | refine Below.drew ?_ | refine Below.alloc ?_ ?_ _ | refine Below.trans ?_ (Below.mono (by assumption) ?_) | (simp; done) | (simp; omega) | omega))⟩
    simp [results, Try.results28, go_sem, ↓IntWalk.iteOmega, *]
  obtain ⟨hv, hn2, hl1, hl5⟩ := taskB_sz ht
  by_cases hi : 0 ≤ i ∧ i < ps.length
  rotate_left
  · have hV : woV l u v fs ps i = ((0, 0, 0, [], []), false) := by unfold woV; rw [if_neg (fun e => hi e.2)]
    have hin : inB i 0 ((ps.length : Int) - 1) = false := by simp only [inB, decide_eq_false_iff_not]; omega
    rw [hV]
    simp only
    clear hi
    go_enter Try.func28, Try.ntmps28
    go_wp2_with (fail)
    refine (c_spec_l12Good _ _ _ _ _ _ _ _ _ _ (by first | exact hx | exact Rds.below hx (by (repeat' (first | exact Below.refl _ _ | assumption | refine Below.setCell ?_ ?_ _ | refine Below.drew ?_ | refine Below.alloc ?_ ?_ _ | refine Below.trans ?_ (Below.mono (by assumption) ?_) | (simp; done) | (simp; omega) | omega)))) (by omega) (by first | exact hy | exact Rds.below hy (by (repeat' (first | exact Below.refl _ _ | assumption | refine Below.setCell ?_ ?_ _ | refine Below.drew ?_ | refine Below.alloc ?_ ?_ _ | refine Below.trans ?_ (Below.mono (by assumption) ?_) | (simp; done) | (simp; omega) | omega)))) (by omega)).mono ?_
    rintro e W1 ⟨rfl, hb1⟩
    have hc1 := cellOf hb1; have hf1 := frozOf hb1; have hz1 := sizeOf hb1; (try simp at hz1)
    simp only [ht]
    go_wp2_with (fail)
    refine (c_spec_l1In _ _ _ _).mono ?_
    rintro e W2 ⟨rfl, hb2⟩
    have hc2 := cellOf hb2; have hf2 := frozOf hb2; have hz2 := sizeOf hb2; (try simp at hz2)
    simp only [hin]
    go_wp2_with (fail)
    refine bodyPost_ret (v := .tuple #[.agg #[.int .i64 0, .int .i64 0, .int .i64 0, .slice none 0 0, .slice none 0 0], .bool false]) ?_ rfl ⟨none, 0, none, 0, rfl, .inl ⟨rfl, rfl, rfl⟩, .inl ⟨rfl, rfl, rfl⟩, by (repeat' (first | exact Below.refl _ _ | assumption | refine Below.setCell ?_ ?_ _ | refine Below.drew ?_ | refine Below.alloc ?_ ?_ _ | refine Below.trans ?_ (Below.mono (by assumption) ?_) | (simp; done) | (simp; omega) | omega))⟩
    simp [results, Try.results28, go_sem, ↓IntWalk.iteOmega, *]
  have hin : inB i 0 ((ps.length : Int) - 1) = true := by simp only [inB, decide_eq_true_eq]; omega
  obtain ⟨k, rfl⟩ : ∃ k : Nat, i = k := ⟨i.toNat, by omega⟩
  have hk : k < ps.length := by omega
  have hV : woV l u v fs ps (k : Int) = ((l, u, v, fs, ps.take k ++ ps.drop (k + 1)), true) := by unfold woV; rw [if_pos ⟨ht, hi⟩]; rfl
  have hdl : (ps.take k ++ ps.drop (k + 1)).length = k + (ps.length - (k + 1)) := by simp; omega
  rw [hV]
  simp only [hdl]
  clear hi hV
  have HDL := hid hdl
  have HTK := hid (show (ps.take k).length = k by rw [List.length_take]; omega)
  have HDR := hid (show (ps.drop (k + 1)).length = ps.length - (k + 1) by rw [List.length_drop])
  clear hdl
  obtain ⟨bx, ox, rfl, hbx, hcx⟩ := Rds.all hy (by omega)
  have HX := hid hcx
  clear hcx
  obtain ⟨E, hE, hsrc⟩ : ∃ E : Nat, (capq = k + 1 ∧ ox = E ∨ ¬ capq = k + 1 ∧ ox + (k + 1) * 3 = E) ∧ Hid (∀ p (hp : p < (ps.drop (k + 1)).length) j u, (cPu (ps.drop (k + 1))[p])[j]? = some u → w.cell? ⟨bx, E + p * 3 + j, none⟩ = some u) := by
    by_cases hq : capq = k + 1
    · refine ⟨ox, .inl ⟨hq, rfl⟩, fun p hp => ?_⟩
      rw [HDR.out] at hp
      exact absurd hp (by omega)
    · refine ⟨ox + (k + 1) * 3, .inr ⟨hq, rfl⟩, fun p hp j u hu => ?_⟩
      rw [HDR.out] at hp
      have := HX.out (k + 1 + p) (by omega) j u (by rw [List.getElem_drop] at hu; exact hu)
      rw [← this]
      congr 2
      omega
  have hb1' : (0 : Int) ≤ (k : Int) + 1 := by omega
  have htn : ((k : Int) + 1).toNat = k + 1 := by omega
  have hb3' : (k : Int) + 1 ≤ (ps.length : Int) := by omega
  have hb4' : k + 1 ≤ ps.length := by omega
  have hkc : k ≤ capq := by omega
  go_enter Try.func28, Try.ntmps28
  go_wp2_with (fail)
  refine (c_spec_l12Good _ _ _ _ _ _ _ _ _ _ (by first | exact hx | exact Rds.below hx (by (repeat' (first | exact Below.refl _ _ | assumption | refine Below.setCell ?_ ?_ _ | refine Below.drew ?_ | refine Below.alloc ?_ ?_ _ | refine Below.trans ?_ (Below.mono (by assumption) ?_) | (simp; done) | (simp; omega) | omega)))) (by omega) (by first | exact hy | exact Rds.below hy (by (repeat' (first | exact Below.refl _ _ | assumption | refine Below.setCell ?_ ?_ _ | refine Below.drew ?_ | refine Below.alloc ?_ ?_ _ | refine Below.trans ?_ (Below.mono (by assumption) ?_) | (simp; done) | (simp; omega) | omega)))) (by omega)).mono ?_
  rintro e W1 ⟨rfl, hb1⟩
  have hc1 := cellOf hb1; have hf1 := frozOf hb1; have hz1 := sizeOf hb1; (try simp at hz1)
  simp only [ht]
  go_wp2_with (fail)
  refine (c_spec_l1In _ _ _ _).mono ?_
  rintro e W2 ⟨rfl, hb2⟩
  have hc2 := cellOf hb2; have hf2 := frozOf hb2; have hz2 := sizeOf hb2; (try simp at hz2)
  simp only [hin]
  go_wp2_with (fail)
  have HKEEP : Hid (∀ w', Below W2.heap.size W2 w' → w'.cell? ⟨w.heap.size, 4, none⟩ = some (.slice (some ⟨bx, ox, none⟩) ps.length capq) ∧ Below W2.heap.size W2 w') := fun w' hb => ⟨(hb.cell (p := ⟨w.heap.size, 4, none⟩) (by show w.heap.size < _; omega)).trans (by first | (simp [go_sem, ↓IntWalk.iteOmega, *]; done)), hb⟩
  have hwk : IntKind.i64.wrap ((k : Int) + 1) = (k : Int) + 1 := by rw [IntKind.wrap_i64]; omega
  have hkI : (k : Int) ≤ (capq : Int) := by omega
  have hkI2 : (k : Int) ≤ (k : Int) + 1 := by omega
  have hk0 : (0 : Int) ≤ (k : Int) := by omega
  have hkI3 : k ≤ k + 1 := by omega
  rcases hE with ⟨hcc, hE⟩ | ⟨hcc, hE⟩
  all_goals
    subst hE
    go_region_held3 (fun w' => w'.cell? ⟨w.heap.size, 4, none⟩ = some (.slice (some ⟨bx, ox, none⟩) ps.length capq) ∧ Below W2.heap.size W2 w') (first | assumption | exact HKEEP.out _ (by (repeat' (first | with_reducible exact Below.refl _ _ | with_reducible refine Below.trans ?_ hb4 | with_reducible refine Below.trans ?_ hb3 | with_reducible refine Below.drew ?_ | with_reducible refine Below.alloc ?_ ?_ _ | (simp; done) | (simp; omega))))) (first | (rw [if_pos (by rfl)]; refine wp_pushes (xs := ([] : List (Int × Int × Int))) (.tmp 20) (.tmp 24) 29 rfl 71 i0 _ 24 Try.underlying29 hI0 hI1 hI2 hI3 rfl (by decide) (fun _ => rfl) one_Pu 0 rfl rfl (FreshA.newh (B := W2.heap.size) (by simp) (by first | exact Nat.le_refl _ | omega)) (ps.take k) k HTK.out bx ox _ rfl ?_ ?_ ?_ ?_ ?_; (exact fun p hp j u hu => (Below.cell (p := ⟨bx, _, none⟩) (show Below w.heap.size w _ by (repeat' (first | exact Below.refl _ _ | assumption | refine Below.setCell ?_ ?_ _ | refine Below.drew ?_ | refine Below.alloc ?_ ?_ _ | refine Below.trans ?_ (Below.mono (by assumption) ?_) | (simp; done) | (simp; omega) | omega))) hbx).trans (HX.out p (by rw [HTK.out] at hp; omega) j u (by rw [List.getElem_take] at hu; exact hu))); (unfold maxLen; omega); omega; (first | (focus (simp; done)) | (focus (simp; omega)) | omega | exact (show Below w.heap.size w _ by (repeat' (first | exact Below.refl _ _ | assumption | refine Below.setCell ?_ ?_ _ | refine Below.drew ?_ | refine Below.alloc ?_ ?_ _ | refine Below.trans ?_ (Below.mono (by assumption) ?_) | (simp; done) | (simp; omega) | omega))).size | (simp [go_sem]; done) | (simp [go_sem]; omega)); intro A3 cp3 w3 hF3 hg3 hat3; simp only [List.nil_append, Nat.zero_add] at hF3; have hb3 := below_of_grown (B := W2.heap.size) hg3 (fun a ha => by cases ha; first | exact Nat.le_refl _ | (simp; done) | (simp; omega) | omega) (by first | (focus (simp; done)) | (focus (simp; omega)) | omega | exact (show Below w.heap.size w _ by (repeat' (first | exact Below.refl _ _ | assumption | refine Below.setCell ?_ ?_ _ | refine Below.drew ?_ | refine Below.alloc ?_ ?_ _ | refine Below.trans ?_ (Below.mono (by assumption) ?_) | (simp; done) | (simp; omega) | omega))).size); have hs3 := hg3.size; (try simp at hs3); have hBB := Below.trans (show Below w.heap.size w _ by (repeat' (first | exact Below.refl _ _ | assumption | refine Below.setCell ?_ ?_ _ | refine Below.drew ?_ | refine Below.alloc ?_ ?_ _ | refine Below.trans ?_ (Below.mono (by assumption) ?_) | (simp; done) | (simp; omega) | omega))) (Below.mono hb3 (by omega)); have hlo3 := hF3.lo; have hhi3 := hF3.hi) | (rw [if_pos (by rfl)]; refine wp_pushes (xs := ps.take k) (.tmp 25) (.tmp 30) 29 rfl 71 i0 _ 24 Try.underlying29 hI0 hI1 hI2 hI3 rfl (by decide) (fun _ => rfl) one_Pu (0 + k) (HTK.out.trans (Nat.zero_add k).symm) rfl hF3 (ps.drop (k + 1)) _ HDR.out bx _ _ rfl ?_ ?_ ?_ ?_ ?_; (exact fun p hp j u hu => (Below.cell (p := ⟨bx, _, none⟩) hBB hbx).trans (hsrc.out p hp j u hu)); (unfold maxLen; omega); omega; omega; intro A4 cp4 w4 hF4 hg4 hat4; have hb4 := below_of_grown (B := W2.heap.size) hg4 hlo3 (by omega); have hs4 := hg4.size; have hBB4 := Below.trans hBB (Below.mono hb4 (by omega))))
    have hs4' : W2.heap.size ≤ w4.heap.size := by omega
    have hbK : Below W2.heap.size W2 w4 := by repeat' (first | with_reducible exact Below.refl _ _ | with_reducible refine Below.trans ?_ hb4 | with_reducible refine Below.trans ?_ hb3 | with_reducible refine Below.drew ?_ | with_reducible refine Below.alloc ?_ ?_ _ | (simp; done) | (simp; omega))
    have hc36 := fun b o (hlt : b < W2.heap.size) => hbK.cell (p := ⟨b, o, none⟩) hlt
    have hf36 := fun b o (hlt : b < W2.heap.size) => hbK.frozen (p := ⟨b, o, none⟩) hlt
    have m0 : w4.cell? ⟨w.heap.size, 0, none⟩ = some (.int .i64 l) := by rw [hc36 _ _ (by omega)]; first | (simp [go_sem, ↓IntWalk.iteOmega, *]; done) | (simp [go_sem, ↓IntWalk.iteOmega, *]; intros; omega)
    have m1 : w4.cell? ⟨w.heap.size, 1, none⟩ = some (.int .i64 u) := by rw [hc36 _ _ (by omega)]; first | (simp [go_sem, ↓IntWalk.iteOmega, *]; done) | (simp [go_sem, ↓IntWalk.iteOmega, *]; intros; omega)
    have m2 : w4.cell? ⟨w.heap.size, 2, none⟩ = some (.int .i64 v) := by rw [hc36 _ _ (by omega)]; first | (simp [go_sem, ↓IntWalk.iteOmega, *]; done) | (simp [go_sem, ↓IntWalk.iteOmega, *]; intros; omega)
    have m3 : w4.cell? ⟨w.heap.size, 3, none⟩ = some (.slice A fs.length capf) := by rw [hc36 _ _ (by omega)]; first | (simp [go_sem, ↓IntWalk.iteOmega, *]; done) | (simp [go_sem, ↓IntWalk.iteOmega, *]; intros; omega)
    have n0 : w4.cell? ⟨w.heap.size + 1, 0, none⟩ = some (.int .i64 0) := by rw [hc36 _ _ (by omega)]; first | (simp [go_sem, ↓IntWalk.iteOmega, *]; done) | (simp [go_sem, ↓IntWalk.iteOmega, *]; intros; omega)
    have n1 : w4.cell? ⟨w.heap.size + 1, 1, none⟩ = some (.int .i64 0) := by rw [hc36 _ _ (by omega)]; first | (simp [go_sem, ↓IntWalk.iteOmega, *]; done) | (simp [go_sem, ↓IntWalk.iteOmega, *]; intros; omega)
    have n2 : w4.cell? ⟨w.heap.size + 1, 2, none⟩ = some (.int .i64 0) := by rw [hc36 _ _ (by omega)]; first | (simp [go_sem, ↓IntWalk.iteOmega, *]; done) | (simp [go_sem, ↓IntWalk.iteOmega, *]; intros; omega)
    have n3 : w4.cell? ⟨w.heap.size + 1, 3, none⟩ = some (.slice none 0 0) := by rw [hc36 _ _ (by omega)]; first | (simp [go_sem, ↓IntWalk.iteOmega, *]; done) | (simp [go_sem, ↓IntWalk.iteOmega, *]; intros; omega)
    have n4 : w4.cell? ⟨w.heap.size + 1, 4, none⟩ = some (.slice none 0 0) := by rw [hc36 _ _ (by omega)]; first | (simp [go_sem, ↓IntWalk.iteOmega, *]; done) | (simp [go_sem, ↓IntWalk.iteOmega, *]; intros; omega)
    have nf : ∀ o, w4.frozen? ⟨w.heap.size + 1, o, none⟩ = false := fun o => by rw [hf36 _ _ (by omega)]; first | (simp [go_sem, ↓IntWalk.iteOmega, *]; done) | (simp [go_sem, ↓IntWalk.iteOmega, *]; intros; omega)
    have HF4 := hid (hF4.mono (B' := w.heap.size + 2) (by omega))
    have hlo4 := hF4.lo
    have hhi4 := hF4.hi
    have hxr := Rds.below hx (show Below w.heap.size w w4 from hBB4)
    have hBW := hid hBB4
    clear hc36 hf36 hc1 hc2 hf1 hf2 hF4 hF3 hb3 hb4 hg3 hg4 hat3 hat4 hbK hBB hBB4 hb1 hb2 HKEEP hsrc HX hwk hb1' htn hb3'
    have HKB : Hid (∀ w', Below (w.heap.size + 1) w4 w' → w'.cell? ⟨w.heap.size, 0, none⟩ = some (.int .i64 l) ∧ w'.cell? ⟨w.heap.size, 1, none⟩ = some (.int .i64 u) ∧ w'.cell? ⟨w.heap.size, 2, none⟩ = some (.int .i64 v) ∧ w'.cell? ⟨w.heap.size, 3, none⟩ = some (.slice A fs.length capf)) := fun w' hb => ⟨(hb.cell (p := ⟨w.heap.size, 0, none⟩) (by show w.heap.size < w.heap.size + 1; omega)).trans m0, (hb.cell (p := ⟨w.heap.size, 1, none⟩) (by show w.heap.size < w.heap.size + 1; omega)).trans m1, (hb.cell (p := ⟨w.heap.size, 2, none⟩) (by show w.heap.size < w.heap.size + 1; omega)).trans m2, (hb.cell (p := ⟨w.heap.size, 3, none⟩) (by show w.heap.size < w.heap.size + 1; omega)).trans m3⟩
    go_wp2_with (fail)
    go_region_held3 (fun w' => w'.cell? ⟨w.heap.size, 0, none⟩ = some (.int .i64 l) ∧ w'.cell? ⟨w.heap.size, 1, none⟩ = some (.int .i64 u) ∧ w'.cell? ⟨w.heap.size, 2, none⟩ = some (.int .i64 v) ∧ w'.cell? ⟨w.heap.size, 3, none⟩ = some (.slice A fs.length capf)) (first | assumption | exact HKB.out _ (by (repeat' (first | with_reducible exact Below.refl _ _ | with_reducible refine Below.setCell ?_ ?_ _ | with_reducible refine Below.trans ?_ (Below.mono hb7 ?_) | with_reducible refine Below.drew ?_ | (simp; done) | (dsimp only; omega) | (simp; omega))))) (first | (go_at_call 60; refine (c_spec_l1Own_a A fs capf _ (Rds.below hxr (by (repeat' (first | with_reducible exact Below.refl _ _ | with_reducible refine Below.drew ?_ | (simp; done) | (dsimp only; omega) | (simp; omega))))) (by omega) (by omega)).mono ?_; rintro e w7 ⟨A7, c7, rfl, hF7, hb7⟩; have hc7 := cellOf hb7; have hf7 := frozOf hb7; have hz7 := sizeOf hb7; (try simp at hz7)))
    refine ?_
    have hbw7 : Below w.heap.size w w7 := Below.trans hBW.out (Below.mono (Below.trans (Below.refl _ _).drew hb7) (by first | omega | (simp; omega)))
    have HF47 := hid (HF4.out.below (Below.trans (Below.refl _ _).drew (Below.mono hb7 (by first | exact Nat.le_refl _ | (simp; done) | omega))))
    have HF7 := hid (hF7.mono (B' := w.heap.size + 2) (by first | omega | (simp; omega)))
    clear hF7 HF4
    go_wp2_with (fail)
    refine bodyPost_ret (v := .tuple #[.agg #[.int .i64 l, .int .i64 u, .int .i64 v, .slice A7 fs.length c7, .slice A4 (k + (ps.length - (k + 1))) cp4], .bool true]) ?_ rfl ⟨A7, c7, A4, cp4, rfl, ?_, ?_, ?_⟩
    · simp [results, Try.results28, go_sem, ↓IntWalk.iteOmega, *]
    · refine FreshA.mono (B := w.heap.size + 2) ?_ (by omega)
      repeat' (first | with_reducible exact HF7.out | with_reducible refine FreshA.set_low ?_ ?_ _ | (dsimp only; omega))
    · refine FreshA.mono (B := w.heap.size + 2) ?_ (by omega)
      repeat' (first | with_reducible exact HF47.out | with_reducible refine FreshA.set_low ?_ ?_ _ | (dsimp only; omega))
    · repeat' (first | with_reducible exact hbw7 | with_reducible refine Below.setCell ?_ ?_ _ | (dsimp only; omega))

end Go.Proofs.Ytpaclngjmdacjaa
