import Derived.Test.YtpaclngjmdacjaaW0
import Derived.Test.YtpaclngjmdacjaaG1a
import Derived.Test.YtpaclngjmdacjaaDel
import Derived.Test.YtpaclngjmdacjaaE1
namespace Go.Proofs.Ytpaclngjmdacjaa
set_option linter.unusedSimpArgs false
set_option linter.unusedVariables false
open Go.RowKit

set_option maxRecDepth 100000 in
set_option maxHeartbeats 4000000 in
theorem c_impl_WithoutPump (l h v : Int) (A : Option Addr) (fs : List Int) (capf : Nat) (B : Option Addr) (ps : List (Int × Int × Int)) (capq : Nat) (i : Int) (w : World) (hx : Rds cIn 1 w A fs) (hn : fs.length ≤ 9223372036854775807) (hy : Rds cPu 3 w B ps) (hm : ps.length ≤ 9223372036854775807) :
    Calls Try.prog 29 #[.agg #[.int .i64 l, .int .i64 h, .int .i64 v, .slice A fs.length capf, .slice B ps.length capq], .int .i64 i] w fun e w' => ∃ A1 c1 A2 c2, e = .returned (.tuple #[.agg #[.int .i64 (woV l h v fs ps i).1.1, .int .i64 (woV l h v fs ps i).1.2.1, .int .i64 (woV l h v fs ps i).1.2.2.1, .slice A1 (woV l h v fs ps i).1.2.2.2.1.length c1, .slice A2 (woV l h v fs ps i).1.2.2.2.2.length c2], .bool (woV l h v fs ps i).2]) ∧ FreshA cIn 1 3 w.heap.size w' A1 c1 (woV l h v fs ps i).1.2.2.2.1 ∧ FreshA cPu 3 71 w.heap.size w' A2 c2 (woV l h v fs ps i).1.2.2.2.2 ∧ Below w.heap.size w w' := by
  obtain ⟨i0, hI0, hI1, hI2, hI3⟩ := info_parts info_Pu
  cases ht : taskB l h v fs ps
  · have hV : woV l h v fs ps i = ((0, 0, 0, [], []), false) := by simp [woV, ht]
    rw [hV]
    simp only
    go_enter Try.func29, Try.ntmps29
    go_wp2_with (fail)
    refine (c_impl_IsPumpTask _ _ _ _ _ _ _ _ _ _ (by first | exact hx | exact Rds.below hx (by (repeat' (first | exact Below.refl _ _ | assumption | refine Below.setCell ?_ ?_ _ | refine Below.drew ?_ | refine Below.alloc ?_ ?_ _ | refine Below.trans ?_ (Below.mono (by assumption) ?_) | (simp; done) | (simp; omega) | omega)))) (by omega) (by first | exact hy | exact Rds.below hy (by (repeat' (first | exact Below.refl _ _ | assumption | refine Below.setCell ?_ ?_ _ | refine Below.drew ?_ | refine Below.alloc ?_ ?_ _ | refine Below.trans ?_ (Below.mono (by assumption) ?_) | (simp; done) | (simp; omega) | omega)))) (by omega)).mono ?_
    rintro e W1 ⟨rfl, hb1⟩
    have hc1 := cellOf hb1; have hf1 := frozOf hb1; have hz1 := sizeOf hb1; (try simp at hz1)
    simp only [ht]
    go_wp2_with (fail)
    refine bodyPost_ret (v := .tuple #[.agg #[.int .i64 0, .int .i64 0, .int .i64 0, .slice none 0 0, .slice none 0 0], .bool false]) ?_ rfl ⟨none, 0, none, 0, rfl, .inl ⟨rfl, rfl, rfl⟩, .inl ⟨rfl, rfl, rfl⟩, by (repeat' (first | exact Below.refl _ _ | assumption | refine Below.setCell ?_ ?_ _ | refine Below.drew ?_ | refine Below.alloc ?_ ?_ _ | refine Below.trans ?_ (Below.mono (by assumption) ?_) | (simp; done) | (simp; omega) | omega))⟩
    simp [results, Try.results29, go_sem, ↓IntWalk.iteOmega, *]
  obtain ⟨hv, hn2, hl1, hl5⟩ := taskB_sz ht
  by_cases hi : 0 ≤ i ∧ i < ps.length
  rotate_left
  · have hV : woV l h v fs ps i = ((0, 0, 0, [], []), false) := by unfold woV; rw [if_neg (fun e => hi e.2)]
    have hin : inB i 0 ((ps.length : Int) - 1) = false := by simp only [inB, decide_eq_false_iff_not]; omega
    rw [hV]
    simp only
    clear hi
    go_enter Try.func29, Try.ntmps29
    go_wp2_with (fail)
    refine (c_impl_IsPumpTask _ _ _ _ _ _ _ _ _ _ (by first | exact hx | exact Rds.below hx (by (repeat' (first | exact Below.refl _ _ | assumption | refine Below.setCell ?_ ?_ _ | refine Below.drew ?_ | refine Below.alloc ?_ ?_ _ | refine Below.trans ?_ (Below.mono (by assumption) ?_) | (simp; done) | (simp; omega) | omega)))) (by omega) (by first | exact hy | exact Rds.below hy (by (repeat' (first | exact Below.refl _ _ | assumption | refine Below.setCell ?_ ?_ _ | refine Below.drew ?_ | refine Below.alloc ?_ ?_ _ | refine Below.trans ?_ (Below.mono (by assumption) ?_) | (simp; done) | (simp; omega) | omega)))) (by omega)).mono ?_
    rintro e W1 ⟨rfl, hb1⟩
    have hc1 := cellOf hb1; have hf1 := frozOf hb1; have hz1 := sizeOf hb1; (try simp at hz1)
    simp only [ht]
    go_wp2_with (fail)
    refine (c_impl_inside _ _ _ _).mono ?_
    rintro e W2 ⟨rfl, hb2⟩
    have hc2 := cellOf hb2; have hf2 := frozOf hb2; have hz2 := sizeOf hb2; (try simp at hz2)
    simp only [hin]
    go_wp2_with (fail)
    refine bodyPost_ret (v := .tuple #[.agg #[.int .i64 0, .int .i64 0, .int .i64 0, .slice none 0 0, .slice none 0 0], .bool false]) ?_ rfl ⟨none, 0, none, 0, rfl, .inl ⟨rfl, rfl, rfl⟩, .inl ⟨rfl, rfl, rfl⟩, by (repeat' (first | exact Below.refl _ _ | assumption | refine Below.setCell ?_ ?_ _ | refine Below.drew ?_ | refine Below.alloc ?_ ?_ _ | refine Below.trans ?_ (Below.mono (by assumption) ?_) | (simp; done) | (simp; omega) | omega))⟩
    simp [results, Try.results29, go_sem, ↓IntWalk.iteOmega, *]
  have hin : inB i 0 ((ps.length : Int) - 1) = true := by simp only [inB, decide_eq_true_eq]; omega
  obtain ⟨k, rfl⟩ : ∃ k : Nat, i = k := ⟨i.toNat, by omega⟩
  have hk : k < ps.length := by omega
  have hV : woV l h v fs ps (k : Int) = ((l, h, v, fs, ps.take k ++ ps.drop (k + 1)), true) := by unfold woV; rw [if_pos ⟨ht, hi⟩]; rfl
  have hdl : (ps.take k ++ ps.drop (k + 1)).length = ps.length - 1 := by simp; omega
  rw [hV]
  simp only [hdl]
  clear hi hV
  have HDL := hid hdl
  clear hdl
  obtain ⟨bx, ox, rfl, hbx, hcx⟩ := Rds.all hy (by omega)
  have HX := hid hcx
  clear hcx
  go_enter Try.func29, Try.ntmps29
  go_wp2_with (fail)
  refine (c_impl_IsPumpTask _ _ _ _ _ _ _ _ _ _ (by first | exact hx | exact Rds.below hx (by (repeat' (first | exact Below.refl _ _ | assumption | refine Below.setCell ?_ ?_ _ | refine Below.drew ?_ | refine Below.alloc ?_ ?_ _ | refine Below.trans ?_ (Below.mono (by assumption) ?_) | (simp; done) | (simp; omega) | omega)))) (by omega) (by first | exact hy | exact Rds.below hy (by (repeat' (first | exact Below.refl _ _ | assumption | refine Below.setCell ?_ ?_ _ | refine Below.drew ?_ | refine Below.alloc ?_ ?_ _ | refine Below.trans ?_ (Below.mono (by assumption) ?_) | (simp; done) | (simp; omega) | omega)))) (by omega)).mono ?_
  rintro e W1 ⟨rfl, hb1⟩
  have hc1 := cellOf hb1; have hf1 := frozOf hb1; have hz1 := sizeOf hb1; (try simp at hz1)
  simp only [ht]
  go_wp2_with (fail)
  refine (c_impl_inside _ _ _ _).mono ?_
  rintro e W2 ⟨rfl, hb2⟩
  have hc2 := cellOf hb2; have hf2 := frozOf hb2; have hz2 := sizeOf hb2; (try simp at hz2)
  simp only [hin]
  go_wp2_with (fail)
  refine (c_impl_copyInts_a _ _ _ _ (by first | exact hx | exact Rds.below hx (by (repeat' (first | exact Below.refl _ _ | assumption | refine Below.setCell ?_ ?_ _ | refine Below.drew ?_ | refine Below.alloc ?_ ?_ _ | refine Below.trans ?_ (Below.mono (by assumption) ?_) | (simp; done) | (simp; omega) | omega)))) (by omega) (by omega)).mono ?_
  rintro e W5 ⟨A5, c5, rfl, hF5, hb5⟩
  have hc5 := cellOf hb5; have hf5 := frozOf hb5; have hz5 := sizeOf hb5; (try simp at hz5)
  have HF5 := hid hF5; clear hF5
  go_wp2_with (at_builtin; refine wpList_pushes (xs := ([] : List (Int × Int × Int))) rfl (.tmp 25) (.tmp 27) 29 rfl 71 i0 _ 24 Try.underlying29 hI0 hI1 hI2 hI3 rfl (by decide) (fun _ => rfl) one_Pu 0 rfl rfl (FreshA.newh (B := W5.heap.size) (by simp) (by first | exact Nat.le_refl _ | omega)) ps _ rfl bx ox _ rfl ?_ ?_ ?_ ?_ ?_; (exact fun p hp j u hu => (Below.cell (p := ⟨bx, _, none⟩) (show Below w.heap.size w _ by (repeat' (first | exact Below.refl _ _ | assumption | refine Below.setCell ?_ ?_ _ | refine Below.drew ?_ | refine Below.alloc ?_ ?_ _ | refine Below.trans ?_ (Below.mono (by assumption) ?_) | (simp; done) | (simp; omega) | omega))) hbx).trans (HX.out p hp j u hu)); (unfold maxLen; omega); omega; (first | (focus (simp; done)) | (focus (simp; omega)) | omega | exact (show Below w.heap.size w _ by (repeat' (first | exact Below.refl _ _ | assumption | refine Below.setCell ?_ ?_ _ | refine Below.drew ?_ | refine Below.alloc ?_ ?_ _ | refine Below.trans ?_ (Below.mono (by assumption) ?_) | (simp; done) | (simp; omega) | omega))).size | (simp [go_sem]; done) | (simp [go_sem]; omega)); intro A3 cp3 w3 hF3 hg3 hat3; simp only [List.nil_append, Nat.zero_add] at hF3; have hb3 := below_of_grown (B := W5.heap.size) hg3 (fun a ha => by cases ha; first | exact Nat.le_refl _ | (simp; done) | (simp; omega) | omega) (by first | (focus (simp; done)) | (focus (simp; omega)) | omega | exact (show Below w.heap.size w _ by (repeat' (first | exact Below.refl _ _ | assumption | refine Below.setCell ?_ ?_ _ | refine Below.drew ?_ | refine Below.alloc ?_ ?_ _ | refine Below.trans ?_ (Below.mono (by assumption) ?_) | (simp; done) | (simp; omega) | omega))).size); have hs3 := hg3.size; (try simp at hs3); have hBB : Below w.heap.size w w3 := Below.trans (show Below w.heap.size w _ by (repeat' (first | exact Below.refl _ _ | assumption | refine Below.setCell ?_ ?_ _ | refine Below.drew ?_ | refine Below.alloc ?_ ?_ _ | refine Below.trans ?_ (Below.mono (by assumption) ?_) | (simp; done) | (simp; omega) | omega))) (Below.mono hb3 (by omega)))
  have hs3' : W5.heap.size ≤ w3.heap.size := by omega
  refine (c_Delete _ _ ps k W5.heap.size _ hF3 hk).mono ?_
  rintro e W6 ⟨rfl, hF6, hb6⟩
  have hs6 := hb6.size
  have hc6 : ∀ b o, b < W5.heap.size → W6.cell? ⟨b, o, none⟩ = w3.cell? ⟨b, o, none⟩ := fun b o hlt => hb6.cell (p := ⟨b, o, none⟩) hlt
  have hf6 : ∀ b o, b < W5.heap.size → W6.frozen? ⟨b, o, none⟩ = w3.frozen? ⟨b, o, none⟩ := fun b o hlt => hb6.frozen (p := ⟨b, o, none⟩) hlt
  have hc36 := fun b o hlt => (hc6 b o hlt).trans (hb3.cell (p := ⟨b, o, none⟩) hlt)
  have hf36 := fun b o hlt => (hf6 b o hlt).trans (hb3.frozen (p := ⟨b, o, none⟩) hlt)
  have hbm : Below W5.heap.size (W5.setCell ⟨W2.heap.size, 3, none⟩ (.slice A5 fs.length c5)) W6 := Below.trans (Below.trans (Below.alloc (Below.refl _ _) (by simp) _) hb3) hb6
  have hF56 := (HF5.out.set_low (p := ⟨W2.heap.size, 3, none⟩) (by simp) (.slice A5 fs.length c5)).below (Below.mono hbm (by simp))
  have hbw6 : Below w.heap.size w W6 := Below.trans hBB (Below.mono hb6 (by omega))
  have HF6 := hid (hF6.mono (B' := W2.heap.size + 1) (by omega))
  have HF56 := hid (hF56.mono (B' := W2.heap.size + 1) (by simp))
  have m0 : W6.cell? ⟨W2.heap.size, 0, none⟩ = some (.int .i64 l) := by rw [hc36 _ _ (by omega)]; first | (simp [go_sem, ↓IntWalk.iteOmega, *]; done) | (simp [go_sem, ↓IntWalk.iteOmega, *]; intros; omega)
  have m1 : W6.cell? ⟨W2.heap.size, 1, none⟩ = some (.int .i64 h) := by rw [hc36 _ _ (by omega)]; first | (simp [go_sem, ↓IntWalk.iteOmega, *]; done) | (simp [go_sem, ↓IntWalk.iteOmega, *]; intros; omega)
  have m2 : W6.cell? ⟨W2.heap.size, 2, none⟩ = some (.int .i64 v) := by rw [hc36 _ _ (by omega)]; first | (simp [go_sem, ↓IntWalk.iteOmega, *]; done) | (simp [go_sem, ↓IntWalk.iteOmega, *]; intros; omega)
  have m3 : W6.cell? ⟨W2.heap.size, 3, none⟩ = some (.slice A5 fs.length c5) := by rw [hc36 _ _ (by omega)]; first | (simp [go_sem, ↓IntWalk.iteOmega, *]; done) | (simp [go_sem, ↓IntWalk.iteOmega, *]; intros; omega)
  have m4 : W6.cell? ⟨W2.heap.size, 4, none⟩ = some (.slice (some ⟨bx, ox, none⟩) ps.length capq) := by rw [hc36 _ _ (by omega)]; first | (simp [go_sem, ↓IntWalk.iteOmega, *]; done) | (simp [go_sem, ↓IntWalk.iteOmega, *]; intros; omega)
  have n0 : W6.cell? ⟨w.heap.size + 1, 0, none⟩ = some (.int .i64 0) := by rw [hc36 _ _ (by omega)]; first | (simp [go_sem, ↓IntWalk.iteOmega, *]; done) | (simp [go_sem, ↓IntWalk.iteOmega, *]; intros; omega)
  have n1 : W6.cell? ⟨w.heap.size + 1, 1, none⟩ = some (.int .i64 0) := by rw [hc36 _ _ (by omega)]; first | (simp [go_sem, ↓IntWalk.iteOmega, *]; done) | (simp [go_sem, ↓IntWalk.iteOmega, *]; intros; omega)
  have n2 : W6.cell? ⟨w.heap.size + 1, 2, none⟩ = some (.int .i64 0) := by rw [hc36 _ _ (by omega)]; first | (simp [go_sem, ↓IntWalk.iteOmega, *]; done) | (simp [go_sem, ↓IntWalk.iteOmega, *]; intros; omega)
  have n3 : W6.cell? ⟨w.heap.size + 1, 3, none⟩ = some (.slice none 0 0) := by rw [hc36 _ _ (by omega)]; first | (simp [go_sem, ↓IntWalk.iteOmega, *]; done) | (simp [go_sem, ↓IntWalk.iteOmega, *]; intros; omega)
  have n4 : W6.cell? ⟨w.heap.size + 1, 4, none⟩ = some (.slice none 0 0) := by rw [hc36 _ _ (by omega)]; first | (simp [go_sem, ↓IntWalk.iteOmega, *]; done) | (simp [go_sem, ↓IntWalk.iteOmega, *]; intros; omega)
  have mf : ∀ o, W6.frozen? ⟨W2.heap.size, o, none⟩ = false := fun o => by rw [hf36 _ _ (by omega)]; first | (simp [go_sem, ↓IntWalk.iteOmega, *]; done) | (simp [go_sem, ↓IntWalk.iteOmega, *]; intros; omega)
  have nf : ∀ o, W6.frozen? ⟨w.heap.size + 1, o, none⟩ = false := fun o => by rw [hf36 _ _ (by omega)]; first | (simp [go_sem, ↓IntWalk.iteOmega, *]; done) | (simp [go_sem, ↓IntWalk.iteOmega, *]; intros; omega)
  clear hc36 hf36 hc1 hc2 hc5 hf1 hf2 hf5
  clear hF6 hF56 hF3 hb6 hb3 hc6 hf6 hg3 hat3 HF5 hbm hBB hb1 hb2 hb5
  go_wp2_with (fail)
  refine bodyPost_ret (v := .tuple #[.agg #[.int .i64 l, .int .i64 h, .int .i64 v, .slice A5 fs.length c5, .slice A3 (ps.length - 1) cp3], .bool true]) ?_ rfl ⟨A5, c5, A3, cp3, rfl, ?_, ?_, ?_⟩
  · simp [results, Try.results29, go_sem, ↓IntWalk.iteOmega, *]
  · refine FreshA.mono (B := W2.heap.size + 1) ?_ (by omega)
    repeat' (first | with_reducible exact HF56.out | with_reducible refine FreshA.set_low ?_ ?_ _ | (dsimp only; omega))
  · refine FreshA.mono (B := W2.heap.size + 1) ?_ (by omega)
    repeat' (first | with_reducible exact HF6.out | with_reducible refine FreshA.set_low ?_ ?_ _ | (dsimp only; omega))
  · repeat' (first | with_reducible exact hbw6 | with_reducible refine Below.setCell ?_ ?_ _ | (dsimp only; omega))

end Go.Proofs.Ytpaclngjmdacjaa
