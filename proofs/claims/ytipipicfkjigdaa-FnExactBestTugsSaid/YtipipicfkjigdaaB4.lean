import Derived.Test.YtipipicfkjigdaaB3
namespace Go.Proofs.Ytipipicfkjigdaa
set_option linter.unusedSimpArgs false
set_option linter.unusedVariables false
open Go.RowKit

set_option maxRecDepth 100000 in
set_option maxHeartbeats 8000000 in
theorem c_visitS (A : Option Addr) (ts : List TugT) (capt : Nat) (B : Option Addr) (js : List JobT) (capj : Nat) (W0 : World) (hx : Rds cTug 3 W0 A ts) (hn : ts.length ≤ 9223372036854775807) (hy : Rds cJob 5 W0 B js) (hm : js.length ≤ 9223372036854775807) (b0 b1 bs bl bv : Nat) (ho : W0.heap.size ≤ b0 ∧ b0 < b1 ∧ b1 < bs ∧ bs < bl ∧ bl < bv) (ht4 : vB tugOk tugLt 4 ts = true) (hj5 : vB jobOk jobLt 5 js = true) (d : Nat)
    (ih : ∀ (g : Nat) (pl : List Int) (capp : Nat) (s : List Int × Int) (w : World) (hS : VSt A ts capt B js capj W0 b0 b1 bs bl bv w s) (hg : FreshA cIn 1 3 (bv + 1) w (some ⟨g, 0, none⟩) capp pl) (hpl : pl.length + d = js.length) (hmt : ∀ x ∈ pl, x ∈ ts.map (·.1)),
      Calls Try.prog 64 #[.slice (some ⟨g, 0, none⟩) pl.length capp, .pointer (some ⟨b1, 0, none⟩), .pointer (some ⟨b0, 0, none⟩), .pointer (some ⟨bv, 0, none⟩), .pointer (some ⟨bl, 0, none⟩), .pointer (some ⟨bs, 0, none⟩)] w fun e w' => e = .returned (.tuple #[]) ∧ VSt A ts capt B js capj W0 b0 b1 bs bl bv w' (vis2 ts js d pl s) ∧ Cut2 bs bl w w')
    (g : Nat) (pl : List Int) (capp : Nat) (s : List Int × Int) (w : World) (hS : VSt A ts capt B js capj W0 b0 b1 bs bl bv w s) (hg : FreshA cIn 1 3 (bv + 1) w (some ⟨g, 0, none⟩) capp pl) (hpl : pl.length + (d + 1) = js.length) (hmt : ∀ x ∈ pl, x ∈ ts.map (·.1)) :
    Calls Try.prog 64 #[.slice (some ⟨g, 0, none⟩) pl.length capp, .pointer (some ⟨b1, 0, none⟩), .pointer (some ⟨b0, 0, none⟩), .pointer (some ⟨bv, 0, none⟩), .pointer (some ⟨bl, 0, none⟩), .pointer (some ⟨bs, 0, none⟩)] w fun e w' => e = .returned (.tuple #[]) ∧ VSt A ts capt B js capj W0 b0 b1 bs bl bv w' (vis2 ts js (d + 1) pl s) ∧ Cut2 bs bl w w' := by
  obtain ⟨i0, hI0, hI1, hI2, hI3⟩ := info_parts info_In
  have hj6 := vB_len hj5
  have ht5 := vB_len ht4
  have hnr : pl.length ≤ 4 := by omega
  have hl1 : pl.length < js.length := by omega
  have hltc : (pl.length : Int) < (js.length : Int) := by omega
  obtain ⟨bj, oj, hjA, hbj, hcj⟩ := hy pl.length js[pl.length] (List.getElem?_eq_getElem hl1)
  have hj3 := hcj 3 _ rfl
  have hgd : (js.getD pl.length j0).2.2.2.1 = js[pl.length].2.2.2.1 := by rw [List.getD_eq_getElem?_getD, List.getElem?_eq_getElem hl1]; rfl
  have HPL := hid hpl
  have HIH := hid ih
  have HSS := hid hS
  have HG := hid hg
  have HX := hid hx
  have HMT := hid hmt
  have HGD := hid hgd
  have hq0 := hS.c0
  have hq1 := hS.c1
  have hlt0 := hS.lt
  have HV := hid (vis2To_all (ts := ts) (js := js) d pl s)
  clear hpl ih hS hg hmt hx hy hgd hcj
  subst hjA
  generalize js[pl.length].2.2.2.1 = pw at *
  go_enter Try.func64, Try.ntmps64
  go_wp2_with (fail)
  go_loopw [17] (fun i wr => ∃ k : Nat, k ≤ ts.length ∧ i = .int .i64 k ∧ VSt A ts capt (some ⟨bj, oj, none⟩) js capj W0 b0 b1 bs bl bv wr (vis2To ts js d pl s k) ∧ Cut2 bs bl w wr) (fun i _ => ts.length - (intOf i).toNat)
  case atStart => exact ⟨0, Nat.zero_le _, rfl, HSS.out.below ho (by (repeat' (first | exact Below.refl _ _ | assumption | refine Below.setCell ?_ ?_ _ | refine Below.drew ?_ | refine Below.alloc ?_ ?_ _ | refine Below.trans ?_ (Below.mono (by assumption) ?_) | (simp; done) | (simp; omega) | omega))), Cut2.of (by (repeat' (first | exact Below.refl _ _ | assumption | refine Below.setCell ?_ ?_ _ | refine Below.drew ?_ | refine Below.alloc ?_ ?_ _ | refine Below.trans ?_ (Below.mono (by assumption) ?_) | (simp; done) | (simp; omega) | omega)))⟩
  case round =>
    obtain ⟨k, hk, rfl, hS, hC⟩ := hrel
    by_cases hlt : k < ts.length
    rotate_left
    · obtain rfl : k = ts.length := by omega
      go_wp2_with (fail)
      refine bodyPost_ret (results_none rfl _ _ _) rfl ?_
      rw [← HV.out]
      exact ⟨rfl, hS, hC⟩
    obtain ⟨bt, ot, htA, hbt, hct⟩ := HX.out k ts[k] (List.getElem?_eq_getElem hlt)
    have hbel := hS.bel
    have ht0 : wr.cell? ⟨bt, ot + k * 3, none⟩ = some (.int .i64 ts[k].1) := by have := hct 0 _ rfl; simp only [Nat.add_zero] at this; exact (hbel.cell (p := ⟨bt, _, none⟩) hbt).trans this
    have ht1 : wr.cell? ⟨bt, ot + k * 3 + 1, none⟩ = some (.int .i64 ts[k].2.1) := (hbel.cell (p := ⟨bt, _, none⟩) hbt).trans (hct 1 _ rfl)
    have ht2 : wr.cell? ⟨bt, ot + k * 3 + 2, none⟩ = some (.int .i64 ts[k].2.2) := (hbel.cell (p := ⟨bt, _, none⟩) hbt).trans (hct 2 _ rfl)
    have hj3r : wr.cell? ⟨bj, oj + pl.length * 5 + 3, none⟩ = some (.int .i64 pw) := (hbel.cell (p := ⟨bj, _, none⟩) hbj).trans hj3
    have HM9 := hid (memT_app HMT.out k hlt)
    have HGO := hid (vis2To_go (ts := ts) (js := js) d pl s k hlt)
    have HSK := hid (vis2To_skip (ts := ts) (js := js) d pl s k hlt)
    simp only [HGD.out] at HGO HSK
    have HS := hid hS
    have HC := hid hC
    have hzz := hC.size
    have hltr := hS.lt
    have hbjr : bj < wr.heap.size := by have := hbel.size; omega
    have hbtr : bt < wr.heap.size := by have := hbel.size; omega
    have hcvr := hS.cv
    have hc1r := hS.c1
    have HKV : Hid (∀ w' : World, Below wr.heap.size wr w' → w'.cell? ⟨bv, 0, none⟩ = some (.func (.func 64) #[] #[.pointer (some ⟨b1, 0, none⟩), .pointer (some ⟨b0, 0, none⟩), .pointer (some ⟨bv, 0, none⟩), .pointer (some ⟨bl, 0, none⟩), .pointer (some ⟨bs, 0, none⟩)])) := fun w' hbb => (hbb.cell (p := ⟨bv, 0, none⟩) hltr).trans hcvr
    have HR := hid ((HG.out.cut hC (by omega) (by omega)).rds)
    have HL9 := hid (show (pl ++ [ts[k].1]).length = pl.length + 1 by simp)
    have HP9 : Hid ((pl ++ [ts[k].1]).length + d = js.length) := by
      show _ = _
      have := HPL.out
      rw [HL9.out]
      omega
    subst htA
    clear hS hC hcvr hq0 hq1 hct hbel hj3
    generalize vis2To ts js d pl s k = s1 at *
    generalize ts[k] = t at *
    go_wp2_with (fail)
    refine wp_named ?_
    intro W hW
    have hBW : Below wr.heap.size wr W := by rw [hW]; (repeat' (first | exact Below.refl _ _ | assumption | refine Below.setCell ?_ ?_ _ | refine Below.drew ?_ | refine Below.alloc ?_ ?_ _ | refine Below.trans ?_ (Below.mono (by assumption) ?_) | (simp; done) | (simp; omega) | omega))
    have pz : wr.heap.size < W.heap.size := by rw [hW]; simp
    have p0 : W.cell? ⟨wr.heap.size, 0, none⟩ = some (.int .i64 t.1) := by rw [hW]; simp [go_sem, ↓IntWalk.iteOmega, *]
    have p2 : W.cell? ⟨wr.heap.size, 2, none⟩ = some (.int .i64 t.2.2) := by rw [hW]; simp [go_sem, ↓IntWalk.iteOmega, *]
    have p1 : W.cell? ⟨b1, 0, none⟩ = some (.slice (some ⟨bj, oj, none⟩) js.length capj) := (hBW.cell (p := ⟨b1, 0, none⟩) (by show b1 < wr.heap.size; omega)).trans hc1r
    have p3 : W.cell? ⟨bj, oj + pl.length * 5 + 3, none⟩ = some (.int .i64 pw) := (hBW.cell (p := ⟨bj, _, none⟩) hbjr).trans hj3r
    have HP0 : Hid (∀ w' : World, Below W.heap.size W w' → w'.cell? ⟨wr.heap.size, 0, none⟩ = some (.int .i64 t.1)) := fun w' hbb => (hbb.cell (p := ⟨wr.heap.size, 0, none⟩) pz).trans p0
    clear hW ht0 ht1 ht2 hj3r hc1r
    by_cases hpw : pw ≤ t.2.2
    rotate_left
    · have hpl2 : t.2.2 < pw := by omega
      have HE := hid (HSK.out (by omega))
      clear hpw
      go_region_held3 (fun w' => w'.cell? ⟨wr.heap.size, 2, none⟩ = some (.int .i64 t.2.2) ∧ w'.cell? ⟨b1, 0, none⟩ = some (.slice (some ⟨bj, oj, none⟩) js.length capj) ∧ w'.cell? ⟨bj, oj + pl.length * 5 + 3, none⟩ = some (.int .i64 pw)) (first | assumption | exact ⟨p2, p1, p3⟩) (fail)
      go_wp2_with (fail)
      go_roundw
      case rel => exact ⟨k + 1, by omega, by go_num, by rw [HE.out]; exact HS.out.below ho (by (repeat' (first | exact Below.refl _ _ | assumption | refine Below.setCell ?_ ?_ _ | refine Below.drew ?_ | refine Below.alloc ?_ ?_ _ | refine Below.trans ?_ (Below.mono (by assumption) ?_) | (simp; done) | (simp; omega) | omega))), HC.out.trans (Cut2.of (by (repeat' (first | exact Below.refl _ _ | assumption | refine Below.setCell ?_ ?_ _ | refine Below.drew ?_ | refine Below.alloc ?_ ?_ _ | refine Below.trans ?_ (Below.mono (by assumption) ?_) | (simp; done) | (simp; omega) | omega))))⟩
      case measure => simp [intOf]; omega
    have HB1 := hid (HGO.out (by omega))
    go_region_held3 (fun w' => w'.cell? ⟨wr.heap.size, 2, none⟩ = some (.int .i64 t.2.2) ∧ w'.cell? ⟨b1, 0, none⟩ = some (.slice (some ⟨bj, oj, none⟩) js.length capj) ∧ w'.cell? ⟨bj, oj + pl.length * 5 + 3, none⟩ = some (.int .i64 pw)) (first | assumption | exact ⟨p2, p1, p3⟩) (fail)
    go_wp2_with (fail)
    go_region_held3 (fun w' => w'.cell? ⟨bv, 0, none⟩ = some (.func (.func 64) #[] #[.pointer (some ⟨b1, 0, none⟩), .pointer (some ⟨b0, 0, none⟩), .pointer (some ⟨bv, 0, none⟩), .pointer (some ⟨bl, 0, none⟩), .pointer (some ⟨bs, 0, none⟩)]) ∧ w'.cell? ⟨wr.heap.size, 0, none⟩ = some (.int .i64 t.1)) (first | assumption | exact ⟨HS9.out.cv, hq9⟩ | exact ⟨HKV.out _ (by (repeat' (first | exact Below.refl _ _ | assumption | refine Below.setCell ?_ ?_ _ | refine Below.drew ?_ | refine Below.alloc ?_ ?_ _ | refine Below.trans ?_ (Below.mono (by assumption) ?_) | (simp; done) | (simp; omega) | omega))), HP0.out _ (by (repeat' (first | exact Below.refl _ _ | assumption | refine Below.setCell ?_ ?_ _ | refine Below.drew ?_ | refine Below.alloc ?_ ?_ _ | refine Below.trans ?_ (Below.mono (by assumption) ?_) | (simp; done) | (simp; omega) | omega)))⟩) (first | (go_at_call 65; refine (c_impl_copyInts g pl capp _ (HR.out.below (by (repeat' (first | exact Below.refl _ _ | assumption | refine Below.setCell ?_ ?_ _ | refine Below.drew ?_ | refine Below.alloc ?_ ?_ _ | refine Below.trans ?_ (Below.mono (by assumption) ?_) | (simp; done) | (simp; omega) | omega)))) (by omega)).mono ?_; rintro e w' ⟨A1, cp1, rfl, hF1, hb⟩; have HF1 := hid (FreshA.mono (B' := W.heap.size) hF1 (by first | omega | (simp; done) | (simp; omega))); clear hF1; have hlo1 := HF1.out.lo; have hhi1 := HF1.out.hi; have hc := cellOf hb; have hf := frozOf hb; have hz := sizeOf hb; try simp at hz) | (rw [if_pos (by rfl)]; refine wp_push (.tmp 32) (.tmp 35) 43 rfl 3 i0 _ 1 8 Try.underlying43 hI0 hI1 hI2 hI3 rfl (by decide) (fun _ => rfl) one_In W.heap.size A1 pl.length cp1 pl rfl rfl (HF1.out.below (by (repeat' (first | exact Below.refl _ _ | assumption | refine Below.setCell ?_ ?_ _ | refine Below.drew ?_ | refine Below.alloc ?_ ?_ _ | refine Below.trans ?_ (Below.mono (by assumption) ?_) | (simp; done) | (simp; omega) | omega)))) t.1 _ 1 rfl ?_ ?_ ?_ ?_ ?_; (refine news_In _ _ _ ?_ <;> simp [go_sem, ↓IntWalk.iteOmega, *]); (unfold maxLen; omega); omega; (exact (show Below W.heap.size W _ by (repeat' (first | exact Below.refl _ _ | assumption | refine Below.setCell ?_ ?_ _ | refine Below.drew ?_ | refine Below.alloc ?_ ?_ _ | refine Below.trans ?_ (Below.mono (by assumption) ?_) | (simp; done) | (simp; omega) | omega))).size); intro A3 cp3 w3 hF3 hg3 hat3; have hb3 := below_of_grown (B := W.heap.size) hg3 hlo1 (by exact (show Below W.heap.size W _ by (repeat' (first | exact Below.refl _ _ | assumption | refine Below.setCell ?_ ?_ _ | refine Below.drew ?_ | refine Below.alloc ?_ ?_ _ | refine Below.trans ?_ (Below.mono (by assumption) ?_) | (simp; done) | (simp; omega) | omega))).size); have hs3 := hg3.size; (try simp at hs3); have hBB' : Below W.heap.size W w3 := Below.trans (show Below W.heap.size W _ by (repeat' (first | exact Below.refl _ _ | assumption | refine Below.setCell ?_ ?_ _ | refine Below.drew ?_ | refine Below.alloc ?_ ?_ _ | refine Below.trans ?_ (Below.mono (by assumption) ?_) | (simp; done) | (simp; omega) | omega))) hb3; obtain ⟨g3, rfl, hgB3, hO3⟩ := hF3.row (by simp); have hBB : Below wr.heap.size wr w3 := hBW.trans (hBB'.mono hBW.size); have hq3 : w3.cell? ⟨wr.heap.size, 0, none⟩ = some (.int .i64 t.1) := HP0.out _ hBB'; have HF3 := hid hF3; clear hF3 hO3) | (go_at_call 64; have hq := HIH.out g3 (pl ++ [t.1]) cp3 s1 _ (HS.out.below ho hBB) (HF3.out.mono (by omega)) HP9.out HM9.out; rw [HL9.out] at hq; refine hq.mono ?_; clear hq; rintro e w' ⟨rfl, hS9, hC9⟩; have hq9 : w'.cell? ⟨wr.heap.size, 0, none⟩ = some (.int .i64 t.1) := (World.cell?_of_block (a := ⟨wr.heap.size, 0, none⟩) (hC9.block wr.heap.size (by have := hBB'.size; omega) (by omega) (by omega))).trans hq3; have HS9 := hid hS9; have HC9 := hid hC9; clear hS9 hC9))
    all_goals
      go_wp2_with (fail)
      go_roundw
      case rel => exact ⟨k + 1, by omega, by go_num, by rw [HB1.out]; exact HS9.out, HC.out.trans ((Cut2.of hBB).trans HC9.out)⟩
      case measure => simp [intOf]; omega
theorem c_visit (A : Option Addr) (ts : List TugT) (capt : Nat) (B : Option Addr) (js : List JobT) (capj : Nat) (W0 : World) (hx : Rds cTug 3 W0 A ts) (hn : ts.length ≤ 9223372036854775807) (hy : Rds cJob 5 W0 B js) (hm : js.length ≤ 9223372036854775807) (b0 b1 bs bl bv : Nat) (ho : W0.heap.size ≤ b0 ∧ b0 < b1 ∧ b1 < bs ∧ bs < bl ∧ bl < bv) (ht4 : vB tugOk tugLt 4 ts = true) (hj5 : vB jobOk jobLt 5 js = true) :
    ∀ (d g : Nat) (pl : List Int) (capp : Nat) (s : List Int × Int) (w : World) (hS : VSt A ts capt B js capj W0 b0 b1 bs bl bv w s) (hg : FreshA cIn 1 3 (bv + 1) w (some ⟨g, 0, none⟩) capp pl) (hpl : pl.length + d = js.length) (hmt : ∀ x ∈ pl, x ∈ ts.map (·.1)),
      Calls Try.prog 64 #[.slice (some ⟨g, 0, none⟩) pl.length capp, .pointer (some ⟨b1, 0, none⟩), .pointer (some ⟨b0, 0, none⟩), .pointer (some ⟨bv, 0, none⟩), .pointer (some ⟨bl, 0, none⟩), .pointer (some ⟨bs, 0, none⟩)] w fun e w' => e = .returned (.tuple #[]) ∧ VSt A ts capt B js capj W0 b0 b1 bs bl bv w' (vis2 ts js d pl s) ∧ Cut2 bs bl w w' := by
  intro d
  induction d with
  | zero => exact fun g pl capp s w hS hg hpl hmt => c_visit0 A ts capt B js capj W0 hx hn hy hm b0 b1 bs bl bv ho ht4 hj5 g pl capp s w hS hg hpl hmt
  | succ d ih => exact fun g pl capp s w hS hg hpl hmt => c_visitS A ts capt B js capj W0 hx hn hy hm b0 b1 bs bl bv ho ht4 hj5 d ih g pl capp s w hS hg hpl hmt

end Go.Proofs.Ytipipicfkjigdaa
