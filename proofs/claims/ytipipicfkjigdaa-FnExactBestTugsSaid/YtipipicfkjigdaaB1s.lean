import Derived.Test.YtipipicfkjigdaaT0b
import Derived.Test.YtipipicfkjigdaaT6s
import Derived.Test.YtipipicfkjigdaaO1
import Derived.Deep.RegionHeld3
namespace Go.Proofs.Ytipipicfkjigdaa
set_option linter.unusedSimpArgs false
set_option linter.unusedVariables false
open Go.RowKit

theorem memT_app {ts : List TugT} {pl : List Int} (hm : ∀ x ∈ pl, x ∈ ts.map (·.1)) (k : Nat) (hk : k < ts.length) : ∀ x ∈ pl ++ [ts[k].1], x ∈ ts.map (·.1) := fun x hx => by
  rw [List.mem_append, List.mem_singleton] at hx
  rcases hx with h | h
  · exact hm x h
  · rw [h]; exact List.mem_map.2 ⟨ts[k], List.getElem_mem hk, rfl⟩
theorem memT_tix {ts : List TugT} {pl : List Int} (hm : ∀ x ∈ pl, x ∈ ts.map (·.1)) : ∀ k (hk : k < pl.length), 0 ≤ tix ts pl[k] := fun k hk => by
  have h := hm _ (List.getElem_mem hk)
  rw [List.mem_map] at h
  obtain ⟨t, ht, e⟩ := h
  unfold tix
  rw [idxF_any]
  rw [List.any_eq_true]
  exact ⟨t, ht, by simp [idIs, e]⟩
theorem memT_bd {ts : List TugT} {pl : List Int} (ht : vB tugOk tugLt 4 ts = true) (hm : ∀ x ∈ pl, x ∈ ts.map (·.1)) : ∀ k (hk : k < pl.length), 0 ≤ pl[k] ∧ pl[k] ≤ 99 := fun k hk => by
  obtain ⟨q, hq, _, e⟩ := tix_hit (memT_tix hm k hk)
  have := tugOk_bd (vB_at ht q hq)
  omega
set_option maxRecDepth 100000 in
set_option maxHeartbeats 8000000 in
theorem c_spec_l17BestS (A : Option Addr) (ts : List TugT) (capt : Nat) (B : Option Addr) (js : List JobT) (capj : Nat) (ht4 : vB tugOk tugLt 4 ts = true) (hj5 : vB jobOk jobLt 5 js = true) (d : Nat)
    (ih : ∀ (g : Nat) (pl : List Int) (capp G : Nat) (w : World) (hx : Rds cTug 3 w A ts) (hn : ts.length ≤ 9223372036854775807) (hy : Rds cJob 5 w B js) (hm : js.length ≤ 9223372036854775807) (hg : FreshA cIn 1 3 G w (some ⟨g, 0, none⟩) capp pl) (hG : G ≤ w.heap.size) (hpl : pl.length + d = js.length) (hmt : ∀ x ∈ pl, x ∈ ts.map (·.1)),
      Calls Try.prog 63 #[.slice A ts.length capt, .slice B js.length capj, .slice (some ⟨g, 0, none⟩) pl.length capp] w fun e w' => ∃ A' cap', e = .returned (.tuple #[.slice A' (bst2 ts js d pl).1.length cap', .int .i64 (bst2 ts js d pl).2]) ∧ FreshA cIn 1 3 G w' A' cap' (bst2 ts js d pl).1 ∧ Below w.heap.size w w')
    (g : Nat) (pl : List Int) (capp G : Nat) (w : World) (hx : Rds cTug 3 w A ts) (hn : ts.length ≤ 9223372036854775807) (hy : Rds cJob 5 w B js) (hm : js.length ≤ 9223372036854775807) (hg : FreshA cIn 1 3 G w (some ⟨g, 0, none⟩) capp pl) (hG : G ≤ w.heap.size) (hpl : pl.length + (d + 1) = js.length) (hmt : ∀ x ∈ pl, x ∈ ts.map (·.1)) :
    Calls Try.prog 63 #[.slice A ts.length capt, .slice B js.length capj, .slice (some ⟨g, 0, none⟩) pl.length capp] w fun e w' => ∃ A' cap', e = .returned (.tuple #[.slice A' (bst2 ts js (d + 1) pl).1.length cap', .int .i64 (bst2 ts js (d + 1) pl).2]) ∧ FreshA cIn 1 3 G w' A' cap' (bst2 ts js (d + 1) pl).1 ∧ Below w.heap.size w w' := by
  obtain ⟨i0, hI0, hI1, hI2, hI3⟩ := info_parts info_In
  have hr := hg.rds
  have hj6 := vB_len hj5
  have ht5 := vB_len ht4
  have hnr : pl.length ≤ 4 := by omega
  have hl1 : pl.length < js.length := by omega
  have hne0 : ((pl.length : Int) == (js.length : Int)) = false := by simp; omega
  obtain ⟨bj, oj, hjA, hbj, hcj⟩ := hy pl.length js[pl.length] (List.getElem?_eq_getElem hl1)
  have hj3 := hcj 3 _ rfl
  have hgd : (js.getD pl.length j0).2.2.2.1 = js[pl.length].2.2.2.1 := by rw [List.getD_eq_getElem?_getD, List.getElem?_eq_getElem hl1]; rfl
  have HPL := hid hpl
  have HIH := hid ih
  have HO := hid hg
  have HX := hid hx
  have HY := hid hy
  have HMT := hid hmt
  have HGD := hid hgd
  have HV := hid (bst2To_all (ts := ts) (js := js) d pl)
  clear hg hpl ih hx hy hmt hgd hcj
  subst hjA
  generalize js[pl.length].2.2.2.1 = pw at *
  go_enter Try.func63, Try.ntmps63
  go_wp2_with (fail)
  go_loopw [8, 9, 10] (fun b s i wr => ∃ (k : Nat) (A' : Option Addr) (cp : Nat), k ≤ ts.length ∧ i = .int .i64 k ∧ b = .slice A' (bst2To ts js d pl k).1.length cp ∧ s = .int .i64 (bst2To ts js d pl k).2 ∧ FreshA cIn 1 3 G wr A' cp (bst2To ts js d pl k).1 ∧ Below w.heap.size w wr) (fun _ _ i _ => ts.length - (intOf i).toNat)
  case atStart => exact ⟨0, _, _, Nat.zero_le _, rfl, rfl, rfl, FreshA.new (by first | omega | (simp; omega) | (simp at *; omega)), by (repeat' (first | exact Below.refl _ _ | assumption | refine Below.setCell ?_ ?_ _ | refine Below.drew ?_ | refine Below.alloc ?_ ?_ _ | refine Below.trans ?_ (Below.mono (by assumption) ?_) | (simp; done) | (simp; omega) | omega))⟩
  case round =>
    obtain ⟨k, A', cp, hk, rfl, rfl, rfl, hF, hbr⟩ := hrel
    have hz := hbr.size
    by_cases hlt : k < ts.length
    rotate_left
    · obtain rfl : k = ts.length := by omega
      go_wp2_with (fail)
      go_ret2
      exact ⟨A', cp, by rw [HV.out]; rfl, by rw [← HV.out]; exact hF, by (repeat' (first | exact Below.refl _ _ | assumption | refine Below.setCell ?_ ?_ _ | refine Below.drew ?_ | refine Below.alloc ?_ ?_ _ | refine Below.trans ?_ (Below.mono (by assumption) ?_) | (simp; done) | (simp; omega) | omega))⟩
    obtain ⟨bt, ot, htA, hbt, hct⟩ := HX.out k ts[k] (List.getElem?_eq_getElem hlt)
    have ht0 := hct 0 _ rfl
    have ht2 := hct 2 _ rfl
    simp only [Nat.add_zero] at ht0
    have ht0r : wr.cell? ⟨bt, ot + k * 3, none⟩ = some (.int .i64 ts[k].1) := (hbr.cell (p := ⟨bt, _, none⟩) hbt).trans ht0
    have ht2r : wr.cell? ⟨bt, ot + k * 3 + 2, none⟩ = some (.int .i64 ts[k].2.2) := (hbr.cell (p := ⟨bt, _, none⟩) hbt).trans ht2
    have hj3r : wr.cell? ⟨bj, oj + pl.length * 5 + 3, none⟩ = some (.int .i64 pw) := (hbr.cell (p := ⟨bj, _, none⟩) hbj).trans hj3
    have HF := hid hF
    have HM9 := hid (memT_app HMT.out k hlt)
    have HGO := hid (bst2To_go (ts := ts) (js := js) d pl k hlt)
    have HSK := hid (bst2To_skip (ts := ts) (js := js) d pl k hlt)
    simp only [HGD.out] at HGO HSK
    have HR : Hid (Rds cIn 1 wr (some ⟨g, 0, none⟩) pl) := hr.below hbr
    have HXr : Hid (Rds cTug 3 wr A ts) := HX.out.below hbr
    have HYr : Hid (Rds cJob 5 wr (some ⟨bj, oj, none⟩) js) := HY.out.below hbr
    have HTI : Hid (∀ w' : World, Below wr.heap.size wr w' → w'.cell? ⟨bt, ot + k * 3, none⟩ = some (.int .i64 ts[k].1)) := fun w' hbb => (hbb.cell (p := ⟨bt, _, none⟩) (by show bt < wr.heap.size; omega)).trans ht0r
    have HL9 := hid (show (pl ++ [ts[k].1]).length = pl.length + 1 by simp)
    have HP9 : Hid ((pl ++ [ts[k].1]).length + d = js.length) := by
      show _ = _
      have := HPL.out
      rw [HL9.out]
      omega
    subst htA
    clear hF hct ht0 ht2
    generalize bst2To ts js d pl k = b at *
    generalize ts[k] = t at *
    by_cases hpw : pw ≤ t.2.2
    rotate_left
    · have hpl2 : t.2.2 < pw := by omega
      have HE := hid (HSK.out hpw)
      clear hpw
      go_wp2_with (fail)
      go_region_held3 (fun w' => w'.cell? ⟨bt, ot + k * 3 + 2, none⟩ = some (.int .i64 t.2.2) ∧ w'.cell? ⟨bj, oj + pl.length * 5 + 3, none⟩ = some (.int .i64 pw)) (first | assumption | exact ⟨ht2r, hj3r⟩) (fail)
      go_wp2_with (fail)
      go_roundw
      case rel => exact ⟨k + 1, A', cp, by omega, by go_num, by rw [HE.out], by rw [HE.out], by rw [HE.out]; exact HF.out.below (by (repeat' (first | exact Below.refl _ _ | assumption | refine Below.setCell ?_ ?_ _ | refine Below.drew ?_ | refine Below.alloc ?_ ?_ _ | refine Below.trans ?_ (Below.mono (by assumption) ?_) | (simp; done) | (simp; omega) | omega))), by (repeat' (first | exact Below.refl _ _ | assumption | refine Below.setCell ?_ ?_ _ | refine Below.drew ?_ | refine Below.alloc ?_ ?_ _ | refine Below.trans ?_ (Below.mono (by assumption) ?_) | (simp; done) | (simp; omega) | omega))⟩
      case measure => simp [intOf]; omega
    have HB1 := hid (HGO.out hpw)
    go_wp2_with (fail)
    go_region_held3 (fun w' => w'.cell? ⟨bt, ot + k * 3 + 2, none⟩ = some (.int .i64 t.2.2) ∧ w'.cell? ⟨bj, oj + pl.length * 5 + 3, none⟩ = some (.int .i64 pw)) (first | assumption | exact ⟨ht2r, hj3r⟩) (fail)
    go_wp2_with (fail)
    go_region_held3 (fun w' => w'.cell? ⟨bt, ot + k * 3, none⟩ = some (.int .i64 t.1)) (first | assumption | exact ht0r | exact HTI.out _ (by (repeat' (first | exact Below.refl _ _ | assumption | refine Below.setCell ?_ ?_ _ | refine Below.drew ?_ | refine Below.alloc ?_ ?_ _ | refine Below.trans ?_ (Below.mono (by assumption) ?_) | (simp; done) | (simp; omega) | omega)))) (first | (go_at_call 70; refine (c_spec_l1Own g pl capp _ (HR.out.below (by (repeat' (first | exact Below.refl _ _ | assumption | refine Below.setCell ?_ ?_ _ | refine Below.drew ?_ | refine Below.alloc ?_ ?_ _ | refine Below.trans ?_ (Below.mono (by assumption) ?_) | (simp; done) | (simp; omega) | omega)))) (by omega)).mono ?_; rintro e w' ⟨A1, cp1, rfl, hF1, hb⟩; have HF1 := hid (FreshA.mono (B' := wr.heap.size) hF1 (by first | omega | (simp; done) | (simp; omega))); clear hF1; have hlo1 := HF1.out.lo; have hhi1 := HF1.out.hi; have hc := cellOf hb; have hf := frozOf hb; have hz := sizeOf hb; try simp at hz) | (rw [if_pos (by rfl)]; refine wp_push (.tmp 46) (.tmp 52) 43 rfl 3 i0 _ 1 8 Try.underlying43 hI0 hI1 hI2 hI3 rfl (by decide) (fun _ => rfl) one_In wr.heap.size A1 pl.length cp1 pl rfl rfl (HF1.out.below (by (repeat' (first | exact Below.refl _ _ | assumption | refine Below.setCell ?_ ?_ _ | refine Below.drew ?_ | refine Below.alloc ?_ ?_ _ | refine Below.trans ?_ (Below.mono (by assumption) ?_) | (simp; done) | (simp; omega) | omega)))) t.1 _ 1 rfl ?_ ?_ ?_ ?_ ?_; (refine news_In _ _ _ ?_ <;> simp [go_sem, ↓IntWalk.iteOmega, *]); (unfold maxLen; omega); omega; (exact (show Below wr.heap.size wr _ by (repeat' (first | exact Below.refl _ _ | assumption | refine Below.setCell ?_ ?_ _ | refine Below.drew ?_ | refine Below.alloc ?_ ?_ _ | refine Below.trans ?_ (Below.mono (by assumption) ?_) | (simp; done) | (simp; omega) | omega))).size); intro A3 cp3 w3 hF3 hg3 hat3; have hb3 := below_of_grown (B := wr.heap.size) hg3 hlo1 (by exact (show Below wr.heap.size wr _ by (repeat' (first | exact Below.refl _ _ | assumption | refine Below.setCell ?_ ?_ _ | refine Below.drew ?_ | refine Below.alloc ?_ ?_ _ | refine Below.trans ?_ (Below.mono (by assumption) ?_) | (simp; done) | (simp; omega) | omega))).size); have hs3 := hg3.size; (try simp at hs3); have hBB : Below wr.heap.size wr w3 := Below.trans (show Below wr.heap.size wr _ by (repeat' (first | exact Below.refl _ _ | assumption | refine Below.setCell ?_ ?_ _ | refine Below.drew ?_ | refine Below.alloc ?_ ?_ _ | refine Below.trans ?_ (Below.mono (by assumption) ?_) | (simp; done) | (simp; omega) | omega))) hb3; obtain ⟨g3, rfl, hgB3, hO3⟩ := hF3.row (by simp); have HF3 := hid hF3; clear hF3 hO3) | (go_at_call 63; have hq := HIH.out g3 (pl ++ [t.1]) cp3 G _ (HXr.out.below hBB) hn (HYr.out.below hBB) hm (HF3.out.mono (by omega)) (by have := hBB.size; omega) HP9.out HM9.out; rw [HL9.out] at hq; refine hq.mono ?_; clear hq; rintro e w' ⟨A9, c9, rfl, hF9, hb⟩; have HF9 := hid hF9; clear hF9; have hc := cellOf hb; have hf := frozOf hb; have hz := sizeOf hb; try simp at hz))
    all_goals
      have hq5 : Below wr.heap.size wr w' := by (repeat' (first | exact Below.refl _ _ | assumption | refine Below.setCell ?_ ?_ _ | refine Below.drew ?_ | refine Below.alloc ?_ ?_ _ | refine Below.trans ?_ (Below.mono (by assumption) ?_) | (simp; done) | (simp; omega) | omega))
      have hzz2 := hq5.size
      generalize bst2 ts js d (pl ++ [t.1]) = r at *
      by_cases hT : 0 ≤ r.2 ∧ (b.2 < 0 ∨ r.2 < b.2)
      · have HT := hid (HB1.out.trans (updI_take hT.1 hT.2))
        have h1 := hT.1
        by_cases h2 : b.2 < 0
        · clear hT
          go_wp2_with (fail)
          go_roundw
          case rel => exact ⟨k + 1, A9, c9, by omega, by go_num, by rw [HT.out], by rw [HT.out], by rw [HT.out]; exact HF9.out, by (repeat' (first | exact Below.refl _ _ | assumption | refine Below.setCell ?_ ?_ _ | refine Below.drew ?_ | refine Below.alloc ?_ ?_ _ | refine Below.trans ?_ (Below.mono (by assumption) ?_) | (simp; done) | (simp; omega) | omega))⟩
          case measure => simp [intOf]; omega
        · have h3 : r.2 < b.2 := by omega
          clear hT
          go_wp2_with (fail)
          go_roundw
          case rel => exact ⟨k + 1, A9, c9, by omega, by go_num, by rw [HT.out], by rw [HT.out], by rw [HT.out]; exact HF9.out, by (repeat' (first | exact Below.refl _ _ | assumption | refine Below.setCell ?_ ?_ _ | refine Below.drew ?_ | refine Below.alloc ?_ ?_ _ | refine Below.trans ?_ (Below.mono (by assumption) ?_) | (simp; done) | (simp; omega) | omega))⟩
          case measure => simp [intOf]; omega
      · have HT := hid (HB1.out.trans (updI_keep hT))
        by_cases h1 : 0 ≤ r.2
        · have h2 : ¬ b.2 < 0 := by omega
          have h3 : ¬ r.2 < b.2 := by omega
          clear hT
          go_wp2_with (fail)
          go_roundw
          case rel => exact ⟨k + 1, A', cp, by omega, by go_num, by rw [HT.out], by rw [HT.out], by rw [HT.out]; exact HF.out.below (by (repeat' (first | exact Below.refl _ _ | assumption | refine Below.setCell ?_ ?_ _ | refine Below.drew ?_ | refine Below.alloc ?_ ?_ _ | refine Below.trans ?_ (Below.mono (by assumption) ?_) | (simp; done) | (simp; omega) | omega))), by (repeat' (first | exact Below.refl _ _ | assumption | refine Below.setCell ?_ ?_ _ | refine Below.drew ?_ | refine Below.alloc ?_ ?_ _ | refine Below.trans ?_ (Below.mono (by assumption) ?_) | (simp; done) | (simp; omega) | omega))⟩
          case measure => simp [intOf]; omega
        · clear hT
          go_wp2_with (fail)
          go_roundw
          case rel => exact ⟨k + 1, A', cp, by omega, by go_num, by rw [HT.out], by rw [HT.out], by rw [HT.out]; exact HF.out.below (by (repeat' (first | exact Below.refl _ _ | assumption | refine Below.setCell ?_ ?_ _ | refine Below.drew ?_ | refine Below.alloc ?_ ?_ _ | refine Below.trans ?_ (Below.mono (by assumption) ?_) | (simp; done) | (simp; omega) | omega))), by (repeat' (first | exact Below.refl _ _ | assumption | refine Below.setCell ?_ ?_ _ | refine Below.drew ?_ | refine Below.alloc ?_ ?_ _ | refine Below.trans ?_ (Below.mono (by assumption) ?_) | (simp; done) | (simp; omega) | omega))⟩
          case measure => simp [intOf]; omega

set_option maxRecDepth 100000 in
set_option maxHeartbeats 4000000 in
theorem c_spec_l17Best0 (A : Option Addr) (ts : List TugT) (capt : Nat) (B : Option Addr) (js : List JobT) (capj : Nat) (ht4 : vB tugOk tugLt 4 ts = true) (hj5 : vB jobOk jobLt 5 js = true) (g : Nat) (pl : List Int) (capp G : Nat) (w : World) (hx : Rds cTug 3 w A ts) (hn : ts.length ≤ 9223372036854775807) (hy : Rds cJob 5 w B js) (hm : js.length ≤ 9223372036854775807) (hg : FreshA cIn 1 3 G w (some ⟨g, 0, none⟩) capp pl) (hG : G ≤ w.heap.size) (hpl : pl.length = js.length) (hmt : ∀ x ∈ pl, x ∈ ts.map (·.1)) :
    Calls Try.prog 63 #[.slice A ts.length capt, .slice B js.length capj, .slice (some ⟨g, 0, none⟩) pl.length capp] w fun e w' => ∃ A' cap', e = .returned (.tuple #[.slice A' (bst2 ts js 0 pl).1.length cap', .int .i64 (bst2 ts js 0 pl).2]) ∧ FreshA cIn 1 3 G w' A' cap' (bst2 ts js 0 pl).1 ∧ Below w.heap.size w w' := by
  have hr := hg.rds
  have hj6 := vB_len hj5
  have hl2 : pl.length ≤ js.length := by omega
  have hl3 : js.length ≤ pl.length := by omega
  have heq : ((pl.length : Int) == (js.length : Int)) = true := by simp; omega
  have hok := memT_tix hmt
  have HO := hid hg
  clear hg hpl hmt
  go_enter Try.func63, Try.ntmps63
  go_wp2_with (go_at_call 57; refine (c_spec_l17Waiting _ ts _ _ js _ _ pl _ _ (by first | assumption | exact Rds.below hx (by (repeat' (first | exact Below.refl _ _ | assumption | refine Below.setCell ?_ ?_ _ | refine Below.drew ?_ | refine Below.alloc ?_ ?_ _ | refine Below.trans ?_ (Below.mono (by assumption) ?_) | (simp; done) | (simp; omega) | omega)))) (by omega) (by first | assumption | exact Rds.below hy (by (repeat' (first | exact Below.refl _ _ | assumption | refine Below.setCell ?_ ?_ _ | refine Below.drew ?_ | refine Below.alloc ?_ ?_ _ | refine Below.trans ?_ (Below.mono (by assumption) ?_) | (simp; done) | (simp; omega) | omega)))) (by omega) (by first | assumption | exact Rds.below hr (by (repeat' (first | exact Below.refl _ _ | assumption | refine Below.setCell ?_ ?_ _ | refine Below.drew ?_ | refine Below.alloc ?_ ?_ _ | refine Below.trans ?_ (Below.mono (by assumption) ?_) | (simp; done) | (simp; omega) | omega)))) (by omega) ht4 hj5 hl2 hok).mono ?_; rintro e w' ⟨rfl, hb⟩; have hc := cellOf hb; have hf := frozOf hb; have hz := sizeOf hb; try simp at hz)
  go_ret2
  exact ⟨some ⟨g, 0, none⟩, capp, rfl, HO.out.below (by (repeat' (first | exact Below.refl _ _ | assumption | refine Below.setCell ?_ ?_ _ | refine Below.drew ?_ | refine Below.alloc ?_ ?_ _ | refine Below.trans ?_ (Below.mono (by assumption) ?_) | (simp; done) | (simp; omega) | omega))), by (repeat' (first | exact Below.refl _ _ | assumption | refine Below.setCell ?_ ?_ _ | refine Below.drew ?_ | refine Below.alloc ?_ ?_ _ | refine Below.trans ?_ (Below.mono (by assumption) ?_) | (simp; done) | (simp; omega) | omega))⟩
theorem c_spec_l17Best (A : Option Addr) (ts : List TugT) (capt : Nat) (B : Option Addr) (js : List JobT) (capj : Nat) (ht4 : vB tugOk tugLt 4 ts = true) (hj5 : vB jobOk jobLt 5 js = true) :
    ∀ (d g : Nat) (pl : List Int) (capp G : Nat) (w : World) (hx : Rds cTug 3 w A ts) (hn : ts.length ≤ 9223372036854775807) (hy : Rds cJob 5 w B js) (hm : js.length ≤ 9223372036854775807) (hg : FreshA cIn 1 3 G w (some ⟨g, 0, none⟩) capp pl) (hG : G ≤ w.heap.size) (hpl : pl.length + d = js.length) (hmt : ∀ x ∈ pl, x ∈ ts.map (·.1)),
      Calls Try.prog 63 #[.slice A ts.length capt, .slice B js.length capj, .slice (some ⟨g, 0, none⟩) pl.length capp] w fun e w' => ∃ A' cap', e = .returned (.tuple #[.slice A' (bst2 ts js d pl).1.length cap', .int .i64 (bst2 ts js d pl).2]) ∧ FreshA cIn 1 3 G w' A' cap' (bst2 ts js d pl).1 ∧ Below w.heap.size w w' := by
  intro d
  induction d with
  | zero => exact fun g pl capp G w hx hn hy hm hg hG hpl hmt => c_spec_l17Best0 A ts capt B js capj ht4 hj5 g pl capp G w hx hn hy hm hg hG hpl hmt
  | succ d ih => exact fun g pl capp G w hx hn hy hm hg hG hpl hmt => c_spec_l17BestS A ts capt B js capj ht4 hj5 d ih g pl capp G w hx hn hy hm hg hG hpl hmt

end Go.Proofs.Ytipipicfkjigdaa
