import Derived.Test.YtipipicfkjigdaaB2
namespace Go.Proofs.Ytipipicfkjigdaa
set_option linter.unusedSimpArgs false
set_option linter.unusedVariables false
open Go.RowKit

set_option maxRecDepth 100000 in
set_option maxHeartbeats 8000000 in
theorem c_visit0 (A : Option Addr) (ts : List TugT) (capt : Nat) (B : Option Addr) (js : List JobT) (capj : Nat) (W0 : World) (hx : Rds cTug 3 W0 A ts) (hn : ts.length ≤ 9223372036854775807) (hy : Rds cJob 5 W0 B js) (hm : js.length ≤ 9223372036854775807) (b0 b1 bs bl bv : Nat) (ho : W0.heap.size ≤ b0 ∧ b0 < b1 ∧ b1 < bs ∧ bs < bl ∧ bl < bv) (ht4 : vB tugOk tugLt 4 ts = true) (hj5 : vB jobOk jobLt 5 js = true)
    (g : Nat) (pl : List Int) (capp : Nat) (s : List Int × Int) (w : World) (hS : VSt A ts capt B js capj W0 b0 b1 bs bl bv w s) (hg : FreshA cIn 1 3 (bv + 1) w (some ⟨g, 0, none⟩) capp pl) (hpl : pl.length = js.length) (hmt : ∀ x ∈ pl, x ∈ ts.map (·.1)) :
    Calls Try.prog 64 #[.slice (some ⟨g, 0, none⟩) pl.length capp, .pointer (some ⟨b1, 0, none⟩), .pointer (some ⟨b0, 0, none⟩), .pointer (some ⟨bv, 0, none⟩), .pointer (some ⟨bl, 0, none⟩), .pointer (some ⟨bs, 0, none⟩)] w fun e w' => e = .returned (.tuple #[]) ∧ VSt A ts capt B js capj W0 b0 b1 bs bl bv w' (vis2 ts js 0 pl s) ∧ Cut2 bs bl w w' := by
  have kf0 : ∀ (a0 a1 a2 a3 : Value) (w : World), (Instr.field 76 (.agg #[a0, a1, a2, a3]) 0).run Try.prog w = .ok a0 w := fun _ _ _ _ _ => by kernel_rfl
  have kf1 : ∀ (a0 a1 a2 a3 : Value) (w : World), (Instr.field 76 (.agg #[a0, a1, a2, a3]) 1).run Try.prog w = .ok a1 w := fun _ _ _ _ _ => by kernel_rfl
  have kf2 : ∀ (a0 a1 a2 a3 : Value) (w : World), (Instr.field 76 (.agg #[a0, a1, a2, a3]) 2).run Try.prog w = .ok a2 w := fun _ _ _ _ _ => by kernel_rfl
  have kf3 : ∀ (a0 a1 a2 a3 : Value) (w : World), (Instr.field 76 (.agg #[a0, a1, a2, a3]) 3).run Try.prog w = .ok a3 w := fun _ _ _ _ _ => by kernel_rfl
  have hr := hg.rds
  have hj6 := vB_len hj5
  have hnr : pl.length ≤ 5 := by omega
  have hl1 : pl.length ≤ js.length := by omega
  have hl2 : js.length ≤ pl.length := by omega
  have hltc : ¬ ((pl.length : Int) < (js.length : Int)) := by omega
  have hwb := memT_bd ht4 hmt
  have hpb := waitK_bd (who := pl) ht4 hj5 pl.length hnr
  have hxw : Rds cTug 3 w A ts := hx.below hS.bel
  have hyw : Rds cJob 5 w B js := hy.below hS.bel
  have HSS := hid hS
  have HG := hid hg
  have HX := hid hxw
  have HY := hid hyw
  have HRR := hid hr
  have HWE := hid (show waitK ts js pl js.length = waitK ts js pl pl.length by rw [hpl])
  obtain ⟨Ab, cb, hcs, _⟩ := hS.cs
  have hq0 := hS.c0
  have hq1 := hS.c1
  have hql := hS.cl
  have hqzl := hS.zl
  have hqzs := hS.zs
  have hlt := hS.lt
  have HV : Hid (vis2 ts js 0 pl s = updI s (pl, waitK ts js pl pl.length)) := rfl
  clear hpl hS hg hx hy hxw hyw hr hmt
  have hb0 : b0 < w.heap.size := by omega
  have hb1 : b1 < w.heap.size := by omega
  have hbs : bs < w.heap.size := by omega
  have hbl : bl < w.heap.size := by omega
  by_cases hT : s.2 < 0 ∨ waitK ts js pl pl.length < s.2
  · have HV2 := hid (HV.out.trans (updI_take hpb.1 hT))
    have h1 := hT
    clear HV hT
    by_cases h2 : s.2 < 0
    · clear h1
      generalize waitK ts js pl pl.length = wt at *
      go_enter Try.func64, Try.ntmps64
      go_wp2_with (go_at_call 59; refine (c_impl_towAll _ ts _ _ js _ _ pl _ _ (HX.out.below (by (repeat' (first | exact Below.refl _ _ | assumption | refine Below.setCell ?_ ?_ _ | refine Below.drew ?_ | refine Below.alloc ?_ ?_ _ | refine Below.trans ?_ (Below.mono (by assumption) ?_) | (simp; done) | (simp; omega) | omega)))) (by omega) (HY.out.below (by (repeat' (first | exact Below.refl _ _ | assumption | refine Below.setCell ?_ ?_ _ | refine Below.drew ?_ | refine Below.alloc ?_ ?_ _ | refine Below.trans ?_ (Below.mono (by assumption) ?_) | (simp; done) | (simp; omega) | omega)))) (by omega) (HRR.out.below (by (repeat' (first | exact Below.refl _ _ | assumption | refine Below.setCell ?_ ?_ _ | refine Below.drew ?_ | refine Below.alloc ?_ ?_ _ | refine Below.trans ?_ (Below.mono (by assumption) ?_) | (simp; done) | (simp; omega) | omega)))) (by omega) ht4 hj5 hl2 hwb).mono ?_; rintro e w' ⟨A9, c9, m1, m2, rfl, hF9, hM1, hM2, hb⟩; clear hF9 hM1 hM2; rw [HWE.out]; have hc := cellOf hb; have hf := frozOf hb; have hz := sizeOf hb; try simp at hz)
      go_end0
      rw [HV2.out]
      have hbw : Below w.heap.size w w' := by (repeat' (first | exact Below.refl _ _ | assumption | refine Below.setCell ?_ ?_ _ | refine Below.drew ?_ | refine Below.alloc ?_ ?_ _ | refine Below.trans ?_ (Below.mono (by assumption) ?_) | (simp; done) | (simp; omega) | omega))
      exact ⟨rfl, (HSS.out.below ho hbw).put ho (HG.out.below hbw), (Cut2.of hbw).put _ _⟩
    · have h3 : waitK ts js pl pl.length < s.2 := by omega
      clear h1
      generalize waitK ts js pl pl.length = wt at *
      go_enter Try.func64, Try.ntmps64
      go_wp2_with (go_at_call 59; refine (c_impl_towAll _ ts _ _ js _ _ pl _ _ (HX.out.below (by (repeat' (first | exact Below.refl _ _ | assumption | refine Below.setCell ?_ ?_ _ | refine Below.drew ?_ | refine Below.alloc ?_ ?_ _ | refine Below.trans ?_ (Below.mono (by assumption) ?_) | (simp; done) | (simp; omega) | omega)))) (by omega) (HY.out.below (by (repeat' (first | exact Below.refl _ _ | assumption | refine Below.setCell ?_ ?_ _ | refine Below.drew ?_ | refine Below.alloc ?_ ?_ _ | refine Below.trans ?_ (Below.mono (by assumption) ?_) | (simp; done) | (simp; omega) | omega)))) (by omega) (HRR.out.below (by (repeat' (first | exact Below.refl _ _ | assumption | refine Below.setCell ?_ ?_ _ | refine Below.drew ?_ | refine Below.alloc ?_ ?_ _ | refine Below.trans ?_ (Below.mono (by assumption) ?_) | (simp; done) | (simp; omega) | omega)))) (by omega) ht4 hj5 hl2 hwb).mono ?_; rintro e w' ⟨A9, c9, m1, m2, rfl, hF9, hM1, hM2, hb⟩; clear hF9 hM1 hM2; rw [HWE.out]; have hc := cellOf hb; have hf := frozOf hb; have hz := sizeOf hb; try simp at hz)
      go_end0
      rw [HV2.out]
      have hbw : Below w.heap.size w w' := by (repeat' (first | exact Below.refl _ _ | assumption | refine Below.setCell ?_ ?_ _ | refine Below.drew ?_ | refine Below.alloc ?_ ?_ _ | refine Below.trans ?_ (Below.mono (by assumption) ?_) | (simp; done) | (simp; omega) | omega))
      exact ⟨rfl, (HSS.out.below ho hbw).put ho (HG.out.below hbw), (Cut2.of hbw).put _ _⟩
  · have HV2 := hid (HV.out.trans (updI_keep (fun e => hT e.2)))
    have h2 : ¬ s.2 < 0 := by omega
    have h3 : ¬ waitK ts js pl pl.length < s.2 := by omega
    clear HV hT
    generalize waitK ts js pl pl.length = wt at *
    go_enter Try.func64, Try.ntmps64
    go_wp2_with (go_at_call 59; refine (c_impl_towAll _ ts _ _ js _ _ pl _ _ (HX.out.below (by (repeat' (first | exact Below.refl _ _ | assumption | refine Below.setCell ?_ ?_ _ | refine Below.drew ?_ | refine Below.alloc ?_ ?_ _ | refine Below.trans ?_ (Below.mono (by assumption) ?_) | (simp; done) | (simp; omega) | omega)))) (by omega) (HY.out.below (by (repeat' (first | exact Below.refl _ _ | assumption | refine Below.setCell ?_ ?_ _ | refine Below.drew ?_ | refine Below.alloc ?_ ?_ _ | refine Below.trans ?_ (Below.mono (by assumption) ?_) | (simp; done) | (simp; omega) | omega)))) (by omega) (HRR.out.below (by (repeat' (first | exact Below.refl _ _ | assumption | refine Below.setCell ?_ ?_ _ | refine Below.drew ?_ | refine Below.alloc ?_ ?_ _ | refine Below.trans ?_ (Below.mono (by assumption) ?_) | (simp; done) | (simp; omega) | omega)))) (by omega) ht4 hj5 hl2 hwb).mono ?_; rintro e w' ⟨A9, c9, m1, m2, rfl, hF9, hM1, hM2, hb⟩; clear hF9 hM1 hM2; rw [HWE.out]; have hc := cellOf hb; have hf := frozOf hb; have hz := sizeOf hb; try simp at hz)
    go_end0
    rw [HV2.out]
    exact ⟨rfl, HSS.out.below ho (by (repeat' (first | exact Below.refl _ _ | assumption | refine Below.setCell ?_ ?_ _ | refine Below.drew ?_ | refine Below.alloc ?_ ?_ _ | refine Below.trans ?_ (Below.mono (by assumption) ?_) | (simp; done) | (simp; omega) | omega))), Cut2.of (by (repeat' (first | exact Below.refl _ _ | assumption | refine Below.setCell ?_ ?_ _ | refine Below.drew ?_ | refine Below.alloc ?_ ?_ _ | refine Below.trans ?_ (Below.mono (by assumption) ?_) | (simp; done) | (simp; omega) | omega)))⟩

end Go.Proofs.Ytipipicfkjigdaa
