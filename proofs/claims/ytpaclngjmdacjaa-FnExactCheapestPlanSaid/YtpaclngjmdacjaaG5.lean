import Derived.Test.YtpaclngjmdacjaaG4
namespace Go.Proofs.Ytpaclngjmdacjaa
set_option linter.unusedSimpArgs false
set_option linter.unusedVariables false
open Go.RowKit

set_option maxRecDepth 100000 in
set_option maxHeartbeats 8000000 in
theorem c_visit0 (l h v : Int) (A : Option Addr) (fs : List Int) (capf : Nat) (B : Option Addr) (ps : List (Int × Int × Int)) (capq : Nat) (W0 : World) (hx : Rds cIn 1 W0 A fs) (hn : fs.length ≤ 9223372036854775807) (hy : Rds cPu 3 W0 B ps) (hm : ps.length ≤ 9223372036854775807) (b0 bs bl bv : Nat) (ho : W0.heap.size ≤ b0 ∧ b0 < bs ∧ bs < bl ∧ bl < bv) (hf5 : fs.length ≤ 5) (hv : 0 ≤ v ∧ v ≤ 500) (hfl : ∀ k (hk : k < fs.length), -50 ≤ fs[k] ∧ fs[k] ≤ 50) (hpu : ∀ k (hk : k < ps.length), puOk ps[k] = true) (hn2 : ps.length ≤ 2)
    (g : Nat) (pl : List Int) (capp : Nat) (s : List Int × Int) (w : World) (hS : VSt l h v A fs capf B ps capq W0 b0 bs bl bv w s) (hg : FreshA cIn 1 3 (bv + 1) w (some ⟨g, 0, none⟩) capp pl) (hpl : pl.length = fs.length) (hbt : ∀ k (hk : k < pl.length), 0 ≤ pl[k] ∧ pl[k] ≤ 3) :
    Calls Try.prog 68 #[.slice (some ⟨g, 0, none⟩) pl.length capp, .pointer (some ⟨b0, 0, none⟩), .pointer (some ⟨bv, 0, none⟩), .pointer (some ⟨bl, 0, none⟩), .pointer (some ⟨bs, 0, none⟩)] w fun e w' => e = .returned (.tuple #[]) ∧ VSt l h v A fs capf B ps capq W0 b0 bs bl bv w' (visitP l h v fs ps 0 pl s) ∧ Cut2 bs bl w w' := by
  have hr := hg.rds
  have hnr : pl.length ≤ 5 := by omega
  have hl1 : pl.length ≤ fs.length := by omega
  have hl2 : fs.length ≤ pl.length := by omega
  have hltc : ¬ ((pl.length : Int) < (fs.length : Int)) := by omega
  have hpb := payTo_bd (pl := pl) hpu hn2 pl.length (Nat.le_refl _)
  have hxw : Rds cIn 1 w A fs := hx.below hS.bel
  have hyw : Rds cPu 3 w B ps := hy.below hS.bel
  have HSS := hid hS
  have HG := hid hg
  have HX := hid hxw
  have HY := hid hyw
  have HRR := hid hr
  obtain ⟨Ab, cb, hcs, _⟩ := hS.cs
  have hq0 := hS.c0
  have hq1 := hS.c1
  have hq2 := hS.c2
  have hq3 := hS.c3
  have hq4 := hS.c4
  have hql := hS.cl
  have hqzl := hS.zl
  have hqzs := hS.zs
  have hlt := hS.lt
  have HV := hid (visitP_leaf (l := l) (h := h) (v := v) (fs := fs) pl s hpb.1)
  clear hpl hS hg hx hy hxw hyw hr
  have hb0 : b0 < w.heap.size := by omega
  have hbs : bs < w.heap.size := by omega
  have hbl : bl < w.heap.size := by omega
  have HLL := hid (fun k => levsTo_len (v := v) (fs := fs) (pl := pl) (ps := ps) k)
  by_cases hb1 : badP l h v fs ps pl = true
  · have hix := (badP_idx pl).2 hb1
    have HV2 := hid (HV.out.trans (if_neg (by simp [hb1])))
    clear hb1 HV
    go_enter Try.func68, Try.ntmps68
    go_wp2_with (first | (go_at_call 53; refine (c_impl_carriedOut _ _ _ _ fs _ _ ps _ _ pl _ _ (HX.out.below (by (repeat' (first | exact Below.refl _ _ | assumption | refine Below.setCell ?_ ?_ _ | refine Below.drew ?_ | refine Below.alloc ?_ ?_ _ | refine Below.trans ?_ (Below.mono (by assumption) ?_) | (simp; done) | (simp; omega) | omega)))) (by omega) (HY.out.below (by (repeat' (first | exact Below.refl _ _ | assumption | refine Below.setCell ?_ ?_ _ | refine Below.drew ?_ | refine Below.alloc ?_ ?_ _ | refine Below.trans ?_ (Below.mono (by assumption) ?_) | (simp; done) | (simp; omega) | omega)))) (by omega) (HRR.out.below (by (repeat' (first | exact Below.refl _ _ | assumption | refine Below.setCell ?_ ?_ _ | refine Below.drew ?_ | refine Below.alloc ?_ ?_ _ | refine Below.trans ?_ (Below.mono (by assumption) ?_) | (simp; done) | (simp; omega) | omega)))) (by omega) (by omega) hfl hpu (by omega) (by omega) hbt).mono ?_; rintro e wc ⟨A9, c9, rfl, hF9, hbc⟩; have HF9 := hid hF9; clear hF9; have hcc := cellOf hbc; have hfc := frozOf hbc; have hzc := sizeOf hbc; try simp at hzc) | (go_at_call 57; refine (c_impl_firstUnsafe _ _ _ _ _ _ _ _ _ _ (levsTo v fs pl ps pl.length) _ _ _ (HF9.out.rds.below (by (repeat' (first | exact Below.refl _ _ | assumption | refine Below.setCell ?_ ?_ _ | refine Below.drew ?_ | refine Below.alloc ?_ ?_ _ | refine Below.trans ?_ (Below.mono (by assumption) ?_) | (simp; done) | (simp; omega) | omega)))) (HLL.out _) (by rw [HLL.out]; omega)).mono ?_; rintro e w' ⟨rfl, hb⟩; have hc := cellOf hb; have hf := frozOf hb; have hz := sizeOf hb; try simp at hz))
    go_end0
    rw [HV2.out]
    exact ⟨rfl, HSS.out.below ho (by (repeat' (first | exact Below.refl _ _ | assumption | refine Below.setCell ?_ ?_ _ | refine Below.drew ?_ | refine Below.alloc ?_ ?_ _ | refine Below.trans ?_ (Below.mono (by assumption) ?_) | (simp; done) | (simp; omega) | omega))), Cut2.of (by (repeat' (first | exact Below.refl _ _ | assumption | refine Below.setCell ?_ ?_ _ | refine Below.drew ?_ | refine Below.alloc ?_ ?_ _ | refine Below.trans ?_ (Below.mono (by assumption) ?_) | (simp; done) | (simp; omega) | omega)))⟩
  have hix : ¬ 0 ≤ idxF (outL l h) (levsTo v fs pl ps pl.length) := fun e => hb1 ((badP_idx pl).1 e)
  have hix2 : idxF (outL l h) (levsTo v fs pl ps pl.length) < 0 := by omega
  have hbf : badP l h v fs ps pl = false := Bool.eq_false_iff.2 hb1
  by_cases hT : s.2 < 0 ∨ payTo pl ps pl.length < s.2
  · have HV2 := hid (HV.out.trans (if_pos ⟨hbf, hT⟩))
    have h1 := hT
    clear hb1 hbf HV hT
    by_cases h2 : s.2 < 0
    · clear h1
      go_enter Try.func68, Try.ntmps68
      go_wp2_with (first | (go_at_call 53; refine (c_impl_carriedOut _ _ _ _ fs _ _ ps _ _ pl _ _ (HX.out.below (by (repeat' (first | exact Below.refl _ _ | assumption | refine Below.setCell ?_ ?_ _ | refine Below.drew ?_ | refine Below.alloc ?_ ?_ _ | refine Below.trans ?_ (Below.mono (by assumption) ?_) | (simp; done) | (simp; omega) | omega)))) (by omega) (HY.out.below (by (repeat' (first | exact Below.refl _ _ | assumption | refine Below.setCell ?_ ?_ _ | refine Below.drew ?_ | refine Below.alloc ?_ ?_ _ | refine Below.trans ?_ (Below.mono (by assumption) ?_) | (simp; done) | (simp; omega) | omega)))) (by omega) (HRR.out.below (by (repeat' (first | exact Below.refl _ _ | assumption | refine Below.setCell ?_ ?_ _ | refine Below.drew ?_ | refine Below.alloc ?_ ?_ _ | refine Below.trans ?_ (Below.mono (by assumption) ?_) | (simp; done) | (simp; omega) | omega)))) (by omega) (by omega) hfl hpu (by omega) (by omega) hbt).mono ?_; rintro e wc ⟨A9, c9, rfl, hF9, hbc⟩; have HF9 := hid hF9; clear hF9; have hcc := cellOf hbc; have hfc := frozOf hbc; have hzc := sizeOf hbc; try simp at hzc) | (go_at_call 57; refine (c_impl_firstUnsafe _ _ _ _ _ _ _ _ _ _ (levsTo v fs pl ps pl.length) _ _ _ (HF9.out.rds.below (by (repeat' (first | exact Below.refl _ _ | assumption | refine Below.setCell ?_ ?_ _ | refine Below.drew ?_ | refine Below.alloc ?_ ?_ _ | refine Below.trans ?_ (Below.mono (by assumption) ?_) | (simp; done) | (simp; omega) | omega)))) (HLL.out _) (by rw [HLL.out]; omega)).mono ?_; rintro e w' ⟨rfl, hb⟩; have hc := cellOf hb; have hf := frozOf hb; have hz := sizeOf hb; try simp at hz))
      refine wp_named ?_
      intro W8 hW8
      have p0 : W8.cell? ⟨bs, 0, none⟩ = some (.slice Ab s.1.length cb) := by rw [hW8]; simp [go_sem, ↓IntWalk.iteOmega, *]
      have p1 : W8.cell? ⟨bl, 0, none⟩ = some (.int .i64 s.2) := by rw [hW8]; simp [go_sem, ↓IntWalk.iteOmega, *]
      have p2 : W8.frozen? ⟨bs, 0, none⟩ = false := by rw [hW8]; first | (simp [go_sem, ↓IntWalk.iteOmega, *]; done) | (simp [go_sem, ↓IntWalk.iteOmega, *]; intros; omega)
      have p3 : W8.frozen? ⟨bl, 0, none⟩ = false := by rw [hW8]; first | (simp [go_sem, ↓IntWalk.iteOmega, *]; done) | (simp [go_sem, ↓IntWalk.iteOmega, *]; intros; omega)
      have p4 : W8.cell? ⟨wc.heap.size, 1, none⟩ = some (.int .i64 (payTo pl ps pl.length)) := by rw [hW8]; simp [go_sem, ↓IntWalk.iteOmega, *]
      have p5 : bs ≠ wc.heap.size := by omega
      have p6 : bl ≠ wc.heap.size := by omega
      have p7 : bs ≠ bl := by omega
      have p8 : Below w.heap.size w W8 := by rw [hW8]; (repeat' (first | exact Below.refl _ _ | assumption | refine Below.setCell ?_ ?_ _ | refine Below.drew ?_ | refine Below.alloc ?_ ?_ _ | refine Below.trans ?_ (Below.mono (by assumption) ?_) | (simp; done) | (simp; omega) | omega))
      clear hW8 hcc hfc hzc hc hf hz hb
      go_region
      all_goals go_wp2_with (fail)
      all_goals go_end0
      all_goals rw [HV2.out]
      all_goals refine ⟨rfl, ?_, ?_⟩
      all_goals first | exact (HSS.out.below ho p8.drew).put ho (HG.out.below p8.drew) | exact ((HSS.out.below ho p8).put ho (HG.out.below p8)).drew ho | exact (Cut2.of p8.drew).put _ _ | exact ((Cut2.of p8).put _ _).drew
    · have h3 : payTo pl ps pl.length < s.2 := by omega
      clear h1
      go_enter Try.func68, Try.ntmps68
      go_wp2_with (first | (go_at_call 53; refine (c_impl_carriedOut _ _ _ _ fs _ _ ps _ _ pl _ _ (HX.out.below (by (repeat' (first | exact Below.refl _ _ | assumption | refine Below.setCell ?_ ?_ _ | refine Below.drew ?_ | refine Below.alloc ?_ ?_ _ | refine Below.trans ?_ (Below.mono (by assumption) ?_) | (simp; done) | (simp; omega) | omega)))) (by omega) (HY.out.below (by (repeat' (first | exact Below.refl _ _ | assumption | refine Below.setCell ?_ ?_ _ | refine Below.drew ?_ | refine Below.alloc ?_ ?_ _ | refine Below.trans ?_ (Below.mono (by assumption) ?_) | (simp; done) | (simp; omega) | omega)))) (by omega) (HRR.out.below (by (repeat' (first | exact Below.refl _ _ | assumption | refine Below.setCell ?_ ?_ _ | refine Below.drew ?_ | refine Below.alloc ?_ ?_ _ | refine Below.trans ?_ (Below.mono (by assumption) ?_) | (simp; done) | (simp; omega) | omega)))) (by omega) (by omega) hfl hpu (by omega) (by omega) hbt).mono ?_; rintro e wc ⟨A9, c9, rfl, hF9, hbc⟩; have HF9 := hid hF9; clear hF9; have hcc := cellOf hbc; have hfc := frozOf hbc; have hzc := sizeOf hbc; try simp at hzc) | (go_at_call 57; refine (c_impl_firstUnsafe _ _ _ _ _ _ _ _ _ _ (levsTo v fs pl ps pl.length) _ _ _ (HF9.out.rds.below (by (repeat' (first | exact Below.refl _ _ | assumption | refine Below.setCell ?_ ?_ _ | refine Below.drew ?_ | refine Below.alloc ?_ ?_ _ | refine Below.trans ?_ (Below.mono (by assumption) ?_) | (simp; done) | (simp; omega) | omega)))) (HLL.out _) (by rw [HLL.out]; omega)).mono ?_; rintro e w' ⟨rfl, hb⟩; have hc := cellOf hb; have hf := frozOf hb; have hz := sizeOf hb; try simp at hz))
      refine wp_named ?_
      intro W8 hW8
      have p0 : W8.cell? ⟨bs, 0, none⟩ = some (.slice Ab s.1.length cb) := by rw [hW8]; simp [go_sem, ↓IntWalk.iteOmega, *]
      have p1 : W8.cell? ⟨bl, 0, none⟩ = some (.int .i64 s.2) := by rw [hW8]; simp [go_sem, ↓IntWalk.iteOmega, *]
      have p2 : W8.frozen? ⟨bs, 0, none⟩ = false := by rw [hW8]; first | (simp [go_sem, ↓IntWalk.iteOmega, *]; done) | (simp [go_sem, ↓IntWalk.iteOmega, *]; intros; omega)
      have p3 : W8.frozen? ⟨bl, 0, none⟩ = false := by rw [hW8]; first | (simp [go_sem, ↓IntWalk.iteOmega, *]; done) | (simp [go_sem, ↓IntWalk.iteOmega, *]; intros; omega)
      have p4 : W8.cell? ⟨wc.heap.size, 1, none⟩ = some (.int .i64 (payTo pl ps pl.length)) := by rw [hW8]; simp [go_sem, ↓IntWalk.iteOmega, *]
      have p5 : bs ≠ wc.heap.size := by omega
      have p6 : bl ≠ wc.heap.size := by omega
      have p7 : bs ≠ bl := by omega
      have p8 : Below w.heap.size w W8 := by rw [hW8]; (repeat' (first | exact Below.refl _ _ | assumption | refine Below.setCell ?_ ?_ _ | refine Below.drew ?_ | refine Below.alloc ?_ ?_ _ | refine Below.trans ?_ (Below.mono (by assumption) ?_) | (simp; done) | (simp; omega) | omega))
      clear hW8 hcc hfc hzc hc hf hz hb
      go_region
      all_goals go_wp2_with (fail)
      all_goals go_end0
      all_goals rw [HV2.out]
      all_goals refine ⟨rfl, ?_, ?_⟩
      all_goals first | exact (HSS.out.below ho p8.drew).put ho (HG.out.below p8.drew) | exact ((HSS.out.below ho p8).put ho (HG.out.below p8)).drew ho | exact (Cut2.of p8.drew).put _ _ | exact ((Cut2.of p8).put _ _).drew
  · have HV2 := hid (HV.out.trans (if_neg (fun e => hT e.2)))
    have h2 : ¬ s.2 < 0 := by omega
    have h3 : ¬ payTo pl ps pl.length < s.2 := by omega
    clear hb1 hbf HV hT
    go_enter Try.func68, Try.ntmps68
    go_wp2_with (first | (go_at_call 53; refine (c_impl_carriedOut _ _ _ _ fs _ _ ps _ _ pl _ _ (HX.out.below (by (repeat' (first | exact Below.refl _ _ | assumption | refine Below.setCell ?_ ?_ _ | refine Below.drew ?_ | refine Below.alloc ?_ ?_ _ | refine Below.trans ?_ (Below.mono (by assumption) ?_) | (simp; done) | (simp; omega) | omega)))) (by omega) (HY.out.below (by (repeat' (first | exact Below.refl _ _ | assumption | refine Below.setCell ?_ ?_ _ | refine Below.drew ?_ | refine Below.alloc ?_ ?_ _ | refine Below.trans ?_ (Below.mono (by assumption) ?_) | (simp; done) | (simp; omega) | omega)))) (by omega) (HRR.out.below (by (repeat' (first | exact Below.refl _ _ | assumption | refine Below.setCell ?_ ?_ _ | refine Below.drew ?_ | refine Below.alloc ?_ ?_ _ | refine Below.trans ?_ (Below.mono (by assumption) ?_) | (simp; done) | (simp; omega) | omega)))) (by omega) (by omega) hfl hpu (by omega) (by omega) hbt).mono ?_; rintro e wc ⟨A9, c9, rfl, hF9, hbc⟩; have HF9 := hid hF9; clear hF9; have hcc := cellOf hbc; have hfc := frozOf hbc; have hzc := sizeOf hbc; try simp at hzc) | (go_at_call 57; refine (c_impl_firstUnsafe _ _ _ _ _ _ _ _ _ _ (levsTo v fs pl ps pl.length) _ _ _ (HF9.out.rds.below (by (repeat' (first | exact Below.refl _ _ | assumption | refine Below.setCell ?_ ?_ _ | refine Below.drew ?_ | refine Below.alloc ?_ ?_ _ | refine Below.trans ?_ (Below.mono (by assumption) ?_) | (simp; done) | (simp; omega) | omega)))) (HLL.out _) (by rw [HLL.out]; omega)).mono ?_; rintro e w' ⟨rfl, hb⟩; have hc := cellOf hb; have hf := frozOf hb; have hz := sizeOf hb; try simp at hz))
    go_end0
    rw [HV2.out]
    exact ⟨rfl, HSS.out.below ho (by (repeat' (first | exact Below.refl _ _ | assumption | refine Below.setCell ?_ ?_ _ | refine Below.drew ?_ | refine Below.alloc ?_ ?_ _ | refine Below.trans ?_ (Below.mono (by assumption) ?_) | (simp; done) | (simp; omega) | omega))), Cut2.of (by (repeat' (first | exact Below.refl _ _ | assumption | refine Below.setCell ?_ ?_ _ | refine Below.drew ?_ | refine Below.alloc ?_ ?_ _ | refine Below.trans ?_ (Below.mono (by assumption) ?_) | (simp; done) | (simp; omega) | omega)))⟩

end Go.Proofs.Ytpaclngjmdacjaa
