import Derived.Test.YtpaclngjmdacjaaG5
namespace Go.Proofs.Ytpaclngjmdacjaa
set_option linter.unusedSimpArgs false
set_option linter.unusedVariables false
open Go.RowKit

set_option maxRecDepth 100000 in
set_option maxHeartbeats 8000000 in
theorem c_visitS (l h v : Int) (A : Option Addr) (fs : List Int) (capf : Nat) (B : Option Addr) (ps : List (Int × Int × Int)) (capq : Nat) (W0 : World) (hx : Rds cIn 1 W0 A fs) (hn : fs.length ≤ 9223372036854775807) (hy : Rds cPu 3 W0 B ps) (hm : ps.length ≤ 9223372036854775807) (b0 bs bl bv : Nat) (ho : W0.heap.size ≤ b0 ∧ b0 < bs ∧ bs < bl ∧ bl < bv) (hf5 : fs.length ≤ 5) (hn2 : ps.length ≤ 2) (d : Nat)
    (ih : ∀ (g : Nat) (pl : List Int) (capp : Nat) (s : List Int × Int) (w : World) (hS : VSt l h v A fs capf B ps capq W0 b0 bs bl bv w s) (hg : FreshA cIn 1 3 (bv + 1) w (some ⟨g, 0, none⟩) capp pl) (hpl : pl.length + d = fs.length) (hbt : ∀ k (hk : k < pl.length), 0 ≤ pl[k] ∧ pl[k] ≤ 3),
      Calls Try.prog 68 #[.slice (some ⟨g, 0, none⟩) pl.length capp, .pointer (some ⟨b0, 0, none⟩), .pointer (some ⟨bv, 0, none⟩), .pointer (some ⟨bl, 0, none⟩), .pointer (some ⟨bs, 0, none⟩)] w fun e w' => e = .returned (.tuple #[]) ∧ VSt l h v A fs capf B ps capq W0 b0 bs bl bv w' (visitP l h v fs ps d pl s) ∧ Cut2 bs bl w w')
    (g : Nat) (pl : List Int) (capp : Nat) (s : List Int × Int) (w : World) (hS : VSt l h v A fs capf B ps capq W0 b0 bs bl bv w s) (hg : FreshA cIn 1 3 (bv + 1) w (some ⟨g, 0, none⟩) capp pl) (hpl : pl.length + (d + 1) = fs.length) (hbt : ∀ k (hk : k < pl.length), 0 ≤ pl[k] ∧ pl[k] ≤ 3) :
    Calls Try.prog 68 #[.slice (some ⟨g, 0, none⟩) pl.length capp, .pointer (some ⟨b0, 0, none⟩), .pointer (some ⟨bv, 0, none⟩), .pointer (some ⟨bl, 0, none⟩), .pointer (some ⟨bs, 0, none⟩)] w fun e w' => e = .returned (.tuple #[]) ∧ VSt l h v A fs capf B ps capq W0 b0 bs bl bv w' (visitP l h v fs ps (d + 1) pl s) ∧ Cut2 bs bl w w' := by
  obtain ⟨i0, hI0, hI1, hI2, hI3⟩ := info_parts info_In
  have hnr : pl.length ≤ 4 := by omega
  have hl1 : pl.length < fs.length := by omega
  have hltc : (pl.length : Int) < (fs.length : Int) := by omega
  have HPL := hid hpl
  have HIH := hid ih
  have HSS := hid hS
  have HG := hid hg
  have HBT := hid hbt
  have hq3 := hS.c3
  have hq4 := hS.c4
  have hlt0 := hS.lt
  have HV := hid (visitP_go (l := l) (h := h) (v := v) (fs := fs) (ps := ps) d pl s)
  have hpw := topB_shl (n := ps.length) (by omega)
  have htb := topB_bd ps.length
  have htn := topN_cast ps.length
  clear hpl ih hS hg hbt hx hy
  go_enter Try.func68, Try.ntmps68
  go_wp2_with (fail)
  go_loopw [18] (fun i wr => ∃ k : Nat, k ≤ topN ps.length ∧ i = .int .i64 k ∧ VSt l h v A fs capf B ps capq W0 b0 bs bl bv wr (visitTo l h v fs ps d pl s k) ∧ Cut2 bs bl w wr) (fun i _ => topN ps.length - (intOf i).toNat)
  case atStart => exact ⟨0, Nat.zero_le _, rfl, HSS.out.below ho (by (repeat' (first | exact Below.refl _ _ | assumption | refine Below.setCell ?_ ?_ _ | refine Below.drew ?_ | refine Below.alloc ?_ ?_ _ | refine Below.trans ?_ (Below.mono (by assumption) ?_) | (simp; done) | (simp; omega) | omega))), Cut2.of (by (repeat' (first | exact Below.refl _ _ | assumption | refine Below.setCell ?_ ?_ _ | refine Below.drew ?_ | refine Below.alloc ?_ ?_ _ | refine Below.trans ?_ (Below.mono (by assumption) ?_) | (simp; done) | (simp; omega) | omega)))⟩
  case round =>
    obtain ⟨k, hk, rfl, hS, hC⟩ := hrel
    by_cases hlt : k < topN ps.length
    rotate_left
    · obtain rfl : k = topN ps.length := by omega
      go_wp2_with (fail)
      refine bodyPost_ret (results_none rfl _ _ _) rfl ?_
      rw [HV.out]
      exact ⟨rfl, hS, hC⟩
    have hki : (k : Int) < topB ps.length + 1 := by omega
    have hk3 : k ≤ 3 := by omega
    have HB1 := hid (visitTo_succ (l := l) (h := h) (v := v) (fs := fs) (ps := ps) d pl s k)
    have HS := hid hS
    have HC := hid hC
    have hzz := hC.size
    have hltr := hS.lt
    have hcvr := hS.cv
    have HKV : Hid (∀ w' : World, Below wr.heap.size wr w' → w'.cell? ⟨bv, 0, none⟩ = some (.func (.func 68) #[] #[.pointer (some ⟨b0, 0, none⟩), .pointer (some ⟨bv, 0, none⟩), .pointer (some ⟨bl, 0, none⟩), .pointer (some ⟨bs, 0, none⟩)])) := fun w' hbb => (hbb.cell (p := ⟨bv, 0, none⟩) hltr).trans hcvr
    have HR := hid ((HG.out.cut hC (by omega) (by omega)).rds)
    have HL9 := hid (show (pl ++ [(k : Int)]).length = pl.length + 1 by simp)
    have HP9 : Hid ((pl ++ [(k : Int)]).length + d = fs.length) := by
      show _ = _
      have := HPL.out
      rw [HL9.out]
      omega
    have HBT9 : Hid (∀ q (hq : q < (pl ++ [(k : Int)]).length), 0 ≤ (pl ++ [(k : Int)])[q] ∧ (pl ++ [(k : Int)])[q] ≤ 3) := fun q hq => by
      rw [List.getElem_append]
      split
      · exact HBT.out q _
      · simp
        omega
    clear hS hC hcvr hq3 hq4
    generalize visitTo l h v fs ps d pl s k = s1 at *
    go_wp2_with (fail)
    go_region_held3 (fun w' => w'.cell? ⟨bv, 0, none⟩ = some (.func (.func 68) #[] #[.pointer (some ⟨b0, 0, none⟩), .pointer (some ⟨bv, 0, none⟩), .pointer (some ⟨bl, 0, none⟩), .pointer (some ⟨bs, 0, none⟩)])) (first | assumption | exact HS9.out.cv | exact HKV.out _ (by (repeat' (first | exact Below.refl _ _ | assumption | refine Below.setCell ?_ ?_ _ | refine Below.drew ?_ | refine Below.alloc ?_ ?_ _ | refine Below.trans ?_ (Below.mono (by assumption) ?_) | (simp; done) | (simp; omega) | omega)))) (first | (go_at_call 62; refine (c_impl_copyInts g pl capp _ (HR.out.below (by (repeat' (first | exact Below.refl _ _ | assumption | refine Below.setCell ?_ ?_ _ | refine Below.drew ?_ | refine Below.alloc ?_ ?_ _ | refine Below.trans ?_ (Below.mono (by assumption) ?_) | (simp; done) | (simp; omega) | omega)))) (by omega)).mono ?_; rintro e w' ⟨A1, cp1, rfl, hF1, hb⟩; have HF1 := hid (FreshA.mono (B' := wr.heap.size) hF1 (by first | omega | (simp; done) | (simp; omega))); clear hF1; have hlo1 := HF1.out.lo; have hhi1 := HF1.out.hi; have hc := cellOf hb; have hf := frozOf hb; have hz := sizeOf hb; try simp at hz) | (rw [if_pos (by rfl)]; refine wp_push (.tmp 23) (.tmp 25) 22 rfl 3 i0 _ 1 8 Try.underlying22 hI0 hI1 hI2 hI3 rfl (by decide) (fun _ => rfl) one_In wr.heap.size A1 pl.length cp1 pl rfl rfl (HF1.out.below (by (repeat' (first | exact Below.refl _ _ | assumption | refine Below.setCell ?_ ?_ _ | refine Below.drew ?_ | refine Below.alloc ?_ ?_ _ | refine Below.trans ?_ (Below.mono (by assumption) ?_) | (simp; done) | (simp; omega) | omega)))) (k : Int) _ 1 rfl ?_ ?_ ?_ ?_ ?_; (refine news_In _ _ _ ?_ <;> simp [go_sem, ↓IntWalk.iteOmega, *]); (unfold maxLen; omega); omega; (exact (show Below wr.heap.size wr _ by (repeat' (first | exact Below.refl _ _ | assumption | refine Below.setCell ?_ ?_ _ | refine Below.drew ?_ | refine Below.alloc ?_ ?_ _ | refine Below.trans ?_ (Below.mono (by assumption) ?_) | (simp; done) | (simp; omega) | omega))).size); intro A3 cp3 w3 hF3 hg3 hat3; have hb3 := below_of_grown (B := wr.heap.size) hg3 hlo1 (by exact (show Below wr.heap.size wr _ by (repeat' (first | exact Below.refl _ _ | assumption | refine Below.setCell ?_ ?_ _ | refine Below.drew ?_ | refine Below.alloc ?_ ?_ _ | refine Below.trans ?_ (Below.mono (by assumption) ?_) | (simp; done) | (simp; omega) | omega))).size); have hs3 := hg3.size; (try simp at hs3); have hBB : Below wr.heap.size wr w3 := Below.trans (show Below wr.heap.size wr _ by (repeat' (first | exact Below.refl _ _ | assumption | refine Below.setCell ?_ ?_ _ | refine Below.drew ?_ | refine Below.alloc ?_ ?_ _ | refine Below.trans ?_ (Below.mono (by assumption) ?_) | (simp; done) | (simp; omega) | omega))) hb3; obtain ⟨g3, rfl, hgB3, hO3⟩ := hF3.row (by simp); have HF3 := hid hF3; clear hF3 hO3) | (go_at_call 68; have hq := HIH.out g3 (pl ++ [(k : Int)]) cp3 s1 _ (HS.out.below ho hBB) (HF3.out.mono (by omega)) HP9.out HBT9.out; rw [HL9.out] at hq; refine hq.mono ?_; clear hq; rintro e w' ⟨rfl, hS9, hC9⟩; have HS9 := hid hS9; have HC9 := hid hC9; clear hS9 hC9))
    all_goals
      go_wp2_with (fail)
      go_roundw
      case rel => exact ⟨k + 1, by omega, by go_num, by rw [HB1.out]; exact HS9.out, HC.out.trans ((Cut2.of hBB).trans HC9.out)⟩
      case measure => simp [intOf]; omega

end Go.Proofs.Ytpaclngjmdacjaa
