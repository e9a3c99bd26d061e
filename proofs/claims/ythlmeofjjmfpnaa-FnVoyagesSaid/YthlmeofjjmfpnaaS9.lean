import Derived.Test.YthlmeofjjmfpnaaS9a
import Derived.Test.YthlmeofjjmfpnaaS8
import Derived.Test.YthlmeofjjmfpnaaT3
namespace Go.Proofs.Ythlmeofjjmfpnaa
set_option linter.unusedSimpArgs false
set_option linter.unusedVariables false
open Go.RowKit

theorem news_Iv (w : World) (g : Nat) (x : (Int × Int)) (h0 : w.cell? ⟨g, 0, none⟩ = some (.int .i64 (x.1))) (h1 : w.cell? ⟨g, 1, none⟩ = some (.int .i64 (x.2))) : ∀ j u, (cIv x)[j]? = some u → w.cell? ⟨g, j, none⟩ = some u := by
  intro j u hu
  match j, hu with
  | 0, hu => cases hu; exact h0
  | 1, hu => cases hu; exact h1
  | j + 2, hu => simp [cIv] at hu

theorem one_Iv : ∀ x, ∀ u ∈ cIv x, u.oneCell' = true := by
  intro x u hu
  simp [cIv] at hu
  rcases hu with rfl | rfl <;> rfl

theorem info_Iv : (Try.prog.info? 25).map (fun i => (i.zero, i.size, i.bytes)) = some (some (.agg #[.int .i64 0, .int .i64 0]), 2, 16) := by kernel_rfl
set_option maxRecDepth 100000 in
set_option maxHeartbeats 4000000 in
theorem c_impl_AlongVoyage (a b : Int) (A : Option Addr) (xs : List (Int × Int)) (cap : Nat) (w : World) (hx : Rds cLeg 2 w A xs) (hn : xs.length ≤ 2000000) :
    Calls Try.prog 40 #[.agg #[.int .i64 a, .int .i64 b], .slice A xs.length cap] w fun e w' => ∃ A' cap', e = .returned (.tuple #[.slice A' (alongV a b xs).1.length cap', .bool (alongV a b xs).2]) ∧ FreshA cIv 2 25 w.heap.size w' A' cap' (alongV a b xs).1 ∧ Below w.heap.size w w' := by
  obtain ⟨i0, hI0, hI1, hI2, hI3⟩ := info_parts info_Iv
  by_cases hs0 : goodI a b = true
  rotate_left
  · have hn0 : goodI a b = false := by simpa using hs0
    have hV : alongV a b xs = ([], false) := by simp [alongV, hn0]
    simp only [hV]
    clear hs0 hV
    go_enter Try.func40, Try.ntmps40
    go_wp2_with (first | (go_at_call 17; refine (c_impl_IsInterval _ _ _ ).mono ?_; rintro e w' ⟨rfl, hb⟩; have hc := cellOf hb; have hf := frozOf hb; have hz := sizeOf hb; try simp at hz) | (go_at_call 69; refine (c_impl_isVoyage _ _ _ _ (by first | assumption | exact Rds.below hx (by (repeat' (first | exact Below.refl _ _ | assumption | refine Below.setCell ?_ ?_ _ | refine Below.drew ?_ | refine Below.alloc ?_ ?_ _ | refine Below.trans ?_ (Below.mono (by assumption) ?_) | (simp; done) | (simp; omega) | omega)))) (by omega)).mono ?_; rintro e w' ⟨rfl, hb⟩; have hc := cellOf hb; have hf := frozOf hb; have hz := sizeOf hb; try simp at hz))
    all_goals go_ret2
    all_goals exact ⟨none, 0, rfl, .inl ⟨rfl, rfl, rfl⟩, by (repeat' (first | exact Below.refl _ _ | assumption | refine Below.setCell ?_ ?_ _ | refine Below.drew ?_ | refine Below.alloc ?_ ?_ _ | refine Below.trans ?_ (Below.mono (by assumption) ?_) | (simp; done) | (simp; omega) | omega))⟩
  by_cases hs1 : voyB xs = true
  rotate_left
  · have hn1 : voyB xs = false := by simpa using hs1
    have hV : alongV a b xs = ([], false) := by simp [alongV, hn1]
    simp only [hV]
    clear hs1 hV
    go_enter Try.func40, Try.ntmps40
    go_wp2_with (first | (go_at_call 17; refine (c_impl_IsInterval _ _ _ ).mono ?_; rintro e w' ⟨rfl, hb⟩; have hc := cellOf hb; have hf := frozOf hb; have hz := sizeOf hb; try simp at hz) | (go_at_call 69; refine (c_impl_isVoyage _ _ _ _ (by first | assumption | exact Rds.below hx (by (repeat' (first | exact Below.refl _ _ | assumption | refine Below.setCell ?_ ?_ _ | refine Below.drew ?_ | refine Below.alloc ?_ ?_ _ | refine Below.trans ?_ (Below.mono (by assumption) ?_) | (simp; done) | (simp; omega) | omega)))) (by omega)).mono ?_; rintro e w' ⟨rfl, hb⟩; have hc := cellOf hb; have hf := frozOf hb; have hz := sizeOf hb; try simp at hz))
    all_goals go_ret2
    all_goals exact ⟨none, 0, rfl, .inl ⟨rfl, rfl, rfl⟩, by (repeat' (first | exact Below.refl _ _ | assumption | refine Below.setCell ?_ ?_ _ | refine Below.drew ?_ | refine Below.alloc ?_ ?_ _ | refine Below.trans ?_ (Below.mono (by assumption) ?_) | (simp; done) | (simp; omega) | omega))⟩
  have hlen := voyB_len hs1
  have hbd := goodI_bd hs0
  go_enter Try.func40, Try.ntmps40
  go_wp2_with (first | (go_at_call 17; refine (c_impl_IsInterval _ _ _ ).mono ?_; rintro e w' ⟨rfl, hb⟩; have hc := cellOf hb; have hf := frozOf hb; have hz := sizeOf hb; try simp at hz) | (go_at_call 69; refine (c_impl_isVoyage _ _ _ _ (by first | assumption | exact Rds.below hx (by (repeat' (first | exact Below.refl _ _ | assumption | refine Below.setCell ?_ ?_ _ | refine Below.drew ?_ | refine Below.alloc ?_ ?_ _ | refine Below.trans ?_ (Below.mono (by assumption) ?_) | (simp; done) | (simp; omega) | omega)))) (by omega)).mono ?_; rintro e w' ⟨rfl, hb⟩; have hc := cellOf hb; have hf := frozOf hb; have hz := sizeOf hb; try simp at hz))
  go_loopw [6, 22] (fun v i wr => ∃ (k : Nat) (A' : Option Addr) (cp : Nat), k ≤ xs.length ∧ i = .int .i64 k ∧ v = .slice A' k cp ∧ FreshA cIv 2 25 (w.heap.size + 1) wr A' cp (alongR a b xs k) ∧ (alongR a b xs k).all gI = true
      ∧ wr.cell? ⟨w.heap.size, 0, none⟩ = some (.int .i64 (alongP a b xs k).1) ∧ wr.cell? ⟨w.heap.size, 1, none⟩ = some (.int .i64 (alongP a b xs k).2) ∧ (∀ o, wr.frozen? ⟨w.heap.size, o, none⟩ = false) ∧ w.heap.size + 1 ≤ wr.heap.size ∧ Below w.heap.size w wr) (fun _ i _ => xs.length - (intOf i).toNat)
  case atStart =>
    refine ⟨0, _, _, Nat.zero_le _, rfl, rfl, .inr ⟨_, rfl, by (try simp at *); omega, #[], heap_alloc_new _ _, rfl, by simp [alongR], by unfold maxLen; omega, fun i x h => by simp [alongR] at h⟩, rfl, ?_, ?_, ?_, ?_, ?_⟩
    all_goals first | (simp [go_sem, ↓IntWalk.iteOmega, alongP_zero, *]; done) | (intro o; simp [go_sem, ↓IntWalk.iteOmega, *]; done) | (simp at *; omega) | ((repeat' (first | exact Below.refl _ _ | assumption | refine Below.setCell ?_ ?_ _ | refine Below.drew ?_ | refine Below.alloc ?_ ?_ _ | refine Below.trans ?_ (Below.mono (by assumption) ?_) | (simp; done) | (simp; omega) | omega)); done)
  case round =>
    obtain ⟨k, A', cp, hk, rfl, rfl, hF, hal, hb0, hb1, hfz, hz, hbr⟩ := hrel
    have hlo := hF.lo
    have hhi := hF.hi
    by_cases hlt : k < xs.length
    · obtain ⟨bx, ox, rfl, hbx, hcx⟩ := hx k xs[k] (List.getElem?_eq_getElem hlt)
      have h0 := hcx 0 _ rfl
      have h1 := hcx 1 _ rfl
      simp only [Nat.add_zero] at h0
      have HS := hid (alongP_step (a := a) (b := b) hs1 k hlt)
      have hgp := alongR_last (xs := xs) hs0 k hal
      have hlb := legsB_at (voyB_legs hs1) k hlt
      have HA := hid hal
      clear hx hcx hal
      generalize hxk : xs[k] = x at *
      generalize hpk : alongP a b xs k = p at *
      clear hxk hpk
      have hc := cellOf hbr
      have hb0' : far wr w.heap.size 0 = _ := hb0
      have hb1' : far wr w.heap.size 1 = _ := hb1
      have hfz' : ∀ o, farz wr w.heap.size o = false := hfz
      by_cases hg : goodI (p.1 + x.1) (p.2 + x.2) = true
      · have hA : afterI p.1 p.2 x.1 x.2 = ((p.1 + x.1, p.2 + x.2), true) := by simp [afterI, asI, hgp, hlb, hg]
        have HG := hid hg
        have HF := hid hF
        clear hg hF hgp hlb
        go_wp2_with (first | (go_at_call 27; refine (c_impl_AfterLeg _ _ _ _ _).mono ?_; rintro e w2 ⟨rfl, hb2⟩; have hc2 := cellOf hb2; have hf2 := frozOf hb2; have hs2 := sizeOf hb2; simp at hs2) | (at_builtin; refine wpList_push rfl (.tmp 34) (.tmp 36) 52 rfl 25 i0 _ 2 16 Try.underlying52 hI0 hI1 hI2 hI3 rfl (by decide) (fun _ => rfl) one_Iv (w.heap.size + 1) A' k cp (alongR a b xs k) (alongR_len _ _ _ _) rfl (HF.out.below (by (repeat' (first | exact Below.refl _ _ | assumption | refine Below.setCell ?_ ?_ _ | refine Below.drew ?_ | refine Below.alloc ?_ ?_ _ | refine Below.trans ?_ (Below.mono (by assumption) ?_) | (simp; done) | (simp; omega) | omega)))) ((p.1 + x.1, p.2 + x.2)) _ 1 rfl ?_ ?_ ?_ ?_ ?_; (refine news_Iv _ _ _ ?_ ?_ <;> simp [go_sem, ↓IntWalk.iteOmega]); (unfold maxLen; omega); omega; (simp; omega); intro A3 cp3 w3 hF3 hg3 hat3; have hc3 := cellGrown hg3 hlo hhi; have hf3 := frozGrown hg3 hlo hhi; have hs3 := hg3.size; (try simp at hs3); have hb3 := below_of_grown (B := w.heap.size) hg3 (hlo.mono (by omega)) (by simp; omega)))
        go_roundw
        case rel =>
          refine ⟨k + 1, A3, cp3, by omega, by go_num, rfl, ?_, ?_, ?_, ?_, ?_, ?_, ?_⟩
          · rw [alongR_snoc, HS.out]
            exact (hF3.set_low (p := ⟨w.heap.size, 0, none⟩) (by simp) _).set_low (p := ⟨w.heap.size, 1, none⟩) (by simp) _
          · rw [alongR_snoc, List.all_append, HA.out, HS.out]
            simp [gI, HG.out]
          all_goals first | (rw [HS.out]; simp [go_sem, ↓IntWalk.iteOmega, *]; done) | (intro o; simp [go_sem, ↓IntWalk.iteOmega, *]; done) | (intro o; simp [go_sem, ↓IntWalk.iteOmega, *]; intros; omega) | (simp; omega) | ((repeat' (first | exact Below.refl _ _ | assumption | refine Below.setCell ?_ ?_ _ | refine Below.drew ?_ | refine Below.alloc ?_ ?_ _ | refine Below.trans ?_ (Below.mono (by assumption) ?_) | (simp; done) | (simp; omega) | omega)); done)
        case measure => simp [intOf]; omega
      · have hg' : goodI (p.1 + x.1) (p.2 + x.2) = false := by simpa using hg
        have hA : afterI p.1 p.2 x.1 x.2 = ((0, 0), false) := by simp [afterI, asI, hgp, hlb, hg']
        have HV : Hid (alongV a b xs = ([], false)) := by
          show _ = _
          have := alongR_bad (a := a) (b := b) (xs := xs) hlt (by rw [HS.out]; exact hg')
          simp [alongV, this]
        clear hg hg' hF hgp hlb
        go_wp2_with (go_at_call 27; refine (c_impl_AfterLeg _ _ _ _ _).mono ?_; rintro e w2 ⟨rfl, hb2⟩; have hc2 := cellOf hb2; have hf2 := frozOf hb2; have hs2 := sizeOf hb2; simp at hs2)
        go_ret2
        simp only [HV.out]
        exact ⟨none, 0, rfl, .inl ⟨rfl, rfl, rfl⟩, by (repeat' (first | exact Below.refl _ _ | assumption | refine Below.setCell ?_ ?_ _ | refine Below.drew ?_ | refine Below.alloc ?_ ?_ _ | refine Below.trans ?_ (Below.mono (by assumption) ?_) | (simp; done) | (simp; omega) | omega))⟩
    · obtain rfl : k = xs.length := by omega
      have HV : Hid (alongV a b xs = (alongR a b xs xs.length, true)) := by
        show _ = _
        simp [alongV, hs0, hs1, hal]
      go_wp2_with (fail)
      go_ret2
      simp only [HV.out, alongR_len]
      exact ⟨_, _, rfl, hF.mono (by omega), by (repeat' (first | exact Below.refl _ _ | assumption | refine Below.setCell ?_ ?_ _ | refine Below.drew ?_ | refine Below.alloc ?_ ?_ _ | refine Below.trans ?_ (Below.mono (by assumption) ?_) | (simp; done) | (simp; omega) | omega))⟩

end Go.Proofs.Ythlmeofjjmfpnaa
