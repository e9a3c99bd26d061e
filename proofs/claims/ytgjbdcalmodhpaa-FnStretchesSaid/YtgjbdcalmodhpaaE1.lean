import Derived.Test.YtgjbdcalmodhpaaE0
import Derived.Test.YtgjbdcalmodhpaaP1c
import Derived.Test.YtgjbdcalmodhpaaP2
namespace Go.Proofs.Ytgjbdcalmodhpaa
set_option linter.unusedSimpArgs false
set_option linter.unusedVariables false
open Go.RowKit

set_option maxRecDepth 100000 in
set_option maxHeartbeats 4000000 in
theorem c_impl_clashPairs (A : Option Addr) (xs : List (Int × Bool × Int × Int)) (cap : Nat) (g : Int) (w : World) (hx : Rds cPas 4 w A xs) (hn : xs.length ≤ 6) (hcap : xs.length ≤ cap) (hmax : cap ≤ 9223372036854775807) (hok : ∀ k (hk : k < xs.length), bdP xs[k]) (hg : gapB g = true) :
    Calls Try.prog 70 #[.slice A xs.length cap, .int .i64 g] w fun e w' => ∃ A' cap', e = .returned (.slice A' (pairsV xs g).length cap') ∧ FreshA cPr 2 65 w.heap.size w' A' cap' (pairsV xs g) ∧ Below w.heap.size w w' := by
  obtain ⟨i0, hI0, hI1, hI2, hI3⟩ := info_parts info_Pr
  have hgb := gapB_bd hg
  clear hg
  go_enter Try.func70, Try.ntmps70
  go_wp2_with (fail)
  go_loopw [5, 13] (fun v i wr => ∃ (k : Nat) (A' : Option Addr) (cp : Nat) (out : List (Int × Int)), k ≤ xs.length ∧ i = .int .i64 k ∧ v = .slice A' out.length cp ∧ FreshA cPr 2 65 w.heap.size wr A' cp out ∧ out = pairsTo xs g k ∧ out.length ≤ 6 * k ∧ Below w.heap.size w wr) (fun _ i _ => xs.length - (intOf i).toNat)
  case atStart =>
    exact ⟨0, _, _, [], Nat.zero_le _, rfl, rfl, FreshA.new (by omega), rfl, Nat.zero_le _, by (repeat' (first | exact Below.refl _ _ | assumption | refine Below.setCell ?_ ?_ _ | refine Below.drew ?_ | refine Below.alloc ?_ ?_ _ | refine Below.trans ?_ (Below.mono (by assumption) ?_) | (simp; done) | (simp; omega) | omega))⟩
  case round =>
    obtain ⟨k, A', cp, out, hk, rfl, rfl, hF, hout, hol, hbr⟩ := hrel
    have hc := cellOf hbr
    have hf := frozOf hbr
    have hz := sizeOf hbr
    by_cases hlt : k < xs.length
    rotate_left
    · obtain rfl : k = xs.length := by omega
      have HV : Hid (out = pairsV xs g) := hout
      clear hout
      go_wp2_with (fail)
      go_ret
      exact ⟨A', cp, by rw [← HV.out]; rfl, by rw [← HV.out]; exact hF, by (repeat' (first | exact Below.refl _ _ | assumption | refine Below.setCell ?_ ?_ _ | refine Below.drew ?_ | refine Below.alloc ?_ ?_ _ | refine Below.trans ?_ (Below.mono (by assumption) ?_) | (simp; done) | (simp; omega) | omega))⟩
    obtain ⟨bx, ox, rfl, hbx, hcx⟩ := Rds.all hx (by omega)
    have hx0 := hcx k hlt 0 _ rfl
    have hx1 := hcx k hlt 1 _ rfl
    have hx2 := hcx k hlt 2 _ rfl
    have hx3 := hcx k hlt 3 _ rfl
    simp only [Nat.add_zero] at hx0
    have HX := hid hcx
    have HS := hid (pairsTo_succ xs g k hlt)
    have hbd := hok k hlt
    unfold bdP at hbd
    have HF := hid hF
    have HO := hid hout
    clear hcx hF hout hx
    obtain ⟨a, hak⟩ : ∃ a, a = xs[k] := ⟨_, rfl⟩
    simp only [← hak] at hx0 hx1 hx2 hx3 HS hbd
    clear hak
    obtain ⟨ys, hys⟩ : ∃ ys, ys = xs.drop (k + 1) := ⟨_, rfl⟩
    have hyl : ys.length = xs.length - (k + 1) := by rw [hys]; simp
    have HYS := hid hys
    simp only [← hys] at HS
    clear hys
    by_cases hce : cap = k + 1
    · subst hce
      have hcy : ∀ m (hm : m < ys.length) j v, (cPas ys[m])[j]? = some v → w.cell? ⟨bx, ox + m * 4 + j, none⟩ = some v := fun m hm => absurd hm (by omega)
      have hoy : ∀ m (hm : m < ys.length), bdP ys[m] := by
        intro m hm
        have e : ys[m] = xs[k + 1 + m] := by simp [HYS.out]
        rw [e]
        exact hok _ (by omega)
      clear hok
      have hNe : NeB wr.heap.size A' := fun a ha => Nat.ne_of_lt (HF.out.hi a ha)
      go_wp2_with (fail)
      go_loopw [5, 23] (fun v i wv => ∃ (m : Nat) (A2 : Option Addr) (cp2 : Nat) (ou : List (Int × Int)), m ≤ ys.length ∧ i = .int .i64 m ∧ v = .slice A2 ou.length cp2 ∧ FreshA cPr 2 65 w.heap.size wv A2 cp2 ou ∧ ou = out ++ rowP a (ys.take m) g ∧ ou.length ≤ 6 * k + m ∧ NeB wr.heap.size A2
         ∧ wv.cell? ⟨wr.heap.size, 0, none⟩ = some (.int .i64 a.1) ∧ wv.cell? ⟨wr.heap.size, 1, none⟩ = some (.bool a.2.1) ∧ wv.cell? ⟨wr.heap.size, 2, none⟩ = some (.int .i64 a.2.2.1) ∧ wv.cell? ⟨wr.heap.size, 3, none⟩ = some (.int .i64 a.2.2.2) ∧ wr.heap.size + 1 ≤ wv.heap.size ∧ Below w.heap.size w wv) (fun _ i _ => ys.length - (intOf i).toNat)
      case atStart =>
        refine ⟨0, A', cp, out, Nat.zero_le _, rfl, rfl, HF.out.below (by (repeat' (first | exact Below.refl _ _ | assumption | refine Below.setCell ?_ ?_ _ | refine Below.drew ?_ | refine Below.alloc ?_ ?_ _ | refine Below.trans ?_ (Below.mono (by assumption) ?_) | (simp; done) | (simp; omega) | omega))), by simp [rowP], by omega, hNe, ?_, ?_, ?_, ?_, ?_, by (repeat' (first | exact Below.refl _ _ | assumption | refine Below.setCell ?_ ?_ _ | refine Below.drew ?_ | refine Below.alloc ?_ ?_ _ | refine Below.trans ?_ (Below.mono (by assumption) ?_) | (simp; done) | (simp; omega) | omega))⟩
        all_goals first | (simp [go_sem]; done) | (simp [go_sem, ↓IntWalk.iteOmega, *]; done)
      case round =>
        obtain ⟨m, A2, cp2, ou, hm, rfl, rfl, hF2, hou, hol2, hN2, hp0, hp1, hp2, hp3, hzz, hbv⟩ := hrel
        clear hc hf hz
        have hc := cellOf hbv
        have hf := frozOf hbv
        have hz := sizeOf hbv
        have hlo := hF2.lo
        have hhi := hF2.hi
        have hp0' : far _ _ _ = _ := hp0
        have hp1' : far _ _ _ = _ := hp1
        have hp2' : far _ _ _ = _ := hp2
        have hp3' : far _ _ _ = _ := hp3
        by_cases hmt : m < ys.length
        · exact absurd hmt (by omega)
        · obtain rfl : m = ys.length := by omega
          rw [List.take_length] at hou
          have HOU := hid hou
          clear hou
          go_wp2_with (fail)
          go_roundw
          case rel => exact ⟨k + 1, A2, cp2, ou, by omega, by go_num, rfl, hF2, by rw [HOU.out, HS.out, HO.out], by omega, by (repeat' (first | exact Below.refl _ _ | assumption | refine Below.setCell ?_ ?_ _ | refine Below.drew ?_ | refine Below.alloc ?_ ?_ _ | refine Below.trans ?_ (Below.mono (by assumption) ?_) | (simp; done) | (simp; omega) | omega))⟩
          case measure => simp [intOf]; omega
    · have hcy : ∀ m (hm : m < ys.length) j v, (cPas ys[m])[j]? = some v → w.cell? ⟨bx, ox + (k + 1) * 4 + m * 4 + j, none⟩ = some v := by
        intro m hm j v hv
        have e : ys[m] = xs[k + 1 + m] := by simp [HYS.out]
        have := HX.out (k + 1 + m) (by omega) j v (by rw [← e]; exact hv)
        rwa [show ox + (k + 1 + m) * 4 + j = ox + (k + 1) * 4 + m * 4 + j by omega] at this
      have hoy : ∀ m (hm : m < ys.length), bdP ys[m] := by
        intro m hm
        have e : ys[m] = xs[k + 1 + m] := by simp [HYS.out]
        rw [e]
        exact hok _ (by omega)
      clear hok
      have hNe : NeB wr.heap.size A' := fun a ha => Nat.ne_of_lt (HF.out.hi a ha)
      go_wp2_with (fail)
      go_loopw [5, 23] (fun v i wv => ∃ (m : Nat) (A2 : Option Addr) (cp2 : Nat) (ou : List (Int × Int)), m ≤ ys.length ∧ i = .int .i64 m ∧ v = .slice A2 ou.length cp2 ∧ FreshA cPr 2 65 w.heap.size wv A2 cp2 ou ∧ ou = out ++ rowP a (ys.take m) g ∧ ou.length ≤ 6 * k + m ∧ NeB wr.heap.size A2
         ∧ wv.cell? ⟨wr.heap.size, 0, none⟩ = some (.int .i64 a.1) ∧ wv.cell? ⟨wr.heap.size, 1, none⟩ = some (.bool a.2.1) ∧ wv.cell? ⟨wr.heap.size, 2, none⟩ = some (.int .i64 a.2.2.1) ∧ wv.cell? ⟨wr.heap.size, 3, none⟩ = some (.int .i64 a.2.2.2) ∧ wr.heap.size + 1 ≤ wv.heap.size ∧ Below w.heap.size w wv) (fun _ i _ => ys.length - (intOf i).toNat)
      case atStart =>
        refine ⟨0, A', cp, out, Nat.zero_le _, rfl, rfl, HF.out.below (by (repeat' (first | exact Below.refl _ _ | assumption | refine Below.setCell ?_ ?_ _ | refine Below.drew ?_ | refine Below.alloc ?_ ?_ _ | refine Below.trans ?_ (Below.mono (by assumption) ?_) | (simp; done) | (simp; omega) | omega))), by simp [rowP], by omega, hNe, ?_, ?_, ?_, ?_, ?_, by (repeat' (first | exact Below.refl _ _ | assumption | refine Below.setCell ?_ ?_ _ | refine Below.drew ?_ | refine Below.alloc ?_ ?_ _ | refine Below.trans ?_ (Below.mono (by assumption) ?_) | (simp; done) | (simp; omega) | omega))⟩
        all_goals first | (simp [go_sem]; done) | (simp [go_sem, ↓IntWalk.iteOmega, *]; done)
      case round =>
        obtain ⟨m, A2, cp2, ou, hm, rfl, rfl, hF2, hou, hol2, hN2, hp0, hp1, hp2, hp3, hzz, hbv⟩ := hrel
        clear hc hf hz
        have hc := cellOf hbv
        have hf := frozOf hbv
        have hz := sizeOf hbv
        have hlo := hF2.lo
        have hhi := hF2.hi
        have hp0' : far _ _ _ = _ := hp0
        have hp1' : far _ _ _ = _ := hp1
        have hp2' : far _ _ _ = _ := hp2
        have hp3' : far _ _ _ = _ := hp3
        by_cases hmt : m < ys.length
        · have hy0 := hcy m hmt 0 _ rfl
          have hy1 := hcy m hmt 1 _ rfl
          have hy2 := hcy m hmt 2 _ rfl
          have hy3 := hcy m hmt 3 _ rfl
          simp only [Nat.add_zero] at hy0
          have HR := hid (rowP_snoc a ys g m hmt)
          have hbb := hoy m hmt
          unfold bdP at hbb
          have HF2 := hid hF2
          have HN2 := hid hN2
          have HOU := hid hou
          clear hcy hoy hF2 hN2 hou
          generalize ys[m] = b at *
          by_cases hcl : clash a b g = true
          · have HR2 := hid (HR.out.trans (by rw [if_pos hcl]))
            simp only [clash] at hcl
            go_wp2_with (first | (go_at_call 57; refine (c_impl_doClash _ _ _ _ _ _ _ _ _ _ (by omega) (by omega) (by omega) (by omega)).mono ?_; rintro e w2 ⟨rfl, hb2⟩; have hc2 := cellOf hb2; have hf2 := frozOf hb2; have hz2 := sizeOf hb2; (try simp at hz2)) | (at_builtin; refine wpList_push rfl (.tmp 31) (.tmp 37) 42 rfl 65 i0 _ 2 16 Try.underlying42 hI0 hI1 hI2 hI3 rfl (by decide) (fun _ => rfl) one_Pr (w.heap.size) A2 ou.length cp2 (ou) rfl rfl (HF2.out.below (by (repeat' (first | exact Below.refl _ _ | assumption | refine Below.setCell ?_ ?_ _ | refine Below.drew ?_ | refine Below.alloc ?_ ?_ _ | refine Below.trans ?_ (Below.mono (by assumption) ?_) | (simp; done) | (simp; omega) | omega)))) ((a.1, b.1)) _ 1 rfl ?_ ?_ ?_ ?_ ?_; (refine news_Pr _ _ _ ?_ ?_ <;> simp [go_sem, ↓IntWalk.iteOmega]); (unfold maxLen; omega); omega; (simp; omega); intro A3 cp3 w3 hF3 hg3 hat3; have hc3 := fun o => HN2.out.cell hg3 (by simp; omega) o; have hf3 := fun o => HN2.out.frozen hg3 (by simp; omega) o; have hs3 := hg3.size; (try simp at hs3); have hb3 := below_of_grown (B := w.heap.size) hg3 hlo (by simp; omega)))
            go_roundw
            case rel =>
              refine ⟨m + 1, A3, cp3, ou ++ [(a.1, b.1)], by omega, by go_num, by simp, hF3, ?_, by simp; omega, HN2.out.next hat3 (by simp; omega), ?_, ?_, ?_, ?_, ?_, by (repeat' (first | exact Below.refl _ _ | assumption | refine Below.setCell ?_ ?_ _ | refine Below.drew ?_ | refine Below.alloc ?_ ?_ _ | refine Below.trans ?_ (Below.mono (by assumption) ?_) | (simp; done) | (simp; omega) | omega))⟩
              · rw [HOU.out, HR2.out, List.append_assoc]
              all_goals first | (simp [go_sem, ↓IntWalk.iteOmega, *]; done) | (simp [go_sem, ↓IntWalk.iteOmega, *]; omega) | (simp; omega) | omega
            case measure => simp [intOf]; omega
          · have hcl' : clash a b g = false := by simpa using hcl
            have HR2 := hid (HR.out.trans (by rw [if_neg hcl]))
            clear hcl
            simp only [clash] at hcl'
            go_wp2_with (go_at_call 57; refine (c_impl_doClash _ _ _ _ _ _ _ _ _ _ (by omega) (by omega) (by omega) (by omega)).mono ?_; rintro e w2 ⟨rfl, hb2⟩; have hc2 := cellOf hb2; have hf2 := frozOf hb2; have hz2 := sizeOf hb2; (try simp at hz2))
            go_roundw
            case rel =>
              refine ⟨m + 1, A2, cp2, ou, by omega, by go_num, rfl, HF2.out.below (by (repeat' (first | exact Below.refl _ _ | assumption | refine Below.setCell ?_ ?_ _ | refine Below.drew ?_ | refine Below.alloc ?_ ?_ _ | refine Below.trans ?_ (Below.mono (by assumption) ?_) | (simp; done) | (simp; omega) | omega))), ?_, by omega, HN2.out, ?_, ?_, ?_, ?_, ?_, by (repeat' (first | exact Below.refl _ _ | assumption | refine Below.setCell ?_ ?_ _ | refine Below.drew ?_ | refine Below.alloc ?_ ?_ _ | refine Below.trans ?_ (Below.mono (by assumption) ?_) | (simp; done) | (simp; omega) | omega))⟩
              · rw [HOU.out, HR2.out, List.append_nil]
              all_goals first | (simp [go_sem, ↓IntWalk.iteOmega, *]; done) | (simp [go_sem, ↓IntWalk.iteOmega, *]; omega) | (simp; omega) | omega
            case measure => simp [intOf]; omega
        · obtain rfl : m = ys.length := by omega
          rw [List.take_length] at hou
          have HOU := hid hou
          clear hou
          go_wp2_with (fail)
          go_roundw
          case rel => exact ⟨k + 1, A2, cp2, ou, by omega, by go_num, rfl, hF2, by rw [HOU.out, HS.out, HO.out], by omega, by (repeat' (first | exact Below.refl _ _ | assumption | refine Below.setCell ?_ ?_ _ | refine Below.drew ?_ | refine Below.alloc ?_ ?_ _ | refine Below.trans ?_ (Below.mono (by assumption) ?_) | (simp; done) | (simp; omega) | omega))⟩
          case measure => simp [intOf]; omega

end Go.Proofs.Ytgjbdcalmodhpaa
