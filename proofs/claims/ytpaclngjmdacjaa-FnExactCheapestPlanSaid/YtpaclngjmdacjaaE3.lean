import Derived.Test.YtpaclngjmdacjaaE0
import Derived.Test.YtpaclngjmdacjaaC1
namespace Go.Proofs.Ytpaclngjmdacjaa
set_option linter.unusedSimpArgs false
set_option linter.unusedVariables false
open Go.RowKit

set_option maxRecDepth 100000 in
set_option maxHeartbeats 16000000 in
theorem c_impl_carriedOut (l h v : Int) (A : Option Addr) (fs : List Int) (capf : Nat) (B : Option Addr) (ps : List (Int × Int × Int)) (capq : Nat) (C : Option Addr) (pl : List Int) (capp : Nat) (w : World) (hx : Rds cIn 1 w A fs) (hn : fs.length ≤ 9223372036854775807) (hy : Rds cPu 3 w B ps) (hm : ps.length ≤ 9223372036854775807) (hr : Rds cIn 1 w C pl) (hnr : pl.length ≤ 5) (hv : 0 ≤ v ∧ v ≤ 500) (hfl : ∀ k (hk : k < fs.length), -50 ≤ fs[k] ∧ fs[k] ≤ 50) (hpu : ∀ k (hk : k < ps.length), puOk ps[k] = true) (hn2 : ps.length ≤ 2) (hl1 : pl.length ≤ fs.length) (hbt : ∀ k (hk : k < pl.length), 0 ≤ pl[k] ∧ pl[k] ≤ 3) :
    Calls Try.prog 53 #[.agg #[.int .i64 l, .int .i64 h, .int .i64 v, .slice A fs.length capf, .slice B ps.length capq], .slice C pl.length capp] w fun e w' => ∃ A' cap', e = .returned (.agg #[.slice A' pl.length cap', .int .i64 (payTo pl ps pl.length), .int .i64 (startsTo pl ps pl.length), .int .i64 (pumpTo pl ps pl.length)]) ∧ FreshA cIn 1 3 w.heap.size w' A' cap' (levsTo v fs pl ps pl.length) ∧ Below w.heap.size w w' := by
  obtain ⟨i0, hI0, hI1, hI2, hI3⟩ := info_parts info_In
  go_enter Try.func53, Try.ntmps53
  go_wp2_with (fail)
  go_region
  all_goals go_wp2_with (fail)
  · go_loopw [6, 7, 18] (fun lev bef i wr => ∃ (k : Nat) (A' : Option Addr) (cp : Nat), k ≤ pl.length ∧ i = .int .i64 k ∧ w.heap.size + 4 ≤ wr.heap.size ∧ lev = .int .i64 (levTo v fs pl ps k) ∧ bef = .int .i64 (befB pl k)
      ∧ FreshA cIn 1 3 (w.heap.size + 2) wr A' cp (levsTo v fs pl ps k) ∧ NeB (w.heap.size + 3) A'
      ∧ wr.cell? ⟨w.heap.size + 3, 0, none⟩ = some (.slice A' k cp) ∧ wr.cell? ⟨w.heap.size + 3, 1, none⟩ = some (.int .i64 (payTo pl ps k)) ∧ wr.cell? ⟨w.heap.size + 3, 2, none⟩ = some (.int .i64 (startsTo pl ps k)) ∧ wr.cell? ⟨w.heap.size + 3, 3, none⟩ = some (.int .i64 (pumpTo pl ps k)) ∧ (∀ o, wr.frozen? ⟨w.heap.size + 3, o, none⟩ = false)
      ∧ wr.cell? ⟨w.heap.size, 0, none⟩ = some (.int .i64 l) ∧ wr.cell? ⟨w.heap.size, 1, none⟩ = some (.int .i64 h) ∧ wr.cell? ⟨w.heap.size, 2, none⟩ = some (.int .i64 v) ∧ wr.cell? ⟨w.heap.size, 3, none⟩ = some (.slice A fs.length capf) ∧ wr.cell? ⟨w.heap.size, 4, none⟩ = some (.slice B ps.length capq) ∧ w.heap.size + 1 ≤ wr.heap.size ∧ (∀ o, wr.frozen? ⟨w.heap.size + 1, o, none⟩ = false) ∧ (∃ z0 z1 z2 z3, wr.cell? ⟨w.heap.size + 1, 0, none⟩ = some z0 ∧ wr.cell? ⟨w.heap.size + 1, 1, none⟩ = some z1 ∧ wr.cell? ⟨w.heap.size + 1, 2, none⟩ = some z2 ∧ wr.cell? ⟨w.heap.size + 1, 3, none⟩ = some z3) ∧ Below w.heap.size w wr) (fun _ _ i _ => pl.length - (intOf i).toNat)
    case atStart =>
      refine ⟨0, some ⟨w.heap.size + 2, 0, none⟩, 0, Nat.zero_le _, rfl, by first | (simp; done) | (simp; omega), rfl, rfl, FreshA.mk0 ?_ (by first | omega | (simp; done) | (simp; omega)), NeB.mk0 (by first | omega | (simp; done) | (simp; omega)), ?_, ?_, ?_, ?_, ?_, ?_, ?_, ?_, ?_, ?_, ?_, ?_, ⟨.slice none 0 0, .int .i64 0, .int .i64 0, .int .i64 0, ?_, ?_, ?_, ?_⟩, by (repeat' (first | exact Below.refl _ _ | assumption | refine Below.setCell ?_ ?_ _ | refine Below.drew ?_ | refine Below.alloc ?_ ?_ _ | refine Below.trans ?_ (Below.mono (by assumption) ?_) | (simp; done) | (simp; omega) | omega))⟩
      all_goals first | (simp [go_sem, ↓IntWalk.iteOmega, payTo, startsTo, pumpTo, *]; done) | (intro o; simp [go_sem, ↓IntWalk.iteOmega, *]; done) | exact row_a _ _ _ _ _ | exact row_b _ _ _ _ _ | (simp at *; omega)
    case round =>
      obtain ⟨k, A', cp, hk, rfl, hz4, rfl, rfl, hF, hN, ho0, ho1, ho2, ho3, hof, hp0, hp1, hp2, hp3, hp4, hzz, htf, ⟨z0, z1, z2, z3, ht0, ht1, ht2, ht3⟩, hbr⟩ := hrel
      have hlo := hF.lo
      have hhi := hF.hi
      have hc := cellOf hbr
      have hf := frozOf hbr
      have hz := sizeOf hbr
      have hp0' : far _ _ _ = _ := hp0
      have hp1' : far _ _ _ = _ := hp1
      have hp2' : far _ _ _ = _ := hp2
      have hp3' : far _ _ _ = _ := hp3
      have hp4' : far _ _ _ = _ := hp4
      have ho0' : far _ _ _ = _ := ho0
      have ho1' : far _ _ _ = _ := ho1
      have ho2' : far _ _ _ = _ := ho2
      have ho3' : far _ _ _ = _ := ho3
      have ht0' : far _ _ _ = _ := ht0
      have ht1' : far _ _ _ = _ := ht1
      have ht2' : far _ _ _ = _ := ht2
      have ht3' : far _ _ _ = _ := ht3
      have hof' : ∀ o, farz _ _ o = false := hof
      have htf' : ∀ o, farz _ _ o = false := htf
      by_cases hlt : k < pl.length
      rotate_left
      · obtain rfl : k = pl.length := by omega
        go_wp2_with (fail)
        refine bodyPost_ret (v := .agg #[.slice A' pl.length cp, .int .i64 (payTo pl ps pl.length), .int .i64 (startsTo pl ps pl.length), .int .i64 (pumpTo pl ps pl.length)]) ?_ rfl ⟨A', cp, rfl, ?_, by (repeat' (first | exact Below.refl _ _ | assumption | refine Below.setCell ?_ ?_ _ | refine Below.drew ?_ | refine Below.alloc ?_ ?_ _ | refine Below.trans ?_ (Below.mono (by assumption) ?_) | (simp; done) | (simp; omega) | omega))⟩
        · simp [results, Try.results53, go_sem, ↓IntWalk.iteOmega, *]
        · refine FreshA.mono (B := w.heap.size + 2) ?_ (by omega)
          repeat' (refine FreshA.set_low ?_ (by show w.heap.size + 1 < w.heap.size + 2; omega) _)
          exact hF
      have hltf : k < fs.length := by omega
      obtain ⟨bx, ox, rfl, hbx, hcx⟩ := hr k pl[k] (List.getElem?_eq_getElem hlt)
      obtain ⟨bf, of_, rfl, hbf, hcf⟩ := hx k fs[k] (List.getElem?_eq_getElem hltf)
      have hx0 := hcx 0 _ rfl
      have hf0 := hcf 0 _ rfl
      simp only [Nat.add_zero, Nat.mul_one] at hx0 hf0
      have hxb := hbt k hlt
      have hfb := hfl k hltf
      have hbb := befB_bd hbt k hk
      have hlb := levTo_bd hv hfl hpu hn2 hl1 k hk
      have hmb := pumpTo_bd (pl := pl) hpu hn2 k hk
      have hyb := payTo_bd (pl := pl) hpu hn2 k hk
      have hsb := startsTo_bd (pl := pl) (ps := ps) hn2 k hk
      have HL1 := hid (levTo_succ (v := v) (ps := ps) k hlt hltf)
      have HM1 := hid (pumpTo_succ (ps := ps) k hlt)
      have HY1 := hid (payTo_succ (ps := ps) k hlt)
      have HS1 := hid (startsTo_succ (ps := ps) k hlt)
      have HB1 := hid (befB_succ hlt)
      have HLS := hid (levsTo_succ (v := v) (fs := fs) (pl := pl) (ps := ps) k)
      have HLL := hid (levsTo_len (v := v) (fs := fs) (pl := pl) (ps := ps) k)
      have HOB := hid (fun x => outTo_bd hpu x)
      have HCB := hid (fun b x => costTo_bd hpu b x)
      have HSB := hid (fun b x => startTo_bd (ps := ps) b x)
      have HF := hid hF
      have HN := hid hN
      have HBT := hid hbt
      have HFL := hid hfl
      clear hcx hcf hr hx hF hN hbt hfl
      obtain ⟨x, hxk⟩ : ∃ x, x = pl[k] := ⟨_, rfl⟩
      obtain ⟨f, hfk⟩ : ∃ f, f = fs[k] := ⟨_, rfl⟩
      simp only [← hxk] at hx0 hxb HL1 HM1 HY1 HS1 HB1
      simp only [← hfk] at hf0 hfb HL1
      clear hxk hfk
      generalize befB pl k = b at *
      generalize levTo v fs pl ps k = lv at *
      generalize pumpTo pl ps k = pm at *
      generalize payTo pl ps k = py at *
      generalize startsTo pl ps k = st at *
      go_wp2_with (fail)
      go_loopw [6, 33] (fun lev i wv => ∃ q : Nat, q ≤ ps.length ∧ i = .int .i64 q ∧ lev = .int .i64 (lv + f - outTo ps x q) ∧ w.heap.size + 4 ≤ wv.heap.size
        ∧ FreshA cIn 1 3 (w.heap.size + 2) wv A' cp (levsTo v fs pl ps k)
        ∧ wv.cell? ⟨w.heap.size + 3, 0, none⟩ = some (.slice A' k cp) ∧ wv.cell? ⟨w.heap.size + 3, 1, none⟩ = some (.int .i64 (py + costTo ps b x q)) ∧ wv.cell? ⟨w.heap.size + 3, 2, none⟩ = some (.int .i64 (st + startTo ps b x q)) ∧ wv.cell? ⟨w.heap.size + 3, 3, none⟩ = some (.int .i64 (pm + outTo ps x q)) ∧ (∀ o, wv.frozen? ⟨w.heap.size + 3, o, none⟩ = false)
        ∧ wv.cell? ⟨w.heap.size, 0, none⟩ = some (.int .i64 l) ∧ wv.cell? ⟨w.heap.size, 1, none⟩ = some (.int .i64 h) ∧ wv.cell? ⟨w.heap.size, 2, none⟩ = some (.int .i64 v) ∧ wv.cell? ⟨w.heap.size, 3, none⟩ = some (.slice (some ⟨bf, of_, none⟩) fs.length capf) ∧ wv.cell? ⟨w.heap.size, 4, none⟩ = some (.slice B ps.length capq) ∧ w.heap.size + 1 ≤ wv.heap.size ∧ (∀ o, wv.frozen? ⟨w.heap.size + 1, o, none⟩ = false) ∧ (∃ z0 z1 z2 z3, wv.cell? ⟨w.heap.size + 1, 0, none⟩ = some z0 ∧ wv.cell? ⟨w.heap.size + 1, 1, none⟩ = some z1 ∧ wv.cell? ⟨w.heap.size + 1, 2, none⟩ = some z2 ∧ wv.cell? ⟨w.heap.size + 1, 3, none⟩ = some z3) ∧ Below w.heap.size w wv) (fun _ i _ => ps.length - (intOf i).toNat)
      case atStart =>
        refine ⟨0, Nat.zero_le _, rfl, by simp [outTo], hz4, HF.out, ?_, ?_, ?_, ?_, ?_, ?_, ?_, ?_, ?_, ?_, ?_, ?_, ⟨z0, z1, z2, z3, ?_, ?_, ?_, ?_⟩, hbr⟩
        all_goals first | assumption | (simp [costTo, startTo, outTo, *]; done) | (simp [go_sem, ↓IntWalk.iteOmega, costTo, startTo, outTo, *]; done)
      case round =>
        obtain ⟨q, hq, rfl, rfl, hz4', hF, ho0, ho1, ho2, ho3, hof, hp0, hp1, hp2, hp3, hp4, hzz, htf, ⟨y0, y1, y2, y3, ht0, ht1, ht2, ht3⟩, hbv⟩ := hrel
        have hlo := hF.lo
        have hhi := hF.hi
        clear hc hf hz hz4 hp0' hp1' hp2' hp3' hp4' ho0' ho1' ho2' ho3' ht0' ht1' ht2' ht3' hof' htf'
        have hc := cellOf hbv
        have hf := frozOf hbv
        have hz := sizeOf hbv
        have hp0' : far _ _ _ = _ := hp0
        have hp1' : far _ _ _ = _ := hp1
        have hp2' : far _ _ _ = _ := hp2
        have hp3' : far _ _ _ = _ := hp3
        have hp4' : far _ _ _ = _ := hp4
        have ho0' : far _ _ _ = _ := ho0
        have ho1' : far _ _ _ = _ := ho1
        have ho2' : far _ _ _ = _ := ho2
        have ho3' : far _ _ _ = _ := ho3
        have ht0' : far _ _ _ = _ := ht0
        have ht1' : far _ _ _ = _ := ht1
        have ht2' : far _ _ _ = _ := ht2
        have ht3' : far _ _ _ = _ := ht3
        have hof' : ∀ o, farz _ _ o = false := hof
        have htf' : ∀ o, farz _ _ o = false := htf
        have hob := HOB.out x q hq
        have hcb := HCB.out b x q hq
        have hstb := HSB.out b x q hq
        by_cases hqp : q < ps.length
        · obtain ⟨bp, op_, rfl, hbp, hcp⟩ := hy q ps[q] (List.getElem?_eq_getElem hqp)
          have hg0 := hcp 0 _ rfl
          have hg1 := hcp 1 _ rfl
          have hg2 := hcp 2 _ rfl
          simp only [Nat.add_zero] at hg0
          have hgb := puOk_bd (hpu q hqp)
          have HO1 := hid (outTo_succ x q hqp)
          have HC1 := hid (costTo_succ b x q hqp)
          have HT1 := hid (startTo_succ b x q hqp)
          have HF2 := hid hF
          have hbx1 := bits_and hxb (q := q) (by omega)
          have hbx2 := bits_and hbb (q := q) (by omega)
          clear hcp hy hF
          generalize ps[q] = g at *
          generalize outTo ps x q = ot at *
          generalize costTo ps b x q = ct at *
          generalize startTo ps b x q = sst at *
          by_cases h1 : bitB x q = true
          rotate_left
          · rw [if_neg h1] at hbx1 HO1 HC1 HT1
            clear hbx2
            go_wp2_with (fail)
            go_roundw
            case rel =>
              refine ⟨q + 1, by omega, by go_num, by rw [HO1.out]; simp, ?_, HF2.out.below (by (repeat' (first | exact Below.refl _ _ | assumption | refine Below.setCell ?_ ?_ _ | refine Below.drew ?_ | refine Below.alloc ?_ ?_ _ | refine Below.trans ?_ (Below.mono (by assumption) ?_) | (simp; done) | (simp; omega) | omega))), ?_, ?_, ?_, ?_, ?_, ?_, ?_, ?_, ?_, ?_, ?_, ?_, ⟨y0, y1, y2, y3, ?_, ?_, ?_, ?_⟩, by (repeat' (first | exact Below.refl _ _ | assumption | refine Below.setCell ?_ ?_ _ | refine Below.drew ?_ | refine Below.alloc ?_ ?_ _ | refine Below.trans ?_ (Below.mono (by assumption) ?_) | (simp; done) | (simp; omega) | omega))⟩
              all_goals first | (simp [go_sem, ↓IntWalk.iteOmega, HO1.out, HC1.out, HT1.out, *]; done) | (simp; omega) | (intro o; simp [go_sem, ↓IntWalk.iteOmega, *]; done)
            case measure => simp [intOf]; omega
          rw [if_pos h1] at hbx1 HO1 HC1 HT1
          by_cases h2 : bitB b q = true
          · rw [if_pos h2] at hbx2 HC1 HT1
            go_wp2_with (fail)
            go_roundw
            case rel =>
              refine ⟨q + 1, by omega, by go_num, by rw [HO1.out]; exact int_eq (by omega), ?_, ?_, ?_, ?_, ?_, ?_, ?_, ?_, ?_, ?_, ?_, ?_, ?_, ?_, ⟨y0, y1, y2, y3, ?_, ?_, ?_, ?_⟩, by (repeat' (first | exact Below.refl _ _ | assumption | refine Below.setCell ?_ ?_ _ | refine Below.drew ?_ | refine Below.alloc ?_ ?_ _ | refine Below.trans ?_ (Below.mono (by assumption) ?_) | (simp; done) | (simp; omega) | omega))⟩
              rotate_left 1
              · repeat' (refine FreshA.set_ne ?_ HN.out _ _)
                exact HF2.out.below (by (repeat' (first | exact Below.refl _ _ | assumption | refine Below.setCell ?_ ?_ _ | refine Below.drew ?_ | refine Below.alloc ?_ ?_ _ | refine Below.trans ?_ (Below.mono (by assumption) ?_) | (simp; done) | (simp; omega) | omega)))
              all_goals first | (simp [go_sem, ↓IntWalk.iteOmega, HO1.out, HC1.out, HT1.out, *]; done) | (simp [go_sem, ↓IntWalk.iteOmega, HO1.out, HC1.out, HT1.out, *]; omega) | (simp; omega) | (intro o; simp [go_sem, ↓IntWalk.iteOmega, *]; done)
            case measure => simp [intOf]; omega
          · rw [if_neg h2] at hbx2 HC1 HT1
            go_wp2_with (fail)
            go_roundw
            case rel =>
              refine ⟨q + 1, by omega, by go_num, by rw [HO1.out]; exact int_eq (by omega), ?_, ?_, ?_, ?_, ?_, ?_, ?_, ?_, ?_, ?_, ?_, ?_, ?_, ?_, ⟨y0, y1, y2, y3, ?_, ?_, ?_, ?_⟩, by (repeat' (first | exact Below.refl _ _ | assumption | refine Below.setCell ?_ ?_ _ | refine Below.drew ?_ | refine Below.alloc ?_ ?_ _ | refine Below.trans ?_ (Below.mono (by assumption) ?_) | (simp; done) | (simp; omega) | omega))⟩
              rotate_left 1
              · repeat' (refine FreshA.set_ne ?_ HN.out _ _)
                exact HF2.out.below (by (repeat' (first | exact Below.refl _ _ | assumption | refine Below.setCell ?_ ?_ _ | refine Below.drew ?_ | refine Below.alloc ?_ ?_ _ | refine Below.trans ?_ (Below.mono (by assumption) ?_) | (simp; done) | (simp; omega) | omega)))
              all_goals first | (simp [go_sem, ↓IntWalk.iteOmega, HO1.out, HC1.out, HT1.out, *]; done) | (simp [go_sem, ↓IntWalk.iteOmega, HO1.out, HC1.out, HT1.out, *]; omega) | (simp; omega) | (intro o; simp [go_sem, ↓IntWalk.iteOmega, *]; done)
            case measure => simp [intOf]; omega
        · obtain rfl : q = ps.length := by omega
          have HF2 := hid hF
          have HLS2 := hid (HLS.out.trans (by rw [HL1.out]))
          clear hF hp3' hp4'
          generalize outTo ps x ps.length = ot at *
          generalize costTo ps b x ps.length = ct at *
          generalize startTo ps b x ps.length = sst at *
          have hN3 := HN.out
          have HN3 := hid hN3
          clear hN3
          go_wp2_with (at_builtin; refine wpList_push rfl (.tmp 77) (.tmp 79) 22 rfl 3 i0 _ 1 8 Try.underlying22 hI0 hI1 hI2 hI3 rfl (by decide) (fun _ => rfl) one_In ((w.heap.size + 2)) A' k cp ((levsTo v fs pl ps k)) HLL.out rfl (HF2.out.below (by (repeat' (first | exact Below.refl _ _ | assumption | refine Below.setCell ?_ ?_ _ | refine Below.drew ?_ | refine Below.alloc ?_ ?_ _ | refine Below.trans ?_ (Below.mono (by assumption) ?_) | (simp; done) | (simp; omega) | omega)))) ((lv + f - ot)) _ 1 rfl ?_ ?_ ?_ ?_ ?_; (refine news_In _ _ _ ?_ <;> simp [go_sem, ↓IntWalk.iteOmega]); (unfold maxLen; omega); omega; (simp; omega); intro A3 cp3 w3 hF3 hg3 hat3; have hc3 := fun o => HN3.out.cell hg3 (by first | (simp; done) | (simp; omega)) o; have hf3 := fun o => HN3.out.frozen hg3 (by first | (simp; done) | (simp; omega)) o; have hbb3 := below_of_grown (B := w.heap.size + 2) hg3 hlo (by first | (simp; done) | (simp; omega)); have hc4 : ∀ o, w3.cell? ⟨w.heap.size, o, none⟩ = _ := fun o => hbb3.cell (p := ⟨w.heap.size, o, none⟩) (by show w.heap.size < w.heap.size + 2; omega); have hc5 : ∀ o, w3.cell? ⟨w.heap.size + 1, o, none⟩ = _ := fun o => hbb3.cell (p := ⟨w.heap.size + 1, o, none⟩) (by show w.heap.size + 1 < w.heap.size + 2; omega); have hf5 : ∀ o, w3.frozen? ⟨w.heap.size + 1, o, none⟩ = _ := fun o => hbb3.frozen (p := ⟨w.heap.size + 1, o, none⟩) (by show w.heap.size + 1 < w.heap.size + 2; omega); have hs3 := hg3.size; (try simp at hs3); have hb3 := below_of_grown (B := w.heap.size) hg3 (hlo.mono (by omega)) (by simp; omega))
          go_roundw
          case rel =>
            refine ⟨k + 1, A3, cp3, by omega, by go_num, ?_, by rw [HL1.out], by rw [HB1.out], ?_, HN3.out.next hat3 (by first | (simp; done) | (simp; omega)), ?_, ?_, ?_, ?_, ?_, ?_, ?_, ?_, ?_, ?_, ?_, ?_, ⟨y0, y1, y2, y3, ?_, ?_, ?_, ?_⟩, by (repeat' (first | exact Below.refl _ _ | assumption | refine Below.setCell ?_ ?_ _ | refine Below.drew ?_ | refine Below.alloc ?_ ?_ _ | refine Below.trans ?_ (Below.mono (by assumption) ?_) | (simp; done) | (simp; omega) | omega))⟩
            rotate_left 1
            · refine FreshA.set_ne ?_ (HN3.out.next hat3 (by first | (simp; done) | (simp; omega))) _ _
              rw [HLS2.out]
              exact hF3
            all_goals first | (simp [go_sem, ↓IntWalk.iteOmega, HM1.out, HY1.out, HS1.out, *]; done) | (simp [go_sem, ↓IntWalk.iteOmega, HM1.out, HY1.out, HS1.out, *]; omega) | (simp; omega) | (intro o; simp [go_sem, ↓IntWalk.iteOmega, *]; done)
          case measure => simp [intOf]; omega
  · go_loopw [6, 7, 18] (fun lev bef i wr => ∃ (k : Nat) (A' : Option Addr) (cp : Nat), k ≤ pl.length ∧ i = .int .i64 k ∧ w.heap.size + 4 ≤ wr.heap.size ∧ lev = .int .i64 (levTo v fs pl ps k) ∧ bef = .int .i64 (befB pl k)
      ∧ FreshA cIn 1 3 (w.heap.size + 2) wr A' cp (levsTo v fs pl ps k) ∧ NeB (w.heap.size + 2) A'
      ∧ wr.cell? ⟨w.heap.size + 2, 0, none⟩ = some (.slice A' k cp) ∧ wr.cell? ⟨w.heap.size + 2, 1, none⟩ = some (.int .i64 (payTo pl ps k)) ∧ wr.cell? ⟨w.heap.size + 2, 2, none⟩ = some (.int .i64 (startsTo pl ps k)) ∧ wr.cell? ⟨w.heap.size + 2, 3, none⟩ = some (.int .i64 (pumpTo pl ps k)) ∧ (∀ o, wr.frozen? ⟨w.heap.size + 2, o, none⟩ = false)
      ∧ wr.cell? ⟨w.heap.size, 0, none⟩ = some (.int .i64 l) ∧ wr.cell? ⟨w.heap.size, 1, none⟩ = some (.int .i64 h) ∧ wr.cell? ⟨w.heap.size, 2, none⟩ = some (.int .i64 v) ∧ wr.cell? ⟨w.heap.size, 3, none⟩ = some (.slice A fs.length capf) ∧ wr.cell? ⟨w.heap.size, 4, none⟩ = some (.slice B ps.length capq) ∧ w.heap.size + 1 ≤ wr.heap.size ∧ (∀ o, wr.frozen? ⟨w.heap.size + 1, o, none⟩ = false) ∧ (∃ z0 z1 z2 z3, wr.cell? ⟨w.heap.size + 1, 0, none⟩ = some z0 ∧ wr.cell? ⟨w.heap.size + 1, 1, none⟩ = some z1 ∧ wr.cell? ⟨w.heap.size + 1, 2, none⟩ = some z2 ∧ wr.cell? ⟨w.heap.size + 1, 3, none⟩ = some z3) ∧ Below w.heap.size w wr) (fun _ _ i _ => pl.length - (intOf i).toNat)
    case atStart =>
      refine ⟨0, some ⟨w.heap.size + 3, 0, none⟩, 0, Nat.zero_le _, rfl, by first | (simp; done) | (simp; omega), rfl, rfl, FreshA.mk0 ?_ (by first | omega | (simp; done) | (simp; omega)), NeB.mk0 (by first | omega | (simp; done) | (simp; omega)), ?_, ?_, ?_, ?_, ?_, ?_, ?_, ?_, ?_, ?_, ?_, ?_, ⟨.slice none 0 0, .int .i64 0, .int .i64 0, .int .i64 0, ?_, ?_, ?_, ?_⟩, by (repeat' (first | exact Below.refl _ _ | assumption | refine Below.setCell ?_ ?_ _ | refine Below.drew ?_ | refine Below.alloc ?_ ?_ _ | refine Below.trans ?_ (Below.mono (by assumption) ?_) | (simp; done) | (simp; omega) | omega))⟩
      all_goals first | (simp [go_sem, ↓IntWalk.iteOmega, payTo, startsTo, pumpTo, *]; done) | (intro o; simp [go_sem, ↓IntWalk.iteOmega, *]; done) | exact row_a _ _ _ _ _ | exact row_b _ _ _ _ _ | (simp at *; omega)
    case round =>
      obtain ⟨k, A', cp, hk, rfl, hz4, rfl, rfl, hF, hN, ho0, ho1, ho2, ho3, hof, hp0, hp1, hp2, hp3, hp4, hzz, htf, ⟨z0, z1, z2, z3, ht0, ht1, ht2, ht3⟩, hbr⟩ := hrel
      have hlo := hF.lo
      have hhi := hF.hi
      have hc := cellOf hbr
      have hf := frozOf hbr
      have hz := sizeOf hbr
      have hp0' : far _ _ _ = _ := hp0
      have hp1' : far _ _ _ = _ := hp1
      have hp2' : far _ _ _ = _ := hp2
      have hp3' : far _ _ _ = _ := hp3
      have hp4' : far _ _ _ = _ := hp4
      have ho0' : far _ _ _ = _ := ho0
      have ho1' : far _ _ _ = _ := ho1
      have ho2' : far _ _ _ = _ := ho2
      have ho3' : far _ _ _ = _ := ho3
      have ht0' : far _ _ _ = _ := ht0
      have ht1' : far _ _ _ = _ := ht1
      have ht2' : far _ _ _ = _ := ht2
      have ht3' : far _ _ _ = _ := ht3
      have hof' : ∀ o, farz _ _ o = false := hof
      have htf' : ∀ o, farz _ _ o = false := htf
      by_cases hlt : k < pl.length
      rotate_left
      · obtain rfl : k = pl.length := by omega
        go_wp2_with (fail)
        refine bodyPost_ret (v := .agg #[.slice A' pl.length cp, .int .i64 (payTo pl ps pl.length), .int .i64 (startsTo pl ps pl.length), .int .i64 (pumpTo pl ps pl.length)]) ?_ rfl ⟨A', cp, rfl, ?_, by (repeat' (first | exact Below.refl _ _ | assumption | refine Below.setCell ?_ ?_ _ | refine Below.drew ?_ | refine Below.alloc ?_ ?_ _ | refine Below.trans ?_ (Below.mono (by assumption) ?_) | (simp; done) | (simp; omega) | omega))⟩
        · simp [results, Try.results53, go_sem, ↓IntWalk.iteOmega, *]
        · refine FreshA.mono (B := w.heap.size + 2) ?_ (by omega)
          repeat' (refine FreshA.set_low ?_ (by show w.heap.size + 1 < w.heap.size + 2; omega) _)
          exact hF
      have hltf : k < fs.length := by omega
      obtain ⟨bx, ox, rfl, hbx, hcx⟩ := hr k pl[k] (List.getElem?_eq_getElem hlt)
      obtain ⟨bf, of_, rfl, hbf, hcf⟩ := hx k fs[k] (List.getElem?_eq_getElem hltf)
      have hx0 := hcx 0 _ rfl
      have hf0 := hcf 0 _ rfl
      simp only [Nat.add_zero, Nat.mul_one] at hx0 hf0
      have hxb := hbt k hlt
      have hfb := hfl k hltf
      have hbb := befB_bd hbt k hk
      have hlb := levTo_bd hv hfl hpu hn2 hl1 k hk
      have hmb := pumpTo_bd (pl := pl) hpu hn2 k hk
      have hyb := payTo_bd (pl := pl) hpu hn2 k hk
      have hsb := startsTo_bd (pl := pl) (ps := ps) hn2 k hk
      have HL1 := hid (levTo_succ (v := v) (ps := ps) k hlt hltf)
      have HM1 := hid (pumpTo_succ (ps := ps) k hlt)
      have HY1 := hid (payTo_succ (ps := ps) k hlt)
      have HS1 := hid (startsTo_succ (ps := ps) k hlt)
      have HB1 := hid (befB_succ hlt)
      have HLS := hid (levsTo_succ (v := v) (fs := fs) (pl := pl) (ps := ps) k)
      have HLL := hid (levsTo_len (v := v) (fs := fs) (pl := pl) (ps := ps) k)
      have HOB := hid (fun x => outTo_bd hpu x)
      have HCB := hid (fun b x => costTo_bd hpu b x)
      have HSB := hid (fun b x => startTo_bd (ps := ps) b x)
      have HF := hid hF
      have HN := hid hN
      have HBT := hid hbt
      have HFL := hid hfl
      clear hcx hcf hr hx hF hN hbt hfl
      obtain ⟨x, hxk⟩ : ∃ x, x = pl[k] := ⟨_, rfl⟩
      obtain ⟨f, hfk⟩ : ∃ f, f = fs[k] := ⟨_, rfl⟩
      simp only [← hxk] at hx0 hxb HL1 HM1 HY1 HS1 HB1
      simp only [← hfk] at hf0 hfb HL1
      clear hxk hfk
      generalize befB pl k = b at *
      generalize levTo v fs pl ps k = lv at *
      generalize pumpTo pl ps k = pm at *
      generalize payTo pl ps k = py at *
      generalize startsTo pl ps k = st at *
      go_wp2_with (fail)
      go_loopw [6, 33] (fun lev i wv => ∃ q : Nat, q ≤ ps.length ∧ i = .int .i64 q ∧ lev = .int .i64 (lv + f - outTo ps x q) ∧ w.heap.size + 4 ≤ wv.heap.size
        ∧ FreshA cIn 1 3 (w.heap.size + 2) wv A' cp (levsTo v fs pl ps k)
        ∧ wv.cell? ⟨w.heap.size + 2, 0, none⟩ = some (.slice A' k cp) ∧ wv.cell? ⟨w.heap.size + 2, 1, none⟩ = some (.int .i64 (py + costTo ps b x q)) ∧ wv.cell? ⟨w.heap.size + 2, 2, none⟩ = some (.int .i64 (st + startTo ps b x q)) ∧ wv.cell? ⟨w.heap.size + 2, 3, none⟩ = some (.int .i64 (pm + outTo ps x q)) ∧ (∀ o, wv.frozen? ⟨w.heap.size + 2, o, none⟩ = false)
        ∧ wv.cell? ⟨w.heap.size, 0, none⟩ = some (.int .i64 l) ∧ wv.cell? ⟨w.heap.size, 1, none⟩ = some (.int .i64 h) ∧ wv.cell? ⟨w.heap.size, 2, none⟩ = some (.int .i64 v) ∧ wv.cell? ⟨w.heap.size, 3, none⟩ = some (.slice (some ⟨bf, of_, none⟩) fs.length capf) ∧ wv.cell? ⟨w.heap.size, 4, none⟩ = some (.slice B ps.length capq) ∧ w.heap.size + 1 ≤ wv.heap.size ∧ (∀ o, wv.frozen? ⟨w.heap.size + 1, o, none⟩ = false) ∧ (∃ z0 z1 z2 z3, wv.cell? ⟨w.heap.size + 1, 0, none⟩ = some z0 ∧ wv.cell? ⟨w.heap.size + 1, 1, none⟩ = some z1 ∧ wv.cell? ⟨w.heap.size + 1, 2, none⟩ = some z2 ∧ wv.cell? ⟨w.heap.size + 1, 3, none⟩ = some z3) ∧ Below w.heap.size w wv) (fun _ i _ => ps.length - (intOf i).toNat)
      case atStart =>
        refine ⟨0, Nat.zero_le _, rfl, by simp [outTo], hz4, HF.out, ?_, ?_, ?_, ?_, ?_, ?_, ?_, ?_, ?_, ?_, ?_, ?_, ⟨z0, z1, z2, z3, ?_, ?_, ?_, ?_⟩, hbr⟩
        all_goals first | assumption | (simp [costTo, startTo, outTo, *]; done) | (simp [go_sem, ↓IntWalk.iteOmega, costTo, startTo, outTo, *]; done)
      case round =>
        obtain ⟨q, hq, rfl, rfl, hz4', hF, ho0, ho1, ho2, ho3, hof, hp0, hp1, hp2, hp3, hp4, hzz, htf, ⟨y0, y1, y2, y3, ht0, ht1, ht2, ht3⟩, hbv⟩ := hrel
        have hlo := hF.lo
        have hhi := hF.hi
        clear hc hf hz hz4 hp0' hp1' hp2' hp3' hp4' ho0' ho1' ho2' ho3' ht0' ht1' ht2' ht3' hof' htf'
        have hc := cellOf hbv
        have hf := frozOf hbv
        have hz := sizeOf hbv
        have hp0' : far _ _ _ = _ := hp0
        have hp1' : far _ _ _ = _ := hp1
        have hp2' : far _ _ _ = _ := hp2
        have hp3' : far _ _ _ = _ := hp3
        have hp4' : far _ _ _ = _ := hp4
        have ho0' : far _ _ _ = _ := ho0
        have ho1' : far _ _ _ = _ := ho1
        have ho2' : far _ _ _ = _ := ho2
        have ho3' : far _ _ _ = _ := ho3
        have ht0' : far _ _ _ = _ := ht0
        have ht1' : far _ _ _ = _ := ht1
        have ht2' : far _ _ _ = _ := ht2
        have ht3' : far _ _ _ = _ := ht3
        have hof' : ∀ o, farz _ _ o = false := hof
        have htf' : ∀ o, farz _ _ o = false := htf
        have hob := HOB.out x q hq
        have hcb := HCB.out b x q hq
        have hstb := HSB.out b x q hq
        by_cases hqp : q < ps.length
        · obtain ⟨bp, op_, rfl, hbp, hcp⟩ := hy q ps[q] (List.getElem?_eq_getElem hqp)
          have hg0 := hcp 0 _ rfl
          have hg1 := hcp 1 _ rfl
          have hg2 := hcp 2 _ rfl
          simp only [Nat.add_zero] at hg0
          have hgb := puOk_bd (hpu q hqp)
          have HO1 := hid (outTo_succ x q hqp)
          have HC1 := hid (costTo_succ b x q hqp)
          have HT1 := hid (startTo_succ b x q hqp)
          have HF2 := hid hF
          have hbx1 := bits_and hxb (q := q) (by omega)
          have hbx2 := bits_and hbb (q := q) (by omega)
          clear hcp hy hF
          generalize ps[q] = g at *
          generalize outTo ps x q = ot at *
          generalize costTo ps b x q = ct at *
          generalize startTo ps b x q = sst at *
          by_cases h1 : bitB x q = true
          rotate_left
          · rw [if_neg h1] at hbx1 HO1 HC1 HT1
            clear hbx2
            go_wp2_with (fail)
            go_roundw
            case rel =>
              refine ⟨q + 1, by omega, by go_num, by rw [HO1.out]; simp, ?_, HF2.out.below (by (repeat' (first | exact Below.refl _ _ | assumption | refine Below.setCell ?_ ?_ _ | refine Below.drew ?_ | refine Below.alloc ?_ ?_ _ | refine Below.trans ?_ (Below.mono (by assumption) ?_) | (simp; done) | (simp; omega) | omega))), ?_, ?_, ?_, ?_, ?_, ?_, ?_, ?_, ?_, ?_, ?_, ?_, ⟨y0, y1, y2, y3, ?_, ?_, ?_, ?_⟩, by (repeat' (first | exact Below.refl _ _ | assumption | refine Below.setCell ?_ ?_ _ | refine Below.drew ?_ | refine Below.alloc ?_ ?_ _ | refine Below.trans ?_ (Below.mono (by assumption) ?_) | (simp; done) | (simp; omega) | omega))⟩
              all_goals first | (simp [go_sem, ↓IntWalk.iteOmega, HO1.out, HC1.out, HT1.out, *]; done) | (simp; omega) | (intro o; simp [go_sem, ↓IntWalk.iteOmega, *]; done)
            case measure => simp [intOf]; omega
          rw [if_pos h1] at hbx1 HO1 HC1 HT1
          by_cases h2 : bitB b q = true
          · rw [if_pos h2] at hbx2 HC1 HT1
            go_wp2_with (fail)
            go_roundw
            case rel =>
              refine ⟨q + 1, by omega, by go_num, by rw [HO1.out]; exact int_eq (by omega), ?_, ?_, ?_, ?_, ?_, ?_, ?_, ?_, ?_, ?_, ?_, ?_, ?_, ?_, ⟨y0, y1, y2, y3, ?_, ?_, ?_, ?_⟩, by (repeat' (first | exact Below.refl _ _ | assumption | refine Below.setCell ?_ ?_ _ | refine Below.drew ?_ | refine Below.alloc ?_ ?_ _ | refine Below.trans ?_ (Below.mono (by assumption) ?_) | (simp; done) | (simp; omega) | omega))⟩
              rotate_left 1
              · repeat' (refine FreshA.set_ne ?_ HN.out _ _)
                exact HF2.out.below (by (repeat' (first | exact Below.refl _ _ | assumption | refine Below.setCell ?_ ?_ _ | refine Below.drew ?_ | refine Below.alloc ?_ ?_ _ | refine Below.trans ?_ (Below.mono (by assumption) ?_) | (simp; done) | (simp; omega) | omega)))
              all_goals first | (simp [go_sem, ↓IntWalk.iteOmega, HO1.out, HC1.out, HT1.out, *]; done) | (simp [go_sem, ↓IntWalk.iteOmega, HO1.out, HC1.out, HT1.out, *]; omega) | (simp; omega) | (intro o; simp [go_sem, ↓IntWalk.iteOmega, *]; done)
            case measure => simp [intOf]; omega
          · rw [if_neg h2] at hbx2 HC1 HT1
            go_wp2_with (fail)
            go_roundw
            case rel =>
              refine ⟨q + 1, by omega, by go_num, by rw [HO1.out]; exact int_eq (by omega), ?_, ?_, ?_, ?_, ?_, ?_, ?_, ?_, ?_, ?_, ?_, ?_, ?_, ?_, ⟨y0, y1, y2, y3, ?_, ?_, ?_, ?_⟩, by (repeat' (first | exact Below.refl _ _ | assumption | refine Below.setCell ?_ ?_ _ | refine Below.drew ?_ | refine Below.alloc ?_ ?_ _ | refine Below.trans ?_ (Below.mono (by assumption) ?_) | (simp; done) | (simp; omega) | omega))⟩
              rotate_left 1
              · repeat' (refine FreshA.set_ne ?_ HN.out _ _)
                exact HF2.out.below (by (repeat' (first | exact Below.refl _ _ | assumption | refine Below.setCell ?_ ?_ _ | refine Below.drew ?_ | refine Below.alloc ?_ ?_ _ | refine Below.trans ?_ (Below.mono (by assumption) ?_) | (simp; done) | (simp; omega) | omega)))
              all_goals first | (simp [go_sem, ↓IntWalk.iteOmega, HO1.out, HC1.out, HT1.out, *]; done) | (simp [go_sem, ↓IntWalk.iteOmega, HO1.out, HC1.out, HT1.out, *]; omega) | (simp; omega) | (intro o; simp [go_sem, ↓IntWalk.iteOmega, *]; done)
            case measure => simp [intOf]; omega
        · obtain rfl : q = ps.length := by omega
          have HF2 := hid hF
          have HLS2 := hid (HLS.out.trans (by rw [HL1.out]))
          clear hF hp3' hp4'
          generalize outTo ps x ps.length = ot at *
          generalize costTo ps b x ps.length = ct at *
          generalize startTo ps b x ps.length = sst at *
          have hN3 := HN.out
          have HN3 := hid hN3
          clear hN3
          go_wp2_with (at_builtin; refine wpList_push rfl (.tmp 77) (.tmp 79) 22 rfl 3 i0 _ 1 8 Try.underlying22 hI0 hI1 hI2 hI3 rfl (by decide) (fun _ => rfl) one_In ((w.heap.size + 2)) A' k cp ((levsTo v fs pl ps k)) HLL.out rfl (HF2.out.below (by (repeat' (first | exact Below.refl _ _ | assumption | refine Below.setCell ?_ ?_ _ | refine Below.drew ?_ | refine Below.alloc ?_ ?_ _ | refine Below.trans ?_ (Below.mono (by assumption) ?_) | (simp; done) | (simp; omega) | omega)))) ((lv + f - ot)) _ 1 rfl ?_ ?_ ?_ ?_ ?_; (refine news_In _ _ _ ?_ <;> simp [go_sem, ↓IntWalk.iteOmega]); (unfold maxLen; omega); omega; (simp; omega); intro A3 cp3 w3 hF3 hg3 hat3; have hc3 := fun o => HN3.out.cell hg3 (by first | (simp; done) | (simp; omega)) o; have hf3 := fun o => HN3.out.frozen hg3 (by first | (simp; done) | (simp; omega)) o; have hbb3 := below_of_grown (B := w.heap.size + 2) hg3 hlo (by first | (simp; done) | (simp; omega)); have hc4 : ∀ o, w3.cell? ⟨w.heap.size, o, none⟩ = _ := fun o => hbb3.cell (p := ⟨w.heap.size, o, none⟩) (by show w.heap.size < w.heap.size + 2; omega); have hc5 : ∀ o, w3.cell? ⟨w.heap.size + 1, o, none⟩ = _ := fun o => hbb3.cell (p := ⟨w.heap.size + 1, o, none⟩) (by show w.heap.size + 1 < w.heap.size + 2; omega); have hf5 : ∀ o, w3.frozen? ⟨w.heap.size + 1, o, none⟩ = _ := fun o => hbb3.frozen (p := ⟨w.heap.size + 1, o, none⟩) (by show w.heap.size + 1 < w.heap.size + 2; omega); have hs3 := hg3.size; (try simp at hs3); have hb3 := below_of_grown (B := w.heap.size) hg3 (hlo.mono (by omega)) (by simp; omega))
          go_roundw
          case rel =>
            refine ⟨k + 1, A3, cp3, by omega, by go_num, ?_, by rw [HL1.out], by rw [HB1.out], ?_, HN3.out.next hat3 (by first | (simp; done) | (simp; omega)), ?_, ?_, ?_, ?_, ?_, ?_, ?_, ?_, ?_, ?_, ?_, ?_, ⟨y0, y1, y2, y3, ?_, ?_, ?_, ?_⟩, by (repeat' (first | exact Below.refl _ _ | assumption | refine Below.setCell ?_ ?_ _ | refine Below.drew ?_ | refine Below.alloc ?_ ?_ _ | refine Below.trans ?_ (Below.mono (by assumption) ?_) | (simp; done) | (simp; omega) | omega))⟩
            rotate_left 1
            · refine FreshA.set_ne ?_ (HN3.out.next hat3 (by first | (simp; done) | (simp; omega))) _ _
              rw [HLS2.out]
              exact hF3
            all_goals first | (simp [go_sem, ↓IntWalk.iteOmega, HM1.out, HY1.out, HS1.out, *]; done) | (simp [go_sem, ↓IntWalk.iteOmega, HM1.out, HY1.out, HS1.out, *]; omega) | (simp; omega) | (intro o; simp [go_sem, ↓IntWalk.iteOmega, *]; done)
          case measure => simp [intOf]; omega

end Go.Proofs.Ytpaclngjmdacjaa
