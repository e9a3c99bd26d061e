import Derived.Test.YtipipicfkjigdaaR0
import Derived.Deep.RegionHeld3
import Derived.OwnWalk
namespace Go.Proofs.Ytipipicfkjigdaa
set_option linter.unusedSimpArgs false
set_option linter.unusedVariables false
open Go.RowKit

theorem getD_lt2 {α : Type} {l : List α} {d : α} {k : Nat} (h : k < l.length) : l.getD k d = l[k] := by rw [List.getD_eq_getElem?_getD, List.getElem?_eq_getElem h]; rfl
theorem tow_step2 {ts : List TugT} {js : List JobT} {who : List Int} (k : Nat) (hj : k < js.length) (hw : k < who.length) :
    endsK ts js who (k + 1) = endsK ts js who k ++ [max ((towS ts js who k).2 who[k] + absI ((towS ts js who k).1 who[k] - js[k].2.1)) js[k].2.2.2.2 + absI (js[k].2.1 - js[k].2.2.1)] ∧
    waitK ts js who (k + 1) = waitK ts js who k + (max ((towS ts js who k).2 who[k] + absI ((towS ts js who k).1 who[k] - js[k].2.1)) js[k].2.2.2.2 - js[k].2.2.2.2) ∧
    towdK ts js who (k + 1) = (fun i => if i = who[k] then towdK ts js who k who[k] + absI (js[k].2.1 - js[k].2.2.1) else towdK ts js who k i) ∧
    othK ts js who (k + 1) = (fun i => if i = who[k] then othK ts js who k who[k] + absI ((towS ts js who k).1 who[k] - js[k].2.1) else othK ts js who k i) ∧
    (towS ts js who (k + 1)).1 = (fun i => if i = who[k] then js[k].2.2.1 else (towS ts js who k).1 i) ∧
    (towS ts js who (k + 1)).2 = (fun i => if i = who[k] then max ((towS ts js who k).2 who[k] + absI ((towS ts js who k).1 who[k] - js[k].2.1)) js[k].2.2.2.2 + absI (js[k].2.1 - js[k].2.2.1) else (towS ts js who k).2 i) := by
  have e1 : js.getD k j0 = js[k] := getD_lt2 hj
  have e2 : who.getD k 0 = who[k] := getD_lt2 hw
  refine ⟨?_, ?_, ?_, ?_, ?_, ?_⟩
  · rw [endsK_succ, endK, begK, e1, e2]; rfl
  · rw [waitK, begK, e1, e2]; rfl
  · funext i
    show (if i = who.getD k 0 then towdK ts js who k i + runJ (js.getD k j0) else towdK ts js who k i) = _
    rw [e1, e2]
    by_cases h : i = who[k]
    · subst h; rfl
    · rw [if_neg h, if_neg h]
  · funext i
    show (if i = who.getD k 0 then othK ts js who k i + wayS (towS ts js who k) (js.getD k j0) (who.getD k 0) else othK ts js who k i) = _
    rw [e1, e2]
    by_cases h : i = who[k]
    · subst h; rfl
    · rw [if_neg h, if_neg h]
  · show (stepS (towS ts js who k) (js.getD k j0) (who.getD k 0)).1 = _
    rw [e1, e2]; rfl
  · show (stepS (towS ts js who k) (js.getD k j0) (who.getD k 0)).2 = _
    rw [e1, e2]; rfl
theorem pl_step2 {ts : List TugT} (k : Nat) (hk : k < ts.length) : plK ts (k + 1) = fun i => if i = ts[k].1 then ts[k].2.1 else plK ts k i := by
  funext i
  show (if i = (ts.getD k t0).1 then (ts.getD k t0).2.1 else plK ts k i) = _
  rw [getD_lt2 hk]
theorem beg_step {ts : List TugT} {js : List JobT} {who : List Int} (k : Nat) (hj : k < js.length) (hw : k < who.length) :
    begsK ts js who (k + 1) = begsK ts js who k ++ [max ((towS ts js who k).2 who[k] + absI ((towS ts js who k).1 who[k] - js[k].2.1)) js[k].2.2.2.2] := by
  rw [begsK_succ, begK, getD_lt2 hj, getD_lt2 hw]; rfl

set_option maxRecDepth 100000 in
set_option maxHeartbeats 16000000 in
theorem c_spec_l17Run (A : Option Addr) (ts : List TugT) (capt : Nat) (B : Option Addr) (js : List JobT) (capj : Nat) (C : Option Addr) (who : List Int) (capw : Nat) (w : World) (hx : Rds cTug 3 w A ts) (hn : ts.length ≤ 9223372036854775807) (hy : Rds cJob 5 w B js) (hm : js.length ≤ 9223372036854775807) (hr : Rds cIn 1 w C who) (hq : who.length ≤ 9223372036854775807) (ht4 : vB tugOk tugLt 4 ts = true) (hj5 : vB jobOk jobLt 5 js = true) (hlen : who.length ≤ js.length) (hok : ∀ k (hk : k < who.length), 0 ≤ tix ts who[k]) :
    Calls Try.prog 60 #[.slice A ts.length capt, .slice B js.length capj, .slice C who.length capw] w fun e w' => ∃ A1 c1 A2 c2, e = .returned (.tuple #[.slice A1 who.length c1, .slice A2 who.length c2]) ∧ FreshA cIn 1 3 w.heap.size w' A1 c1 (begsK ts js who who.length) ∧ FreshA cIn 1 3 w.heap.size w' A2 c2 (endsK ts js who who.length) ∧ Below w.heap.size w w' := by
  obtain ⟨i0, hI0, hI1, hI2, hI3⟩ := info_parts info_In
  have ht5 := vB_len ht4
  have hj6 := vB_len hj5
  have hmk := fun w => make_run (P := Try.prog) 43 3 i0 _ Try.underlying43 hI0 hI1 ts.length (by rw [hI3]; omega) (by omega) w
  simp only [hI2] at hmk
  have HT4 := hid ht4
  have HJ5 := hid hj5
  have HOK := hid hok
  have HX := hid hx
  have HY := hid hy
  have HR := hid hr
  clear ht4 hj5 hok hx hy hr
  go_enter Try.func60, Try.ntmps60
  go_wp2_with (fail)
  go_region_held3 (fun _ => True) (trivial) (fail)
  · have hgg : (w.heap.size + 1 + 1) ≠ (w.heap.size + 1 + 1 + 1) := by omega
    have HI := hid (runSt_init w ts ht5 (w.heap.size + 1 + 1) (w.heap.size + 1 + 1 + 1) (by omega))
    go_wp2_with (fail)
    go_loopw [12] (fun i wr => ∃ k : Nat, k ≤ ts.length ∧ i = .int .i64 k ∧ RunSt w ts (w.heap.size + 1 + 1) (w.heap.size + 1 + 1 + 1) wr (some ⟨w.heap.size, 0, none⟩) 0 [] (some ⟨w.heap.size + 1, 0, none⟩) 0 [] (plK ts k) (fun _ => 0)) (fun i _ => ts.length - (intOf i).toNat)
    case atStart => exact ⟨0, Nat.zero_le _, rfl, HI.out⟩
    case round =>
      obtain ⟨k, hk, rfl, hS⟩ := hrel
      clear HI
      have hbr := hS.bel
      have hc := cellOf hbr
      have hf := frozOf hbr
      have hz := hS.p.lt
      have hz2 := hS.f.lt
      by_cases hlt : k < ts.length
      · obtain ⟨bx, ox, rfl, hbx, hcx⟩ := HX.out k ts[k] (List.getElem?_eq_getElem hlt)
        have hx1 := hcx 1 _ rfl
        have hx1r : wr.cell? ⟨bx, ox + k * 3 + 1, none⟩ = some (.int .i64 ts[k].2.1) := by rw [hc, if_pos hbx]; exact hx1
        have hcg := hS.p.int (k := k) (x := plK ts k ts[k].1) (by rw [List.getElem?_map, List.getElem?_eq_getElem hlt]; rfl)
        have hzg := hS.p.frozen k
        have HN : Hid (RunSt w ts (w.heap.size + 1 + 1) (w.heap.size + 1 + 1 + 1) (wr.setCell ⟨(w.heap.size + 1 + 1), k, none⟩ (.int .i64 ts[k].2.1)) (some ⟨w.heap.size, 0, none⟩) 0 [] (some ⟨w.heap.size + 1, 0, none⟩) 0 [] (plK ts (k + 1)) (fun _ => 0)) := by
          have := hS.setP HT4.out hgg (by omega) k hlt ts[k].2.1
          rw [← pl_step2 k hlt] at this
          exact this
        clear hcx hS hc hf hx1
        generalize plK ts k ts[k].1 = old at *
        generalize ts[k] = t at *
        go_wp2_with (fail)
        go_roundw
        case rel => exact ⟨k + 1, by omega, by go_num, HN.out⟩
        case measure => simp [intOf]; omega
      obtain rfl : k = ts.length := by omega
      have HS := hid hS
      clear hS hc hf
      go_wp2_with (fail)
      clear hz hz2 hbr hk hlt
      go_loopw [8, 9, 13] (fun u v i wr => ∃ (k : Nat) (A1 : Option Addr) (c1 : Nat) (A2 : Option Addr) (c2 : Nat), k ≤ who.length ∧ i = .int .i64 k ∧ u = .slice A1 (begsK ts js who k).length c1 ∧ v = .slice A2 (endsK ts js who k).length c2 ∧ RunSt w ts (w.heap.size + 1 + 1) (w.heap.size + 1 + 1 + 1) wr A1 c1 (begsK ts js who k) A2 c2 (endsK ts js who k) (towS ts js who k).1 (towS ts js who k).2) (fun _ _ i _ => who.length - (intOf i).toNat)
      case atStart => exact ⟨0, _, 0, _, 0, Nat.zero_le _, rfl, rfl, rfl, HS.out⟩
      case round =>
        obtain ⟨k, A1, c1, A2, c2, hk, rfl, rfl, rfl, hS⟩ := hrel
        clear HS
        have hbr := hS.bel
        have hc := cellOf hbr
        have hf := frozOf hbr
        have hzr := hbr.size
        by_cases hlt : k < who.length
        rotate_left
        · obtain rfl : k = who.length := by omega
          have H1 := hid (begsK_len (ts := ts) (js := js) (who := who) who.length)
          have H2 := hid (endsK_len (ts := ts) (js := js) (who := who) who.length)
          go_wp2_with (fail)
          go_ret2
          exact ⟨A1, c1, A2, c2, by first | (rw [H1.out, H2.out]; done) | (rw [H1.out, H2.out]; rfl), hS.a1, hS.a2, hS.bel⟩
        have hltj : k < js.length := by omega
        obtain ⟨e1, _, _, _, e5, e6⟩ := tow_step2 (ts := ts) (js := js) (who := who) k hltj hlt
        have e0 := beg_step (ts := ts) (js := js) (who := who) k hltj hlt
        obtain ⟨bx, ox, rfl, hbx, hcx⟩ := HR.out k who[k] (List.getElem?_eq_getElem hlt)
        have hx0 := hcx 0 _ rfl
        simp only [Nat.add_zero, Nat.mul_one] at hx0
        obtain ⟨bj, oj, rfl, hbj, hcj⟩ := HY.out k js[k] (List.getElem?_eq_getElem hltj)
        have hj1 := hcj 1 _ rfl
        have hj2 := hcj 2 _ rfl
        have hj4 := hcj 4 _ rfl
        have hjb := jobOk_bd (vB_at HJ5.out k hltj)
        have hps := towS_bd (who := who) HT4.out HJ5.out k who[k]
        obtain ⟨kt, hkt, hix, hidk⟩ := tix_hit (HOK.out k hlt)
        have hcp := hS.p.int (k := kt) (x := (towS ts js who k).1 ts[kt].1) (by rw [List.getElem?_map, List.getElem?_eq_getElem hkt]; rfl)
        have hcf := hS.f.int (k := kt) (x := (towS ts js who k).2 ts[kt].1) (by rw [List.getElem?_map, List.getElem?_eq_getElem hkt]; rfl)
        have hzp := hS.p.frozen kt
        have hzf := hS.f.frozen kt
        rw [hidk] at hcp hcf
        obtain ⟨px, hpx⟩ : ∃ p, (towS ts js who k).1 who[k] = p := ⟨_, rfl⟩
        obtain ⟨tx, htx⟩ : ∃ p, (towS ts js who k).2 who[k] = p := ⟨_, rfl⟩
        simp only [hpx, htx] at e0 e1 e5 e6 hps hcp hcf
        have HPT := hid (And.intro hpx htx)
        have E0 := hid e0
        have E1 := hid e1
        have E5 := hid e5
        have E6 := hid e6
        have HK := hid hidk
        have hl5 : (begsK ts js who k).length ≤ 5 := by rw [begsK_len]; omega
        have hl6 : (endsK ts js who k).length ≤ 5 := by rw [endsK_len]; omega
        have HXr := hid (Rds.below HX.out hbr)
        have HS := hid hS
        have HKQ : Hid (∀ w' : World, Below w.heap.size w w' → w'.cell? ⟨bj, oj + k * 5 + 1, none⟩ = some (.int .i64 js[k].2.1) ∧ w'.cell? ⟨bj, oj + k * 5 + 2, none⟩ = some (.int .i64 js[k].2.2.1)) := fun w' hbb => ⟨(hbb.cell (p := ⟨bj, _, none⟩) hbj).trans hj1, (hbb.cell (p := ⟨bj, _, none⟩) hbj).trans hj2⟩
        clear hcx hcj e0 e1 e5 e6 hpx htx hidk hS
        generalize who[k] = x at *
        generalize js[k] = j at *
        generalize begsK ts js who k = bg at *
        generalize endsK ts js who k = en at *
        have hwy := absI_bd hps.1 ⟨hjb.2.2.1, hjb.2.2.2.1⟩
        have hrn := absI_bd (a := j.2.1) (b := j.2.2.1) (by omega) (by omega)
        have hj1r : wr.cell? ⟨bj, oj + k * 5 + 1, none⟩ = some (.int .i64 j.2.1) := by rw [hc, if_pos hbj]; exact hj1
        have hj4r : wr.cell? ⟨bj, oj + k * 5 + 4, none⟩ = some (.int .i64 j.2.2.2.2) := by rw [hc, if_pos hbj]; exact hj4
        have hxr : wr.cell? ⟨bx, ox + k, none⟩ = some (.int .i64 x) := by rw [hc, if_pos hbx]; exact hx0
        have hwr1 := wr_id2 (x := tx + absI (px - j.2.1)) (by omega)
        have hwr2 := wr_id2 (x := max j.2.2.2.2 (tx + absI (px - j.2.1)) + absI (j.2.1 - j.2.2.1)) (by omega)
        clear hc hf
        go_wp2_with (go_at_call 66; refine (c_spec_l17Find _ _ _ _ _ HXr.out (by omega)).mono ?_; rintro e w' ⟨rfl, hw9⟩; rw [hw9]; clear hw9 w')
        go_region_held3 (fun w' => w' = wr.drew) (first | rfl | assumption) (first | (go_at_call 53; refine (p_farI _ _ _ (by omega) (by omega)).mono ?_; rintro e w' ⟨rfl, rfl⟩) | (go_at_call 61; refine (p_most _ _ _).mono ?_; rintro e w' ⟨rfl, rfl⟩))
        go_wp2_with (at_builtin; refine wpList_push rfl (.tmp 71) (.tmp 73) 43 rfl 3 i0 _ 1 8 Try.underlying43 hI0 hI1 hI2 hI3 rfl (by decide) (fun _ => rfl) one_In w.heap.size A1 bg.length c1 bg rfl rfl (HS.out.a1.below (by (repeat' (first | exact Below.refl _ _ | assumption | refine Below.setCell ?_ ?_ _ | refine Below.drew ?_ | refine Below.alloc ?_ ?_ _ | refine Below.trans ?_ (Below.mono (by assumption) ?_) | (simp; done) | (simp; omega) | omega)))) (max j.2.2.2.2 (tx + absI (px - j.2.1))) _ 1 rfl ?_ ?_ ?_ ?_ ?_; (refine news_In _ _ _ ?_ <;> simp [go_sem, ↓IntWalk.iteOmega, *]); (unfold maxLen; omega); omega; (simp; omega); intro A3 cp3 w3 hF3 hg3 hat3; have hS12 := hid (RunSt.push1 (HS.out.below (by (repeat' (first | exact Below.refl _ _ | assumption | refine Below.setCell ?_ ?_ _ | refine Below.drew ?_ | refine Below.alloc ?_ ?_ _ | refine Below.trans ?_ (Below.mono (by assumption) ?_) | (simp; done) | (simp; omega) | omega)))) hF3 hg3 hat3); have hcp3 := hS12.out.p.int (k := kt) (x := (towS ts js who k).1 ts[kt].1) (by rw [List.getElem?_map, List.getElem?_eq_getElem hkt]; rfl); have hcf3 := hS12.out.f.int (k := kt) (x := (towS ts js who k).2 ts[kt].1) (by rw [List.getElem?_map, List.getElem?_eq_getElem hkt]; rfl); rw [HK.out, HPT.out.1] at hcp3; rw [HK.out, HPT.out.2] at hcf3; have hzp3 := hS12.out.p.frozen kt; have hzf3 := hS12.out.f.frozen kt; have hb12 := hS12.out.bel; have hz12 := hb12.size; have hq1 : w3.cell? ⟨bj, oj + k * 5 + 1, none⟩ = some (.int .i64 j.2.1) := (hb12.cell (p := ⟨bj, _, none⟩) hbj).trans hj1; have hq2 : w3.cell? ⟨bj, oj + k * 5 + 2, none⟩ = some (.int .i64 j.2.2.1) := (hb12.cell (p := ⟨bj, _, none⟩) hbj).trans hj2; clear hcp hcf hzp hzf hj1r hj4r hxr)
        go_region_held3 (fun w' => w'.cell? ⟨bj, oj + k * 5 + 1, none⟩ = some (.int .i64 j.2.1) ∧ w'.cell? ⟨bj, oj + k * 5 + 2, none⟩ = some (.int .i64 j.2.2.1)) (first | assumption | exact HKQ.out _ (by (repeat' (first | exact Below.refl _ _ | assumption | refine Below.setCell ?_ ?_ _ | refine Below.drew ?_ | refine Below.alloc ?_ ?_ _ | refine Below.trans ?_ (Below.mono (by assumption) ?_) | (simp; done) | (simp; omega) | omega)))) (first | (go_at_call 53; refine (p_farI _ _ _ (by omega) (by omega)).mono ?_; rintro e w' ⟨rfl, rfl⟩))
        go_wp2_with (at_builtin; have hS15' := (hS12.out.setT HT4.out hgg (by omega) kt hkt (max j.2.2.2.2 (tx + absI (px - j.2.1)) + absI (j.2.1 - j.2.2.1))).setP HT4.out hgg (by omega) kt hkt j.2.2.1; rw [HK.out] at hS15'; have hS15 := hS15'; clear hS15'; refine wpList_push rfl (.tmp 99) (.tmp 104) 43 rfl 3 i0 _ 1 8 Try.underlying43 hI0 hI1 hI2 hI3 rfl (by decide) (fun _ => rfl) one_In w.heap.size A2 en.length c2 en rfl rfl (hS15.a2.below (by (repeat' (first | exact Below.refl _ _ | assumption | refine Below.setCell ?_ ?_ _ | refine Below.drew ?_ | refine Below.alloc ?_ ?_ _ | refine Below.trans ?_ (Below.mono (by assumption) ?_) | (simp; done) | (simp; omega) | omega)))) (max j.2.2.2.2 (tx + absI (px - j.2.1)) + absI (j.2.1 - j.2.2.1)) _ 1 rfl ?_ ?_ ?_ ?_ ?_; (refine news_In _ _ _ ?_ <;> simp [go_sem, ↓IntWalk.iteOmega, *]); (unfold maxLen; omega); omega; (simp; omega); intro A5 cp5 w5 hF5 hg5 hat5; have hS16 := RunSt.push2 (hS15.below (by (repeat' (first | exact Below.refl _ _ | assumption | refine Below.setCell ?_ ?_ _ | refine Below.drew ?_ | refine Below.alloc ?_ ?_ _ | refine Below.trans ?_ (Below.mono (by assumption) ?_) | (simp; done) | (simp; omega) | omega)))) hF5 hg5 hat5)
        go_roundw
        case rel =>
          refine ⟨k + 1, A3, cp3, A5, cp5, by omega, by go_num, ?_, ?_, ?_⟩
          · rw [E0.out]; simp
          · rw [E1.out]; simp
          · rw [E0.out, E1.out, E5.out, E6.out, Int.max_comm (tx + absI (px - j.2.1)) j.2.2.2.2]
            exact hS16
        case measure => simp [intOf]; omega
  · have hgg : (w.heap.size + 1 + 1 + 1) ≠ (w.heap.size + 1 + 1) := by omega
    have HI := hid (runSt_init w ts ht5 (w.heap.size + 1 + 1 + 1) (w.heap.size + 1 + 1) (by omega))
    go_wp2_with (fail)
    go_loopw [12] (fun i wr => ∃ k : Nat, k ≤ ts.length ∧ i = .int .i64 k ∧ RunSt w ts (w.heap.size + 1 + 1 + 1) (w.heap.size + 1 + 1) wr (some ⟨w.heap.size, 0, none⟩) 0 [] (some ⟨w.heap.size + 1, 0, none⟩) 0 [] (plK ts k) (fun _ => 0)) (fun i _ => ts.length - (intOf i).toNat)
    case atStart => exact ⟨0, Nat.zero_le _, rfl, HI.out⟩
    case round =>
      obtain ⟨k, hk, rfl, hS⟩ := hrel
      clear HI
      have hbr := hS.bel
      have hc := cellOf hbr
      have hf := frozOf hbr
      have hz := hS.p.lt
      have hz2 := hS.f.lt
      by_cases hlt : k < ts.length
      · obtain ⟨bx, ox, rfl, hbx, hcx⟩ := HX.out k ts[k] (List.getElem?_eq_getElem hlt)
        have hx1 := hcx 1 _ rfl
        have hx1r : wr.cell? ⟨bx, ox + k * 3 + 1, none⟩ = some (.int .i64 ts[k].2.1) := by rw [hc, if_pos hbx]; exact hx1
        have hcg := hS.p.int (k := k) (x := plK ts k ts[k].1) (by rw [List.getElem?_map, List.getElem?_eq_getElem hlt]; rfl)
        have hzg := hS.p.frozen k
        have HN : Hid (RunSt w ts (w.heap.size + 1 + 1 + 1) (w.heap.size + 1 + 1) (wr.setCell ⟨(w.heap.size + 1 + 1 + 1), k, none⟩ (.int .i64 ts[k].2.1)) (some ⟨w.heap.size, 0, none⟩) 0 [] (some ⟨w.heap.size + 1, 0, none⟩) 0 [] (plK ts (k + 1)) (fun _ => 0)) := by
          have := hS.setP HT4.out hgg (by omega) k hlt ts[k].2.1
          rw [← pl_step2 k hlt] at this
          exact this
        clear hcx hS hc hf hx1
        generalize plK ts k ts[k].1 = old at *
        generalize ts[k] = t at *
        go_wp2_with (fail)
        go_roundw
        case rel => exact ⟨k + 1, by omega, by go_num, HN.out⟩
        case measure => simp [intOf]; omega
      obtain rfl : k = ts.length := by omega
      have HS := hid hS
      clear hS hc hf
      go_wp2_with (fail)
      clear hz hz2 hbr hk hlt
      go_loopw [8, 9, 13] (fun u v i wr => ∃ (k : Nat) (A1 : Option Addr) (c1 : Nat) (A2 : Option Addr) (c2 : Nat), k ≤ who.length ∧ i = .int .i64 k ∧ u = .slice A1 (begsK ts js who k).length c1 ∧ v = .slice A2 (endsK ts js who k).length c2 ∧ RunSt w ts (w.heap.size + 1 + 1 + 1) (w.heap.size + 1 + 1) wr A1 c1 (begsK ts js who k) A2 c2 (endsK ts js who k) (towS ts js who k).1 (towS ts js who k).2) (fun _ _ i _ => who.length - (intOf i).toNat)
      case atStart => exact ⟨0, _, 0, _, 0, Nat.zero_le _, rfl, rfl, rfl, HS.out⟩
      case round =>
        obtain ⟨k, A1, c1, A2, c2, hk, rfl, rfl, rfl, hS⟩ := hrel
        clear HS
        have hbr := hS.bel
        have hc := cellOf hbr
        have hf := frozOf hbr
        have hzr := hbr.size
        by_cases hlt : k < who.length
        rotate_left
        · obtain rfl : k = who.length := by omega
          have H1 := hid (begsK_len (ts := ts) (js := js) (who := who) who.length)
          have H2 := hid (endsK_len (ts := ts) (js := js) (who := who) who.length)
          go_wp2_with (fail)
          go_ret2
          exact ⟨A1, c1, A2, c2, by first | (rw [H1.out, H2.out]; done) | (rw [H1.out, H2.out]; rfl), hS.a1, hS.a2, hS.bel⟩
        have hltj : k < js.length := by omega
        obtain ⟨e1, _, _, _, e5, e6⟩ := tow_step2 (ts := ts) (js := js) (who := who) k hltj hlt
        have e0 := beg_step (ts := ts) (js := js) (who := who) k hltj hlt
        obtain ⟨bx, ox, rfl, hbx, hcx⟩ := HR.out k who[k] (List.getElem?_eq_getElem hlt)
        have hx0 := hcx 0 _ rfl
        simp only [Nat.add_zero, Nat.mul_one] at hx0
        obtain ⟨bj, oj, rfl, hbj, hcj⟩ := HY.out k js[k] (List.getElem?_eq_getElem hltj)
        have hj1 := hcj 1 _ rfl
        have hj2 := hcj 2 _ rfl
        have hj4 := hcj 4 _ rfl
        have hjb := jobOk_bd (vB_at HJ5.out k hltj)
        have hps := towS_bd (who := who) HT4.out HJ5.out k who[k]
        obtain ⟨kt, hkt, hix, hidk⟩ := tix_hit (HOK.out k hlt)
        have hcp := hS.p.int (k := kt) (x := (towS ts js who k).1 ts[kt].1) (by rw [List.getElem?_map, List.getElem?_eq_getElem hkt]; rfl)
        have hcf := hS.f.int (k := kt) (x := (towS ts js who k).2 ts[kt].1) (by rw [List.getElem?_map, List.getElem?_eq_getElem hkt]; rfl)
        have hzp := hS.p.frozen kt
        have hzf := hS.f.frozen kt
        rw [hidk] at hcp hcf
        obtain ⟨px, hpx⟩ : ∃ p, (towS ts js who k).1 who[k] = p := ⟨_, rfl⟩
        obtain ⟨tx, htx⟩ : ∃ p, (towS ts js who k).2 who[k] = p := ⟨_, rfl⟩
        simp only [hpx, htx] at e0 e1 e5 e6 hps hcp hcf
        have HPT := hid (And.intro hpx htx)
        have E0 := hid e0
        have E1 := hid e1
        have E5 := hid e5
        have E6 := hid e6
        have HK := hid hidk
        have hl5 : (begsK ts js who k).length ≤ 5 := by rw [begsK_len]; omega
        have hl6 : (endsK ts js who k).length ≤ 5 := by rw [endsK_len]; omega
        have HXr := hid (Rds.below HX.out hbr)
        have HS := hid hS
        have HKQ : Hid (∀ w' : World, Below w.heap.size w w' → w'.cell? ⟨bj, oj + k * 5 + 1, none⟩ = some (.int .i64 js[k].2.1) ∧ w'.cell? ⟨bj, oj + k * 5 + 2, none⟩ = some (.int .i64 js[k].2.2.1)) := fun w' hbb => ⟨(hbb.cell (p := ⟨bj, _, none⟩) hbj).trans hj1, (hbb.cell (p := ⟨bj, _, none⟩) hbj).trans hj2⟩
        clear hcx hcj e0 e1 e5 e6 hpx htx hidk hS
        generalize who[k] = x at *
        generalize js[k] = j at *
        generalize begsK ts js who k = bg at *
        generalize endsK ts js who k = en at *
        have hwy := absI_bd hps.1 ⟨hjb.2.2.1, hjb.2.2.2.1⟩
        have hrn := absI_bd (a := j.2.1) (b := j.2.2.1) (by omega) (by omega)
        have hj1r : wr.cell? ⟨bj, oj + k * 5 + 1, none⟩ = some (.int .i64 j.2.1) := by rw [hc, if_pos hbj]; exact hj1
        have hj4r : wr.cell? ⟨bj, oj + k * 5 + 4, none⟩ = some (.int .i64 j.2.2.2.2) := by rw [hc, if_pos hbj]; exact hj4
        have hxr : wr.cell? ⟨bx, ox + k, none⟩ = some (.int .i64 x) := by rw [hc, if_pos hbx]; exact hx0
        have hwr1 := wr_id2 (x := tx + absI (px - j.2.1)) (by omega)
        have hwr2 := wr_id2 (x := max j.2.2.2.2 (tx + absI (px - j.2.1)) + absI (j.2.1 - j.2.2.1)) (by omega)
        clear hc hf
        go_wp2_with (go_at_call 66; refine (c_spec_l17Find _ _ _ _ _ HXr.out (by omega)).mono ?_; rintro e w' ⟨rfl, hw9⟩; rw [hw9]; clear hw9 w')
        go_region_held3 (fun w' => w' = wr.drew) (first | rfl | assumption) (first | (go_at_call 53; refine (p_farI _ _ _ (by omega) (by omega)).mono ?_; rintro e w' ⟨rfl, rfl⟩) | (go_at_call 61; refine (p_most _ _ _).mono ?_; rintro e w' ⟨rfl, rfl⟩))
        go_wp2_with (at_builtin; refine wpList_push rfl (.tmp 71) (.tmp 73) 43 rfl 3 i0 _ 1 8 Try.underlying43 hI0 hI1 hI2 hI3 rfl (by decide) (fun _ => rfl) one_In w.heap.size A1 bg.length c1 bg rfl rfl (HS.out.a1.below (by (repeat' (first | exact Below.refl _ _ | assumption | refine Below.setCell ?_ ?_ _ | refine Below.drew ?_ | refine Below.alloc ?_ ?_ _ | refine Below.trans ?_ (Below.mono (by assumption) ?_) | (simp; done) | (simp; omega) | omega)))) (max j.2.2.2.2 (tx + absI (px - j.2.1))) _ 1 rfl ?_ ?_ ?_ ?_ ?_; (refine news_In _ _ _ ?_ <;> simp [go_sem, ↓IntWalk.iteOmega, *]); (unfold maxLen; omega); omega; (simp; omega); intro A3 cp3 w3 hF3 hg3 hat3; have hS12 := hid (RunSt.push1 (HS.out.below (by (repeat' (first | exact Below.refl _ _ | assumption | refine Below.setCell ?_ ?_ _ | refine Below.drew ?_ | refine Below.alloc ?_ ?_ _ | refine Below.trans ?_ (Below.mono (by assumption) ?_) | (simp; done) | (simp; omega) | omega)))) hF3 hg3 hat3); have hcp3 := hS12.out.p.int (k := kt) (x := (towS ts js who k).1 ts[kt].1) (by rw [List.getElem?_map, List.getElem?_eq_getElem hkt]; rfl); have hcf3 := hS12.out.f.int (k := kt) (x := (towS ts js who k).2 ts[kt].1) (by rw [List.getElem?_map, List.getElem?_eq_getElem hkt]; rfl); rw [HK.out, HPT.out.1] at hcp3; rw [HK.out, HPT.out.2] at hcf3; have hzp3 := hS12.out.p.frozen kt; have hzf3 := hS12.out.f.frozen kt; have hb12 := hS12.out.bel; have hz12 := hb12.size; have hq1 : w3.cell? ⟨bj, oj + k * 5 + 1, none⟩ = some (.int .i64 j.2.1) := (hb12.cell (p := ⟨bj, _, none⟩) hbj).trans hj1; have hq2 : w3.cell? ⟨bj, oj + k * 5 + 2, none⟩ = some (.int .i64 j.2.2.1) := (hb12.cell (p := ⟨bj, _, none⟩) hbj).trans hj2; clear hcp hcf hzp hzf hj1r hj4r hxr)
        go_region_held3 (fun w' => w'.cell? ⟨bj, oj + k * 5 + 1, none⟩ = some (.int .i64 j.2.1) ∧ w'.cell? ⟨bj, oj + k * 5 + 2, none⟩ = some (.int .i64 j.2.2.1)) (first | assumption | exact HKQ.out _ (by (repeat' (first | exact Below.refl _ _ | assumption | refine Below.setCell ?_ ?_ _ | refine Below.drew ?_ | refine Below.alloc ?_ ?_ _ | refine Below.trans ?_ (Below.mono (by assumption) ?_) | (simp; done) | (simp; omega) | omega)))) (first | (go_at_call 53; refine (p_farI _ _ _ (by omega) (by omega)).mono ?_; rintro e w' ⟨rfl, rfl⟩))
        go_wp2_with (at_builtin; have hS15' := (hS12.out.setT HT4.out hgg (by omega) kt hkt (max j.2.2.2.2 (tx + absI (px - j.2.1)) + absI (j.2.1 - j.2.2.1))).setP HT4.out hgg (by omega) kt hkt j.2.2.1; rw [HK.out] at hS15'; have hS15 := hS15'; clear hS15'; refine wpList_push rfl (.tmp 99) (.tmp 104) 43 rfl 3 i0 _ 1 8 Try.underlying43 hI0 hI1 hI2 hI3 rfl (by decide) (fun _ => rfl) one_In w.heap.size A2 en.length c2 en rfl rfl (hS15.a2.below (by (repeat' (first | exact Below.refl _ _ | assumption | refine Below.setCell ?_ ?_ _ | refine Below.drew ?_ | refine Below.alloc ?_ ?_ _ | refine Below.trans ?_ (Below.mono (by assumption) ?_) | (simp; done) | (simp; omega) | omega)))) (max j.2.2.2.2 (tx + absI (px - j.2.1)) + absI (j.2.1 - j.2.2.1)) _ 1 rfl ?_ ?_ ?_ ?_ ?_; (refine news_In _ _ _ ?_ <;> simp [go_sem, ↓IntWalk.iteOmega, *]); (unfold maxLen; omega); omega; (simp; omega); intro A5 cp5 w5 hF5 hg5 hat5; have hS16 := RunSt.push2 (hS15.below (by (repeat' (first | exact Below.refl _ _ | assumption | refine Below.setCell ?_ ?_ _ | refine Below.drew ?_ | refine Below.alloc ?_ ?_ _ | refine Below.trans ?_ (Below.mono (by assumption) ?_) | (simp; done) | (simp; omega) | omega)))) hF5 hg5 hat5)
        go_roundw
        case rel =>
          refine ⟨k + 1, A3, cp3, A5, cp5, by omega, by go_num, ?_, ?_, ?_⟩
          · rw [E0.out]; simp
          · rw [E1.out]; simp
          · rw [E0.out, E1.out, E5.out, E6.out, Int.max_comm (tx + absI (px - j.2.1)) j.2.2.2.2]
            exact hS16
        case measure => simp [intOf]; omega

end Go.Proofs.Ytipipicfkjigdaa
