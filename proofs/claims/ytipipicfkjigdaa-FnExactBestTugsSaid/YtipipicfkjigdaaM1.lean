import Derived.Test.YtipipicfkjigdaaM0b
import Derived.Test.YtipipicfkjigdaaT1
import Derived.Deep.RegionHeld3
import Derived.OwnWalk
namespace Go.Proofs.Ytipipicfkjigdaa
set_option linter.unusedSimpArgs false
set_option linter.unusedVariables false
open Go.RowKit

theorem getD_lt {α : Type} {l : List α} {d : α} {k : Nat} (h : k < l.length) : l.getD k d = l[k] := by rw [List.getD_eq_getElem?_getD, List.getElem?_eq_getElem h]; rfl
theorem tow_step {ts : List TugT} {js : List JobT} {who : List Int} (k : Nat) (hj : k < js.length) (hw : k < who.length) :
    endsK ts js who (k + 1) = endsK ts js who k ++ [max ((towS ts js who k).2 who[k] + absI ((towS ts js who k).1 who[k] - js[k].2.1)) js[k].2.2.2.2 + absI (js[k].2.1 - js[k].2.2.1)] ∧
    waitK ts js who (k + 1) = waitK ts js who k + (max ((towS ts js who k).2 who[k] + absI ((towS ts js who k).1 who[k] - js[k].2.1)) js[k].2.2.2.2 - js[k].2.2.2.2) ∧
    towdK ts js who (k + 1) = (fun i => if i = who[k] then towdK ts js who k who[k] + absI (js[k].2.1 - js[k].2.2.1) else towdK ts js who k i) ∧
    othK ts js who (k + 1) = (fun i => if i = who[k] then othK ts js who k who[k] + absI ((towS ts js who k).1 who[k] - js[k].2.1) else othK ts js who k i) ∧
    (towS ts js who (k + 1)).1 = (fun i => if i = who[k] then js[k].2.2.1 else (towS ts js who k).1 i) ∧
    (towS ts js who (k + 1)).2 = (fun i => if i = who[k] then max ((towS ts js who k).2 who[k] + absI ((towS ts js who k).1 who[k] - js[k].2.1)) js[k].2.2.2.2 + absI (js[k].2.1 - js[k].2.2.1) else (towS ts js who k).2 i) := by
  have e1 : js.getD k j0 = js[k] := getD_lt hj
  have e2 : who.getD k 0 = who[k] := getD_lt hw
  refine ⟨?_, ?_, ?_, ?_, ?_, ?_⟩
  · rw [endsK_succ, endK, begK, e1, e2]; rfl
  · rw [waitK, begK, e1, e2]; rfl
  · funext i
    show (if i = who.getD k 0 then towdK ts js who k i + runJ (js.getD k j0) else towdK ts js who k i) = _
    rw [e1, e2]
    by_cases h : i = who[k]
    · subst h; rfl
    · rw [if_neg h, if_neg h]
  · funext i
    show (if i = who.getD k 0 then othK ts js who k i + wayS (towS ts js who k) (js.getD k j0) (who.getD k 0) else othK ts js who k i) = _
    rw [e1, e2]
    by_cases h : i = who[k]
    · subst h; rfl
    · rw [if_neg h, if_neg h]
  · show (stepS (towS ts js who k) (js.getD k j0) (who.getD k 0)).1 = _
    rw [e1, e2]; rfl
  · show (stepS (towS ts js who k) (js.getD k j0) (who.getD k 0)).2 = _
    rw [e1, e2]; rfl
theorem pl_step {ts : List TugT} (k : Nat) (hk : k < ts.length) : plK ts (k + 1) = fun i => if i = ts[k].1 then ts[k].2.1 else plK ts k i := by
  funext i
  show (if i = (ts.getD k t0).1 then (ts.getD k t0).2.1 else plK ts k i) = _
  rw [getD_lt hk]
theorem beg_step {ts : List TugT} {js : List JobT} {who : List Int} (k : Nat) (hj : k < js.length) (hw : k < who.length) :
    begsK ts js who (k + 1) = begsK ts js who k ++ [max ((towS ts js who k).2 who[k] + absI ((towS ts js who k).1 who[k] - js[k].2.1)) js[k].2.2.2.2] := by
  rw [begsK_succ, begK, getD_lt hj, getD_lt hw]; rfl

set_option maxRecDepth 100000 in
set_option maxHeartbeats 16000000 in
theorem c_impl_towAll (A : Option Addr) (ts : List TugT) (capt : Nat) (B : Option Addr) (js : List JobT) (capj : Nat) (C : Option Addr) (who : List Int) (capw : Nat) (w : World) (hx : Rds cTug 3 w A ts) (hn : ts.length ≤ 9223372036854775807) (hy : Rds cJob 5 w B js) (hm : js.length ≤ 9223372036854775807) (hr : Rds cIn 1 w C who) (hq : who.length ≤ 9223372036854775807) (ht4 : vB tugOk tugLt 4 ts = true) (hj5 : vB jobOk jobLt 5 js = true) (hlen : js.length ≤ who.length) (hwb : ∀ k (hk : k < who.length), 0 ≤ who[k] ∧ who[k] ≤ 99) :
    Calls Try.prog 59 #[.slice A ts.length capt, .slice B js.length capj, .slice C who.length capw] w fun e w' => ∃ A' cp m1 m2, e = .returned (.agg #[.slice A' js.length cp, .int .i64 (waitK ts js who js.length), .map (some m1), .map (some m2)]) ∧ FreshA cIn 1 3 w.heap.size w' A' cp (endsK ts js who js.length) ∧ MapI w' m1 (ts.length + 4 * js.length) (towdK ts js who js.length) ∧ MapI w' m2 (ts.length + 4 * js.length) (othK ts js who js.length) ∧ Below w.heap.size w w' := by
  obtain ⟨i0, hI0, hI1, hI2, hI3⟩ := info_parts info_In
  have hmm := @run_makeMap Try.prog
  have ht5 := vB_len ht4
  have hj6 := vB_len hj5
  have HT4 := hid ht4
  have HJ5 := hid hj5
  have HWB := hid hwb
  have HX := hid hx
  have HY := hid hy
  have HR := hid hr
  have HOO := hid (show w.heap.size ≤ w.heap.size ∧ w.heap.size < (w.heap.size + 1) ∧ (w.heap.size + 1) < (w.heap.size + 1 + 1) ∧ (w.heap.size + 1 + 1) < (w.heap.size + 1 + 1 + 1) ∧ (w.heap.size + 1 + 1 + 1) < (w.heap.size + 1 + 1 + 1 + 1) ∧ (w.heap.size + 1 + 1 + 1 + 1) < (w.heap.size + 1 + 1 + 1 + 1 + 1) ∧ (w.heap.size + 1 + 1 + 1 + 1 + 1) < (w.heap.size + 1 + 1 + 1 + 1 + 1 + 1) by omega)
  clear ht4 hj5 hwb hx hy hr
  go_enter Try.func59, Try.ntmps59
  go_wp2_with (fail)
  go_loopw [26] (fun i wr => ∃ k : Nat, k ≤ ts.length ∧ i = .int .i64 k ∧ TowSt w w.heap.size (w.heap.size + 1) (w.heap.size + 1 + 1) (w.heap.size + 1 + 1 + 1) (w.heap.size + 1 + 1 + 1 + 1) (w.heap.size + 1 + 1 + 1 + 1 + 1) (w.heap.size + 1 + 1 + 1 + 1 + 1 + 1) wr [] 0 (fun _ => 0) (fun _ => 0) (plK ts k) (fun _ => 0) k) (fun i _ => ts.length - (intOf i).toNat)
  case atStart => exact ⟨0, Nat.zero_le _, rfl, towSt_init w⟩
  case round =>
    obtain ⟨k, hk, rfl, hS⟩ := hrel
    have hbr := hS.bel
    have hc := cellOf hbr
    have hf := frozOf hbr
    have hz := hS.sz
    by_cases hlt : k < ts.length
    · obtain ⟨bx, ox, rfl, hbx, hcx⟩ := HX.out k ts[k] (List.getElem?_eq_getElem hlt)
      have hx0 := hcx 0 _ rfl
      have hx1 := hcx 1 _ rfl
      have hx2 := hcx 2 _ rfl
      simp only [Nat.add_zero] at hx0
      have HP := hid (pl_step k hlt)
      have htb := tugOk_bd (vB_at HT4.out k hlt)
      have HS := hid hS
      clear hcx hS
      generalize ts[k] = t at *
      go_wp2_with (at_mapUpdate; refine wpList_storeI (HS.out.below HOO.out (by (repeat' (first | exact Below.refl _ _ | assumption | refine Below.setCell ?_ ?_ _ | refine Below.drew ?_ | refine Below.alloc ?_ ?_ _ | refine Below.trans ?_ (Below.mono (by assumption) ?_) | (simp; done) | (simp; omega) | omega)))).m3 rfl _ _ _ rfl rfl (by unfold maxLen; omega) t.1 t.2.1 rfl rfl (WalkArith.wf_i64 (by omega)) (WalkArith.wf_i64 (by omega)) ?_; intro w1 hm1 hg1)
      go_roundw
      case rel => exact ⟨k + 1, by omega, by go_num, by rw [HP.out]; exact TowSt.put3 (HS.out.below HOO.out (by (repeat' (first | exact Below.refl _ _ | assumption | refine Below.setCell ?_ ?_ _ | refine Below.drew ?_ | refine Below.alloc ?_ ?_ _ | refine Below.trans ?_ (Below.mono (by assumption) ?_) | (simp; done) | (simp; omega) | omega)))) HOO.out hg1 hm1⟩
      case measure => simp [intOf]; omega
    obtain rfl : k = ts.length := by omega
    have HS := hid hS
    clear hS hc hf
    go_wp2_with (fail)
    clear hz hbr hk hlt
    go_loopw [38] (fun i wr => ∃ k : Nat, k ≤ js.length ∧ i = .int .i64 k ∧ TowSt w w.heap.size (w.heap.size + 1) (w.heap.size + 1 + 1) (w.heap.size + 1 + 1 + 1) (w.heap.size + 1 + 1 + 1 + 1) (w.heap.size + 1 + 1 + 1 + 1 + 1) (w.heap.size + 1 + 1 + 1 + 1 + 1 + 1) wr (endsK ts js who k) (waitK ts js who k) (towdK ts js who k) (othK ts js who k) (towS ts js who k).1 (towS ts js who k).2 (ts.length + 4 * k)) (fun i _ => js.length - (intOf i).toNat)
    case atStart => exact ⟨0, Nat.zero_le _, rfl, HS.out⟩
    case round =>
      obtain ⟨k, hk, rfl, hS⟩ := hrel
      have hbr := hS.bel
      have hc := cellOf hbr
      have hf := frozOf hbr
      have hz := hS.sz
      clear HS
      by_cases hlt : k < js.length
      rotate_left
      · obtain rfl : k = js.length := by omega
        obtain ⟨A9, c9, hk0, hF9, hR0⟩ := hS.e0
        have hk1 := hS.c1
        have hk2 := hS.c2
        have hk3 := hS.c3
        have hq0 := hS.q0
        have hq1 := hS.q1
        have hq2 := hS.q2
        have hq3 := hS.q3
        have hzz := hS.z0
        rw [endsK_len] at hk0
        have HF9 := hid hF9
        have HS := hid hS
        clear hF9 hS hc hf
        go_wp2_with (fail)
        have hne0 : NeB w.heap.size A9 := fun a ha e => by have := hR0 a ha; omega
        refine bodyPost_ret (v := .agg #[.slice A9 js.length c9, .int .i64 (waitK ts js who js.length), .map (some (w.heap.size + 1 + 1)), .map (some (w.heap.size + 1 + 1 + 1))]) ?_ rfl ⟨A9, c9, _, _, rfl, ?_, ?_, ?_, ?_⟩
        · simp [results, Try.results59, go_sem, ↓IntWalk.iteOmega, *]
        · exact (((HF9.out.set_ne hne0 _ _).set_ne hne0 _ _).set_ne hne0 _ _).set_ne hne0 _ _
        · exact (((HS.out.m1.set (by omega)).set (by omega)).set (by omega)).set (by omega)
        · exact (((HS.out.m2.set (by omega)).set (by omega)).set (by omega)).set (by omega)
        · (repeat' (first | exact Below.refl _ _ | assumption | refine Below.setCell ?_ ?_ _ | refine Below.drew ?_ | refine Below.alloc ?_ ?_ _ | refine Below.trans ?_ (Below.mono (by assumption) ?_) | (simp; done) | (simp; omega) | omega))
      have hltw : k < who.length := by omega
      obtain ⟨e1, e2, e3, e4, e5, e6⟩ := tow_step (ts := ts) (js := js) (who := who) k hlt hltw
      obtain ⟨bx, ox, rfl, hbx, hcx⟩ := HR.out k who[k] (List.getElem?_eq_getElem hltw)
      have hx0 := hcx 0 _ rfl
      simp only [Nat.add_zero, Nat.mul_one] at hx0
      obtain ⟨bj, oj, rfl, hbj, hcj⟩ := HY.out k js[k] (List.getElem?_eq_getElem hlt)
      have hj0 := hcj 0 _ rfl
      have hj1 := hcj 1 _ rfl
      have hj2 := hcj 2 _ rfl
      have hj3 := hcj 3 _ rfl
      have hj4 := hcj 4 _ rfl
      simp only [Nat.add_zero] at hj0
      have hjb := jobOk_bd (vB_at HJ5.out k hlt)
      have hxb := HWB.out k hltw
      have hps := towS_bd (who := who) HT4.out HJ5.out k who[k]
      have hd1b := towdK_bd (ts := ts) (who := who) HJ5.out k who[k]
      have hd2b := othK_bd (who := who) HT4.out HJ5.out k who[k]
      have hwtb := waitK_bd (who := who) HT4.out HJ5.out k (by omega)
      obtain ⟨px, hpx⟩ : ∃ p, (towS ts js who k).1 who[k] = p := ⟨_, rfl⟩
      obtain ⟨tx, htx⟩ : ∃ p, (towS ts js who k).2 who[k] = p := ⟨_, rfl⟩
      obtain ⟨d1, hd1⟩ : ∃ p, towdK ts js who k who[k] = p := ⟨_, rfl⟩
      obtain ⟨d2, hd2⟩ : ∃ p, othK ts js who k who[k] = p := ⟨_, rfl⟩
      simp only [hpx, htx, hd1, hd2] at e1 e2 e3 e4 e5 e6 hps hd1b hd2b
      have E1 := hid e1
      have E2 := hid e2
      have E3 := hid e3
      have E4 := hid e4
      have E5 := hid e5
      have E6 := hid e6
      have HPX := hid hpx
      have HTX := hid htx
      have HD1 := hid hd1
      have HD2 := hid hd2
      have HS := hid hS
      clear hcx hcj e1 e2 e3 e4 e5 e6 hpx htx hd1 hd2 hS
      generalize who[k] = x at *
      generalize js[k] = j at *
      have hwy := absI_bd hps.1 ⟨hjb.2.2.1, hjb.2.2.2.1⟩
      have hrn := absI_bd (a := j.2.1) (b := j.2.2.1) (by omega) (by omega)
      go_wp2_with (fail)
      refine wp_named ?_
      intro W hW
      have hB : Below wr.heap.size wr W := by rw [hW]; (repeat' (first | exact Below.refl _ _ | assumption | refine Below.setCell ?_ ?_ _ | refine Below.drew ?_ | refine Below.alloc ?_ ?_ _ | refine Below.trans ?_ (Below.mono (by assumption) ?_) | (simp; done) | (simp; omega) | omega))
      have p1 : W.cell? ⟨wr.heap.size, 1, none⟩ = some (.int .i64 j.2.1) := by rw [hW]; simp [go_sem, ↓IntWalk.iteOmega, *]
      have p2 : W.cell? ⟨wr.heap.size, 2, none⟩ = some (.int .i64 j.2.2.1) := by rw [hW]; simp [go_sem, ↓IntWalk.iteOmega, *]
      have p4 : W.cell? ⟨wr.heap.size, 4, none⟩ = some (.int .i64 j.2.2.2.2) := by rw [hW]; simp [go_sem, ↓IntWalk.iteOmega, *]
      have pz : wr.heap.size < W.heap.size := by rw [hW]; simp
      clear hW hc hf hx0 hj0 hj1 hj2 hj3 hj4
      have hS := HS.out.below HOO.out hB
      have hlk3 := hS.m3.drew.run (i := x) (WalkArith.wf_i64 (by omega))
      rw [HPX.out] at hlk3
      obtain ⟨A9, c9, hk0, hF9, hR9⟩ := hS.e0
      have hi9 : ∀ g, some g = blkO A9 → (g = (w.heap.size + 1) ∨ (w.heap.size + 1 + 1 + 1 + 1 + 1 + 1) < g) ∧ g < wr.heap.size := fun g e => by
        obtain ⟨A8, c8, ha, hb8, hr8⟩ := HS.out.e0
        have : W.cell? ⟨(w.heap.size + 1 + 1 + 1 + 1), 0, none⟩ = wr.cell? ⟨(w.heap.size + 1 + 1 + 1 + 1), 0, none⟩ := hB.cell (p := ⟨(w.heap.size + 1 + 1 + 1 + 1), 0, none⟩) (by show (w.heap.size + 1 + 1 + 1 + 1) < wr.heap.size; omega)
        rw [this, ha] at hk0
        simp only [Option.some.injEq, Value.slice.injEq] at hk0
        obtain ⟨rfl, _, _⟩ := hk0
        cases hA : A8 with
        | none => rw [hA] at e; cases e
        | some a =>
          rw [hA] at e
          simp only [blkO, Option.map_some, Option.some.injEq] at e
          have h1 := hr8 a hA
          have h2 := hb8.hi a hA
          subst e
          exact ⟨h1, h2⟩
      have hl9 := hF9.lo
      have hk1 := hS.c1
      have hk2 := hS.c2
      have hk3 := hS.c3
      have hkz := hS.z4
      have HF9 := hid hF9
      have HS12 := hid hS
      have hlen9 : (endsK ts js who k).length ≤ 5 := by rw [endsK_len]; omega
      have hwr1 := wr_id (x := px - j.2.1) (by omega)
      have hwr2 := wr_id (x := j.2.1 - j.2.2.1) (by omega)
      have hb6 : (w.heap.size + 1 + 1 + 1 + 1 + 1 + 1) < W.heap.size := hS.sz
      clear hF9 hS
      go_region_held3 (fun w' => w' = W.drew) (first | rfl | assumption) (first | (go_at_call 54; refine (p_absI _ _ (by omega)).mono ?_; rintro e w' ⟨rfl, rfl⟩))
      generalize endsK ts js who k = en at *
      go_wp2_with (first | (at_mapUpdate; refine wpList_storeI hS18.m4 rfl _ _ _ rfl rfl (by unfold maxLen; omega) x ((max (tx + absI (px - j.2.1)) j.2.2.2.2) + absI (j.2.1 - j.2.2.1)) rfl rfl (WalkArith.wf_i64 (by omega)) (WalkArith.wf_i64 (by omega)) ?_; intro w7 hm7 hg7; have hS19 := hS18.put4 HOO.out hg7 hm7) | (at_mapUpdate; refine wpList_storeI hS17.m3 rfl _ _ _ rfl rfl (by unfold maxLen; omega) x j.2.2.1 rfl rfl (WalkArith.wf_i64 (by omega)) (WalkArith.wf_i64 (by omega)) ?_; intro w6 hm6 hg6; have hS18 := hS17.put3 HOO.out hg6 hm6) | (at_mapUpdate; refine wpList_storeI hS16.m2 rfl _ _ _ rfl rfl (by unfold maxLen; omega) x (d2 + absI (px - j.2.1)) rfl rfl (WalkArith.wf_i64 (by omega)) (WalkArith.wf_i64 (by omega)) ?_; intro w5 hm5 hg5; have hS17 := hS16.put2 HOO.out hg5 hm5; have hj5 : w5.cell? ⟨wr.heap.size, 2, none⟩ = some (.int .i64 j.2.2.1) := (World.cell?_of_block (a := ⟨wr.heap.size, 2, none⟩) (hg5.block wr.heap.size (by have := hg4.size; simp at this; omega) (by simp; omega))).trans hj4) | (at_lookup; refine wpList_lookJ hS16.m2 rfl _ _ rfl rfl x d2 HD2.out rfl (WalkArith.wf_i64 (by omega)) ?_) | (at_mapUpdate; refine wpList_storeI (hS14.putw HOO.out _).m1 rfl _ _ _ rfl rfl (by unfold maxLen; omega) x (d1 + absI (j.2.1 - j.2.2.1)) rfl rfl (WalkArith.wf_i64 (by omega)) (WalkArith.wf_i64 (by omega)) ?_; intro w4 hm4 hg4; have hS16 := (hS14.putw HOO.out _).put1 HOO.out hg4 hm4; have hk43 := hS16.c3; have hj4 : w4.cell? ⟨wr.heap.size, 2, none⟩ = some (.int .i64 j.2.2.1) := (World.cell?_of_block (a := ⟨wr.heap.size, 2, none⟩) (hg4.block wr.heap.size (by simp; omega) (by simp; omega))).trans (by rw [cellSet, if_neg (by omega), cellSet, if_neg (by omega)]; exact hj32)) | (at_lookup; refine wpList_lookJ (hS14.putw HOO.out _).m1 rfl _ _ rfl rfl x d1 HD1.out rfl (WalkArith.wf_i64 (by omega)) ?_) | (at_builtin; refine wpList_push rfl (.tmp 69) (.tmp 73) 43 rfl 3 i0 _ 1 8 Try.underlying43 hI0 hI1 hI2 hI3 rfl (by decide) (fun _ => rfl) one_In w.heap.size A9 en.length c9 en rfl rfl (HF9.out.below (by (repeat' (first | exact Below.refl _ _ | assumption | refine Below.setCell ?_ ?_ _ | refine Below.drew ?_ | refine Below.alloc ?_ ?_ _ | refine Below.trans ?_ (Below.mono (by assumption) ?_) | (simp; done) | (simp; omega) | omega)))) ((max (tx + absI (px - j.2.1)) j.2.2.2.2) + absI (j.2.1 - j.2.2.1)) _ 1 rfl ?_ ?_ ?_ ?_ ?_; (refine news_In _ _ _ ?_ <;> simp [go_sem, ↓IntWalk.iteOmega, *]); (unfold maxLen; omega); omega; (simp; omega); intro A3 cp3 w3 hF3 hg3 hat3; have hs3 := hg3.size; (try simp at hs3); have hb3 : ∀ g, g < W.heap.size → (g ≤ (w.heap.size + 1 + 1 + 1 + 1 + 1 + 1) ∧ g ≠ (w.heap.size + 1) ∨ g = wr.heap.size) → w3.heap[g]? = W.heap[g]? := fun g h1 h2 => (hg3.block g (by simp; omega) (fun e => by have := hi9 g e; omega)).trans (Below.heap_alloc _ _ _ h1); have h3c : ∀ o, w3.cell? ⟨(w.heap.size + 1 + 1 + 1 + 1), o, none⟩ = W.cell? ⟨(w.heap.size + 1 + 1 + 1 + 1), o, none⟩ := fun o => World.cell?_of_block (a := ⟨(w.heap.size + 1 + 1 + 1 + 1), o, none⟩) (hb3 ((w.heap.size + 1 + 1 + 1 + 1)) (by omega) (by omega)); have h3z : ∀ o, w3.frozen? ⟨(w.heap.size + 1 + 1 + 1 + 1), o, none⟩ = false := fun o => (World.frozen?_of_block (a := ⟨(w.heap.size + 1 + 1 + 1 + 1), o, none⟩) (hb3 ((w.heap.size + 1 + 1 + 1 + 1)) (by omega) (by omega))).trans (hkz o); have h3j : ∀ o, w3.cell? ⟨wr.heap.size, o, none⟩ = W.cell? ⟨wr.heap.size, o, none⟩ := fun o => World.cell?_of_block (a := ⟨wr.heap.size, o, none⟩) (hb3 wr.heap.size pz (.inr rfl)); have hk30 := (h3c 0).trans hk0; have hk31 := (h3c 1).trans hk1; have hk32 := (h3c 2).trans hk2; have hk33 := (h3c 3).trans hk3; have hj32 := (h3j 2).trans p2; have hj34 := (h3j 4).trans p4; have hS14 := (HS12.out.below HOO.out (by (repeat' (first | exact Below.refl _ _ | assumption | refine Below.setCell ?_ ?_ _ | refine Below.drew ?_ | refine Below.alloc ?_ ?_ _ | refine Below.trans ?_ (Below.mono (by assumption) ?_) | (simp; done) | (simp; omega) | omega)))).push HOO.out (A := A9) (cp := c9) (by simp [go_sem, ↓IntWalk.iteOmega, *]) hR9 hF3 hg3 hat3; clear h3c h3j hb3) | (at_lookup; refine wpList_lookJ HS12.out.m4.drew rfl _ _ rfl rfl x tx HTX.out rfl (WalkArith.wf_i64 (by omega)) ?_))
      go_roundw
      case rel =>
        refine ⟨k + 1, by omega, by go_num, ?_⟩
        rw [E1.out, E2.out, E3.out, E4.out, E5.out, E6.out]
        exact hS19
      case measure => simp [intOf]; omega

end Go.Proofs.Ytipipicfkjigdaa
