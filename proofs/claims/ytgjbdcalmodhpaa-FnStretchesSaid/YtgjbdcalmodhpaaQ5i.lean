import Derived.Test.YtgjbdcalmodhpaaQ4
namespace Go.Proofs.Ytgjbdcalmodhpaa
set_option linter.unusedSimpArgs false
set_option linter.unusedVariables false
open Go.RowKit

set_option maxRecDepth 100000 in
set_option maxHeartbeats 16000000 in
theorem c_impl_MostPassages (A : Option Addr) (xs : List (Int × Bool × Int × Int)) (cap : Nat) (g : Int) (w : World) (hx : Rds cPas 4 w A xs) (hn : xs.length ≤ 9223372036854775807) :
    Calls Try.prog 37 #[.slice A xs.length cap, .int .i64 g] w fun e w' => ∃ A' cap', e = .returned (.tuple #[.slice A' (mostV xs g).1.length cap', .bool (mostV xs g).2]) ∧ FreshA cIn 1 3 w.heap.size w' A' cap' (mostV xs g).1 ∧ Below w.heap.size w w' := by
  obtain ⟨i0, hI0, hI1, hI2, hI3⟩ := info_parts info_In
  obtain ⟨j0, hJ0, hJ1, hJ2, hJ3⟩ := info_parts info_Pas
  by_cases hs0 : vB pOk pLt 6 xs = true
  rotate_left
  · have hn0 : vB pOk pLt 6 xs = false := Bool.eq_false_iff.2 hs0
    have HV := hid (show mostV xs g = ([], false) by simp [mostV, hn0])
    clear hs0
    go_enter Try.func37, Try.ntmps37
    go_wp2_with (first | (go_at_call 19; refine (c_impl_ArePassages _ _ _ _ (by first | assumption | exact Rds.below hx (by (repeat' (first | exact Below.refl _ _ | assumption | refine Below.setCell ?_ ?_ _ | refine Below.drew ?_ | refine Below.alloc ?_ ?_ _ | refine Below.trans ?_ (Below.mono (by assumption) ?_) | (simp; done) | (simp; omega) | omega)))) (by omega)).mono ?_; rintro e w' ⟨rfl, hb⟩; have hc := cellOf hb; have hf := frozOf hb; have hz := sizeOf hb; try simp at hz) | (go_at_call 56; refine (c_impl_isGap _ _ ).mono ?_; rintro e w' ⟨rfl, hb⟩; have hc := cellOf hb; have hf := frozOf hb; have hz := sizeOf hb; try simp at hz))
    all_goals go_ret2
    all_goals simp only [HV.out]
    all_goals exact ⟨none, 0, rfl, .inl ⟨rfl, rfl, rfl⟩, by (repeat' (first | exact Below.refl _ _ | assumption | refine Below.setCell ?_ ?_ _ | refine Below.drew ?_ | refine Below.alloc ?_ ?_ _ | refine Below.trans ?_ (Below.mono (by assumption) ?_) | (simp; done) | (simp; omega) | omega))⟩
  by_cases hs1 : gapB g = true
  rotate_left
  · have hn1 : gapB g = false := Bool.eq_false_iff.2 hs1
    have HV := hid (show mostV xs g = ([], false) by simp [mostV, hn1])
    clear hs1
    go_enter Try.func37, Try.ntmps37
    go_wp2_with (first | (go_at_call 19; refine (c_impl_ArePassages _ _ _ _ (by first | assumption | exact Rds.below hx (by (repeat' (first | exact Below.refl _ _ | assumption | refine Below.setCell ?_ ?_ _ | refine Below.drew ?_ | refine Below.alloc ?_ ?_ _ | refine Below.trans ?_ (Below.mono (by assumption) ?_) | (simp; done) | (simp; omega) | omega)))) (by omega)).mono ?_; rintro e w' ⟨rfl, hb⟩; have hc := cellOf hb; have hf := frozOf hb; have hz := sizeOf hb; try simp at hz) | (go_at_call 56; refine (c_impl_isGap _ _ ).mono ?_; rintro e w' ⟨rfl, hb⟩; have hc := cellOf hb; have hf := frozOf hb; have hz := sizeOf hb; try simp at hz))
    all_goals go_ret2
    all_goals simp only [HV.out]
    all_goals exact ⟨none, 0, rfl, .inl ⟨rfl, rfl, rfl⟩, by (repeat' (first | exact Below.refl _ _ | assumption | refine Below.setCell ?_ ?_ _ | refine Below.drew ?_ | refine Below.alloc ?_ ?_ _ | refine Below.trans ?_ (Below.mono (by assumption) ?_) | (simp; done) | (simp; omega) | omega))⟩
  have hlen := vB_len hs0
  obtain ⟨M, hM⟩ : ∃ M : Nat, 2 ^ xs.length = M := ⟨_, rfl⟩
  have HV := hid (show mostV xs g = (bstTo xs g M, true) by simp [mostV, hs0, hs1, hM])
  have HS0 := hid hs0
  have HS1 := hid hs1
  have HX := hid hx
  have hshl := most_shl hlen
  have hpw := most_pw hlen
  have HM := hid hM
  rw [hM] at hshl hpw
  clear hM
  have HSYM := hid (most_sym (g := g) hs0)
  clear hx
  go_enter Try.func37, Try.ntmps37
  go_wp2_with (first | (go_at_call 19; refine (c_impl_ArePassages _ _ _ _ (by first | assumption | exact Rds.below hx (by (repeat' (first | exact Below.refl _ _ | assumption | refine Below.setCell ?_ ?_ _ | refine Below.drew ?_ | refine Below.alloc ?_ ?_ _ | refine Below.trans ?_ (Below.mono (by assumption) ?_) | (simp; done) | (simp; omega) | omega)))) (by omega)).mono ?_; rintro e w' ⟨rfl, hb⟩; have hc := cellOf hb; have hf := frozOf hb; have hz := sizeOf hb; try simp at hz) | (go_at_call 56; refine (c_impl_isGap _ _ ).mono ?_; rintro e w' ⟨rfl, hb⟩; have hc := cellOf hb; have hf := frozOf hb; have hz := sizeOf hb; try simp at hz))
  clear hs0 hs1
  go_loopw [6, 24] (fun b i wr => ∃ (s : Nat) (A' : Option Addr) (cp : Nat), s ≤ M ∧ i = .int .i64 s ∧ b = .slice A' (bstTo xs g s).length cp ∧ FreshA cIn 1 3 w.heap.size wr A' cp (bstTo xs g s) ∧ Below w.heap.size w wr) (fun _ i _ => M - (intOf i).toNat)
  case atStart => exact ⟨0, _, _, Nat.zero_le _, rfl, rfl, FreshA.new (by first | omega | (simp; omega) | (simp at *; omega)), by (repeat' (first | exact Below.refl _ _ | assumption | refine Below.setCell ?_ ?_ _ | refine Below.drew ?_ | refine Below.alloc ?_ ?_ _ | refine Below.trans ?_ (Below.mono (by assumption) ?_) | (simp; done) | (simp; omega) | omega))⟩
  case round =>
    rename World => wo
    obtain ⟨s, A', cp, hk, rfl, rfl, hF, hbr⟩ := hrel
    clear hc hf hz hb
    have hzr := hbr.size
    by_cases hlt : s < M
    rotate_left
    · obtain rfl : s = M := by omega
      go_wp2_with (fail)
      go_ret2
      simp only [HV.out]
      exact ⟨A', cp, rfl, hF, by (repeat' (first | exact Below.refl _ _ | assumption | refine Below.setCell ?_ ?_ _ | refine Below.drew ?_ | refine Below.alloc ?_ ?_ _ | refine Below.trans ?_ (Below.mono (by assumption) ?_) | (simp; done) | (simp; omega) | omega))⟩
    have hs64 : s < 64 := by omega
    have hsi : (s : Int) < (M : Int) := by omega
    have hwu : IntKind.u64.wrap (s : Int) = (s : Int) := by rw [IntKind.wrap_u64]; omega
    have HB1 := hid (bstTo_succ (xs := xs) (g := g) s)
    have HLN := hid (ids_len (xs := xs) (s := s) xs.length)
    have HPP := hid (most_pop hlen (by rw [HM.out]; exact hlt))
    have hbl := bst_len (xs := xs) (g := g) s
    have hpl := pop_le s 6
    have HF := hid hF
    clear hF
    generalize bstTo xs g s = b at *
    by_cases hpop : popK s 6 < b.length
    · have hpi : ((popK s 6 : Nat) : Int) < (b.length : Int) := by omega
      have HK := hid (HB1.out.trans (bst_keep (by rw [HLN.out, ← HPP.out]; omega)))
      go_wp2_with (go_at_call 75; refine (c_ones s hs64 _).mono ?_; rintro e w' ⟨rfl, hw9⟩; rw [hw9]; clear hw9 w')
      go_roundw
      case rel => exact ⟨s + 1, A', cp, by omega, by go_num, by rw [HK.out], by rw [HK.out]; exact HF.out, hbr⟩
      case measure => simp [intOf]; omega
    have hpi : ¬ ((popK s 6 : Nat) : Int) < (b.length : Int) := by omega
    go_wp2_with (go_at_call 75; refine (c_ones s hs64 _).mono ?_; rintro e w' ⟨rfl, hw9⟩; rw [hw9]; clear hw9 w')
    go_loopw [8, 9, 37] (fun u v i wr => ∃ (k : Nat) (A1 : Option Addr) (c1 : Nat) (A2 : Option Addr) (c2 : Nat), k ≤ xs.length ∧ i = .int .i64 k ∧ u = .slice A1 (ownK xs s k).length c1 ∧ v = .slice A2 (idsK xs s k).length c2 ∧ TwoR wo.heap.size wr A1 c1 (ownK xs s k) A2 c2 (idsK xs s k) ∧ Below wo.heap.size wo wr) (fun _ _ i _ => xs.length - (intOf i).toNat)
    case atStart => exact ⟨0, _, 0, _, 0, Nat.zero_le _, rfl, rfl, rfl, twoR_init wo, by (repeat' (first | exact Below.refl _ _ | assumption | refine Below.setCell ?_ ?_ _ | refine Below.drew ?_ | refine Below.alloc ?_ ?_ _ | refine Below.trans ?_ (Below.mono (by assumption) ?_) | (simp; done) | (simp; omega) | omega))⟩
    case round =>
      obtain ⟨k, A1, c1, A2, c2, hkx, rfl, rfl, rfl, hT, hbv⟩ := hrel
      have hzv := hbv.size
      by_cases hltk : k < xs.length
      · obtain ⟨bx, ox, hxA, hbx, hcx⟩ := HX.out k xs[k] (List.getElem?_eq_getElem hltk)
        have hbxr : bx < wo.heap.size := by omega
        have hwv : ∀ o, wr.cell? ⟨bx, o, none⟩ = w.cell? ⟨bx, o, none⟩ := fun o => (hbv.cell (p := ⟨bx, o, none⟩) hbxr).trans (hbr.cell (p := ⟨bx, o, none⟩) hbx)
        have hx0 := (hwv _).trans (hcx 0 _ rfl)
        have hx1 := (hwv _).trans (hcx 1 _ rfl)
        have hx2 := (hwv _).trans (hcx 2 _ rfl)
        have hx3 := (hwv _).trans (hcx 3 _ rfl)
        simp only [Nat.add_zero] at hx0
        have hbit := most_bit hs64 (show k < 6 by omega)
        have hgd : xs.getD k p0 = xs[k] := by rw [List.getD_eq_getElem?_getD, List.getElem?_eq_getElem hltk]; rfl
        have HO1 : Hid (ownK xs s (k + 1) = ownK xs s k ++ (if bitS s k = true then [xs[k]] else [])) := by show ownK xs s k ++ (if bitS s k = true then [xs.getD k p0] else []) = _; rw [hgd]
        have HI1 := hid (ids_succ (xs := xs) (s := s) k)
        rw [hgd] at HI1
        have HL1 : Hid ((ownK xs s k).length ≤ 6) := by show _ ≤ _; rw [own_pop]; have := pop_le s k; omega
        have HL2 : Hid ((idsK xs s k).length ≤ 6) := by show _ ≤ _; rw [ids_len]; have := pop_le s k; omega
        have hl1 := HL1.out
        have hl2 := HL2.out
        have HT := hid hT
        subst hxA
        clear hcx hwv hgd hT HL1 HL2
        generalize xs[k] = x at *
        generalize ownK xs s k = own at *
        generalize idsK xs s k = ids at *
        by_cases hbt : bitS s k = true
        · rw [if_pos hbt] at hbit HO1 HI1
          go_wp2_with (first | (at_builtin; refine wpList_push rfl (.tmp 51) (.tmp 54) 51 rfl 3 i0 _ 1 8 Try.underlying51 hI0 hI1 hI2 hI3 rfl (by decide) (fun _ => rfl) one_In wo.heap.size A2 ids.length c2 ids rfl rfl (hT3.out.a2.below (by (repeat' (first | exact Below.refl _ _ | assumption | refine Below.setCell ?_ ?_ _ | refine Below.drew ?_ | refine Below.alloc ?_ ?_ _ | refine Below.trans ?_ (Below.mono (by assumption) ?_) | (simp; done) | (simp; omega) | omega)))) x.1 _ 1 rfl ?_ ?_ ?_ ?_ ?_; (refine news_In _ _ _ ?_ <;> simp [go_sem, ↓IntWalk.iteOmega, *]); (unfold maxLen; omega); omega; (simp; omega); intro A5 cp5 w5 hF5 hg5 hat5; have hT5 := TwoR.push2 (hT3.out.below (by (repeat' (first | exact Below.refl _ _ | assumption | refine Below.setCell ?_ ?_ _ | refine Below.drew ?_ | refine Below.alloc ?_ ?_ _ | refine Below.trans ?_ (Below.mono (by assumption) ?_) | (simp; done) | (simp; omega) | omega)))) hF5 hg5 hat5; have hBB5 := row_below3 (hT3.out.a2.below (by (repeat' (first | exact Below.refl _ _ | assumption | refine Below.setCell ?_ ?_ _ | refine Below.drew ?_ | refine Below.alloc ?_ ?_ _ | refine Below.trans ?_ (Below.mono (by assumption) ?_) | (simp; done) | (simp; omega) | omega)))) (show Below wo.heap.size wo _ by (repeat' (first | exact Below.refl _ _ | assumption | refine Below.setCell ?_ ?_ _ | refine Below.drew ?_ | refine Below.alloc ?_ ?_ _ | refine Below.trans ?_ (Below.mono (by assumption) ?_) | (simp; done) | (simp; omega) | omega))) hg5) | (at_builtin; refine wpList_push rfl (.tmp 47) (.tmp 49) 32 rfl 26 j0 _ 4 32 Try.underlying32 hJ0 hJ1 hJ2 hJ3 rfl (by decide) (fun _ => rfl) one_Pas wo.heap.size A1 own.length c1 own rfl rfl (HT.out.a1.below (by (repeat' (first | exact Below.refl _ _ | assumption | refine Below.setCell ?_ ?_ _ | refine Below.drew ?_ | refine Below.alloc ?_ ?_ _ | refine Below.trans ?_ (Below.mono (by assumption) ?_) | (simp; done) | (simp; omega) | omega)))) x _ 1 rfl ?_ ?_ ?_ ?_ ?_; (refine news_Pas _ _ _ ?_ ?_ ?_ ?_ <;> simp [go_sem, ↓IntWalk.iteOmega, *]); (unfold maxLen; omega); omega; (simp; omega); intro A3 cp3 w3 hF3 hg3 hat3; have hs3 := hg3.size; (try simp at hs3); have hT3 := hid (TwoR.push1 (HT.out.below (by (repeat' (first | exact Below.refl _ _ | assumption | refine Below.setCell ?_ ?_ _ | refine Below.drew ?_ | refine Below.alloc ?_ ?_ _ | refine Below.trans ?_ (Below.mono (by assumption) ?_) | (simp; done) | (simp; omega) | omega)))) hF3 hg3 hat3); have hbb3 := row_below3 (HT.out.a1.below (by (repeat' (first | exact Below.refl _ _ | assumption | refine Below.setCell ?_ ?_ _ | refine Below.drew ?_ | refine Below.alloc ?_ ?_ _ | refine Below.trans ?_ (Below.mono (by assumption) ?_) | (simp; done) | (simp; omega) | omega)))) (show Below wo.heap.size wo _ by (repeat' (first | exact Below.refl _ _ | assumption | refine Below.setCell ?_ ?_ _ | refine Below.drew ?_ | refine Below.alloc ?_ ?_ _ | refine Below.trans ?_ (Below.mono (by assumption) ?_) | (simp; done) | (simp; omega) | omega))) hg3; have hid3 : w3.cell? ⟨wr.heap.size, 0, none⟩ = some (.int .i64 x.1) := (World.cell?_of_block (a := ⟨wr.heap.size, 0, none⟩) (hg3.block wr.heap.size (by simp; omega) (blk_ne fun a ha => by have := HT.out.a1.hi a ha; omega))).trans (by simp [go_sem, ↓IntWalk.iteOmega])))
          go_roundw
          case rel => exact ⟨k + 1, A3, cp3, A5, cp5, by omega, by go_num, by rw [HO1.out]; simp, by rw [HI1.out]; simp, by rw [HO1.out, HI1.out]; exact hT5, hBB5⟩
          case measure => simp [intOf]; omega
        · rw [if_neg hbt] at hbit HO1 HI1
          rw [List.append_nil] at HO1 HI1
          go_wp2_with (fail)
          go_roundw
          case rel => exact ⟨k + 1, A1, c1, A2, c2, by omega, by go_num, by rw [HO1.out], by rw [HI1.out], by rw [HO1.out, HI1.out]; exact HT.out.below (by (repeat' (first | exact Below.refl _ _ | assumption | refine Below.setCell ?_ ?_ _ | refine Below.drew ?_ | refine Below.alloc ?_ ?_ _ | refine Below.trans ?_ (Below.mono (by assumption) ?_) | (simp; done) | (simp; omega) | omega))), by (repeat' (first | exact Below.refl _ _ | assumption | refine Below.setCell ?_ ?_ _ | refine Below.drew ?_ | refine Below.alloc ?_ ?_ _ | refine Below.trans ?_ (Below.mono (by assumption) ?_) | (simp; done) | (simp; omega) | omega))⟩
          case measure => simp [intOf]; omega
      obtain rfl : k = xs.length := by omega
      have HT := hid hT
      have HPR := hid (fr_pairs (s := s) HSYM.out)
      have HBDo := hid (own_bd HS0.out (s := s) xs.length (Nat.le_refl _))
      have hol : (ownK xs s xs.length).length ≤ 6 := by rw [own_pop]; have := pop_le s xs.length; omega
      have hil : (idsK xs s xs.length).length ≤ 6 := by rw [ids_len]; have := pop_le s xs.length; omega
      have HIL := hid (HLN.out.trans HPP.out.symm)
      have hge : b.length ≤ (idsK xs s xs.length).length := by rw [HIL.out]; omega
      have HKP := hid (bst_keep (xs := xs) (g := g) (b := b) (s := s))
      have HTK := hid (bst_take (xs := xs) (g := g) (b := b) (s := s))
      clear hT HIL HLN HPP hpop hpi
      generalize idsK xs s xs.length = ids at *
      generalize ownK xs s xs.length = own at *
      generalize frK xs s g xs.length = fr at *
      by_cases hpn : pairsV own g = []
      rotate_left
      · have hfr : ¬ fr = true := fun e => hpn (HPR.out.1 e)
        obtain ⟨L, hL⟩ : ∃ L, (pairsV own g).length = L := ⟨_, rfl⟩
        have hL0 : ¬ ((L : Int) = 0) := fun e => hpn (List.eq_nil_of_length_eq_zero (by omega))
        have HL := hid hL
        clear hL
        have HE := hid (HB1.out.trans (HKP.out (fun e => hfr e.1)))
        clear hpn hfr
        go_wp2_with (go_at_call 70; refine (c_impl_clashPairs _ own _ g _ (HT.out.a1.rds.below (by (repeat' (first | exact Below.refl _ _ | assumption | refine Below.setCell ?_ ?_ _ | refine Below.drew ?_ | refine Below.alloc ?_ ?_ _ | refine Below.trans ?_ (Below.mono (by assumption) ?_) | (simp; done) | (simp; omega) | omega)))) hol (FreshA.le_cap HT.out.a1) (FreshA.cap_max HT.out.a1) (fun k hk => HBDo.out _ (List.getElem_mem hk)) HS1.out).mono ?_; rintro e w9 ⟨A9, c9, rfl, hF9, hb9⟩; rw [HL.out]; clear hF9; have hz9 := hb9.size)
        go_roundw
        case rel => exact ⟨s + 1, A', cp, by omega, by go_num, by rw [HE.out], by rw [HE.out]; exact HF.out.below (by (repeat' (first | exact Below.refl _ _ | assumption | refine Below.setCell ?_ ?_ _ | refine Below.drew ?_ | refine Below.alloc ?_ ?_ _ | refine Below.trans ?_ (Below.mono (by assumption) ?_) | (simp; done) | (simp; omega) | omega))), by (repeat' (first | exact Below.refl _ _ | assumption | refine Below.setCell ?_ ?_ _ | refine Below.drew ?_ | refine Below.alloc ?_ ?_ _ | refine Below.trans ?_ (Below.mono (by assumption) ?_) | (simp; done) | (simp; omega) | omega))⟩
        case measure => simp [intOf]; omega
      have hfr : fr = true := HPR.out.2 hpn
      have HL := hid (show (pairsV own g).length = 0 by rw [hpn]; rfl)
      by_cases h1 : b.length < ids.length
      · have h1i : (b.length : Int) < (ids.length : Int) := by omega
        have HE := hid (HB1.out.trans (HTK.out hfr (.inl h1)))
        clear hpn hfr
        go_wp2_with (go_at_call 70; refine (c_impl_clashPairs _ own _ g _ (HT.out.a1.rds.below (by (repeat' (first | exact Below.refl _ _ | assumption | refine Below.setCell ?_ ?_ _ | refine Below.drew ?_ | refine Below.alloc ?_ ?_ _ | refine Below.trans ?_ (Below.mono (by assumption) ?_) | (simp; done) | (simp; omega) | omega)))) hol (FreshA.le_cap HT.out.a1) (FreshA.cap_max HT.out.a1) (fun k hk => HBDo.out _ (List.getElem_mem hk)) HS1.out).mono ?_; rintro e w9 ⟨A9, c9, rfl, hF9, hb9⟩; rw [HL.out]; clear hF9; have hz9 := hb9.size)
        go_roundw
        case rel => exact ⟨s + 1, A2, c2, by omega, by go_num, by rw [HE.out], by rw [HE.out]; exact (HT.out.a2.below (by (repeat' (first | exact Below.refl _ _ | assumption | refine Below.setCell ?_ ?_ _ | refine Below.drew ?_ | refine Below.alloc ?_ ?_ _ | refine Below.trans ?_ (Below.mono (by assumption) ?_) | (simp; done) | (simp; omega) | omega)))).mono hzr, by (repeat' (first | exact Below.refl _ _ | assumption | refine Below.setCell ?_ ?_ _ | refine Below.drew ?_ | refine Below.alloc ?_ ?_ _ | refine Below.trans ?_ (Below.mono (by assumption) ?_) | (simp; done) | (simp; omega) | omega))⟩
        case measure => simp [intOf]; omega
      have h1i : ¬ (b.length : Int) < (ids.length : Int) := by omega
      have HEQ := hid (show ids.length = b.length by omega)
      by_cases hlx : lexB ids b = true
      · have hcl := (cmpL_lex ids b).2 hlx
        have HE := hid (HB1.out.trans (HTK.out hfr (.inr ⟨HEQ.out, hlx⟩)))
        clear hpn hfr hlx
        go_wp2_with (first | (go_at_call 70; refine (c_impl_clashPairs _ own _ g _ (HT.out.a1.rds.below (by (repeat' (first | exact Below.refl _ _ | assumption | refine Below.setCell ?_ ?_ _ | refine Below.drew ?_ | refine Below.alloc ?_ ?_ _ | refine Below.trans ?_ (Below.mono (by assumption) ?_) | (simp; done) | (simp; omega) | omega)))) hol (FreshA.le_cap HT.out.a1) (FreshA.cap_max HT.out.a1) (fun k hk => HBDo.out _ (List.getElem_mem hk)) HS1.out).mono ?_; rintro e w9 ⟨A9, c9, rfl, hF9, hb9⟩; rw [HL.out]; clear hF9; have hz9 := hb9.size) | (go_at_call 76; refine (c_compareI _ ids _ _ b _ _ (HT.out.a2.rds.below (by (repeat' (first | exact Below.refl _ _ | assumption | refine Below.setCell ?_ ?_ _ | refine Below.drew ?_ | refine Below.alloc ?_ ?_ _ | refine Below.trans ?_ (Below.mono (by assumption) ?_) | (simp; done) | (simp; omega) | omega)))) (by omega) (HF.out.rds.below (by (repeat' (first | exact Below.refl _ _ | assumption | refine Below.setCell ?_ ?_ _ | refine Below.drew ?_ | refine Below.alloc ?_ ?_ _ | refine Below.trans ?_ (Below.mono (by assumption) ?_) | (simp; done) | (simp; omega) | omega)))) HEQ.out).mono ?_; rintro e w7 ⟨rfl, hw7⟩; rw [hw7]; clear hw7 w7))
        go_roundw
        case rel => exact ⟨s + 1, A2, c2, by omega, by go_num, by rw [HE.out], by rw [HE.out]; exact (HT.out.a2.below (by (repeat' (first | exact Below.refl _ _ | assumption | refine Below.setCell ?_ ?_ _ | refine Below.drew ?_ | refine Below.alloc ?_ ?_ _ | refine Below.trans ?_ (Below.mono (by assumption) ?_) | (simp; done) | (simp; omega) | omega)))).mono hzr, by (repeat' (first | exact Below.refl _ _ | assumption | refine Below.setCell ?_ ?_ _ | refine Below.drew ?_ | refine Below.alloc ?_ ?_ _ | refine Below.trans ?_ (Below.mono (by assumption) ?_) | (simp; done) | (simp; omega) | omega))⟩
        case measure => simp [intOf]; omega
      · have hcl : ¬ cmpL ids b < 0 := fun e => hlx ((cmpL_lex ids b).1 e)
        have HE := hid (HB1.out.trans (HKP.out (fun e => e.2.elim h1 (fun q => hlx q.2))))
        clear hpn hfr hlx
        go_wp2_with (first | (go_at_call 70; refine (c_impl_clashPairs _ own _ g _ (HT.out.a1.rds.below (by (repeat' (first | exact Below.refl _ _ | assumption | refine Below.setCell ?_ ?_ _ | refine Below.drew ?_ | refine Below.alloc ?_ ?_ _ | refine Below.trans ?_ (Below.mono (by assumption) ?_) | (simp; done) | (simp; omega) | omega)))) hol (FreshA.le_cap HT.out.a1) (FreshA.cap_max HT.out.a1) (fun k hk => HBDo.out _ (List.getElem_mem hk)) HS1.out).mono ?_; rintro e w9 ⟨A9, c9, rfl, hF9, hb9⟩; rw [HL.out]; clear hF9; have hz9 := hb9.size) | (go_at_call 76; refine (c_compareI _ ids _ _ b _ _ (HT.out.a2.rds.below (by (repeat' (first | exact Below.refl _ _ | assumption | refine Below.setCell ?_ ?_ _ | refine Below.drew ?_ | refine Below.alloc ?_ ?_ _ | refine Below.trans ?_ (Below.mono (by assumption) ?_) | (simp; done) | (simp; omega) | omega)))) (by omega) (HF.out.rds.below (by (repeat' (first | exact Below.refl _ _ | assumption | refine Below.setCell ?_ ?_ _ | refine Below.drew ?_ | refine Below.alloc ?_ ?_ _ | refine Below.trans ?_ (Below.mono (by assumption) ?_) | (simp; done) | (simp; omega) | omega)))) HEQ.out).mono ?_; rintro e w7 ⟨rfl, hw7⟩; rw [hw7]; clear hw7 w7))
        go_roundw
        case rel => exact ⟨s + 1, A', cp, by omega, by go_num, by rw [HE.out], by rw [HE.out]; exact HF.out.below (by (repeat' (first | exact Below.refl _ _ | assumption | refine Below.setCell ?_ ?_ _ | refine Below.drew ?_ | refine Below.alloc ?_ ?_ _ | refine Below.trans ?_ (Below.mono (by assumption) ?_) | (simp; done) | (simp; omega) | omega))), by (repeat' (first | exact Below.refl _ _ | assumption | refine Below.setCell ?_ ?_ _ | refine Below.drew ?_ | refine Below.alloc ?_ ?_ _ | refine Below.trans ?_ (Below.mono (by assumption) ?_) | (simp; done) | (simp; omega) | omega))⟩
        case measure => simp [intOf]; omega

end Go.Proofs.Ytgjbdcalmodhpaa
