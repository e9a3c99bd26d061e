import Derived.Test.YtfipmalomhflgaaH1s
import Derived.Test.YtfipmalomhflgaaB9
namespace Go.Proofs.Ytfipmalomhflgaa
set_option linter.unusedSimpArgs false
set_option linter.unusedVariables false
open Go.RowKit

set_option maxRecDepth 100000 in
set_option maxHeartbeats 4000000 in
theorem c_spec_LeaveEarly (q : Int) (A : Option Addr) (xs : List (Int × Int × Int × Int × Int)) (cap : Nat) (z h : Int) (w : World) (hx : Rds cBer 5 w A xs) (hn : xs.length ≤ 9223372036854775807) :
    Calls Try.prog 27 #[.int .i64 q, .slice A xs.length cap, .int .i64 z, .int .i64 h] w fun e w' => ∃ A' cap', e = .returned (.tuple #[.slice A' (leaveV q xs z h).1.length cap', .bool (leaveV q xs z h).2]) ∧ FreshA cBer 5 48 w.heap.size w' A' cap' (leaveV q xs z h).1 ∧ Below w.heap.size w w' := by
  obtain ⟨i0, hI0, hI1, hI2, hI3⟩ := info_parts info_Ber
  by_cases hs0 : berV q xs = true
  rotate_left
  · have hn0 : berV q xs = false := Bool.eq_false_iff.2 hs0
    have HV := hid (leaveV_no (z := z) (h := h) hn0)
    clear hs0
    go_enter Try.func27, Try.ntmps27
    go_wp2_with (first | (go_at_call 52; refine (c_spec_l16Good _ _ _ _ _ (by first | assumption | exact Rds.below hx (by (repeat' (first | exact Below.refl _ _ | assumption | refine Below.setCell ?_ ?_ _ | refine Below.drew ?_ | refine Below.alloc ?_ ?_ _ | refine Below.trans ?_ (Below.mono (by assumption) ?_) | (simp; done) | (simp; omega) | omega)))) (by omega)).mono ?_; rintro e w' ⟨rfl, hb⟩; have hc := cellOf hb; have hf := frozOf hb; have hz := sizeOf hb; try simp at hz))
    go_ret2
    simp only [HV.out]
    exact ⟨_, _, rfl, FreshA.new (by (try simp at *); omega), by (repeat' (first | exact Below.refl _ _ | assumption | refine Below.setCell ?_ ?_ _ | refine Below.drew ?_ | refine Below.alloc ?_ ?_ _ | refine Below.trans ?_ (Below.mono (by assumption) ?_) | (simp; done) | (simp; omega) | omega))⟩
  have hlen := berV_len hs0
  have hqb := inB_bd (berV_quay hs0)
  go_enter Try.func27, Try.ntmps27
  go_wp2_with (first | (go_at_call 52; refine (c_spec_l16Good _ _ _ _ _ (by first | assumption | exact Rds.below hx (by (repeat' (first | exact Below.refl _ _ | assumption | refine Below.setCell ?_ ?_ _ | refine Below.drew ?_ | refine Below.alloc ?_ ?_ _ | refine Below.trans ?_ (Below.mono (by assumption) ?_) | (simp; done) | (simp; omega) | omega)))) (by omega)).mono ?_; rintro e w' ⟨rfl, hb⟩; have hc := cellOf hb; have hf := frozOf hb; have hz := sizeOf hb; try simp at hz))
  go_loopw [10] (fun i wr => ∃ k : Nat, k ≤ xs.length ∧ i = .int .i64 k ∧ (xs.take k).any (leaveP z h) = false ∧ Below w.heap.size w wr) (fun i _ => xs.length - (intOf i).toNat)
  case atStart => exact ⟨0, Nat.zero_le _, rfl, rfl, by (repeat' (first | exact Below.refl _ _ | assumption | refine Below.setCell ?_ ?_ _ | refine Below.drew ?_ | refine Below.alloc ?_ ?_ _ | refine Below.trans ?_ (Below.mono (by assumption) ?_) | (simp; done) | (simp; omega) | omega))⟩
  case round =>
    obtain ⟨k, hk, rfl, han, hbr⟩ := hrel
    have hc := cellOf hbr
    have hf := frozOf hbr
    have hz := sizeOf hbr
    by_cases hlt : k < xs.length
    rotate_left
    · obtain rfl : k = xs.length := by omega
      rw [List.take_length] at han
      have HV := hid (leaveV_none (q := q) (leave_none hs0 han))
      clear han
      go_wp2_with (fail)
      go_ret2
      simp only [HV.out]
      exact ⟨_, _, rfl, FreshA.new (by (try simp at *); omega), by (repeat' (first | exact Below.refl _ _ | assumption | refine Below.setCell ?_ ?_ _ | refine Below.drew ?_ | refine Below.alloc ?_ ?_ _ | refine Below.trans ?_ (Below.mono (by assumption) ?_) | (simp; done) | (simp; omega) | omega))⟩
    obtain ⟨bx, ox, rfl, hbx, hcx⟩ := Rds.all hx (by omega)
    have hx0 := hcx k hlt 0 _ rfl
    have hx1 := hcx k hlt 1 _ rfl
    have hx2 := hcx k hlt 2 _ rfl
    have hx3 := hcx k hlt 3 _ rfl
    have hx4 := hcx k hlt 4 _ rfl
    simp only [Nat.add_zero] at hx0
    have HX := hid hcx
    have hxb := berOk_bd (berV_at hs0 k hlt)
    have HS := hid (any_snoc (leaveP z h) xs k hlt)
    have HA := hid han
    have HH := hid (fun e => leaveV_some hs0 (leave_hit hs0 hlt (z := z) (h := h) e))
    clear hcx han hx
    obtain ⟨x, hxk⟩ : ∃ x, x = xs[k] := ⟨_, rfl⟩
    simp only [← hxk] at hx0 hx1 hx2 hx3 hx4 hxb HS HH
    have HXK := hid hxk
    clear hxk
    by_cases hid1 : x.1 = z
    rotate_left
    · have HN : Hid (leaveP z h x = false) := by show _ = _; simp [leaveP, hid1]
      clear HH
      go_wp2_with (first | (go_at_call 57; refine (c_spec_l1In _ _ _ _ ).mono ?_; rintro e w' ⟨rfl, hb⟩; have hc := cellOf hb; have hf := frozOf hb; have hz := sizeOf hb; try simp at hz))
      go_roundw
      case rel => exact ⟨k + 1, by omega, by go_num, by rw [HS.out, HA.out, HN.out]; rfl, by (repeat' (first | exact Below.refl _ _ | assumption | refine Below.setCell ?_ ?_ _ | refine Below.drew ?_ | refine Below.alloc ?_ ?_ _ | refine Below.trans ?_ (Below.mono (by assumption) ?_) | (simp; done) | (simp; omega) | omega))⟩
      case measure => simp [intOf]; omega
    by_cases hi : inB h (x.2.2.2.1 + 1) (x.2.2.2.2 - 1) = true
    rotate_left
    · have hin : inB h (x.2.2.2.1 + 1) (x.2.2.2.2 - 1) = false := Bool.eq_false_iff.2 hi
      have HN : Hid (leaveP z h x = false) := by show _ = _; simp [leaveP, hin]
      clear hi HH
      go_wp2_with (first | (go_at_call 57; refine (c_spec_l1In _ _ _ _ ).mono ?_; rintro e w' ⟨rfl, hb⟩; have hc := cellOf hb; have hf := frozOf hb; have hz := sizeOf hb; try simp at hz))
      go_roundw
      case rel => exact ⟨k + 1, by omega, by go_num, by rw [HS.out, HA.out, HN.out]; rfl, by (repeat' (first | exact Below.refl _ _ | assumption | refine Below.setCell ?_ ?_ _ | refine Below.drew ?_ | refine Below.alloc ?_ ?_ _ | refine Below.trans ?_ (Below.mono (by assumption) ?_) | (simp; done) | (simp; omega) | omega))⟩
      case measure => simp [intOf]; omega
    have HV := hid (HH.out (by simp only [leaveP, hi, hid1]; rfl))
    clear HH
    go_wp2_with (first | (first | (go_at_call 57; refine (c_spec_l1In _ _ _ _ ).mono ?_; rintro e w' ⟨rfl, hb⟩; have hc := cellOf hb; have hf := frozOf hb; have hz := sizeOf hb; try simp at hz)) | (at_builtin; refine wpList_pushes (xs := ([] : List (Int × Int × Int × Int × Int))) rfl (.tmp 42) (.tmp 43) 25 rfl 48 i0 _ 40 Try.underlying25 hI0 hI1 hI2 hI3 rfl (by decide) (fun _ => rfl) one_Ber 0 rfl rfl (FreshA.new (B := wr.heap.size + 1) (by first | omega | (simp; omega) | (simp at *; omega))) xs _ rfl bx ox _ rfl ?_ ?_ ?_ ?_ ?_; (exact fun p hp j u hu => (Below.cell (p := ⟨bx, _, none⟩) (show Below w.heap.size w _ by (repeat' (first | exact Below.refl _ _ | assumption | refine Below.setCell ?_ ?_ _ | refine Below.drew ?_ | refine Below.alloc ?_ ?_ _ | refine Below.trans ?_ (Below.mono (by assumption) ?_) | (simp; done) | (simp; omega) | omega))) hbx).trans (HX.out p hp j u hu)); (unfold maxLen; omega); omega; (simp; omega); intro A3 cp3 w3 hF3 hg3 hat3; simp only [List.nil_append, Nat.zero_add] at hF3; have hb3 := below_of_grown (B := w.heap.size) hg3 (fun a ha => by cases ha; first | omega | (simp; omega) | (simp at *; omega)) (by simp; omega); have hs3 := hg3.size; (try simp at hs3); have hBB : Below w.heap.size w w3 := Below.trans (show Below w.heap.size w _ by (repeat' (first | exact Below.refl _ _ | assumption | refine Below.setCell ?_ ?_ _ | refine Below.drew ?_ | refine Below.alloc ?_ ?_ _ | refine Below.trans ?_ (Below.mono (by assumption) ?_) | (simp; done) | (simp; omega) | omega))) hb3; obtain ⟨g3, rfl, hB3, hO3⟩ := FreshA.row hF3 (by omega); have hle3 : xs.length ≤ cp3 := (by obtain ⟨_, _, _, h, _⟩ := hO3; exact h); have hfz3 : ∀ o, w3.frozen? ⟨g3, o, none⟩ = false := fun o => hO3.frozen o; have hlt3 := hO3.lt; have hc3 : ∀ o, w3.cell? ⟨wr.heap.size, o, none⟩ = _ := fun o => World.cell?_of_block (a := ⟨wr.heap.size, o, none⟩) (hg3.block _ (by simp; omega) (by simp [blkO]; omega)); have hf3 : ∀ o, w3.frozen? ⟨wr.heap.size, o, none⟩ = _ := fun o => World.frozen?_of_block (a := ⟨wr.heap.size, o, none⟩) (hg3.block _ (by simp; omega) (by simp [blkO]; omega)); obtain ⟨u0, hu0⟩ := hO3.cell (k * 5) (by omega); obtain ⟨u1, hu1⟩ := hO3.cell (k * 5 + 1) (by omega); obtain ⟨u2, hu2⟩ := hO3.cell (k * 5 + 2) (by omega); obtain ⟨u3, hu3⟩ := hO3.cell (k * 5 + 3) (by omega); obtain ⟨u4, hu4⟩ := hO3.cell (k * 5 + 4) (by omega); have HO3 := hid hO3; clear hO3 hF3))
    go_ret2
    simp only [HV.out]
    refine ⟨some ⟨g3, 0, none⟩, cp3, by simp, .inr ⟨g3, rfl, by omega, ?_⟩, by (repeat' (first | refine Below.setCell ?_ ?_ _ | exact hBB | omega | (simp; omega)))⟩
    have HP := OwnS.put (cf := cBer) (sz := 5) (y := endAt x h) (fun _ => rfl) (OwnS.set_far HO3.out (p := ⟨wr.heap.size, 4, none⟩) (by show g3 ≠ wr.heap.size; omega) (.int .i64 h)) hlt
    rw [show cBer (endAt x h) = [.int .i64 z, .int .i64 x.2.1, .int .i64 x.2.2.1, .int .i64 x.2.2.2.1, .int .i64 h] by simp [cBer, endAt, hid1]] at HP
    simp only [stores, Nat.add_assoc, Nat.reduceAdd] at HP
    exact HP

end Go.Proofs.Ytfipmalomhflgaa
