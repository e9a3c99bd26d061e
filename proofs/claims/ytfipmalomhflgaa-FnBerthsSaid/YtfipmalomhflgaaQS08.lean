import Derived.Test.YtfipmalomhflgaaQS06
import Derived.Test.YtfipmalomhflgaaQS03
import Derived.Deep.RegionLaw
import Derived.Shelf.RegionOpenPlain
import Derived.Lib.Walk
import Derived.Laws.Externs
import Derived.Shelf.Spec.SlicesInsert
namespace Go.Proofs.Ytfipmalomhflgaa
set_option linter.unusedSimpArgs false
set_option linter.unusedVariables false
open Go.RowKit

set_option maxHeartbeats 4000000 in
set_option maxRecDepth 100000 in
theorem ins_end (A : Option Addr) (cap : Nat) (xs : List (Int × Int × Int × Int × Int)) (B : Nat) (y : (Int × Int × Int × Int × Int)) (gv vc : Nat) (w : World) (hF : FreshA cBer 5 48 B w A cap xs) (hv : w.heap[gv]? = some (.cells (cBer y).toArray 48 (0, 0))) (hB : B ≤ w.heap.size) (hbig : xs.length ≤ 1000000) :
    Calls Try.prog 67 #[.slice A xs.length cap, .int .i64 (xs.length : Int), .slice (some ⟨gv, 0, none⟩) 1 vc] w fun e w' => ∃ A' cap', e = .returned (.slice A' (xs.length + 1) cap') ∧ FreshA cBer 5 48 B w' A' cap' (xs ++ [y]) ∧ w.grownBy w' (blkO A) ∧ (blkO A' = blkO A ∨ blkO A' = some w.heap.size) := by
  obtain ⟨i0, hI0, hI1, hI2, hI3⟩ := info_parts info_Ber
  have hlo := hF.lo
  have hnews : ∀ i (hi : i < ([y] : List (Int × Int × Int × Int × Int)).length) j u, (cBer ([y] : List (Int × Int × Int × Int × Int))[i])[j]? = some u → w.cell? ⟨gv, 0 + i * 5 + j, none⟩ = some u := by
    intro i hi j u hu
    obtain rfl : i = 0 := by simpa using hi
    simp only [World.cell?, hv]
    simp at hu ⊢
    exact hu
  have HN := hid hnews
  clear hnews
  have HF := hid hF
  rcases hF with ⟨rfl, rfl, rfl⟩ | ⟨g, rfl, hBg, hO⟩
  · go_enter Try.func67, Try.ntmps67
    go_wp2_with (at_builtin; refine wpList_pushes rfl (.tmp 23) (.tmp 24) 25 rfl 48 i0 _ 40 Try.underlying25 hI0 hI1 hI2 hI3 rfl (by decide) (fun _ => rfl) one_Ber 0 rfl rfl HF.out [y] 1 rfl gv 0 vc rfl HN.out (by unfold maxLen; decide) (by decide) hB ?_; intro A3 cp3 w3 hF3 hg3 hat3; have hb3 := below_of_grown (B := B) hg3 hlo hB)
    go_ret
    exact ⟨A3, cp3, rfl, hF3, hg3, hat3⟩
  · clear hO
    go_enter Try.func67, Try.ntmps67
    go_wp2_with (at_builtin; refine wpList_pushes rfl (.tmp 23) (.tmp 24) 25 rfl 48 i0 _ 40 Try.underlying25 hI0 hI1 hI2 hI3 rfl (by decide) (fun _ => rfl) one_Ber xs.length rfl rfl HF.out [y] 1 rfl gv 0 vc rfl HN.out (by unfold maxLen; omega) (by omega) hB ?_; intro A3 cp3 w3 hF3 hg3 hat3; have hb3 := below_of_grown (B := B) hg3 hlo hB)
    all_goals go_ret
    all_goals exact ⟨A3, cp3, rfl, hF3, hg3, hat3⟩
set_option maxHeartbeats 4000000 in
set_option maxRecDepth 100000 in
theorem ins_room (g cap : Nat) (xs : List (Int × Int × Int × Int × Int)) (i : Nat) (y : (Int × Int × Int × Int × Int)) (gv vc : Nat) (w : World) (hO : OwnS cBer 5 48 w g cap xs) (hi : i < xs.length) (hroom : xs.length + 1 ≤ cap) (hv : w.heap[gv]? = some (.cells (cBer y).toArray 48 (0, 0))) (hne : gv ≠ g) (hbig : xs.length ≤ 1000000) :
    Calls Try.prog 67 #[.slice (some ⟨g, 0, none⟩) xs.length cap, .int .i64 (i : Int), .slice (some ⟨gv, 0, none⟩) 1 vc] w fun e w' => e = .returned (.slice (some ⟨g, 0, none⟩) (xs.length + 1) cap) ∧ OwnS cBer 5 48 w' g cap (xs.take i ++ y :: xs.drop i) ∧ w.grownBy w' (some g) := by
  obtain ⟨i0, hI0, hI1, hI2, hI3⟩ := info_parts info_Ber
  have u0 := Try.underlying25
  have z0 := Try.sizeOf48
  have mixed : Try.prog.follows Departure.mixedOrders = true := by kernel_rfl
  obtain ⟨cur, h1, h2, h3, h4, h5⟩ := OwnS.flat (sz := 5) (fun _ => rfl) (by decide) hO
  clear hO
  have hmx : cap ≤ 9223372036854775807 := by unfold maxLen at h4; omega
  have hcl : ∀ p, w.cell? ⟨g, p, none⟩ = cur[p]? := fun p => by simp [World.cell?, h1]
  have hfr : ∀ p, w.frozen? ⟨g, p, none⟩ = false := fun p => by simp [World.frozen?, h1]
  have hcv : ∀ p, w.cell? ⟨gv, p, none⟩ = (cBer y)[p]? := fun p => by simp [World.cell?, hv]
  have hfv : ∀ p, w.frozen? ⟨gv, p, none⟩ = false := fun p => by simp [World.frozen?, hv]
  have hsa : w.shape? gv = some (48, 5) := by simp [World.shape?, hv, cBer]
  have hsb : w.shape? g = some (48, cap * 5) := by simp [World.shape?, h1, h2]
  have hov : ∀ lb cb, (callFunc 83 #[.slice (some ⟨gv, 0, none⟩) 1 vc, .slice (some ⟨g, (i + 1) * 5, none⟩) lb cb]).run Try.prog w = .ok (.value (.bool false)) w := fun lb cb => by
    rw [run_callFunc_extern Try.func83 (by kernel_rfl) (by kernel_rfl) (by kernel_rfl) (e := Extern.SlicesOverlaps.overlaps #[25, 25] #[4]) (by kernel_rfl),
      Lib.run_overlaps_apart w 25 4 48 u0 5 z0 ⟨gv, 0, none⟩ ⟨g, (i + 1) * 5, none⟩ 1 vc lb cb hne 48 48 5 (cap * 5) hsa hsb (by omega) (hfv _) (hfv _)]
    rfl
  have H1 := hid h1
  have H5 := hid h5
  obtain ⟨n, hn⟩ : ∃ n, n = xs.length := ⟨_, rfl⟩
  have HN := hid hn
  have hfl : (xs.flatMap cBer).length = n * 5 := by rw [flatMap_len (sz := 5) (fun _ => rfl), hn]
  rw [← hn] at hi h3 hroom hbig ⊢
  clear hn
  have hsz : (Try.prog.info? 48).map (·.size) = some 5 := by rw [hI0]; simp [hI2]
  obtain ⟨ds, hds⟩ : ∃ ds, ds = (xs.flatMap cBer).drop (i * 5) := ⟨_, rfl⟩
  have hdl : ds.length = (n - i) * 5 := by rw [hds, List.length_drop, hfl]; omega
  have hd1 : ∀ v ∈ ds, v.oneCell' = true := by
    intro u hu
    rw [hds] at hu
    obtain ⟨x, _, hx⟩ := List.mem_flatMap.1 (List.mem_of_mem_drop hu)
    exact one_Ber x u hx
  have hdc : ∀ t u, ds[t]? = some u → w.cell? ⟨g, i * 5 + t, none⟩ = some u := by
    intro t u hu
    have ht : t < (n - i) * 5 := by
      rw [← hdl]
      exact (List.getElem?_eq_some_iff.1 hu).1
    rw [hds, List.getElem?_drop] at hu
    rw [hcl, H5.out _ (by rw [← HN.out]; omega)]
    exact hu
  have hcp1 : ∀ ty dc sc, (Builtin.copy_ #[25, 25] ty #[.slice (some ⟨g, (i + 1) * 5, none⟩) (n - i) dc, .slice (some ⟨g, i * 5, none⟩) (n + 1 - i) sc]).run Try.prog w.drew = .ok (goInt (Nat.min (n + 1 - i) (n - i))) (w.drew.setCells g ((i + 1) * 5) ds) := fun ty dc sc =>
    run_copy_k w.drew _ _ ty 48 g ((i + 1) * 5) (n - i) dc ⟨g, i * 5, none⟩ (n + 1 - i) sc 5 ds u0 hsz (by rw [hdl]; simp only [Nat.min_def]; split <;> omega)
      (fun j v hj => by rw [Addr.add_lit]; exact hdc j v hj)
      (fun j hj => by show (w.cell? _).isSome = true; rw [hcl, Array.getElem?_eq_getElem (by rw [h2]; omega)]; rfl) (fun j hj => hfr _) hd1
  obtain ⟨W1, hW1⟩ : ∃ W1, W1 = w.drew.setCells g ((i + 1) * 5) ds := ⟨_, rfl⟩
  obtain ⟨cur1, e1, e2, e3⟩ := stores_heap (T := 48) ds w.drew ((i + 1) * 5) cur H1.out (by rw [hdl, h2]; omega)
  rw [← setCells_stores, ← hW1] at e1
  have hcl1 : ∀ p, W1.cell? ⟨g, p, none⟩ = cur1[p]? := fun p => by simp [World.cell?, e1]
  have hfr1 : ∀ p, W1.frozen? ⟨g, p, none⟩ = false := fun p => by simp [World.frozen?, e1]
  have hcv1 : ∀ p, W1.cell? ⟨gv, p, none⟩ = (cBer y)[p]? := fun p => by rw [hW1, World.cell?_setCells_out g _ _ _ _ (fun h _ => absurd h hne)]; exact hcv p
  have hcp2 : ∀ (W : World), (∀ x, W.cell? x = W1.cell? x) → (∀ x, W.frozen? x = W1.frozen? x) → ∀ ty dc, (Builtin.copy_ #[25, 25] ty #[.slice (some ⟨g, i * 5, none⟩) (n + 1 - i) dc, .slice (some ⟨gv, 0, none⟩) 1 vc]).run Try.prog W = .ok (goInt (Nat.min 1 (n + 1 - i))) (W.setCells g (i * 5) (cBer y)) := fun W hWc hWf ty dc =>
    run_copy_k W _ _ ty 48 g (i * 5) (n + 1 - i) dc ⟨gv, 0, none⟩ 1 vc 5 (cBer y) u0 hsz (by rw [show Nat.min 1 (n + 1 - i) = 1 by simp only [Nat.min_def]; split <;> omega]; rfl)
      (fun j v hj => by rw [Addr.add_lit, Nat.zero_add, hWc, hcv1]; exact hj)
      (fun j hj => by rw [hWc, hcl1, Array.getElem?_eq_getElem (by rw [e2, h2]; have : (cBer y).length = 5 := rfl; omega)]; rfl) (fun j hj => by rw [hWf]; exact hfr1 _) (one_Ber y)
  rw [← hW1] at hcp1
  have E1 := hid e1
  have E2 := hid e2
  have E3 := hid e3
  have HDL := hid hdl
  have HDS := hid hds
  have h2' := hid h2
  have HW := hid hW1
  clear e1 e2 e3 hdl hds h2 hW1 hcl1 hfr1 hcv1 hcl hfr hcv hfv hsa hsb hdc hd1 hfl h1 h5 hv hsz
  have hw1 : IntKind.i64.wrap ((i : Int) + 1) = (i : Int) + 1 := by rw [IntKind.wrap_i64]; omega
  have hz2 : ¬ ((i : Int) = (n : Int)) := by omega
  have hb0 : (0 : Int) ≤ (i : Int) := by omega
  have hb1 : (0 : Int) ≤ (i : Int) + 1 := by omega
  have hin : i ≤ n := by omega
  have htn : ((i : Int) + 1).toNat = i + 1 := by omega
  have hb2 : ¬ (cap = i + 1) := by omega
  have hb3 : (i : Int) ≤ (n : Int) + 1 := by omega
  have hb4 : ¬ (cap = i) := by omega
  have hb5 : (i : Int) + 1 ≤ (n : Int) + 1 := by omega
  go_enter Try.func67, Try.ntmps67
  go_wp2_with (simp only [hov])
  go_region_law_o (refine step_copy_runI rfl _ _ 25 25 rfl _ _ (by simp [Act.eval, Act.put]) (by simp [Act.eval, Act.put]) (hcp1 _ _ _) ?_)
  go_wp2_with (at_builtin; refine wpList_copy_runI _ rfl _ _ 25 25 rfl _ _ rfl rfl (hcp2 _ (fun _ => rfl) (fun _ => rfl) _ _) ?_)
  go_ret
  have hn := HN.out
  refine ⟨rfl, ?_, ?_⟩
  · obtain ⟨cur2, d1, d2, d3⟩ := stores_heap (T := 48) (cBer y) W1 (i * 5) cur1 E1.out (by have : (cBer y).length = 5 := rfl; rw [E2.out, h2'.out]; omega)
    have hyl : (cBer y).length = 5 := rfl
    rw [setCells_stores]
    refine OwnS.of_ins (sz := 5) (fun _ => rfl) (by omega) d1 (by rw [d2, E2.out, h2'.out]) (by omega) h4 (fun p hp => ?_) (fun p hp => ?_) (fun p hp => ?_)
    · rw [d3, if_neg (by omega), E3.out, if_neg (by omega)]
      exact H5.out p (by omega)
    · rw [d3, if_pos (by omega), Nat.add_sub_cancel_left]
    · rw [d3, if_neg (by omega), E3.out, if_pos (by rw [HDL.out]; omega), HDS.out, List.getElem?_drop]
      congr 1
      omega
  · rw [setCells_stores]
    refine grown_stores (cBer y) W1 _ ?_
    rw [HW.out, setCells_stores]
    exact grown_stores ds w.drew _ (grown_drew0 w _)

end Go.Proofs.Ytfipmalomhflgaa
