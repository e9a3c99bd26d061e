import Derived.Test.YtfipmalomhflgaaQS08
import Derived.Lib.AppendZerosOnto
import Derived.Laws.NewBlocks
namespace Go.Proofs.Ytfipmalomhflgaa
set_option linter.unusedSimpArgs false
set_option linter.unusedVariables false
open Go.RowKit

set_option maxHeartbeats 4000000 in
set_option maxRecDepth 100000 in
theorem ins_grow (g cap : Nat) (xs : List (Int × Int × Int × Int × Int)) (i : Nat) (y : (Int × Int × Int × Int × Int)) (gv vc : Nat) (w : World) (hO : OwnS cBer 5 48 w g cap xs) (hi : i < xs.length) (hroom : cap < xs.length + 1) (hv : w.heap[gv]? = some (.cells (cBer y).toArray 48 (0, 0))) (hbig : xs.length ≤ 1000000) :
    Calls Try.prog 67 #[.slice (some ⟨g, 0, none⟩) xs.length cap, .int .i64 (i : Int), .slice (some ⟨gv, 0, none⟩) 1 vc] w fun e w' => ∃ cap', e = .returned (.slice (some ⟨w.heap.size, 0, none⟩) (xs.length + 1) cap') ∧ OwnS cBer 5 48 w' w.heap.size cap' (xs.take i ++ y :: xs.drop i) ∧ Below w.heap.size w w' := by
  obtain ⟨i0, hI0, hI1, hI2, hI3⟩ := info_parts info_Ber
  have u0 := Try.underlying25
  have u3 := Try.underlying3
  have z0 := Try.sizeOf48
  have mixed : Try.prog.follows Departure.mixedOrders = true := by kernel_rfl
  have hgw := hO.lt
  obtain ⟨cur, h1, h2, h3, h4, h5⟩ := OwnS.flat (sz := 5) (fun _ => rfl) (by decide) hO
  clear hO
  have hcl : ∀ p, w.cell? ⟨g, p, none⟩ = cur[p]? := fun p => by simp [World.cell?, h1]
  have hcv : ∀ p, w.cell? ⟨gv, p, none⟩ = (cBer y)[p]? := fun p => by simp [World.cell?, hv]
  obtain ⟨yc, hyc⟩ : ∃ yc : List Value, yc = cBer y := ⟨_, rfl⟩
  have hyl : yc.length = 5 := by rw [hyc]; rfl
  have hyc1 : ∀ v ∈ yc, v.oneCell' = true := by rw [hyc]; exact one_Ber y
  rw [← hyc] at hcv
  have HYC := hid hyc
  have HYL := hid hyl
  have hvw : gv < w.heap.size := Fresh.lt hv
  obtain ⟨n, hn⟩ : ∃ n, n = xs.length := ⟨_, rfl⟩
  have HN := hid hn
  have hfl : (xs.flatMap cBer).length = n * 5 := by rw [flatMap_len (sz := 5) (fun _ => rfl), hn]
  rw [← hn] at hi h3 hroom hbig ⊢
  have H5 := hid (hn ▸ h5)
  clear hn h5
  have hsz : (Try.prog.info? 48).map (·.size) = some 5 := by rw [hI0]; simp [hI2]
  obtain ⟨fl, hflat⟩ : ∃ fl, fl = xs.flatMap cBer := ⟨_, rfl⟩
  rw [← hflat] at hfl H5
  have hfc : ∀ p u, fl[p]? = some u → w.cell? ⟨g, p, none⟩ = some u := by
    intro p u hu
    have hp : p < n * 5 := by
      rw [← hfl]
      exact (List.getElem?_eq_some_iff.1 hu).1
    rw [hcl, H5.out p hp]
    exact hu
  have hf1 : ∀ v ∈ fl, v.oneCell' = true := by
    intro u hu
    rw [hflat] at hu
    obtain ⟨x, _, hx⟩ := List.mem_flatMap.1 hu
    exact one_Ber x u hx
  have hkk : (n : Int) + 1 - (i : Int) = ((n + 1 - i : Nat) : Int) := by omega
  have hik : i + (n + 1 - i) = n + 1 := by omega
  have hold : (Builtin.firstCells i0.size i (.slice (some ⟨g, 0, none⟩) i cap)).run Try.prog w.drew = .ok (fl.take (i * 5)).toArray w.drew := by
    rw [hI2]
    exact run_firstCells_some w.drew 5 i ⟨g, 0, none⟩ i cap (fl.take (i * 5)) (by rw [List.length_take, hfl]; omega) (fun j v hj => by
      rw [Addr.add_lit, Nat.zero_add]
      rw [List.getElem?_take] at hj
      split at hj
      · exact hfc j v hj
      · cases hj)
  obtain ⟨zc, hzc⟩ : ∃ zc, zc = (Value.agg #[.int .i64 0, .int .i64 0, .int .i64 0, .int .i64 0, .int .i64 0]).cells := ⟨_, rfl⟩
  have hzs : zc.size = 5 := by rw [hzc]; kernel_rfl
  have hrz : ∀ ty, (Builtin.append_ #[25, 3] ty #[.slice (some ⟨g, 0, none⟩) i cap, .int .i64 ((n : Int) + 1 - (i : Int))]).run Try.prog w =
      .ok (.slice (some ⟨w.heap.size, 0, none⟩) (n + 1) (grownCap w (n + 1) cap 48)) (w.drew.alloc (.cells ((fl.take (i * 5)).toArray ++ Builtin.zeroCells zc (n + 1 - i) ++ Builtin.zeroCells zc (grownCap w (n + 1) cap 48 - (n + 1))) 48)) := fun ty => by
    have h := Lib.run_append_grow_zeros w 25 3 ty 48 i0 _ .i64 .i64 u0 u3 hI0 hI1 (some ⟨g, 0, none⟩) i cap (fl.take (i * 5)) hold (n + 1 - i) (by omega) (by omega) (by omega) (by omega) (by rw [hI3]; omega) (by rw [hI3, hik]; exact growslice_fits hroom (by omega))
    rw [hik] at h
    rw [hkk, hzc]
    exact h
  obtain ⟨G, hG⟩ : ∃ G, G = grownCap w (n + 1) cap 48 := ⟨_, rfl⟩
  have hGn : n + 1 ≤ G := by rw [hG]; exact grownCap_ge w _ _ _
  have hGm : G ≤ maxLen := by rw [hG]; exact grownCap_le_maxLen w (n + 1) cap 48 (by unfold maxLen; omega)
  obtain ⟨ROW, hROW⟩ : ∃ ROW : Array Value, ROW = (fl.take (i * 5)).toArray ++ Builtin.zeroCells zc (n + 1 - i) ++ Builtin.zeroCells zc (G - (n + 1)) := ⟨_, rfl⟩
  rw [← hG] at hrz
  rw [← hROW] at hrz
  have hRs : ROW.size = G * 5 := by
    rw [hROW, Array.size_append, Array.size_append, size_zeroCells, size_zeroCells, hzs]
    simp only [List.size_toArray, List.length_take, hfl]
    have : min (i * 5) (n * 5) = i * 5 := by omega
    omega
  have hRa : ∀ p, p < i * 5 → ROW[p]? = fl[p]? := by
    intro p hp
    have hl : (fl.take (i * 5)).length = i * 5 := by rw [List.length_take, hfl]; omega
    rw [hROW, Array.append_assoc, Array.getElem?_append_left (by simp only [List.size_toArray, hl]; exact hp), List.getElem?_toArray, List.getElem?_take, if_pos hp]
  obtain ⟨ds, hds⟩ : ∃ ds, ds = fl.drop (i * 5) := ⟨_, rfl⟩
  have hdl : ds.length = (n - i) * 5 := by rw [hds, List.length_drop, hfl]; omega
  have hd1 : ∀ v ∈ ds, v.oneCell' = true := fun u hu => hf1 u (List.mem_of_mem_drop (hds ▸ hu))
  have hdc : ∀ t u, ds[t]? = some u → w.cell? ⟨g, i * 5 + t, none⟩ = some u := fun t u hu => hfc _ _ (by rw [hds, List.getElem?_drop] at hu; exact hu)
  obtain ⟨W1, hW1⟩ : ∃ W1, W1 = w.drew.alloc (.cells ROW 48) := ⟨_, rfl⟩
  have hh1 : W1.heap[w.heap.size]? = some (.cells ROW 48 (0, 0)) := by rw [hW1]; exact heap_alloc_new w.drew _
  rw [← hW1] at hrz
  have hN : ∀ p, p < G * 5 → (W1.cell? ⟨w.heap.size, p, none⟩).isSome = true := fun p hp => by
    rw [Fresh.cell hh1, Array.getElem?_eq_getElem (by omega)]; rfl
  have hNf : ∀ p, W1.frozen? ⟨w.heap.size, p, none⟩ = false := fun p => Fresh.froz hh1 p
  have hOld : ∀ b p, b < w.heap.size → W1.cell? ⟨b, p, none⟩ = w.cell? ⟨b, p, none⟩ := fun b p hb => by rw [hW1]; exact World.cell?_alloc_past (w := w.drew) _ b p hb
  have hcpA : ∀ (W : World), (∀ x, W.cell? x = W1.cell? x) → (∀ x, W.frozen? x = W1.frozen? x) → ∀ ty dc, (Builtin.copy_ #[25, 25] ty #[.slice (some ⟨w.heap.size, i * 5, none⟩) (n + 1 - i) dc, .slice (some ⟨gv, 0, none⟩) 1 vc]).run Try.prog W = .ok (goInt (Nat.min 1 (n + 1 - i))) (W.setCells w.heap.size (i * 5) yc) := fun W hWc hWf ty dc =>
    run_copy_k W _ _ ty 48 w.heap.size (i * 5) (n + 1 - i) dc ⟨gv, 0, none⟩ 1 vc 5 yc u0 hsz (by rw [show Nat.min 1 (n + 1 - i) = 1 by simp only [Nat.min_def]; split <;> omega, hyl])
      (fun j v hj => by rw [Addr.add_lit, Nat.zero_add, hWc, hOld _ _ hvw, hcv]; exact hj)
      (fun j hj => by rw [hWc]; exact hN _ (by omega)) (fun j hj => by rw [hWf]; exact hNf _) hyc1
  obtain ⟨W2, hW2⟩ : ∃ W2, W2 = W1.setCells w.heap.size (i * 5) yc := ⟨_, rfl⟩
  obtain ⟨cur1, e1, e2, e3⟩ := stores_heap (T := 48) yc W1 (i * 5) ROW hh1 (by rw [hRs]; omega)
  rw [← setCells_stores, ← hW2] at e1
  have hcpB : ∀ (W : World), (∀ x, W.cell? x = W2.cell? x) → (∀ x, W.frozen? x = W2.frozen? x) → ∀ ty dc sc, (Builtin.copy_ #[25, 25] ty #[.slice (some ⟨w.heap.size, (i + 1) * 5, none⟩) (n - i) dc, .slice (some ⟨g, i * 5, none⟩) (n - i) sc]).run Try.prog W = .ok (goInt (Nat.min (n - i) (n - i))) (W.setCells w.heap.size ((i + 1) * 5) ds) := fun W hWc hWf ty dc sc =>
    run_copy_k W _ _ ty 48 w.heap.size ((i + 1) * 5) (n - i) dc ⟨g, i * 5, none⟩ (n - i) sc 5 ds u0 hsz (by rw [hdl]; simp only [Nat.min_def]; split <;> omega)
      (fun j v hj => by
        rw [Addr.add_lit, hWc, hW2, World.cell?_setCells_out _ _ _ _ _ (fun h _ => absurd h (by show g ≠ w.heap.size; omega)), hOld _ _ hgw]
        exact hdc j v hj)
      (fun j hj => by rw [hWc, Fresh.cell e1, Array.getElem?_eq_getElem (by rw [e2, hRs]; omega)]; rfl)
      (fun j hj => by rw [hWf]; exact Fresh.froz e1 _) hd1
  have E1 := hid e1
  have E2 := hid e2
  have E3 := hid e3
  have HDL := hid hdl
  have HDS := hid hds
  have HRS := hid hRs
  have HRA := hid hRa
  have HFL := hid hflat
  have HW1 := hid hW1
  have HW2 := hid hW2
  subst hW2
  subst hW1
  have hE1 : ∀ x, ((w.alloc (.cells ROW 48)).drew).cell? x = (w.drew.alloc (.cells ROW 48)).cell? x := fun x => rfl
  have hE2 : ∀ x, ((w.alloc (.cells ROW 48)).drew).frozen? x = (w.drew.alloc (.cells ROW 48)).frozen? x := fun x => rfl
  have hcomm : (w.alloc (.cells ROW 48)).drew = w.drew.alloc (.cells ROW 48) := rfl
  have hF1 : ∀ x, (((w.alloc (.cells ROW 48)).drew.setCells w.heap.size (i * 5) yc).drew).cell? x = ((w.drew.alloc (.cells ROW 48)).setCells w.heap.size (i * 5) yc).cell? x := fun x => by rw [hcomm]; exact cellDrew _ _
  have hF2 : ∀ x, (((w.alloc (.cells ROW 48)).drew.setCells w.heap.size (i * 5) yc).drew).frozen? x = ((w.drew.alloc (.cells ROW 48)).setCells w.heap.size (i * 5) yc).frozen? x := fun x => by rw [hcomm]; exact frozDrew _ _
  have hz2 : ¬ ((i : Int) = (n : Int)) := by omega
  have hz3 : (cap : Int) < (n : Int) + 1 := by omega
  have hG63 : G ≤ 9223372036854775807 := by unfold maxLen at hGm; omega
  have hGi : ¬ (G = i) := by omega
  have hGim : ¬ (G = i + 1) := by omega
  have hci : ¬ (cap = i) := by omega
  have hw1 : IntKind.i64.wrap ((i : Int) + 1) = (i : Int) + 1 := by rw [IntKind.wrap_i64]; omega
  have hb1 : (0 : Int) ≤ (i : Int) + 1 := by omega
  have hin : i ≤ n := by omega
  have htn : ((i : Int) + 1).toNat = i + 1 := by omega
  have hb3 : (i : Int) ≤ (n : Int) := by omega
  have hb5 : (i : Int) + 1 ≤ (n : Int) + 1 := by omega
  have HCOMM := hid hcomm
  clear hyc hyl hyc1 hcomm hkk hik hold hROW hG hRs hRa hcl hcv hfl hflat hfc hf1 hdl hd1 hdc hds hzs hzc hh1 hN hNf hOld e1 e2 e3 h1 h2 hv hsz
  go_enter Try.func67, Try.ntmps67
  go_wp2_with (first
    | (at_builtin; refine Lib.wpList_append_run _ rfl _ _ _ _ rfl _ _ rfl rfl _ _ (hrz _) ?_)
    | (at_builtin; refine wpList_copy_runI _ rfl _ _ 25 25 rfl _ _ rfl rfl (hcpA _ hE1 hE2 _ _) ?_))
  go_region_law_o (refine step_copy_runI rfl _ _ 25 25 rfl (.slice (some ⟨w.heap.size, (i + 1) * 5, none⟩) (n - i) (G - (i + 1))) (.slice (some ⟨g, i * 5, none⟩) (n - i) (cap - i)) (by simp [Act.eval, Act.put]) (by simp [Act.eval, Act.put]) (hcpB _ hF1 hF2 3 (G - (i + 1)) (cap - i)) ?_)
  go_wp2
  go_ret
  have hn := HN.out
  have hyl := HYL.out
  refine ⟨G, rfl, ?_, ?_⟩
  · rw [setCells_stores]
    obtain ⟨cur2, d1, d2, d3⟩ := stores_heap (T := 48) (g := w.heap.size) ds (((w.alloc (.cells ROW 48)).drew.setCells w.heap.size (i * 5) yc).drew) ((i + 1) * 5) cur1 (by rw [HCOMM.out]; exact heapDrewAt E1.out) (by rw [HDL.out, E2.out, HRS.out]; omega)
    refine OwnS.of_ins (sz := 5) (fun _ => rfl) (by omega) d1 (by rw [d2, E2.out, HRS.out]) (by omega) hGm (fun p hp => ?_) (fun p hp => ?_) (fun p hp => ?_)
    · rw [d3, if_neg (by omega), E3.out, if_neg (by omega), HRA.out p (by omega), HFL.out]
    · rw [d3, if_neg (by omega), E3.out, if_pos (by omega), Nat.add_sub_cancel_left, HYC.out]
    · rw [d3, if_pos (by rw [HDL.out]; omega), HDS.out, List.getElem?_drop, HFL.out]
      congr 1
      omega
  · rw [setCells_stores]
    refine stores_below ds _ _ (Below.drew ?_) (Nat.le_refl _)
    rw [setCells_stores]
    exact stores_below yc _ _ (Below.drew (Below.alloc (Below.refl _ _) (Nat.le_refl _) _)) (Nat.le_refl _)
/-- slices.Insert(s, i, y) on a slice of the caller's own -/
theorem c_Insert (A : Option Addr) (cap : Nat) (xs : List (Int × Int × Int × Int × Int)) (i B : Nat) (y : (Int × Int × Int × Int × Int)) (gv vc : Nat) (w : World) (hF : FreshA cBer 5 48 B w A cap xs) (hi : i ≤ xs.length) (hv : w.heap[gv]? = some (.cells (cBer y).toArray 48 (0, 0))) (hne : NeB gv A) (hB : B ≤ w.heap.size) (hbig : xs.length ≤ 1000000) :
    Calls Try.prog 67 #[.slice A xs.length cap, .int .i64 (i : Int), .slice (some ⟨gv, 0, none⟩) 1 vc] w fun e w' => ∃ A' cap', e = .returned (.slice A' (xs.length + 1) cap') ∧ FreshA cBer 5 48 B w' A' cap' (xs.take i ++ y :: xs.drop i) ∧ w.grownBy w' (blkO A) ∧ (blkO A' = blkO A ∨ blkO A' = some w.heap.size) := by
  rcases Nat.lt_or_ge i xs.length with hlt | hge
  · rcases hF with ⟨_, rfl, _⟩ | ⟨g, rfl, hBg, hO⟩
    · simp at hlt
    · rcases Nat.lt_or_ge cap (xs.length + 1) with hc | hc
      · refine (ins_grow g cap xs i y gv vc w hO hlt hc hv hbig).mono ?_
        rintro e w' ⟨cap', h1, h2, h3⟩
        exact ⟨_, cap', h1, .inr ⟨_, rfl, hB, h2⟩, grown_of_below h3, .inr rfl⟩
      · refine (ins_room g cap xs i y gv vc w hO hlt hc hv (fun e => hne _ rfl e.symm) hbig).mono ?_
        rintro e w' ⟨h1, h2, h3⟩
        exact ⟨_, cap, h1, .inr ⟨_, rfl, hBg, h2⟩, h3, .inl rfl⟩
  · have : i = xs.length := by omega
    subst this
    refine (ins_end A cap xs B y gv vc w hF hv hB hbig).mono ?_
    rintro e w' ⟨A', c', h1, h2, h3, h4⟩
    rw [List.take_length, List.drop_length]
    exact ⟨A', c', h1, h2, h3, h4⟩

end Go.Proofs.Ytfipmalomhflgaa
