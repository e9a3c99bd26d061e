import Derived.Test.YtpaclngjmdacjaaQP06
import Derived.Test.YtpaclngjmdacjaaQP03
import Derived.Deep.RegionLaw
import Derived.Shelf.RegionOpenPlain
import Derived.Lib.Walk
import Derived.Test.YtpaclngjmdacjaaQP11
namespace Go.Proofs.Ytpaclngjmdacjaa
set_option linter.unusedSimpArgs false
set_option linter.unusedVariables false
open Go.RowKit

set_option maxHeartbeats 4000000 in
set_option maxRecDepth 100000 in
theorem c_Delete (A : Option Addr) (cap : Nat) (xs : List (Int × Int × Int)) (i B : Nat) (w : World) (hF : FreshA cPu 3 71 B w A cap xs) (hi : i < xs.length) :
    Calls Try.prog 63 #[.slice A xs.length cap, .int .i64 (i : Int), .int .i64 ((i : Int) + 1)] w fun e w' => e = .returned (.slice A (xs.length - 1) cap) ∧ FreshA cPu 3 71 B w' A cap (xs.take i ++ xs.drop (i + 1)) ∧ Below B w w' := by
  obtain ⟨i0, hi0, hz0, hz1, hz2⟩ := info_parts info_Pu
  have u0 := Try.underlying29
  have mixed : Try.prog.follows Departure.mixedOrders = true := by kernel_rfl
  rcases hF with ⟨_, rfl, _⟩ | ⟨g, rfl, hB, hO⟩
  · simp at hi
  obtain ⟨cur, h1, h2, h3, h4, h5⟩ := OwnS.flat (sz := 3) (fun _ => rfl) (by decide) hO
  clear hO
  have hcl : ∀ p, w.cell? ⟨g, p, none⟩ = cur[p]? := fun p => by simp [World.cell?, h1]
  have hfr : ∀ p, w.frozen? ⟨g, p, none⟩ = false := fun p => by simp [World.frozen?, h1]
  have hm : cap ≤ 9223372036854775807 := by unfold maxLen at h4; omega
  have H1 := hid h1
  have H5 := hid h5
  clear h1 h5
  obtain ⟨n, hn⟩ : ∃ n, n = xs.length := ⟨_, rfl⟩
  have HN := hid hn
  have hfl : (xs.flatMap cPu).length = n * 3 := by rw [flatMap_len (sz := 3) (fun _ => rfl), hn]
  rw [← hn] at hi h3 ⊢
  clear hn
  obtain ⟨news, hnews⟩ : ∃ news, news = (xs.flatMap cPu).drop ((i + 1) * 3) := ⟨_, rfl⟩
  have hlen : news.length = (n - (i + 1)) * 3 := by rw [hnews, List.length_drop, hfl]; omega
  have hget : ∀ t u, news[t]? = some u → w.cell? ⟨g, (i + 1) * 3 + t, none⟩ = some u := by
    intro t u hu
    have ht : t < (n - (i + 1)) * 3 := by
      rw [← hlen]
      exact (List.getElem?_eq_some_iff.1 hu).1
    rw [hnews, List.getElem?_drop] at hu
    rw [hcl, H5.out _ (by rw [← HN.out]; omega)]
    exact hu
  obtain ⟨D, hD, hsrc⟩ : ∃ D : Addr, (if cap = i + 1 then some (⟨g, 0, none⟩ : Addr) else some ⟨g, (i + 1) * 3, none⟩) = some D ∧ Hid (∀ t u, news[t]? = some u → w.drew.cell? (D.add t) = some u) := by
    by_cases h : cap = i + 1
    · refine ⟨⟨g, 0, none⟩, by simp [h], fun t u hu => ?_⟩
      have h0 : news.length = 0 := by rw [hlen]; omega
      rw [List.length_eq_zero_iff.1 h0] at hu
      simp at hu
    · refine ⟨⟨g, (i + 1) * 3, none⟩, by simp [h], fun t u hu => ?_⟩
      rw [Addr.add_lit]
      exact hget t u hu
  have s1 : Hid (news.length = (n - (i + 1)) * 3) := hlen
  have s2 : Hid (∀ u ∈ news, u.oneCell' = true) := by
    intro u hu
    rw [hnews] at hu
    obtain ⟨x, _, hx⟩ := List.mem_flatMap.1 (List.mem_of_mem_drop hu)
    simp [cPu] at hx
    rcases hx with rfl | rfl | rfl <;> rfl
  have s3 : Hid (∀ t, t < news.length → (w.drew.cell? ⟨g, 0 + i * 3 + t, none⟩).isSome = true ∧ w.drew.frozen? ⟨g, 0 + i * 3 + t, none⟩ = false) := by
    intro t ht
    rw [hlen] at ht
    refine ⟨?_, hfr _⟩
    show (w.cell? _).isSome = true
    rw [hcl, Array.getElem?_eq_getElem (by rw [h2]; omega)]
    rfl
  obtain ⟨W1, hW1⟩ : ∃ W1, W1 = w.drew.setCells g (0 + i * 3) news := ⟨_, rfl⟩
  have hW := hid hW1
  obtain ⟨cur1, e1, e2, e3⟩ := stores_heap (T := 71) news w.drew (0 + i * 3) cur H1.out (by rw [hlen, h2]; omega)
  rw [← setCells_stores, ← hW1] at e1
  have hcl1 : ∀ p, W1.cell? ⟨g, p, none⟩ = cur1[p]? := fun p => by simp [World.cell?, e1]
  have hfr1 : ∀ p, W1.frozen? ⟨g, p, none⟩ = false := fun p => by simp [World.frozen?, e1]
  obtain ⟨zs, hzs⟩ : ∃ zs, zs = (Builtin.zeroCells (Value.agg #[.int .i64 0, .int .i64 0, .int .i64 0]).cells 1).toList := ⟨_, rfl⟩
  have hzv : zs = [.int .i64 0, .int .i64 0, .int .i64 0] := by rw [hzs]; kernel_rfl
  have hzl : zs.length = 3 := by rw [hzv]; rfl
  have hcc : ∀ ty, (Builtin.clear_ #[29] ty #[.slice (some ⟨g, (i + (n - (i + 1))) * 3, none⟩) (n - (i + (n - (i + 1)))) (cap - (i + (n - (i + 1))))]).run Try.prog W1 = .ok (.tuple #[]) (W1.setCells g ((n - 1) * 3) zs) := fun ty => by
    rw [show i + (n - (i + 1)) = n - 1 by omega, show n - (n - 1) = 1 by omega, hzs]
    exact run_clear_k W1 _ _ ty _ u0 (fun w => by simp [zeroValue, typeInfo, hi0, hz0]) g ((n - 1) * 3) 1 _ (by decide) (by rw [← hzs, hzv]; intro v hv; simp at hv; rw [hv]; rfl) (fun t ht => by rw [← hzs, hzl] at ht; rw [hcl1, Array.getElem?_eq_getElem (by rw [e2, h2]; omega)]; rfl) (fun t ht => hfr1 _)
  have HNW := hid hnews
  clear hzv hnews hlen hget hW1 hcl hfr hcl1 hfr1 hfl
  have E1 := hid e1
  have E2 := hid e2
  have E3 := hid e3
  have HL := hid hzl
  have h2' := hid h2
  clear e1 e2 e3 hzl hzs h2
  have hii : i ≤ cap := by omega
  have hb1 : (0 : Int) ≤ (i : Int) + 1 := by omega
  have htn : ((i : Int) + 1).toNat = i + 1 := by omega
  have hb3 : (i : Int) + 1 ≤ (n : Int) := by omega
  have hb4 : i + 1 ≤ n := by omega
  have hjc : i + 1 ≤ cap := by omega
  go_enter Try.func63, Try.ntmps63
  go_wp2_with (fail)
  go_region_law_o (refine step_append_room rfl (.tmp 22) (.tmp 25) 29 rfl 71 i0 3 u0 hi0 hz1 g 0 i cap (by simp [Act.eval, Act.put]) D (n - (i + 1)) (cap - (i + 1)) news (by simp [Act.eval, Act.put, hD]) s1.out hsrc.out s2.out (by omega) s3.out ?_; rw [← hW.out])
  go_wp2
  go_ret
  refine ⟨by rw [show i + (n - (i + 1)) = n - 1 by omega]; rfl, .inr ⟨g, rfl, hB, ?_⟩, ?_⟩
  · obtain ⟨cur2, d1, d2, d3⟩ := stores_heap (T := 71) zs W1 ((n - 1) * 3) cur1 E1.out (by rw [HL.out, E2.out, h2'.out]; omega)
    have hn := HN.out
    rw [setCells_stores]
    refine OwnS.of_del (sz := 3) (fun _ => rfl) (by omega) d1 (by rw [d2, E2.out, h2'.out]) (by omega) h4 (fun p hp => ?_) (fun p hp => ?_)
    · rw [d3, if_neg (by rw [HL.out]; omega), E3.out, if_neg (by omega)]
      exact H5.out p (by omega)
    · rw [d3, if_neg (by rw [HL.out]; omega), E3.out, if_pos (by rw [s1.out]; omega), HNW.out, List.getElem?_drop]
      congr 1
      omega
  · rw [setCells_stores]
    refine stores_below zs W1 _ ?_ hB
    rw [hW.out, setCells_stores]
    exact stores_below news w.drew _ (Below.refl _ _).drew hB

end Go.Proofs.Ytpaclngjmdacjaa
namespace Go.Proofs.Ytpaclngjmdacjaa
set_option linter.unusedSimpArgs false
set_option linter.unusedVariables false
open Go.RowKit

set_option maxRecDepth 100000 in
set_option maxHeartbeats 4000000 in
theorem c_impl_WithoutPump (l h v : Int) (A : Option Addr) (fs : List Int) (capf : Nat) (B : Option Addr) (ps : List (Int × Int × Int)) (capq : Nat) (i : Int) (w : World) (hx : Rds cIn 1 w A fs) (hn : fs.length ≤ 9223372036854775807) (hy : Rds cPu 3 w B ps) (hm : ps.length ≤ 9223372036854775807) :
    Calls Try.prog 29 #[.agg #[.int .i64 l, .int .i64 h, .int .i64 v, .slice A fs.length capf, .slice B ps.length capq], .int .i64 i] w fun e w' => ∃ A1 c1 A2 c2, e = .returned (.tuple #[.agg #[.int .i64 (woV l h v fs ps i).1.1, .int .i64 (woV l h v fs ps i).1.2.1, .int .i64 (woV l h v fs ps i).1.2.2.1, .slice A1 (woV l h v fs ps i).1.2.2.2.1.length c1, .slice A2 (woV l h v fs ps i).1.2.2.2.2.length c2], .bool (woV l h v fs ps i).2]) ∧ FreshA cIn 1 3 w.heap.size w' A1 c1 (woV l h v fs ps i).1.2.2.2.1 ∧ FreshA cPu 3 71 w.heap.size w' A2 c2 (woV l h v fs ps i).1.2.2.2.2 ∧ Below w.heap.size w w' := by
  obtain ⟨i0, hI0, hI1, hI2, hI3⟩ := info_parts info_Pu
  cases ht : taskB l h v fs ps
  · have hV : woV l h v fs ps i = ((0, 0, 0, [], []), false) := by simp [woV, ht]
    rw [hV]
    simp only
    go_enter Try.func29, Try.ntmps29
    go_wp2_with (fail)
    refine (c_impl_IsPumpTask _ _ _ _ _ _ _ _ _ _ (by first | exact hx | exact Rds.below hx (by (repeat' (first | exact Below.refl _ _ | assumption | refine Below.setCell ?_ ?_ _ | refine Below.drew ?_ | refine Below.alloc ?_ ?_ _ | refine Below.trans ?_ (Below.mono (by assumption) ?_) | (simp; done) | (simp; omega) | omega)))) (by omega) (by first | exact hy | exact Rds.below hy (by (repeat' (first | exact Below.refl _ _ | assumption | refine Below.setCell ?_ ?_ _ | refine Below.drew ?_ | refine Below.alloc ?_ ?_ _ | refine Below.trans ?_ (Below.mono (by assumption) ?_) | (simp; done) | (simp; omega) | omega)))) (by omega)).mono ?_
    rintro e W1 ⟨rfl, hb1⟩
    have hc1 := cellOf hb1; have hf1 := frozOf hb1; have hz1 := sizeOf hb1; (try simp at hz1)
    simp only [ht]
    go_wp2_with (fail)
    refine bodyPost_ret (v := .tuple #[.agg #[.int .i64 0, .int .i64 0, .int .i64 0, .slice none 0 0, .slice none 0 0], .bool false]) ?_ rfl ⟨none, 0, none, 0, rfl, .inl ⟨rfl, rfl, rfl⟩, .inl ⟨rfl, rfl, rfl⟩, by (repeat' (first | exact Below.refl _ _ | assumption | refine Below.setCell ?_ ?_ _ | refine Below.drew ?_ | refine Below.alloc ?_ ?_ _ | refine Below.trans ?_ (Below.mono (by assumption) ?_) | (simp; done) | (simp; omega) | omega))⟩
    simp [results, Try.results29, go_sem, ↓IntWalk.iteOmega, *]
  obtain ⟨hv, hn2, hl1, hl5⟩ := taskB_sz ht
  by_cases hi : 0 ≤ i ∧ i < ps.length
  rotate_left
  · have hV : woV l h v fs ps i = ((0, 0, 0, [], []), false) := by unfold woV; rw [if_neg (fun e => hi e.2)]
    have hin : inB i 0 ((ps.length : Int) - 1) = false := by simp only [inB, decide_eq_false_iff_not]; omega
    rw [hV]
    simp only
    clear hi
    go_enter Try.func29, Try.ntmps29
    go_wp2_with (fail)
    refine (c_impl_IsPumpTask _ _ _ _ _ _ _ _ _ _ (by first | exact hx | exact Rds.below hx (by (repeat' (first | exact Below.refl _ _ | assumption | refine Below.setCell ?_ ?_ _ | refine Below.drew ?_ | refine Below.alloc ?_ ?_ _ | refine Below.trans ?_ (Below.mono (by assumption) ?_) | (simp; done) | (simp; omega) | omega)))) (by omega) (by first | exact hy | exact Rds.below hy (by (repeat' (first | exact Below.refl _ _ | assumption | refine Below.setCell ?_ ?_ _ | refine Below.drew ?_ | refine Below.alloc ?_ ?_ _ | refine Below.trans ?_ (Below.mono (by assumption) ?_) | (simp; done) | (simp; omega) | omega)))) (by omega)).mono ?_
    rintro e W1 ⟨rfl, hb1⟩
    have hc1 := cellOf hb1; have hf1 := frozOf hb1; have hz1 := sizeOf hb1; (try simp at hz1)
    simp only [ht]
    go_wp2_with (fail)
    refine (c_impl_inside _ _ _ _).mono ?_
    rintro e W2 ⟨rfl, hb2⟩
    have hc2 := cellOf hb2; have hf2 := frozOf hb2; have hz2 := sizeOf hb2; (try simp at hz2)
    simp only [hin]
    go_wp2_with (fail)
    refine bodyPost_ret (v := .tuple #[.agg #[.int .i64 0, .int .i64 0, .int .i64 0, .slice none 0 0, .slice none 0 0], .bool false]) ?_ rfl ⟨none, 0, none, 0, rfl, .inl ⟨rfl, rfl, rfl⟩, .inl ⟨rfl, rfl, rfl⟩, by (repeat' (first | exact Below.refl _ _ | assumption | refine Below.setCell ?_ ?_ _ | refine Below.drew ?_ | refine Below.alloc ?_ ?_ _ | refine Below.trans ?_ (Below.mono (by assumption) ?_) | (simp; done) | (simp; omega) | omega))⟩
    simp [results, Try.results29, go_sem, ↓IntWalk.iteOmega, *]
  have hin : inB i 0 ((ps.length : Int) - 1) = true := by simp only [inB, decide_eq_true_eq]; omega
  obtain ⟨k, rfl⟩ : ∃ k : Nat, i = k := ⟨i.toNat, by omega⟩
  have hk : k < ps.length := by omega
  have hV : woV l h v fs ps (k : Int) = ((l, h, v, fs, ps.take k ++ ps.drop (k + 1)), true) := by unfold woV; rw [if_pos ⟨ht, hi⟩]; rfl
  have hdl : (ps.take k ++ ps.drop (k + 1)).length = ps.length - 1 := by simp; omega
  rw [hV]
  simp only [hdl]
  clear hi hV
  have HDL := hid hdl
  clear hdl
  obtain ⟨bx, ox, rfl, hbx, hcx⟩ := Rds.all hy (by omega)
  have HX := hid hcx
  clear hcx
  go_enter Try.func29, Try.ntmps29
  go_wp2_with (fail)
  refine (c_impl_IsPumpTask _ _ _ _ _ _ _ _ _ _ (by first | exact hx | exact Rds.below hx (by (repeat' (first | exact Below.refl _ _ | assumption | refine Below.setCell ?_ ?_ _ | refine Below.drew ?_ | refine Below.alloc ?_ ?_ _ | refine Below.trans ?_ (Below.mono (by assumption) ?_) | (simp; done) | (simp; omega) | omega)))) (by omega) (by first | exact hy | exact Rds.below hy (by (repeat' (first | exact Below.refl _ _ | assumption | refine Below.setCell ?_ ?_ _ | refine Below.drew ?_ | refine Below.alloc ?_ ?_ _ | refine Below.trans ?_ (Below.mono (by assumption) ?_) | (simp; done) | (simp; omega) | omega)))) (by omega)).mono ?_
  rintro e W1 ⟨rfl, hb1⟩
  have hc1 := cellOf hb1; have hf1 := frozOf hb1; have hz1 := sizeOf hb1; (try simp at hz1)
  simp only [ht]
  go_wp2_with (fail)
  refine (c_impl_inside _ _ _ _).mono ?_
  rintro e W2 ⟨rfl, hb2⟩
  have hc2 := cellOf hb2; have hf2 := frozOf hb2; have hz2 := sizeOf hb2; (try simp at hz2)
  simp only [hin]
  go_wp2_with (fail)
  refine (c_impl_copyInts_a _ _ _ _ (by first | exact hx | exact Rds.below hx (by (repeat' (first | exact Below.refl _ _ | assumption | refine Below.setCell ?_ ?_ _ | refine Below.drew ?_ | refine Below.alloc ?_ ?_ _ | refine Below.trans ?_ (Below.mono (by assumption) ?_) | (simp; done) | (simp; omega) | omega)))) (by omega) (by omega)).mono ?_
  rintro e W5 ⟨A5, c5, rfl, hF5, hb5⟩
  have hc5 := cellOf hb5; have hf5 := frozOf hb5; have hz5 := sizeOf hb5; (try simp at hz5)
  have HF5 := hid hF5; clear hF5
  go_wp2_with (at_builtin; refine wpList_pushes (xs := ([] : List (Int × Int × Int))) rfl (.tmp 25) (.tmp 27) 29 rfl 71 i0 _ 24 Try.underlying29 hI0 hI1 hI2 hI3 rfl (by decide) (fun _ => rfl) one_Pu 0 rfl rfl (FreshA.newh (B := W5.heap.size) (by simp) (by first | exact Nat.le_refl _ | omega)) ps _ rfl bx ox _ rfl ?_ ?_ ?_ ?_ ?_; (exact fun p hp j u hu => (Below.cell (p := ⟨bx, _, none⟩) (show Below w.heap.size w _ by (repeat' (first | exact Below.refl _ _ | assumption | refine Below.setCell ?_ ?_ _ | refine Below.drew ?_ | refine Below.alloc ?_ ?_ _ | refine Below.trans ?_ (Below.mono (by assumption) ?_) | (simp; done) | (simp; omega) | omega))) hbx).trans (HX.out p hp j u hu)); (unfold maxLen; omega); omega; (first | (focus (simp; done)) | (focus (simp; omega)) | omega | exact (show Below w.heap.size w _ by (repeat' (first | exact Below.refl _ _ | assumption | refine Below.setCell ?_ ?_ _ | refine Below.drew ?_ | refine Below.alloc ?_ ?_ _ | refine Below.trans ?_ (Below.mono (by assumption) ?_) | (simp; done) | (simp; omega) | omega))).size | (simp [go_sem]; done) | (simp [go_sem]; omega)); intro A3 cp3 w3 hF3 hg3 hat3; simp only [List.nil_append, Nat.zero_add] at hF3; have hb3 := below_of_grown (B := W5.heap.size) hg3 (fun a ha => by cases ha; first | exact Nat.le_refl _ | (simp; done) | (simp; omega) | omega) (by first | (focus (simp; done)) | (focus (simp; omega)) | omega | exact (show Below w.heap.size w _ by (repeat' (first | exact Below.refl _ _ | assumption | refine Below.setCell ?_ ?_ _ | refine Below.drew ?_ | refine Below.alloc ?_ ?_ _ | refine Below.trans ?_ (Below.mono (by assumption) ?_) | (simp; done) | (simp; omega) | omega))).size); have hs3 := hg3.size; (try simp at hs3); have hBB : Below w.heap.size w w3 := Below.trans (show Below w.heap.size w _ by (repeat' (first | exact Below.refl _ _ | assumption | refine Below.setCell ?_ ?_ _ | refine Below.drew ?_ | refine Below.alloc ?_ ?_ _ | refine Below.trans ?_ (Below.mono (by assumption) ?_) | (simp; done) | (simp; omega) | omega))) (Below.mono hb3 (by omega)))
  have hs3' : W5.heap.size ≤ w3.heap.size := by omega
  refine (c_Delete _ _ ps k W5.heap.size _ hF3 hk).mono ?_
  rintro e W6 ⟨rfl, hF6, hb6⟩
  have hs6 := hb6.size
  have hc6 : ∀ b o, b < W5.heap.size → W6.cell? ⟨b, o, none⟩ = w3.cell? ⟨b, o, none⟩ := fun b o hlt => hb6.cell (p := ⟨b, o, none⟩) hlt
  have hf6 : ∀ b o, b < W5.heap.size → W6.frozen? ⟨b, o, none⟩ = w3.frozen? ⟨b, o, none⟩ := fun b o hlt => hb6.frozen (p := ⟨b, o, none⟩) hlt
  have hc36 := fun b o hlt => (hc6 b o hlt).trans (hb3.cell (p := ⟨b, o, none⟩) hlt)
  have hf36 := fun b o hlt => (hf6 b o hlt).trans (hb3.frozen (p := ⟨b, o, none⟩) hlt)
  have hbm : Below W5.heap.size (W5.setCell ⟨W2.heap.size, 3, none⟩ (.slice A5 fs.length c5)) W6 := Below.trans (Below.trans (Below.alloc (Below.refl _ _) (by simp) _) hb3) hb6
  have hF56 := (HF5.out.set_low (p := ⟨W2.heap.size, 3, none⟩) (by simp) (.slice A5 fs.length c5)).below (Below.mono hbm (by simp))
  have hbw6 : Below w.heap.size w W6 := Below.trans hBB (Below.mono hb6 (by omega))
  have HF6 := hid (hF6.mono (B' := W2.heap.size + 1) (by omega))
  have HF56 := hid (hF56.mono (B' := W2.heap.size + 1) (by simp))
  have m0 : W6.cell? ⟨W2.heap.size, 0, none⟩ = some (.int .i64 l) := by rw [hc36 _ _ (by omega)]; first | (simp [go_sem, ↓IntWalk.iteOmega, *]; done) | (simp [go_sem, ↓IntWalk.iteOmega, *]; intros; omega)
  have m1 : W6.cell? ⟨W2.heap.size, 1, none⟩ = some (.int .i64 h) := by rw [hc36 _ _ (by omega)]; first | (simp [go_sem, ↓IntWalk.iteOmega, *]; done) | (simp [go_sem, ↓IntWalk.iteOmega, *]; intros; omega)
  have m2 : W6.cell? ⟨W2.heap.size, 2, none⟩ = some (.int .i64 v) := by rw [hc36 _ _ (by omega)]; first | (simp [go_sem, ↓IntWalk.iteOmega, *]; done) | (simp [go_sem, ↓IntWalk.iteOmega, *]; intros; omega)
  have m3 : W6.cell? ⟨W2.heap.size, 3, none⟩ = some (.slice A5 fs.length c5) := by rw [hc36 _ _ (by omega)]; first | (simp [go_sem, ↓IntWalk.iteOmega, *]; done) | (simp [go_sem, ↓IntWalk.iteOmega, *]; intros; omega)
  have m4 : W6.cell? ⟨W2.heap.size, 4, none⟩ = some (.slice (some ⟨bx, ox, none⟩) ps.length capq) := by rw [hc36 _ _ (by omega)]; first | (simp [go_sem, ↓IntWalk.iteOmega, *]; done) | (simp [go_sem, ↓IntWalk.iteOmega, *]; intros; omega)
  have n0 : W6.cell? ⟨w.heap.size + 1, 0, none⟩ = some (.int .i64 0) := by rw [hc36 _ _ (by omega)]; first | (simp [go_sem, ↓IntWalk.iteOmega, *]; done) | (simp [go_sem, ↓IntWalk.iteOmega, *]; intros; omega)
  have n1 : W6.cell? ⟨w.heap.size + 1, 1, none⟩ = some (.int .i64 0) := by rw [hc36 _ _ (by omega)]; first | (simp [go_sem, ↓IntWalk.iteOmega, *]; done) | (simp [go_sem, ↓IntWalk.iteOmega, *]; intros; omega)
  have n2 : W6.cell? ⟨w.heap.size + 1, 2, none⟩ = some (.int .i64 0) := by rw [hc36 _ _ (by omega)]; first | (simp [go_sem, ↓IntWalk.iteOmega, *]; done) | (simp [go_sem, ↓IntWalk.iteOmega, *]; intros; omega)
  have n3 : W6.cell? ⟨w.heap.size + 1, 3, none⟩ = some (.slice none 0 0) := by rw [hc36 _ _ (by omega)]; first | (simp [go_sem, ↓IntWalk.iteOmega, *]; done) | (simp [go_sem, ↓IntWalk.iteOmega, *]; intros; omega)
  have n4 : W6.cell? ⟨w.heap.size + 1, 4, none⟩ = some (.slice none 0 0) := by rw [hc36 _ _ (by omega)]; first | (simp [go_sem, ↓IntWalk.iteOmega, *]; done) | (simp [go_sem, ↓IntWalk.iteOmega, *]; intros; omega)
  have mf : ∀ o, W6.frozen? ⟨W2.heap.size, o, none⟩ = false := fun o => by rw [hf36 _ _ (by omega)]; first | (simp [go_sem, ↓IntWalk.iteOmega, *]; done) | (simp [go_sem, ↓IntWalk.iteOmega, *]; intros; omega)
  have nf : ∀ o, W6.frozen? ⟨w.heap.size + 1, o, none⟩ = false := fun o => by rw [hf36 _ _ (by omega)]; first | (simp [go_sem, ↓IntWalk.iteOmega, *]; done) | (simp [go_sem, ↓IntWalk.iteOmega, *]; intros; omega)
  clear hc36 hf36 hc1 hc2 hc5 hf1 hf2 hf5
  clear hF6 hF56 hF3 hb6 hb3 hc6 hf6 hg3 hat3 HF5 hbm hBB hb1 hb2 hb5
  go_wp2_with (fail)
  refine bodyPost_ret (v := .tuple #[.agg #[.int .i64 l, .int .i64 h, .int .i64 v, .slice A5 fs.length c5, .slice A3 (ps.length - 1) cp3], .bool true]) ?_ rfl ⟨A5, c5, A3, cp3, rfl, ?_, ?_, ?_⟩
  · simp [results, Try.results29, go_sem, ↓IntWalk.iteOmega, *]
  · refine FreshA.mono (B := W2.heap.size + 1) ?_ (by omega)
    repeat' (first | with_reducible exact HF56.out | with_reducible refine FreshA.set_low ?_ ?_ _ | (dsimp only; omega))
  · refine FreshA.mono (B := W2.heap.size + 1) ?_ (by omega)
    repeat' (first | with_reducible exact HF6.out | with_reducible refine FreshA.set_low ?_ ?_ _ | (dsimp only; omega))
  · repeat' (first | with_reducible exact hbw6 | with_reducible refine Below.setCell ?_ ?_ _ | (dsimp only; omega))

end Go.Proofs.Ytpaclngjmdacjaa
