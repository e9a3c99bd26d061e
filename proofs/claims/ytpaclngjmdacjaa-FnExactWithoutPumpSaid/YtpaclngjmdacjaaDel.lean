import Derived.Test.YtpaclngjmdacjaaIns
import Derived.Test.YtpaclngjmdacjaaPuDefs
import Derived.Deep.RegionLaw
import Derived.Shelf.RegionOpenPlain
import Derived.Lib.Walk
namespace Go.Proofs.Ytpaclngjmdacjaa
set_option linter.unusedSimpArgs false
set_option linter.unusedVariables false
open Go.RowKit

set_option maxHeartbeats 4000000 in
set_option maxRecDepth 100000 in
theorem c_Delete (A : Option Addr) (cap : Nat) (xs : List (Int × Int × Int)) (i B : Nat) (w : World) (hF : FreshA cPu 3 71 B w A cap xs) (hi : i < xs.length) :
    Calls Try.prog 63 #[.slice A xs.length cap, .int .i64 (i : Int), .int .i64 ((i : Int) + 1)] w fun e w' => e = .returned (.slice A (xs.length - 1) cap) ∧ FreshA cPu 3 71 B w' A cap (xs.take i ++ xs.drop (i + 1)) ∧ Below B w w' := by
  obtain ⟨i0, hi0, hz0, hz1, hz2⟩ := info_parts info_Pu
  have u0 := Try.underlying29
  have mixed : Try.prog.follows Departure.mixedOrders = true := by kernel_rfl
  rcases hF with ⟨_, rfl, _⟩ | ⟨g, rfl, hB, hO⟩
  · simp at hi
  obtain ⟨cur, h1, h2, h3, h4, h5⟩ := OwnS.flat (sz := 3) (fun _ => rfl) (by decide) hO
  clear hO
  have hcl : ∀ p, w.cell? ⟨g, p, none⟩ = cur[p]? := fun p => by simp [World.cell?, h1]
  have hfr : ∀ p, w.frozen? ⟨g, p, none⟩ = false := fun p => by simp [World.frozen?, h1]
  have hm : cap ≤ 9223372036854775807 := by unfold maxLen at h4; omega
  have H1 := hid h1
  have H5 := hid h5
  clear h1 h5
  obtain ⟨n, hn⟩ : ∃ n, n = xs.length := ⟨_, rfl⟩
  have HN := hid hn
  have hfl : (xs.flatMap cPu).length = n * 3 := by rw [flatMap_len (sz := 3) (fun _ => rfl), hn]
  rw [← hn] at hi h3 ⊢
  clear hn
  obtain ⟨news, hnews⟩ : ∃ news, news = (xs.flatMap cPu).drop ((i + 1) * 3) := ⟨_, rfl⟩
  have hlen : news.length = (n - (i + 1)) * 3 := by rw [hnews, List.length_drop, hfl]; omega
  have hget : ∀ t u, news[t]? = some u → w.cell? ⟨g, (i + 1) * 3 + t, none⟩ = some u := by
    intro t u hu
    have ht : t < (n - (i + 1)) * 3 := by
      rw [← hlen]
      exact (List.getElem?_eq_some_iff.1 hu).1
    rw [hnews, List.getElem?_drop] at hu
    rw [hcl, H5.out _ (by rw [← HN.out]; omega)]
    exact hu
  obtain ⟨D, hD, hsrc⟩ : ∃ D : Addr, (if cap = i + 1 then some (⟨g, 0, none⟩ : Addr) else some ⟨g, (i + 1) * 3, none⟩) = some D ∧ Hid (∀ t u, news[t]? = some u → w.drew.cell? (D.add t) = some u) := by
    by_cases h : cap = i + 1
    · refine ⟨⟨g, 0, none⟩, by simp [h], fun t u hu => ?_⟩
      have h0 : news.length = 0 := by rw [hlen]; omega
      rw [List.length_eq_zero_iff.1 h0] at hu
      simp at hu
    · refine ⟨⟨g, (i + 1) * 3, none⟩, by simp [h], fun t u hu => ?_⟩
      rw [Addr.add_lit]
      exact hget t u hu
  have s1 : Hid (news.length = (n - (i + 1)) * 3) := hlen
  have s2 : Hid (∀ u ∈ news, u.oneCell' = true) := by
    intro u hu
    rw [hnews] at hu
    obtain ⟨x, _, hx⟩ := List.mem_flatMap.1 (List.mem_of_mem_drop hu)
    simp [cPu] at hx
    rcases hx with rfl | rfl | rfl <;> rfl
  have s3 : Hid (∀ t, t < news.length → (w.drew.cell? ⟨g, 0 + i * 3 + t, none⟩).isSome = true ∧ w.drew.frozen? ⟨g, 0 + i * 3 + t, none⟩ = false) := by
    intro t ht
    rw [hlen] at ht
    refine ⟨?_, hfr _⟩
    show (w.cell? _).isSome = true
    rw [hcl, Array.getElem?_eq_getElem (by rw [h2]; omega)]
    rfl
  obtain ⟨W1, hW1⟩ : ∃ W1, W1 = w.drew.setCells g (0 + i * 3) news := ⟨_, rfl⟩
  have hW := hid hW1
  obtain ⟨cur1, e1, e2, e3⟩ := stores_heap (T := 71) news w.drew (0 + i * 3) cur H1.out (by rw [hlen, h2]; omega)
  rw [← setCells_stores, ← hW1] at e1
  have hcl1 : ∀ p, W1.cell? ⟨g, p, none⟩ = cur1[p]? := fun p => by simp [World.cell?, e1]
  have hfr1 : ∀ p, W1.frozen? ⟨g, p, none⟩ = false := fun p => by simp [World.frozen?, e1]
  obtain ⟨zs, hzs⟩ : ∃ zs, zs = (Builtin.zeroCells (Value.agg #[.int .i64 0, .int .i64 0, .int .i64 0]).cells 1).toList := ⟨_, rfl⟩
  have hzv : zs = [.int .i64 0, .int .i64 0, .int .i64 0] := by rw [hzs]; kernel_rfl
  have hzl : zs.length = 3 := by rw [hzv]; rfl
  have hcc : ∀ ty, (Builtin.clear_ #[29] ty #[.slice (some ⟨g, (i + (n - (i + 1))) * 3, none⟩) (n - (i + (n - (i + 1)))) (cap - (i + (n - (i + 1))))]).run Try.prog W1 = .ok (.tuple #[]) (W1.setCells g ((n - 1) * 3) zs) := fun ty => by
    rw [show i + (n - (i + 1)) = n - 1 by omega, show n - (n - 1) = 1 by omega, hzs]
    exact run_clear_k W1 _ _ ty _ u0 (fun w => by simp [zeroValue, typeInfo, hi0, hz0]) g ((n - 1) * 3) 1 _ (by decide) (by rw [← hzs, hzv]; intro v hv; simp at hv; rw [hv]; rfl) (fun t ht => by rw [← hzs, hzl] at ht; rw [hcl1, Array.getElem?_eq_getElem (by rw [e2, h2]; omega)]; rfl) (fun t ht => hfr1 _)
  have HNW := hid hnews
  clear hzv hnews hlen hget hW1 hcl hfr hcl1 hfr1 hfl
  have E1 := hid e1
  have E2 := hid e2
  have E3 := hid e3
  have HL := hid hzl
  have h2' := hid h2
  clear e1 e2 e3 hzl hzs h2
  have hii : i ≤ cap := by omega
  have hb1 : (0 : Int) ≤ (i : Int) + 1 := by omega
  have htn : ((i : Int) + 1).toNat = i + 1 := by omega
  have hb3 : (i : Int) + 1 ≤ (n : Int) := by omega
  have hb4 : i + 1 ≤ n := by omega
  have hjc : i + 1 ≤ cap := by omega
  go_enter Try.func63, Try.ntmps63
  go_wp2_with (fail)
  go_region_law_o (refine step_append_room rfl (.tmp 22) (.tmp 25) 29 rfl 71 i0 3 u0 hi0 hz1 g 0 i cap (by simp [Act.eval, Act.put]) D (n - (i + 1)) (cap - (i + 1)) news (by simp [Act.eval, Act.put, hD]) s1.out hsrc.out s2.out (by omega) s3.out ?_; rw [← hW.out])
  go_wp2
  go_ret
  refine ⟨by rw [show i + (n - (i + 1)) = n - 1 by omega]; rfl, .inr ⟨g, rfl, hB, ?_⟩, ?_⟩
  · obtain ⟨cur2, d1, d2, d3⟩ := stores_heap (T := 71) zs W1 ((n - 1) * 3) cur1 E1.out (by rw [HL.out, E2.out, h2'.out]; omega)
    have hn := HN.out
    rw [setCells_stores]
    refine OwnS.of_del (sz := 3) (fun _ => rfl) (by omega) d1 (by rw [d2, E2.out, h2'.out]) (by omega) h4 (fun p hp => ?_) (fun p hp => ?_)
    · rw [d3, if_neg (by rw [HL.out]; omega), E3.out, if_neg (by omega)]
      exact H5.out p (by omega)
    · rw [d3, if_neg (by rw [HL.out]; omega), E3.out, if_pos (by rw [s1.out]; omega), HNW.out, List.getElem?_drop]
      congr 1
      omega
  · rw [setCells_stores]
    refine stores_below zs W1 _ ?_ hB
    rw [hW.out, setCells_stores]
    exact stores_below news w.drew _ (Below.refl _ _).drew hB

end Go.Proofs.Ytpaclngjmdacjaa
