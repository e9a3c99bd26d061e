import Derived.Test.YteciijnpfapmhaaDefs
import Derived.Test.YteciijnpfapmhaaVL
namespace Go.Proofs.Yteciijnpfapmhaa
set_option linter.unusedSimpArgs false
set_option linter.unusedVariables false
open Go.RowKit

def cIv (x : (Int × Int)) : List Value := [.int .i64 (x.1), .int .i64 (x.2)]
theorem cIv_len (x : (Int × Int)) : (cIv x).length = 2 := rfl

def mkIv (n : Nat) (k : Int) : List (Int × Int) := (List.range n).map fun (i : Nat) => (k + 2 * (i : Int), k + 2 * (i : Int) + 1)

theorem mkIv_len (n : Nat) (k : Int) : (mkIv n k).length = n := by simp [mkIv]
theorem mkIv_at (n : Nat) (k : Int) (j : Nat) (h : j < n) (h' : j < (mkIv n k).length) : (mkIv n k)[j] = (k + 2 * (j : Int), k + 2 * (j : Int) + 1) := by simp [mkIv]

theorem mkIv_snoc (j : Nat) (k : Int) : mkIv (j + 1) k = mkIv j k ++ [(k + 2 * (j : Int), k + 2 * (j : Int) + 1)] := by simp [mkIv, List.range_succ]

theorem news_Iv (w : World) (g : Nat) (x : (Int × Int)) (h0 : w.cell? ⟨g, 0, none⟩ = some (.int .i64 (x.1))) (h1 : w.cell? ⟨g, 1, none⟩ = some (.int .i64 (x.2))) : ∀ j u, (cIv x)[j]? = some u → w.cell? ⟨g, j, none⟩ = some u := by
  intro j u hu
  match j, hu with
  | 0, hu => cases hu; exact h0
  | 1, hu => cases hu; exact h1
  | j + 2, hu => simp [cIv] at hu

theorem one_Iv : ∀ x, ∀ u ∈ cIv x, u.oneCell' = true := by
  intro x u hu
  simp [cIv] at hu
  rcases hu with rfl | rfl <;> rfl

def cIn (x : (Int)) : List Value := [.int .i64 (x)]
theorem cIn_len (x : (Int)) : (cIn x).length = 1 := rfl

def mkIn (n : Nat) (k : Int) : List (Int) := (List.range n).map fun (i : Nat) => (k + (i : Int))

theorem mkIn_len (n : Nat) (k : Int) : (mkIn n k).length = n := by simp [mkIn]
theorem mkIn_at (n : Nat) (k : Int) (j : Nat) (h : j < n) (h' : j < (mkIn n k).length) : (mkIn n k)[j] = (k + (j : Int)) := by simp [mkIn]

theorem mkIn_snoc (j : Nat) (k : Int) : mkIn (j + 1) k = mkIn j k ++ [(k + (j : Int))] := by simp [mkIn, List.range_succ]

theorem news_In (w : World) (g : Nat) (x : (Int)) (h0 : w.cell? ⟨g, 0, none⟩ = some (.int .i64 (x))) : ∀ j u, (cIn x)[j]? = some u → w.cell? ⟨g, j, none⟩ = some u := by
  intro j u hu
  match j, hu with
  | 0, hu => cases hu; exact h0
  | j + 1, hu => simp [cIn] at hu

theorem one_In : ∀ x, ∀ u ∈ cIn x, u.oneCell' = true := by
  intro x u hu
  simp [cIn] at hu
  subst hu
  rfl

def ivOk (x : Int × Int) : Bool := goodI x.1 x.2
def ivLt (y x : Int × Int) : Bool := decide (y.2 < x.1)
def brB (d : Int) (xs : List (Int × Int)) : Bool := inB d 1 30 && vB ivOk ivLt 6 xs
theorem brB_dur {d : Int} {xs : List (Int × Int)} (h : brB d xs = true) : 1 ≤ d ∧ d ≤ 30 := by
  simp only [brB, Bool.and_eq_true] at h
  exact inB_bd h.1
theorem brB_v {d : Int} {xs : List (Int × Int)} (h : brB d xs = true) : vB ivOk ivLt 6 xs = true := by
  simp only [brB, Bool.and_eq_true] at h
  exact h.2
def ivP (x : Int × Int) : Prop := 0 ≤ x.1 ∧ x.1 ≤ x.2 ∧ x.2 ≤ 9999
theorem brB_P {d : Int} {xs : List (Int × Int)} (h : brB d xs = true) : ∀ k (hk : k < xs.length), ivP xs[k] := fun k hk => goodI_bd (vB_at (brB_v h) k hk)
theorem brB_len {d : Int} {xs : List (Int × Int)} (h : brB d xs = true) : xs.length ≤ 6 := vB_len (brB_v h)
def hitI (t d : Int) (x : Int × Int) : Bool := decide (t ≤ x.2 ∧ x.1 ≤ t + d - 1)
def mayB (d : Int) (xs : List (Int × Int)) (t : Int) : Bool := decide (0 ≤ t ∧ t + d ≤ 10000) && !(xs.any (hitI t d))
theorem mayB_bd {d : Int} {xs : List (Int × Int)} {t : Int} (h : mayB d xs t = true) : 0 ≤ t ∧ t + d ≤ 10000 := by
  simp only [mayB, Bool.and_eq_true, decide_eq_true_eq] at h
  exact h.1
def mayV (d : Int) (xs : List (Int × Int)) (t : Int) : Bool × Bool := if brB d xs = true ∧ minB t = true then (mayB d xs t, true) else (false, false)
theorem find_range_hit {n : Nat} {p : Nat → Bool} {c : Nat} (hc : c < n) (hl : ∀ i, i < c → p i = false) (hp : p c = true) : (List.range n).find? p = some c := by
  rw [List.find?_eq_some_iff_getElem]
  refine ⟨hp, c, by simpa using hc, by simp, fun j hj => ?_⟩
  simp [hl j hj]
theorem find_range_none {n : Nat} {p : Nat → Bool} (hl : ∀ i, i < n → p i = false) : (List.range n).find? p = none := by
  rw [List.find?_eq_none]
  intro x hx
  simp [hl x (List.mem_range.1 hx)]
/-- the first minute from t on at which an opening may begin -/
def nextF (d : Int) (xs : List (Int × Int)) (t : Int) : Option Nat := (List.range (10000 - t).toNat).find? fun j : Nat => mayB d xs (t + j)
theorem nextF_hit {d : Int} {xs : List (Int × Int)} {t : Int} {j : Nat} (hj : t + j ≤ 9999) (hl : ∀ i : Nat, i < j → mayB d xs (t + i) = false) (hp : mayB d xs (t + j) = true) : nextF d xs t = some j := find_range_hit (by omega) hl hp
theorem nextF_none {d : Int} {xs : List (Int × Int)} {t : Int} (hl : ∀ i : Nat, t + i ≤ 9999 → mayB d xs (t + i) = false) : nextF d xs t = none := find_range_none fun i hi => hl i (by omega)
def nextR (t : Int) (r : Option Nat) : Int × Bool := match r with | some j => (t + j, true) | none => (0, false)
def nextV (d : Int) (xs : List (Int × Int)) (t : Int) : Int × Bool := if brB d xs = true ∧ minB t = true then nextR t (nextF d xs t) else (0, false)
/-- the last minute in f..t at which an opening may begin -/
def lastF (d : Int) (xs : List (Int × Int)) (f t : Int) : Option Int := ((List.range (t - f + 1).toNat).find? fun j : Nat => mayB d xs (t - j)).map fun j : Nat => t - (j : Int)
theorem lastF_hit {d : Int} {xs : List (Int × Int)} {f t u : Int} (h1 : f ≤ u) (h2 : u ≤ t) (hl : ∀ v : Int, u < v → v ≤ t → mayB d xs v = false) (hp : mayB d xs u = true) : lastF d xs f t = some u := by
  have e : t - ((t - u).toNat : Int) = u := by omega
  have : (List.range (t - f + 1).toNat).find? (fun j : Nat => mayB d xs (t - j)) = some (t - u).toNat := by
    refine find_range_hit (by omega) (fun i hi => hl _ (by omega) (by omega)) ?_
    show mayB d xs (t - ((t - u).toNat : Int)) = true
    rw [e]; exact hp
  unfold lastF
  rw [this]
  show some (t - ((t - u).toNat : Int)) = some u
  rw [e]
theorem lastF_none {d : Int} {xs : List (Int × Int)} {f t : Int} (hl : ∀ v : Int, f ≤ v → v ≤ t → mayB d xs v = false) : lastF d xs f t = none := by
  unfold lastF
  rw [find_range_none fun i hi => hl _ (by omega) (by omega)]
  rfl
theorem lastF_some {d : Int} {xs : List (Int × Int)} {f t u : Int} (h : lastF d xs f t = some u) : f ≤ u ∧ u ≤ t ∧ mayB d xs u = true ∧ ∀ v : Int, u < v → v ≤ t → mayB d xs v = false := by
  unfold lastF at h
  rw [Option.map_eq_some_iff] at h
  obtain ⟨j, hj, rfl⟩ := h
  rw [List.find?_eq_some_iff_getElem] at hj
  obtain ⟨hp, i, hi, he, hall⟩ := hj
  simp at hi he
  subst he
  refine ⟨by omega, by omega, hp, fun v h1 h2 => ?_⟩
  have := hall (t - v).toNat (by omega)
  simp at this
  rwa [show t - max (t - v) 0 = v by omega] at this
theorem lastF_no {d : Int} {xs : List (Int × Int)} {f t : Int} (h : lastF d xs f t = none) : ∀ v : Int, f ≤ v → v ≤ t → mayB d xs v = false := by
  intro v h1 h2
  unfold lastF at h
  rw [Option.map_eq_none_iff, List.find?_eq_none] at h
  have := h (t - v).toNat (List.mem_range.2 (by omega))
  simp at this
  rwa [show t - max (t - v) 0 = v by omega] at this
theorem lastF_min {d : Int} {xs : List (Int × Int)} (hd : 1 ≤ d) (f t : Int) : lastF d xs f t = lastF d xs f (min t 9999) := by
  have hbig : ∀ v : Int, 9999 < v → mayB d xs v = false := by
    intro v hv
    cases h : mayB d xs v with
    | false => rfl
    | true => have := mayB_bd h; omega
  cases h : lastF d xs f (min t 9999) with
  | none =>
    have := lastF_no h
    refine lastF_none fun v h1 h2 => ?_
    by_cases hv : v ≤ 9999
    · exact this v h1 (by omega)
    · exact hbig v (by omega)
  | some u =>
    obtain ⟨h1, h2, h3, h4⟩ := lastF_some h
    refine lastF_hit h1 (by omega) (fun v hv1 hv2 => ?_) h3
    by_cases hv : v ≤ 9999
    · exact h4 v hv1 (by omega)
    · exact hbig v (by omega)
def lastR (r : Option Int) : Int × Bool := match r with | some u => (u, true) | none => (0, false)
def lastV (d : Int) (xs : List (Int × Int)) (f t : Int) : Int × Bool := if brB d xs = true ∧ minB f = true ∧ minB t = true then lastR (lastF d xs f t) else (0, false)
/-- requests -/
def reqLe (y x : Int) : Bool := decide (y ≤ x)
def reqB (d : Int) (xs : List (Int × Int)) (rs : List Int) (p : Int) : Bool := brB d xs && vB minB reqLe 8 rs && inB p 0 120
theorem reqB_br {d : Int} {xs : List (Int × Int)} {rs : List Int} {p : Int} (h : reqB d xs rs p = true) : brB d xs = true := by
  simp only [reqB, Bool.and_eq_true] at h
  exact h.1.1
theorem reqB_v {d : Int} {xs : List (Int × Int)} {rs : List Int} {p : Int} (h : reqB d xs rs p = true) : vB minB reqLe 8 rs = true := by
  simp only [reqB, Bool.and_eq_true] at h
  exact h.1.2
theorem reqB_p {d : Int} {xs : List (Int × Int)} {rs : List Int} {p : Int} (h : reqB d xs rs p = true) : 0 ≤ p ∧ p ≤ 120 := by
  simp only [reqB, Bool.and_eq_true] at h
  exact inB_bd h.2
def gapLe (d : Int) (y x : Int) : Bool := decide (y + d ≤ x)
/-- the beginnings of openings, each allowed, one after another -/
def opsB (d : Int) (xs : List (Int × Int)) (pl : List Int) : Bool := (List.range pl.length).all (vAt (mayB d xs) (gapLe d) pl)
theorem opsB_bad {d : Int} {xs : List (Int × Int)} {pl : List Int} {k : Nat} (h : k < pl.length) (hv : vAt (mayB d xs) (gapLe d) pl k = false) : opsB d xs pl = false := by
  unfold opsB
  rw [List.all_eq_false]
  exact ⟨k, List.mem_range.2 h, by simp [hv]⟩
theorem opsB_all {d : Int} {xs : List (Int × Int)} {pl : List Int} (h : ∀ j, j < pl.length → vAt (mayB d xs) (gapLe d) pl j = true) : opsB d xs pl = true := by
  unfold opsB
  rw [List.all_eq_true]
  exact fun j hj => h j (List.mem_range.1 hj)
theorem opsB_at {d : Int} {xs : List (Int × Int)} {pl : List Int} (h : opsB d xs pl = true) (k : Nat) (hk : k < pl.length) : mayB d xs pl[k] = true := by
  unfold opsB at h
  rw [List.all_eq_true] at h
  have := h k (List.mem_range.2 hk)
  cases k with
  | zero => rwa [vAt_zero hk] at this
  | succ k => rw [vAt_succ k hk, Bool.and_eq_true] at this; exact this.1
theorem opsB_gap {d : Int} {xs : List (Int × Int)} {pl : List Int} (h : opsB d xs pl = true) (k : Nat) (hk : k + 1 < pl.length) : pl[k] + d ≤ pl[k + 1] := by
  unfold opsB at h
  rw [List.all_eq_true] at h
  have := h (k + 1) (List.mem_range.2 hk)
  rw [vAt_succ k hk, Bool.and_eq_true] at this
  simpa [gapLe] using this.2
theorem opsB_mono {d : Int} {xs : List (Int × Int)} {pl : List Int} (hd : 1 ≤ d) (h : opsB d xs pl = true) : ∀ (j k : Nat) (hj : j < k) (hk : k < pl.length), pl[j] < pl[k]
  | j, k + 1, hj, hk => by
    have h1 := opsB_gap h k hk
    by_cases he : j = k
    · subst he; omega
    · have := opsB_mono hd h j k (by omega) (by omega)
      omega
theorem opsB_ge {d : Int} {xs : List (Int × Int)} {pl : List Int} (hd : 1 ≤ d) (h : opsB d xs pl = true) : ∀ (k : Nat) (hk : k < pl.length), (k : Int) ≤ pl[k]
  | 0, hk => by have := mayB_bd (opsB_at h 0 hk); omega
  | k + 1, hk => by
    have h1 := opsB_gap h k hk
    have h2 := opsB_ge hd h k (by omega)
    omega
theorem opsB_len {d : Int} {xs : List (Int × Int)} {pl : List Int} (hd : 1 ≤ d) (h : opsB d xs pl = true) : pl.length ≤ 10000 := by
  by_cases h0 : pl.length = 0
  · omega
  · have h1 := opsB_ge hd h (pl.length - 1) (by omega)
    have h2 := mayB_bd (opsB_at h (pl.length - 1) (by omega))
    omega
/-- the first opening of a plan that is not before a minute -/
def firstO (pl : List Int) (m : Int) : Int := match pl.find? (fun t => decide (m ≤ t)) with | some t => t | none => -1
theorem firstO_hit {pl : List Int} {m : Int} {k : Nat} (hk : k < pl.length) (hl : ∀ j (hj : j < k), pl[j]'(by omega) < m) (hp : m ≤ pl[k]) : firstO pl m = pl[k] := by
  have : pl.find? (fun t => decide (m ≤ t)) = some pl[k] := by
    rw [List.find?_eq_some_iff_getElem]
    refine ⟨by simpa using hp, k, hk, rfl, fun j hj => ?_⟩
    have := hl j hj
    simp
    omega
  unfold firstO
  rw [this]
theorem firstO_none {pl : List Int} {m : Int} (hl : ∀ j (hj : j < pl.length), pl[j] < m) : firstO pl m = -1 := by
  have : pl.find? (fun t => decide (m ≤ t)) = none := by
    rw [List.find?_eq_none]
    intro x hx
    obtain ⟨j, hj, rfl⟩ := List.getElem_of_mem hx
    have := hl j hj
    simp
    omega
  unfold firstO
  rw [this]
/-- how long a vessel waits, or -1 -/
def waitS (m own t : Int) : Int := if m ≤ t ∧ (own < 0 ∨ t - m < own) then t - m else own
def waitO (pl : List Int) (m : Int) : Int := pl.foldl (waitS m) (-1)
theorem waitO_snoc (pl : List Int) (m : Int) (k : Nat) (h : k < pl.length) : waitO (pl.take (k + 1)) m = waitS m (waitO (pl.take k) m) pl[k] := by
  unfold waitO
  rw [List.take_succ_eq_append_getElem h, List.foldl_append]; rfl
def waitF (pl : List Int) (m : Int) : Int := if firstO pl m < 0 then -1 else firstO pl m - m
theorem firstO_take (pl : List Int) (m : Int) (k : Nat) (h : k < pl.length) : (pl.take (k + 1)).find? (fun t => decide (m ≤ t)) = ((pl.take k).find? (fun t => decide (m ≤ t))).or (if m ≤ pl[k] then some pl[k] else none) := by
  rw [List.take_succ_eq_append_getElem h, List.find?_append]
  congr 1
  by_cases hm : m ≤ pl[k]
  · simp [hm]
  · simp [hm]
theorem waitO_eq {d : Int} {xs : List (Int × Int)} {pl : List Int} (hd : 1 ≤ d) (h : opsB d xs pl = true) {m : Int} (hm : 0 ≤ m) : waitO pl m = waitF pl m := by
  have key : ∀ k, k ≤ pl.length → waitO (pl.take k) m = (match (pl.take k).find? (fun t => decide (m ≤ t)) with | some t => t - m | none => -1) := by
    intro k
    induction k with
    | zero => intro _; simp [waitO]
    | succ k ih =>
      intro hk
      have hlt : k < pl.length := by omega
      have ih := ih (by omega)
      rw [waitO_snoc pl m k hlt, firstO_take pl m k hlt, ih]
      cases hf : (pl.take k).find? (fun t => decide (m ≤ t)) with
      | none =>
        by_cases hc : m ≤ pl[k]
        · simp [waitS, hc]
        · simp [waitS, hc]
      | some t =>
        have h1 := List.mem_of_find?_eq_some hf
        have h2 := List.find?_some hf
        simp only [decide_eq_true_eq] at h2
        obtain ⟨j, hj, rfl⟩ := List.mem_take_iff_getElem.1 h1
        have := opsB_mono hd h j k (by omega) hlt
        simp only [Option.some_or, waitS]
        rw [if_neg (by omega)]
  have := key pl.length (Nat.le_refl _)
  rw [List.take_length] at this
  rw [this]
  unfold waitF firstO
  cases hf : pl.find? (fun t => decide (m ≤ t)) with
  | none => simp
  | some t =>
    have h2 := List.find?_some hf
    simp only [decide_eq_true_eq] at h2
    simp only
    rw [if_neg (by omega)]
theorem firstO_bd {d : Int} {xs : List (Int × Int)} {pl : List Int} (h : opsB d xs pl = true) (m : Int) : -1 ≤ firstO pl m ∧ firstO pl m ≤ 10000 - d ∨ firstO pl m = -1 := by
  unfold firstO
  cases hf : pl.find? (fun t => decide (m ≤ t)) with
  | none => right; rfl
  | some t =>
    left
    have h1 := List.mem_of_find?_eq_some hf
    obtain ⟨j, hj, rfl⟩ := List.getElem_of_mem h1
    have := mayB_bd (opsB_at h j hj)
    simp only
    omega
/-- every request is served in time -/
def servB (rs pl : List Int) (p : Int) : Bool := rs.all fun m => decide (0 ≤ waitF pl m ∧ waitF pl m ≤ p)
def planB (d : Int) (xs : List (Int × Int)) (rs : List Int) (p : Int) (pl : List Int) : Bool := reqB d xs rs p && opsB d xs pl && servB rs pl p
theorem planB_req {d : Int} {xs : List (Int × Int)} {rs : List Int} {p : Int} {pl : List Int} (h : planB d xs rs p pl = true) : reqB d xs rs p = true := by
  simp only [planB, Bool.and_eq_true] at h
  exact h.1.1
theorem planB_ops {d : Int} {xs : List (Int × Int)} {rs : List Int} {p : Int} {pl : List Int} (h : planB d xs rs p pl = true) : opsB d xs pl = true := by
  simp only [planB, Bool.and_eq_true] at h
  exact h.1.2
theorem planB_serv {d : Int} {xs : List (Int × Int)} {rs : List Int} {p : Int} {pl : List Int} (h : planB d xs rs p pl = true) : servB rs pl p = true := by
  simp only [planB, Bool.and_eq_true] at h
  exact h.2
def waitL (rs pl : List Int) : List Int := rs.map fun m => waitF pl m
def sumL (ys : List Int) : Int := ys.foldl (fun s y => s + y) 0
theorem sumL_snoc (ys : List Int) (k : Nat) (h : k < ys.length) : sumL (ys.take (k + 1)) = sumL (ys.take k) + ys[k] := by
  unfold sumL
  rw [List.take_succ_eq_append_getElem h, List.foldl_append]; rfl
def sumV (d : Int) (xs : List (Int × Int)) (rs : List Int) (p : Int) (pl : List Int) : Int × Bool := if planB d xs rs p pl = true then (sumL (waitL rs pl), true) else (0, false)
def openV (d : Int) (xs : List (Int × Int)) (rs : List Int) (p : Int) (pl : List Int) : Int × Bool := if planB d xs rs p pl = true then ((pl.length : Int) * d, true) else (0, false)
/-- the openings chosen so far, and the minute from which the next may begin -/
def fewN (d : Int) (xs : List (Int × Int)) (p : Int) (out : List Int) (r m : Int) : Option (List Int × Int) :=
  if 0 ≤ firstO out m then some (out, r) else (match lastF d xs (max m r) (min (m + p) 9999) with | some u => some (out ++ [u], u + d) | none => none)
def fewS (d : Int) (xs : List (Int × Int)) (p : Int) (a : Option (List Int × Int)) (m : Int) : Option (List Int × Int) := match a with | some (out, r) => fewN d xs p out r m | none => none
theorem fewS_none (d : Int) (xs : List (Int × Int)) (p : Int) : ∀ rs : List Int, rs.foldl (fewS d xs p) none = none
  | [] => rfl
  | r :: rs => by rw [List.foldl_cons]; exact fewS_none d xs p rs
def fewTo (d : Int) (xs : List (Int × Int)) (p : Int) (rs : List Int) (k : Nat) : Option (List Int × Int) := (rs.take k).foldl (fewS d xs p) (some ([], 0))
theorem fewTo_succ (d : Int) (xs : List (Int × Int)) (p : Int) (rs : List Int) (k : Nat) (h : k < rs.length) : fewTo d xs p rs (k + 1) = fewS d xs p (fewTo d xs p rs k) rs[k] := by
  unfold fewTo
  rw [List.take_succ_eq_append_getElem h, List.foldl_append]; rfl
theorem fewTo_end (d : Int) (xs : List (Int × Int)) (p : Int) (rs : List Int) (k : Nat) (_hk : k ≤ rs.length) (h : fewTo d xs p rs k = none) : fewTo d xs p rs rs.length = none := by
  have e : rs = rs.take k ++ rs.drop k := (List.take_append_drop k rs).symm
  unfold fewTo at *
  rw [List.take_length]
  rw [e, List.foldl_append, h]
  exact fewS_none _ _ _ _
def fewV (d : Int) (xs : List (Int × Int)) (rs : List Int) (p : Int) : List Int × Bool :=
  if reqB d xs rs p = true then (match fewTo d xs p rs rs.length with | some a => (a.1, true) | none => ([], false)) else ([], false)
/-- what holds of the openings chosen so far -/
def fewOk (d : Int) (out : List Int) (r : Int) : Prop := (∀ i (hi : i < out.length), 0 ≤ out[i] ∧ out[i] + d ≤ r) ∧ (∀ i (hi : i + 1 < out.length), out[i] ≤ out[i + 1]) ∧ 0 ≤ r ∧ r ≤ 10000
theorem fewOk_nil (d : Int) : fewOk d [] 0 := ⟨fun i hi => absurd hi (Nat.not_lt_zero i), fun i hi => absurd hi (Nat.not_lt_zero _), by omega, by omega⟩
theorem fewOk_snoc {d : Int} {out : List Int} {r u : Int} (h : fewOk d out r) (hd : 1 ≤ d) (h1 : r ≤ u) (h2 : u + d ≤ 10000) : fewOk d (out ++ [u]) (u + d) := by
  obtain ⟨ha, hb, hc, hd'⟩ := h
  refine ⟨fun i hi => ?_, fun i hi => ?_, by omega, by omega⟩
  · rw [List.getElem_append]
    split
    · rename_i hl
      have := ha i hl
      omega
    · simp; omega
  · simp at hi
    rw [List.getElem_append_left (by omega)]
    rw [List.getElem_append]
    split
    · rename_i hl
      exact hb i hl
    · have := ha i (by omega)
      simp
      omega
theorem fewOk_le {d : Int} {out : List Int} {r : Int} (h : fewOk d out r) : ∀ (n j : Nat) (hj : j + n < out.length), out[j] ≤ out[j + n]
  | 0, j, hj => Int.le_refl _
  | n + 1, j, hj => by
    have h1 := fewOk_le h n j (by omega)
    have h2 := h.2.1 (j + n) (by omega)
    exact Int.le_trans h1 h2
theorem fewOk_last {d : Int} {out : List Int} {r m : Int} (h : fewOk d out r) (hm : 0 ≤ m) (n : Nat) (hn : out.length = n + 1) : 0 ≤ firstO out m ↔ m ≤ out[n] := by
  unfold firstO
  constructor
  · intro hf
    cases hx : out.find? (fun t => decide (m ≤ t)) with
    | none => rw [hx] at hf; simp at hf
    | some t =>
      have h1 := List.mem_of_find?_eq_some hx
      have h2 := List.find?_some hx
      simp only [decide_eq_true_eq] at h2
      obtain ⟨j, hj, rfl⟩ := List.getElem_of_mem h1
      have := fewOk_le h (n - j) j (by omega)
      simp only [show j + (n - j) = n by omega] at this
      omega
  · intro hl
    cases hx : out.find? (fun t => decide (m ≤ t)) with
    | none =>
      rw [List.find?_eq_none] at hx
      have := hx out[n] (List.getElem_mem _)
      simp at this
      omega
    | some t =>
      have h2 := List.find?_some hx
      simp only [decide_eq_true_eq] at h2
      simp only
      omega
theorem firstO_nil (m : Int) : firstO [] m = -1 := rfl
theorem fewTo_len {d : Int} {xs : List (Int × Int)} {p : Int} {rs : List Int} : ∀ (k : Nat) (out : List Int) (r : Int), k ≤ rs.length → fewTo d xs p rs k = some (out, r) → out.length ≤ k
  | 0, out, r, _, h => by
    simp [fewTo] at h
    simp [h.1]
  | k + 1, out, r, hk, h => by
    rw [fewTo_succ _ _ _ _ k (by omega)] at h
    cases hp : fewTo d xs p rs k with
    | none => rw [hp] at h; cases h
    | some a =>
      obtain ⟨o', r'⟩ := a
      have ih := fewTo_len k o' r' (by omega) hp
      rw [hp] at h
      simp only [fewS, fewN] at h
      split at h
      · simp only [Option.some.injEq, Prod.mk.injEq] at h
        rw [← h.1]; omega
      · split at h
        · simp only [Option.some.injEq, Prod.mk.injEq] at h
          rw [← h.1, List.length_append]; simp; omega
        · cases h
theorem fewV_len (d : Int) (xs : List (Int × Int)) (rs : List Int) (p : Int) : (fewV d xs rs p).1.length ≤ 8 := by
  unfold fewV
  by_cases h : reqB d xs rs p = true
  · rw [if_pos h]
    have h1 := vB_len (reqB_v h)
    cases hf : fewTo d xs p rs rs.length with
    | none => simp
    | some a =>
      have := fewTo_len rs.length a.1 a.2 (Nat.le_refl _) hf
      simp only
      omega
  · rw [if_neg h]; simp

theorem info_In : (Try.prog.info? 3).map (fun i => (i.zero, i.size, i.bytes)) = some (some (.int .i64 0), 1, 8) := by kernel_rfl

theorem info_Iv : (Try.prog.info? 50).map (fun i => (i.zero, i.size, i.bytes)) = some (some (.agg #[.int .i64 0, .int .i64 0]), 2, 16) := by kernel_rfl

theorem int_eq {a b : Int} (h : a = b) : Value.int .i64 a = .int .i64 b := by rw [h]

end Go.Proofs.Yteciijnpfapmhaa
