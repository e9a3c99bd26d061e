import Derived.Test.YtpaclngjmdacjaaDefs
import Derived.Test.YtpaclngjmdacjaaVL
namespace Go.Proofs.Ytpaclngjmdacjaa
set_option linter.unusedSimpArgs false
set_option linter.unusedVariables false
open Go.RowKit

def cPu (x : (Int × Int × Int)) : List Value := [.int .i64 (x.1), .int .i64 (x.2.1), .int .i64 (x.2.2)]
theorem cPu_len (x : (Int × Int × Int)) : (cPu x).length = 3 := rfl

def mkPu (n : Nat) (k : Int) : List (Int × Int × Int) := (List.range n).map fun (i : Nat) => (k + 3 * (i : Int), k + 3 * (i : Int) + 1, k + 3 * (i : Int) + 2)

theorem mkPu_len (n : Nat) (k : Int) : (mkPu n k).length = n := by simp [mkPu]
theorem mkPu_at (n : Nat) (k : Int) (j : Nat) (h : j < n) (h' : j < (mkPu n k).length) : (mkPu n k)[j] = (k + 3 * (j : Int), k + 3 * (j : Int) + 1, k + 3 * (j : Int) + 2) := by simp [mkPu]

theorem mkPu_snoc (j : Nat) (k : Int) : mkPu (j + 1) k = mkPu j k ++ [(k + 3 * (j : Int), k + 3 * (j : Int) + 1, k + 3 * (j : Int) + 2)] := by simp [mkPu, List.range_succ]

theorem news_Pu (w : World) (g : Nat) (x : (Int × Int × Int)) (h0 : w.cell? ⟨g, 0, none⟩ = some (.int .i64 (x.1))) (h1 : w.cell? ⟨g, 1, none⟩ = some (.int .i64 (x.2.1))) (h2 : w.cell? ⟨g, 2, none⟩ = some (.int .i64 (x.2.2))) : ∀ j u, (cPu x)[j]? = some u → w.cell? ⟨g, j, none⟩ = some u := by
  intro j u hu
  match j, hu with
  | 0, hu => cases hu; exact h0
  | 1, hu => cases hu; exact h1
  | 2, hu => cases hu; exact h2
  | j + 3, hu => simp [cPu] at hu

theorem one_Pu : ∀ x, ∀ u ∈ cPu x, u.oneCell' = true := by
  intro x u hu
  simp [cPu] at hu
  rcases hu with rfl | rfl | rfl <;> rfl

def cIn (x : (Int)) : List Value := [.int .i64 (x)]
theorem cIn_len (x : (Int)) : (cIn x).length = 1 := rfl

def mkIn (n : Nat) (k : Int) : List (Int) := (List.range n).map fun (i : Nat) => (k + (i : Int))

theorem mkIn_len (n : Nat) (k : Int) : (mkIn n k).length = n := by simp [mkIn]
theorem mkIn_at (n : Nat) (k : Int) (j : Nat) (h : j < n) (h' : j < (mkIn n k).length) : (mkIn n k)[j] = (k + (j : Int)) := by simp [mkIn]

theorem mkIn_snoc (j : Nat) (k : Int) : mkIn (j + 1) k = mkIn j k ++ [(k + (j : Int))] := by simp [mkIn, List.range_succ]

theorem news_In (w : World) (g : Nat) (x : (Int)) (h0 : w.cell? ⟨g, 0, none⟩ = some (.int .i64 (x))) : ∀ j u, (cIn x)[j]? = some u → w.cell? ⟨g, j, none⟩ = some u := by
  intro j u hu
  match j, hu with
  | 0, hu => cases hu; exact h0
  | j + 1, hu => simp [cIn] at hu

theorem one_In : ∀ x, ∀ u ∈ cIn x, u.oneCell' = true := by
  intro x u hu
  simp [cIn] at hu
  subst hu
  rfl

def puOk (x : Int × Int × Int) : Bool := inB x.1 1 50 && inB x.2.1 0 20 && inB x.2.2 0 50
theorem puOk_bd {x : Int × Int × Int} (h : puOk x = true) : 1 ≤ x.1 ∧ x.1 ≤ 50 ∧ 0 ≤ x.2.1 ∧ x.2.1 ≤ 20 ∧ 0 ≤ x.2.2 ∧ x.2.2 ≤ 50 := by
  simp only [puOk, Bool.and_eq_true] at h
  have h1 := inB_bd h.1.1
  have h2 := inB_bd h.1.2
  have h3 := inB_bd h.2
  omega
def flOk (f : Int) : Bool := inB f (-50) 50
def headB (l h v : Int) (n m : Nat) : Bool := decide (0 ≤ l ∧ l ≤ v ∧ v ≤ h ∧ h ≤ 500 ∧ 1 ≤ n ∧ n ≤ 5 ∧ m ≤ 2)
theorem headB_bd {l h v : Int} {n m : Nat} (e : headB l h v n m = true) : 0 ≤ l ∧ l ≤ v ∧ v ≤ h ∧ h ≤ 500 ∧ 1 ≤ n ∧ n ≤ 5 ∧ m ≤ 2 := by simpa [headB] using e
def taskB (l h v : Int) (fs : List Int) (ps : List (Int × Int × Int)) : Bool := headB l h v fs.length ps.length && fs.all flOk && ps.all puOk
section
variable {l h v : Int} {fs : List Int} {ps : List (Int × Int × Int)}
theorem taskB_head (e : taskB l h v fs ps = true) : headB l h v fs.length ps.length = true := by
  simp only [taskB, Bool.and_eq_true] at e
  exact e.1.1
theorem taskB_fl (e : taskB l h v fs ps = true) : ∀ k (hk : k < fs.length), -50 ≤ fs[k] ∧ fs[k] ≤ 50 := by
  simp only [taskB, Bool.and_eq_true, List.all_eq_true] at e
  exact fun k hk => inB_bd (e.1.2 fs[k] (List.getElem_mem hk))
theorem taskB_pu (e : taskB l h v fs ps = true) : ∀ k (hk : k < ps.length), puOk ps[k] = true := by
  simp only [taskB, Bool.and_eq_true, List.all_eq_true] at e
  exact fun k hk => e.2 ps[k] (List.getElem_mem hk)
end
/-- the greatest number that says which of n pumps run (n at most two) -/
def topB (n : Nat) : Int := if n = 0 then 0 else if n = 1 then 1 else 3
def bitsOk (n : Nat) (x : Int) : Bool := inB x 0 (topB n)
def planB (l h v : Int) (fs : List Int) (ps : List (Int × Int × Int)) (pl : List Int) : Bool := taskB l h v fs ps && decide (pl.length = fs.length) && pl.all (bitsOk ps.length)
section
variable {l h v : Int} {fs : List Int} {ps : List (Int × Int × Int)} {pl : List Int}
theorem planB_task (e : planB l h v fs ps pl = true) : taskB l h v fs ps = true := by
  simp only [planB, Bool.and_eq_true] at e
  exact e.1.1
theorem planB_len (e : planB l h v fs ps pl = true) : pl.length = fs.length := by
  simp only [planB, Bool.and_eq_true, decide_eq_true_eq] at e
  exact e.1.2
theorem planB_bits (e : planB l h v fs ps pl = true) : ∀ k (hk : k < pl.length), bitsOk ps.length pl[k] = true := by
  simp only [planB, Bool.and_eq_true, List.all_eq_true] at e
  exact fun k hk => e.2 pl[k] (List.getElem_mem hk)
theorem bitsOk_bd {n : Nat} {x : Int} (e : bitsOk n x = true) : 0 ≤ x ∧ x ≤ 3 := by
  have := inB_bd e
  unfold topB at this
  split at this
  · omega
  · split at this <;> omega
end
/-- a pump runs: bit i of the hour's number (0 to 3; i: 0 or 1) -/
def bitB (x : Int) (i : Nat) : Bool := if i = 0 then decide (x = 1 ∨ x = 3) else decide (x = 2 ∨ x = 3)
/-- what an hour's pumps take out, cost and start, the first k of them; b: the hour before -/
def outTo (ps : List (Int × Int × Int)) (x : Int) : Nat → Int
  | 0 => 0
  | k + 1 => match ps[k]? with | some p => outTo ps x k + (if bitB x k = true then p.1 else 0) | none => outTo ps x k
def costTo (ps : List (Int × Int × Int)) (b x : Int) : Nat → Int
  | 0 => 0
  | k + 1 => match ps[k]? with | some p => costTo ps b x k + (if bitB x k = true then p.2.1 + (if bitB b k = true then 0 else p.2.2) else 0) | none => costTo ps b x k
def startTo (ps : List (Int × Int × Int)) (b x : Int) : Nat → Int
  | 0 => 0
  | k + 1 => match ps[k]? with | some _ => startTo ps b x k + (if bitB x k = true then (if bitB b k = true then 0 else 1) else 0) | none => startTo ps b x k
section
variable {ps : List (Int × Int × Int)}
theorem outTo_succ (x : Int) (k : Nat) (h : k < ps.length) : outTo ps x (k + 1) = outTo ps x k + (if bitB x k = true then ps[k].1 else 0) := by
  rw [outTo, List.getElem?_eq_getElem h]
theorem costTo_succ (b x : Int) (k : Nat) (h : k < ps.length) : costTo ps b x (k + 1) = costTo ps b x k + (if bitB x k = true then ps[k].2.1 + (if bitB b k = true then 0 else ps[k].2.2) else 0) := by
  rw [costTo, List.getElem?_eq_getElem h]
theorem startTo_succ (b x : Int) (k : Nat) (h : k < ps.length) : startTo ps b x (k + 1) = startTo ps b x k + (if bitB x k = true then (if bitB b k = true then 0 else 1) else 0) := by
  rw [startTo, List.getElem?_eq_getElem h]
theorem outTo_bd (hp : ∀ k (hk : k < ps.length), puOk ps[k] = true) (x : Int) : ∀ k : Nat, k ≤ ps.length → 0 ≤ outTo ps x k ∧ outTo ps x k ≤ 50 * k
  | 0, _ => by simp [outTo]
  | k + 1, hk => by
    have ih := outTo_bd hp x k (by omega)
    have hb := puOk_bd (hp k (by omega))
    rw [outTo_succ x k (by omega)]
    split <;> omega
theorem costTo_bd (hp : ∀ k (hk : k < ps.length), puOk ps[k] = true) (b x : Int) : ∀ k : Nat, k ≤ ps.length → 0 ≤ costTo ps b x k ∧ costTo ps b x k ≤ 70 * k
  | 0, _ => by simp [costTo]
  | k + 1, hk => by
    have ih := costTo_bd hp b x k (by omega)
    have hb := puOk_bd (hp k (by omega))
    rw [costTo_succ b x k (by omega)]
    split
    · split <;> omega
    · omega
theorem startTo_bd (b x : Int) : ∀ k : Nat, k ≤ ps.length → 0 ≤ startTo ps b x k ∧ startTo ps b x k ≤ k
  | 0, _ => by simp [startTo]
  | k + 1, hk => by
    have ih := startTo_bd b x k (by omega)
    rw [startTo_succ b x k (by omega)]
    split
    · split <;> omega
    · omega
end
/-- the hour before the k-th -/
def befB (pl : List Int) (k : Nat) : Int := match k with | 0 => 0 | k + 1 => (match pl[k]? with | some x => x | none => 0)
theorem befB_zero (pl : List Int) : befB pl 0 = 0 := rfl
theorem befB_succ {pl : List Int} {k : Nat} (h : k < pl.length) : befB pl (k + 1) = pl[k] := by simp [befB, h]
def levTo (v : Int) (fs pl : List Int) (ps : List (Int × Int × Int)) : Nat → Int
  | 0 => v
  | k + 1 => match fs[k]?, pl[k]? with | some f, some x => levTo v fs pl ps k + f - outTo ps x ps.length | _, _ => levTo v fs pl ps k
def pumpTo (pl : List Int) (ps : List (Int × Int × Int)) : Nat → Int
  | 0 => 0
  | k + 1 => match pl[k]? with | some x => pumpTo pl ps k + outTo ps x ps.length | none => pumpTo pl ps k
def payTo (pl : List Int) (ps : List (Int × Int × Int)) : Nat → Int
  | 0 => 0
  | k + 1 => match pl[k]? with | some x => payTo pl ps k + costTo ps (befB pl k) x ps.length | none => payTo pl ps k
def startsTo (pl : List Int) (ps : List (Int × Int × Int)) : Nat → Int
  | 0 => 0
  | k + 1 => match pl[k]? with | some x => startsTo pl ps k + startTo ps (befB pl k) x ps.length | none => startsTo pl ps k
def levsTo (v : Int) (fs pl : List Int) (ps : List (Int × Int × Int)) (k : Nat) : List Int := (List.range k).map fun j => levTo v fs pl ps (j + 1)
section
variable {v : Int} {fs pl : List Int} {ps : List (Int × Int × Int)}
theorem levTo_succ (k : Nat) (h : k < pl.length) (h2 : k < fs.length) : levTo v fs pl ps (k + 1) = levTo v fs pl ps k + fs[k] - outTo ps pl[k] ps.length := by
  rw [levTo, List.getElem?_eq_getElem h, List.getElem?_eq_getElem h2]
theorem pumpTo_succ (k : Nat) (h : k < pl.length) : pumpTo pl ps (k + 1) = pumpTo pl ps k + outTo ps pl[k] ps.length := by
  rw [pumpTo, List.getElem?_eq_getElem h]
theorem payTo_succ (k : Nat) (h : k < pl.length) : payTo pl ps (k + 1) = payTo pl ps k + costTo ps (befB pl k) pl[k] ps.length := by
  rw [payTo, List.getElem?_eq_getElem h]
theorem startsTo_succ (k : Nat) (h : k < pl.length) : startsTo pl ps (k + 1) = startsTo pl ps k + startTo ps (befB pl k) pl[k] ps.length := by
  rw [startsTo, List.getElem?_eq_getElem h]
theorem levsTo_succ (k : Nat) : levsTo v fs pl ps (k + 1) = levsTo v fs pl ps k ++ [levTo v fs pl ps (k + 1)] := by
  unfold levsTo
  rw [List.range_succ, List.map_append]; rfl
theorem levsTo_len (k : Nat) : (levsTo v fs pl ps k).length = k := by simp [levsTo]
theorem levTo_bd (hv : 0 ≤ v ∧ v ≤ 500) (hf : ∀ k (hk : k < fs.length), -50 ≤ fs[k] ∧ fs[k] ≤ 50) (hp : ∀ k (hk : k < ps.length), puOk ps[k] = true) (hn : ps.length ≤ 2) (hl : pl.length ≤ fs.length) : ∀ k : Nat, k ≤ pl.length → -(150 * (k : Int)) ≤ levTo v fs pl ps k ∧ levTo v fs pl ps k ≤ 500 + 50 * k
  | 0, _ => by simp only [levTo]; omega
  | k + 1, hk => by
    have ih := levTo_bd hv hf hp hn hl k (by omega)
    have h1 := hf k (by omega)
    have h2 := outTo_bd hp pl[k] ps.length (Nat.le_refl _)
    rw [levTo_succ k (by omega) (by omega)]
    omega
theorem pumpTo_bd (hp : ∀ k (hk : k < ps.length), puOk ps[k] = true) (hn : ps.length ≤ 2) : ∀ k : Nat, k ≤ pl.length → 0 ≤ pumpTo pl ps k ∧ pumpTo pl ps k ≤ 100 * k
  | 0, _ => by simp [pumpTo]
  | k + 1, hk => by
    have ih := pumpTo_bd hp hn k (by omega)
    have h2 := outTo_bd hp pl[k] ps.length (Nat.le_refl _)
    rw [pumpTo_succ k (by omega)]
    omega
theorem payTo_bd (hp : ∀ k (hk : k < ps.length), puOk ps[k] = true) (hn : ps.length ≤ 2) : ∀ k : Nat, k ≤ pl.length → 0 ≤ payTo pl ps k ∧ payTo pl ps k ≤ 140 * k
  | 0, _ => by simp [payTo]
  | k + 1, hk => by
    have ih := payTo_bd hp hn k (by omega)
    have h2 := costTo_bd hp (befB pl k) pl[k] ps.length (Nat.le_refl _)
    rw [payTo_succ k (by omega)]
    omega
theorem startsTo_bd (hn : ps.length ≤ 2) : ∀ k : Nat, k ≤ pl.length → 0 ≤ startsTo pl ps k ∧ startsTo pl ps k ≤ 2 * k
  | 0, _ => by simp [startsTo]
  | k + 1, hk => by
    have ih := startsTo_bd hn k (by omega)
    have h2 := startTo_bd (ps := ps) (befB pl k) pl[k] ps.length (Nat.le_refl _)
    rw [startsTo_succ k (by omega)]
    omega
theorem befB_bd (hb : ∀ k (hk : k < pl.length), 0 ≤ pl[k] ∧ pl[k] ≤ 3) (k : Nat) (hk : k ≤ pl.length) : 0 ≤ befB pl k ∧ befB pl k ≤ 3 := by
  cases k with
  | zero => simp [befB]
  | succ k => rw [befB_succ (by omega)]; exact hb k (by omega)
end

def noFl (x : Int) : Bool := !inB x (-50) 50
def noPu (x : Int × Int × Int) : Bool := !puOk x
theorem fl_any (fs : List Int) : fs.all flOk = !(fs.any noFl) := by
  rw [List.not_any_eq_all_not]
  congr 1
  funext x
  simp [noFl, flOk]
theorem pu_any (ps : List (Int × Int × Int)) : ps.all puOk = !(ps.any noPu) := by
  rw [List.not_any_eq_all_not]
  congr 1
  funext x
  simp [noPu]
theorem all_snoc {α : Type} (p : α → Bool) (xs : List α) (k : Nat) (h : k < xs.length) : (xs.take (k + 1)).all p = ((xs.take k).all p && p xs[k]) := by
  rw [List.take_succ_eq_append_getElem h, List.all_append]; simp
theorem all_miss {α : Type} {p : α → Bool} {xs : List α} {k : Nat} (h : k < xs.length) (hp : p xs[k] = false) : xs.all p = false := by
  rw [List.all_eq_false]; exact ⟨xs[k], List.getElem_mem h, by simp [hp]⟩
theorem taskB_nohead {l h v : Int} {fs : List Int} {ps : List (Int × Int × Int)} (e : headB l h v fs.length ps.length = false) : taskB l h v fs ps = false := by simp [taskB, e]

theorem info_In : (Try.prog.info? 3).map (fun i => (i.zero, i.size, i.bytes)) = some (some (.int .i64 0), 1, 8) := by kernel_rfl

theorem info_Pu : (Try.prog.info? 71).map (fun i => (i.zero, i.size, i.bytes)) = some (some (.agg #[.int .i64 0, .int .i64 0, .int .i64 0]), 3, 24) := by kernel_rfl

theorem int_eq {a b : Int} (h : a = b) : Value.int .i64 a = .int .i64 b := by rw [h]

end Go.Proofs.Ytpaclngjmdacjaa
