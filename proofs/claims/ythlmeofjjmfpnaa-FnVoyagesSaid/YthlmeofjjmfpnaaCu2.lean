import Derived.Test.YthlmeofjjmfpnaaCu
namespace Go.Proofs.Ythlmeofjjmfpnaa
set_option linter.unusedSimpArgs false
set_option linter.unusedVariables false
open Go.RowKit

def CurS (w : World) (b : Nat) (A : Option Addr) (cs : List Int) (cap : Nat) (m : Int) : Prop := Cur w b A cs.length cap m ∧ RdsN b cB 1 w A cs
theorem RdsN.grownb {α : Type} {cf : α → List Value} {sz b : Nat} {w w' : World} {A : Option Addr} {xs : List α} (h : RdsN b cf sz w A xs) (hb : b < w.heap.size) (hg : w.grownBy w' (some b)) : RdsN b cf sz w' A xs := by
  intro i x hx
  obtain ⟨g, off, hA, hlt, hc⟩ := h i x hx
  refine ⟨g, off, hA, hlt, fun j v hv => ?_⟩
  exact (World.cell?_of_block (a := ⟨g, off + i * sz + j, none⟩) (hg.block g (by omega) (by simp; omega))).trans (hc j v hv)
theorem CurS.lt {w : World} {b cap : Nat} {A : Option Addr} {cs : List Int} {m : Int} (h : CurS w b A cs cap m) : b < w.heap.size := h.1.1
theorem CurS.mono {w : World} {b cap : Nat} {A : Option Addr} {cs : List Int} {m m' : Int} (h : CurS w b A cs cap m) (hm : m ≤ m') : CurS w b A cs cap m' := by
  obtain ⟨⟨hb, q0, ⟨a, h1, h2, q1⟩, q2, qz⟩, hr⟩ := h
  exact ⟨⟨hb, q0, ⟨a, h1, by omega, q1⟩, q2, qz⟩, hr⟩
/-- the cursor stays where nothing at or below its block has turned -/
theorem CurS.below {w w' : World} {b cap : Nat} {A : Option Addr} {cs : List Int} {m : Int} (h : CurS w b A cs cap m) (hb : Below w.heap.size w w') : CurS w' b A cs cap m := by
  obtain ⟨⟨hlt, q0, ⟨a, h1, h2, q1⟩, ⟨s, q2⟩, qz⟩, hr⟩ := h
  have hc : ∀ o, w'.cell? ⟨b, o, none⟩ = w.cell? ⟨b, o, none⟩ := fun o => hb.cell (p := ⟨b, o, none⟩) hlt
  refine ⟨⟨Nat.lt_of_lt_of_le hlt hb.size, by rw [hc]; exact q0, ⟨a, h1, h2, by rw [hc]; exact q1⟩, ⟨s, by rw [hc]; exact q2⟩, fun o => by rw [hb.frozen (p := ⟨b, o, none⟩) hlt]; exact qz o⟩, ?_⟩
  intro i x hx
  obtain ⟨g, off, hA, hg, hcc⟩ := hr i x hx
  exact ⟨g, off, hA, hg, fun j v hv => (hb.cell (p := ⟨g, off + i * 1 + j, none⟩) (by show g < _; omega)).trans (hcc j v hv)⟩
theorem grown_trans {a w w' : World} {row : Option Nat} (h : a.grownBy w row) (h' : w.grownBy w' row) : a.grownBy w' row :=
  ⟨h'.os.trans h.os, h'.tape.trans h.tape, h'.output.trans h.output, Nat.le_trans h.size h'.size, fun i hi hne => (h'.block i (Nat.lt_of_lt_of_le hi h.size) hne).trans (h.block i hi hne)⟩
theorem grown_of_below {w w' : World} {row : Option Nat} (h : Below w.heap.size w w') : w.grownBy w' row := ⟨h.os, h.tape, h.output, h.size, fun i hi _ => h.block i hi⟩
theorem grown_alloc (w : World) (o : Obj) (row : Option Nat) : w.grownBy (w.alloc o) row := grown_of_below ((Below.refl _ _).alloc (Nat.le_refl _) _)
theorem c_nextS (b : Nat) (A : Option Addr) (cs : List Int) (cap : Nat) (m : Int) (w : World) (hcu : CurS w b A cs cap m) (hby : Bytes cs) (hm : 0 ≤ m ∧ m ≤ 1000000000) (hl : cs.length ≤ 1000000000) :
    Calls Try.prog 83 #[.pointer (some ⟨b, 0, none⟩)] w fun e w' => ∃ x : Int, e = .returned (.int .i64 x) ∧ 0 ≤ x ∧ x ≤ 255 ∧ CurS w' b A cs cap (m + 1) ∧ w.grownBy w' (some b) :=
  (c_next b A cs cap m w hcu.1 hcu.2 hby hm hl).mono fun _ _ ⟨x, he, h1, h2, h3, h4⟩ => ⟨x, he, h1, h2, ⟨h3, hcu.2.grownb hcu.1.1 h4⟩, h4⟩
theorem emod_bd {x n : Int} (hn : 1 < n) : 0 ≤ x % n ∧ x % n < n := ⟨Int.emod_nonneg _ (by omega), Int.emod_lt_of_pos _ (by omega)⟩
set_option maxHeartbeats 2000000 in
theorem c_pick (b : Nat) (A : Option Addr) (cs : List Int) (cap : Nat) (m n : Int) (w : World) (hcu : CurS w b A cs cap m) (hby : Bytes cs) (hm : 0 ≤ m ∧ m ≤ 900000000) (hl : cs.length ≤ 1000000000) (hn : n ≤ 200) :
    Calls Try.prog 78 #[.pointer (some ⟨b, 0, none⟩), .int .i64 n] w fun e w' => ∃ x : Int, e = .returned (.int .i64 x) ∧ 0 ≤ x ∧ (x = 0 ∨ x < n) ∧ CurS w' b A cs cap (m + 1) ∧ w.grownBy w' (some b) := by
  by_cases h1 : n ≤ 1
  · go_enter Try.func78, Try.ntmps78
    go_wp2_with (fail)
    go_ret
    exact ⟨0, rfl, by omega, .inl rfl, hcu.mono (by omega), World.grownBy.refl _ _⟩
  · go_enter Try.func78, Try.ntmps78
    go_wp2_with (fail)
    refine (c_nextS b A cs cap m _ hcu hby (by omega) hl).mono ?_
    rintro e w1 ⟨x, rfl, hx0, hx1, hcu1, hg1⟩
    go_wp2_with (fail)
    have ht := emod_bd (x := x) (n := n) (by omega)
    go_ret
    exact ⟨x % n, rfl, ht.1, .inr ht.2, hcu1, hg1⟩

end Go.Proofs.Ythlmeofjjmfpnaa
