import Derived.Test.YtgjbdcalmodhpaaSl
import Derived.Test.YtgjbdcalmodhpaaDefs
namespace Go.Proofs.Ytgjbdcalmodhpaa
set_option linter.unusedSimpArgs false
set_option linter.unusedVariables false
open Go.RowKit

def cB (x : Int) : List Value := [.int .u8 x]
/-- the cursor at block b: the code, how far it has come (m at most), the seed -/
def Cur (w : World) (b : Nat) (A : Option Addr) (n cap : Nat) (m : Int) : Prop :=
  b < w.heap.size ∧ w.cell? ⟨b, 0, none⟩ = some (.slice A n cap) ∧ (∃ a : Int, 0 ≤ a ∧ a ≤ m ∧ w.cell? ⟨b, 1, none⟩ = some (.int .i64 a)) ∧ (∃ s : Int, w.cell? ⟨b, 2, none⟩ = some (.int .u64 s)) ∧ ∀ o, w.frozen? ⟨b, o, none⟩ = false
def Bytes (cs : List Int) : Prop := ∀ k (hk : k < cs.length), 0 ≤ cs[k] ∧ cs[k] ≤ 255
theorem low8 (E : Int) (h0 : 0 ≤ E) (h1 : E ≤ 18446744073709551615) : 0 ≤ bits BinOp.and IntKind.u64 E 255 ∧ bits BinOp.and IntKind.u64 E 255 ≤ 255 := by
  have h := bits_and_u64_nat E.toNat 255 (by omega) (by omega)
  rw [Int.toNat_of_nonneg h0] at h
  have h3 : bits BinOp.and IntKind.u64 E 255 = ((E.toNat &&& 255 : Nat) : Int) := h
  have h2 : E.toNat &&& 255 ≤ 255 := Nat.and_le_right
  omega
theorem wrap_u64 (x : Int) : 0 ≤ IntKind.u64.wrap x ∧ IntKind.u64.wrap x ≤ 18446744073709551615 := by
  have : IntKind.u64.wrap x = x % 18446744073709551616 := rfl
  omega
theorem Cur.after {w w' : World} {b n cap : Nat} {A : Option Addr} {m a : Int} (hcu : Cur w b A n cap m) (ha : 0 ≤ a ∧ a ≤ m + 1) (h0 : w'.cell? ⟨b, 0, none⟩ = w.cell? ⟨b, 0, none⟩) (h1 : w'.cell? ⟨b, 1, none⟩ = some (.int .i64 a)) (h2 : ∃ s, w'.cell? ⟨b, 2, none⟩ = some (.int .u64 s))
    (hz : ∀ o, w'.frozen? ⟨b, o, none⟩ = w.frozen? ⟨b, o, none⟩) (hs : w.heap.size ≤ w'.heap.size) : Cur w' b A n cap (m + 1) := by
  obtain ⟨hb, q0, _, _, qz⟩ := hcu
  exact ⟨by omega, by rw [h0]; exact q0, ⟨a, ha.1, ha.2, h1⟩, h2, fun o => by rw [hz]; exact qz o⟩
theorem grown_drew {a w : World} {row : Option Nat} (h : a.grownBy w row) : a.grownBy w.drew row := ⟨h.os, h.tape, h.output, h.size, h.block⟩
set_option maxRecDepth 100000 in
set_option maxHeartbeats 2000000 in
theorem c_next (b : Nat) (A : Option Addr) (cs : List Int) (cap : Nat) (m : Int) (w : World) (hcu : Cur w b A cs.length cap m) (hr : RdsN b cB 1 w A cs) (hby : Bytes cs) (hm : 0 ≤ m ∧ m ≤ 1000000000) (hl : cs.length ≤ 1000000000) :
    Calls Try.prog 95 #[.pointer (some ⟨b, 0, none⟩)] w fun e w' => ∃ x : Int, e = .returned (.int .i64 x) ∧ 0 ≤ x ∧ x ≤ 255 ∧ Cur w' b A cs.length cap (m + 1) ∧ w.grownBy w' (some b) := by
  have hcu0 := hid hcu
  obtain ⟨hb, q0, ⟨a, ha0, ha1, q1⟩, ⟨s, q2⟩, qz⟩ := hcu
  have z1 := qz 1
  have z2 := qz 2
  by_cases hlt : a < cs.length
  · obtain ⟨k, rfl⟩ : ∃ k : Nat, a = k := ⟨a.toNat, by omega⟩
    have hk : k < cs.length := by omega
    obtain ⟨bx, ox, rfl, hbx, hcx⟩ := hr k cs[k] (List.getElem?_eq_getElem hk)
    have hx0 := hcx 0 _ rfl
    simp only [Nat.add_zero, Nat.mul_one] at hx0
    have hx := hby k hk
    clear hcx hr hby
    generalize cs[k] = x at *
    generalize hcl : cs.length = n at *
    go_enter Try.func95, Try.ntmps95
    go_wp2_with (fail)
    go_region
    all_goals go_wp2_with (fail)
    all_goals go_region
    all_goals go_wp2_with (fail)
    all_goals go_region
    all_goals go_wp2_with (fail)
    all_goals go_ret
    all_goals
      refine ⟨x, rfl, hx.1, hx.2, ?_, ?_⟩
      · refine Cur.after hcu0.out (a := k + 1) (by omega) ?_ ?_ ?_ (fun o => ?_) ?_
        · simp [go_sem]
        · simp [go_sem, q1]
        · refine ⟨?_, ?_⟩
          rotate_left
          · simp [go_sem, q2]
            rfl
        · simp [go_sem]
        · simp
      · repeat' first | exact World.grownBy.refl _ _ | refine grown_drew ?_ | refine grown_set ?_
  · have hx0 : (0 : Int) ≤ 0 := by omega
    clear hr hby
    generalize hcl : cs.length = n at *
    go_enter Try.func95, Try.ntmps95
    go_wp2_with (fail)
    go_region
    all_goals go_wp2_with (fail)
    all_goals go_region
    all_goals go_wp2_with (fail)
    have hw := wrap_u64 (IntKind.u64.wrap (IntKind.u64.wrap (s * 6364136223846793005)) + 924924)
    generalize hg : IntKind.u64.wrap (IntKind.u64.wrap (IntKind.u64.wrap (s * 6364136223846793005)) + 924924) = u at *
    have h8 := low8 (u / 1099511627776) (by omega) (by omega)
    generalize bits BinOp.and IntKind.u64 (u / 1099511627776) 255 = z at *
    have e : wrap64 z = z := by unfold wrap64; omega
    all_goals go_ret
    all_goals
      refine ⟨z, by (first | rfl | simp [e]),  h8.1, h8.2, ?_, ?_⟩
      · refine Cur.after hcu0.out (a := a + 1) (by omega) ?_ ?_ ?_ (fun o => ?_) ?_
        · simp [go_sem]
        · simp [go_sem, q1]
        · refine ⟨?_, ?_⟩
          rotate_left
          · simp [go_sem, q2]
            rfl
        · simp [go_sem]
        · simp
      · repeat' first | exact World.grownBy.refl _ _ | refine grown_drew ?_ | refine grown_set ?_

def CurS (w : World) (b : Nat) (A : Option Addr) (cs : List Int) (cap : Nat) (m : Int) : Prop := Cur w b A cs.length cap m ∧ RdsN b cB 1 w A cs
theorem RdsN.grownb {α : Type} {cf : α → List Value} {sz b : Nat} {w w' : World} {A : Option Addr} {xs : List α} (h : RdsN b cf sz w A xs) (hb : b < w.heap.size) (hg : w.grownBy w' (some b)) : RdsN b cf sz w' A xs := by
  intro i x hx
  obtain ⟨g, off, hA, hlt, hc⟩ := h i x hx
  refine ⟨g, off, hA, hlt, fun j v hv => ?_⟩
  exact (World.cell?_of_block (a := ⟨g, off + i * sz + j, none⟩) (hg.block g (by omega) (by simp; omega))).trans (hc j v hv)
theorem CurS.lt {w : World} {b cap : Nat} {A : Option Addr} {cs : List Int} {m : Int} (h : CurS w b A cs cap m) : b < w.heap.size := h.1.1
theorem CurS.mono {w : World} {b cap : Nat} {A : Option Addr} {cs : List Int} {m m' : Int} (h : CurS w b A cs cap m) (hm : m ≤ m') : CurS w b A cs cap m' := by
  obtain ⟨⟨hb, q0, ⟨a, h1, h2, q1⟩, q2, qz⟩, hr⟩ := h
  exact ⟨⟨hb, q0, ⟨a, h1, by omega, q1⟩, q2, qz⟩, hr⟩
/-- the cursor stays where nothing at or below its block has turned -/
theorem CurS.below {w w' : World} {b cap : Nat} {A : Option Addr} {cs : List Int} {m : Int} (h : CurS w b A cs cap m) (hb : Below w.heap.size w w') : CurS w' b A cs cap m := by
  obtain ⟨⟨hlt, q0, ⟨a, h1, h2, q1⟩, ⟨s, q2⟩, qz⟩, hr⟩ := h
  have hc : ∀ o, w'.cell? ⟨b, o, none⟩ = w.cell? ⟨b, o, none⟩ := fun o => hb.cell (p := ⟨b, o, none⟩) hlt
  refine ⟨⟨Nat.lt_of_lt_of_le hlt hb.size, by rw [hc]; exact q0, ⟨a, h1, h2, by rw [hc]; exact q1⟩, ⟨s, by rw [hc]; exact q2⟩, fun o => by rw [hb.frozen (p := ⟨b, o, none⟩) hlt]; exact qz o⟩, ?_⟩
  intro i x hx
  obtain ⟨g, off, hA, hg, hcc⟩ := hr i x hx
  exact ⟨g, off, hA, hg, fun j v hv => (hb.cell (p := ⟨g, off + i * 1 + j, none⟩) (by show g < _; omega)).trans (hcc j v hv)⟩
theorem grown_trans {a w w' : World} {row : Option Nat} (h : a.grownBy w row) (h' : w.grownBy w' row) : a.grownBy w' row :=
  ⟨h'.os.trans h.os, h'.tape.trans h.tape, h'.output.trans h.output, Nat.le_trans h.size h'.size, fun i hi hne => (h'.block i (Nat.lt_of_lt_of_le hi h.size) hne).trans (h.block i hi hne)⟩
theorem grown_of_below {w w' : World} {row : Option Nat} (h : Below w.heap.size w w') : w.grownBy w' row := ⟨h.os, h.tape, h.output, h.size, fun i hi _ => h.block i hi⟩
theorem grown_alloc (w : World) (o : Obj) (row : Option Nat) : w.grownBy (w.alloc o) row := grown_of_below ((Below.refl _ _).alloc (Nat.le_refl _) _)
theorem c_nextS (b : Nat) (A : Option Addr) (cs : List Int) (cap : Nat) (m : Int) (w : World) (hcu : CurS w b A cs cap m) (hby : Bytes cs) (hm : 0 ≤ m ∧ m ≤ 1000000000) (hl : cs.length ≤ 1000000000) :
    Calls Try.prog 95 #[.pointer (some ⟨b, 0, none⟩)] w fun e w' => ∃ x : Int, e = .returned (.int .i64 x) ∧ 0 ≤ x ∧ x ≤ 255 ∧ CurS w' b A cs cap (m + 1) ∧ w.grownBy w' (some b) :=
  (c_next b A cs cap m w hcu.1 hcu.2 hby hm hl).mono fun _ _ ⟨x, he, h1, h2, h3, h4⟩ => ⟨x, he, h1, h2, ⟨h3, hcu.2.grownb hcu.1.1 h4⟩, h4⟩
theorem emod_bd {x n : Int} (hn : 1 < n) : 0 ≤ x % n ∧ x % n < n := ⟨Int.emod_nonneg _ (by omega), Int.emod_lt_of_pos _ (by omega)⟩
set_option maxHeartbeats 2000000 in
theorem c_pick (b : Nat) (A : Option Addr) (cs : List Int) (cap : Nat) (m n : Int) (w : World) (hcu : CurS w b A cs cap m) (hby : Bytes cs) (hm : 0 ≤ m ∧ m ≤ 900000000) (hl : cs.length ≤ 1000000000) (hn : n ≤ 200) :
    Calls Try.prog 92 #[.pointer (some ⟨b, 0, none⟩), .int .i64 n] w fun e w' => ∃ x : Int, e = .returned (.int .i64 x) ∧ 0 ≤ x ∧ (x = 0 ∨ x < n) ∧ CurS w' b A cs cap (m + 1) ∧ w.grownBy w' (some b) := by
  by_cases h1 : n ≤ 1
  · go_enter Try.func92, Try.ntmps92
    go_wp2_with (fail)
    go_ret
    exact ⟨0, rfl, by omega, .inl rfl, hcu.mono (by omega), World.grownBy.refl _ _⟩
  · go_enter Try.func92, Try.ntmps92
    go_wp2_with (fail)
    refine (c_nextS b A cs cap m _ hcu hby (by omega) hl).mono ?_
    rintro e w1 ⟨x, rfl, hx0, hx1, hcu1, hg1⟩
    go_wp2_with (fail)
    have ht := emod_bd (x := x) (n := n) (by omega)
    go_ret
    exact ⟨x % n, rfl, ht.1, .inr ht.2, hcu1, hg1⟩

def cI (x : Int) : List Value := [.int .i64 x]
theorem Rds.of_block {w : World} {g : Nat} {cur : Array Value} {T : TypeId} {fr : Nat × Nat} {L : List Int} (h : w.heap[g]? = some (.cells cur T fr)) (hc : ∀ (i : Nat) (x : Int), L[i]? = some x → cur[i]? = some (Value.int .i64 x)) : Rds cI 1 w (some ⟨g, 0, none⟩) L := by
  intro i x hx
  have hlt : g < w.heap.size := by
    rcases Nat.lt_or_ge g w.heap.size with hl | hl
    · exact hl
    · rw [Array.getElem?_eq_none hl] at h; cases h
  refine ⟨g, 0, rfl, hlt, fun j v hv => ?_⟩
  match j, hv with
  | 0, hv =>
    simp only [cI, List.getElem?_cons_zero, Option.some.injEq] at hv
    subst hv
    simp [World.cell?, h, hc i x hx]
  | j + 1, hv => simp [cI] at hv
set_option maxHeartbeats 2000000 in
theorem c_one (b : Nat) (A : Option Addr) (cs : List Int) (cap : Nat) (m n : Int) (w : World) (hcu : CurS w b A cs cap m) (hby : Bytes cs) (hm : 0 ≤ m ∧ m ≤ 900000000) (hl : cs.length ≤ 1000000000) (hn : n ≤ 200) :
    Calls Try.prog 93 #[.pointer (some ⟨b, 0, none⟩), .int .i64 n] w fun e w' => ∃ y : Bool, e = .returned (.bool y) ∧ CurS w' b A cs cap (m + 1) ∧ w.grownBy w' (some b) := by
  go_enter Try.func93, Try.ntmps93
  go_wp2_with (fail)
  refine (c_pick b A cs cap m n _ hcu hby hm hl hn).mono ?_
  rintro e w1 ⟨x, rfl, hx0, hx1, hcu1, hg1⟩
  go_wp2_with (fail)
  all_goals go_ret
  all_goals exact ⟨_, rfl, hcu1, hg1⟩
set_option maxHeartbeats 2000000 in
theorem c_among (b : Nat) (A : Option Addr) (cs : List Int) (cap : Nat) (m : Int) (AL : Option Addr) (L : List Int) (capL : Nat) (lo hi : Int) (w : World) (hcu : CurS w b A cs cap m) (hby : Bytes cs) (hm : 0 ≤ m ∧ m ≤ 900000000) (hl : cs.length ≤ 1000000000)
    (hL : Rds cI 1 w AL L) (hlen : 0 < L.length ∧ L.length ≤ 200) (hne : ∀ a, AL = some a → some a.block ≠ some b) (hbd : ∀ k (hk : k < L.length), lo ≤ L[k] ∧ L[k] ≤ hi) :
    Calls Try.prog 79 #[.pointer (some ⟨b, 0, none⟩), .slice AL L.length capL] w fun e w' => ∃ y : Int, e = .returned (.int .i64 y) ∧ lo ≤ y ∧ y ≤ hi ∧ CurS w' b A cs cap (m + 1) ∧ w.grownBy w' (some b) := by
  go_enter Try.func79, Try.ntmps79
  go_wp2_with (fail)
  refine (c_pick b A cs cap m L.length _ hcu hby hm hl (by omega)).mono ?_
  rintro e w1 ⟨x, rfl, hx0, hx1, hcu1, hg1⟩
  obtain ⟨k, rfl⟩ : ∃ k : Nat, x = k := ⟨x.toNat, by omega⟩
  have hk : k < L.length := by omega
  have hL1 := hL.grown hg1 hne
  obtain ⟨bx, ox, rfl, hbx, hcx⟩ := hL1 k L[k] (List.getElem?_eq_getElem hk)
  have hx := hcx 0 _ rfl
  simp only [Nat.add_zero, Nat.mul_one] at hx
  have hy := hbd k hk
  clear hcx hL1 hbd hL hne
  generalize L[k] = y at *
  generalize L.length = n at *
  go_wp2_with (fail)
  all_goals go_ret
  all_goals exact ⟨y, rfl, hy.1, hy.2, hcu1, hg1⟩

theorem cellRow {W w' : World} {b : Nat} (hg : W.grownBy w' (some b)) : ∀ g o, w'.cell? ⟨g, o, none⟩ = if g < W.heap.size ∧ g ≠ b then W.cell? ⟨g, o, none⟩ else far w' g o := by
  intro g o
  by_cases h : g < W.heap.size ∧ g ≠ b
  · rw [if_pos h]; exact World.cell?_of_block (a := ⟨g, o, none⟩) (hg.block g h.1 (by simpa using h.2))
  · rw [if_neg h]; rfl
theorem frozRow {W w' : World} {b : Nat} (hg : W.grownBy w' (some b)) : ∀ g o, w'.frozen? ⟨g, o, none⟩ = if g < W.heap.size ∧ g ≠ b then W.frozen? ⟨g, o, none⟩ else farz w' g o := by
  intro g o
  by_cases h : g < W.heap.size ∧ g ≠ b
  · rw [if_pos h]; exact World.frozen?_of_block (a := ⟨g, o, none⟩) (hg.block g h.1 (by simpa using h.2))
  · rw [if_neg h]; rfl
theorem Rds.of_lit {w : World} {g : Nat} {cur : Array Value} {T : TypeId} {L : List Int} (hg : g = w.heap.size) (hc : ∀ (i : Nat) (x : Int), L[i]? = some x → cur[i]? = some (Value.int .i64 x)) : Rds cI 1 (w.alloc (.cells cur T)) (some ⟨g, 0, none⟩) L := by
  subst hg
  exact Rds.of_block (heap_alloc_new _ _) hc
theorem CurS.setc {w : World} {b cap : Nat} {A : Option Addr} {cs : List Int} {m : Int} {p : Addr} {v : Value} (h : CurS w b A cs cap m) (hp : b < p.block) : CurS (w.setCell p v) b A cs cap m := by
  obtain ⟨⟨hlt, q0, ⟨a, h1, h2, q1⟩, ⟨s, q2⟩, qz⟩, hr⟩ := h
  have hk : ∀ g, g ≤ b → (w.setCell p v).heap[g]? = w.heap[g]? := fun g hg => Below.heap_setCell w p v g (by omega)
  have hc : ∀ g, g ≤ b → ∀ o, (w.setCell p v).cell? ⟨g, o, none⟩ = w.cell? ⟨g, o, none⟩ := fun g hg o => World.cell?_of_block (a := ⟨g, o, none⟩) (hk g hg)
  have hz : ∀ o, (w.setCell p v).frozen? ⟨b, o, none⟩ = w.frozen? ⟨b, o, none⟩ := fun o => World.frozen?_of_block (a := ⟨b, o, none⟩) (hk b (Nat.le_refl _))
  refine ⟨⟨by simpa [World.setCell] using hlt, by rw [hc b (Nat.le_refl _)]; exact q0, ⟨a, h1, h2, by rw [hc b (Nat.le_refl _)]; exact q1⟩, ⟨s, by rw [hc b (Nat.le_refl _)]; exact q2⟩, fun o => by rw [hz]; exact qz o⟩, ?_⟩
  intro i x hx
  obtain ⟨g, off, hA, hg, hcc⟩ := hr i x hx
  exact ⟨g, off, hA, hg, fun j u hu => (hc g (by omega) _).trans (hcc j u hu)⟩
theorem CurS.allo {w : World} {b cap : Nat} {A : Option Addr} {cs : List Int} {m : Int} {o : Obj} (h : CurS w b A cs cap m) : CurS (w.alloc o) b A cs cap m := h.below ((Below.refl _ _).alloc (Nat.le_refl _) _)
theorem CurS.drw {w : World} {b cap : Nat} {A : Option Addr} {cs : List Int} {m : Int} (h : CurS w b A cs cap m) : CurS w.drew b A cs cap m := h.below ((Below.refl _ _).drew)
theorem grownA {a w : World} {row : Option Nat} {o : Obj} (h : a.grownBy w row) : a.grownBy (w.alloc o) row := grown_trans h (grown_alloc w o row)
theorem grownS {a w : World} {row : Option Nat} {p : Addr} {v : Value} (h : a.grownBy w row) (hp : a.heap.size ≤ p.block) : a.grownBy (w.setCell p v) row :=
  ⟨h.os, h.tape, h.output, by simpa [World.setCell] using h.size, fun i hi hne => (Below.heap_setCell w p v i (by omega)).trans (h.block i hi hne)⟩
theorem grownT {a W w' : World} {row : Option Nat} (hg : W.grownBy w' row) (h : a.grownBy W row) : a.grownBy w' row := grown_trans h hg

set_option maxRecDepth 100000 in
set_option maxHeartbeats 4000000 in
theorem c_minute (b : Nat) (A : Option Addr) (cs : List Int) (cap : Nat) (m : Int) (w : World) (hcu : CurS w b A cs cap m) (hby : Bytes cs) (hm : 0 ≤ m ∧ m ≤ 800000000) (hl : cs.length ≤ 1000000000) :
    Calls Try.prog 83 #[.pointer (some ⟨b, 0, none⟩)] w fun e w' => ∃ x : Int, e = .returned (.int .i64 x) ∧ -1 ≤ x ∧ x ≤ 10000 ∧ CurS w' b A cs cap (m + 2) ∧ w.grownBy w' (some b) := by
  have hlt0 := hcu.lt
  go_enter Try.func83, Try.ntmps83
  go_wp2_with (fail)
  refine (c_one b A cs cap (m) 20 _ (by repeat' (first | exact CurS.mono hcu (by omega) | refine CurS.setc ?_ ?_ | refine CurS.allo ?_ | refine CurS.drw ?_ | (simp; done) | (simp at *; omega) | omega)) hby (by omega) hl (by omega)).mono ?_
  rintro e W1 ⟨y1, rfl,  hcu1, hg1⟩
  have hc1 := cellRow hg1
  have hf1 := frozRow hg1
  have hz1 := hg1.size
  have hlt1 := hcu1.lt
  try simp at hz1
  cases y1
  · go_wp2_with (fail)
    refine (c_pick b A cs cap (m + 1) (120) _ (by repeat' (first | exact CurS.mono hcu1 (by omega) | refine CurS.setc ?_ ?_ | refine CurS.allo ?_ | refine CurS.drw ?_ | (simp; done) | (simp at *; omega) | omega)) hby (by omega) hl (by omega)).mono ?_
    rintro e W2 ⟨x2, rfl, hx2a, hx2b, hcu2, hg2⟩
    have hc2 := cellRow hg2
    have hf2 := frozRow hg2
    have hz2 := hg2.size
    have hlt2 := hcu2.lt
    try simp at hz2
    go_wp2_with (fail)
    go_ret
    exact ⟨x2, rfl, by omega, by omega, (by repeat' (first | exact CurS.mono hcu2 (by omega) | refine CurS.setc ?_ ?_ | refine CurS.allo ?_ | refine CurS.drw ?_ | (simp; done) | (simp at *; omega) | omega)), by (repeat' (first | exact World.grownBy.refl _ _ | assumption | refine grownA ?_ | refine grownS ?_ ?_ | refine grown_drew ?_ | refine grownT (by assumption) ?_ | (simp; done) | (simp at *; omega) | omega))⟩
  · go_wp2_with (fail)
    refine (c_among b A cs cap (m + 1) _ ([-1, 9999, 10000] : List Int) _ (-1) (10000) _ (by repeat' (first | exact CurS.mono hcu1 (by omega) | refine CurS.setc ?_ ?_ | refine CurS.allo ?_ | refine CurS.drw ?_ | (simp; done) | (simp at *; omega) | omega)) hby (by omega) hl (Rds.of_lit (by simp) (by intro i x h; rcases i with _ | _ | _ | i <;> simp at h ⊢ <;> first | exact h | omega)) (by simp) (by intro a ha; cases ha; simp; omega) (fun k hk => (show ∀ x ∈ ([-1, 9999, 10000] : List Int), -1 ≤ x ∧ x ≤ 10000 by intro x hx; simp at hx; omega) _ (List.getElem_mem hk))).mono ?_
    rintro e W2 ⟨x2, rfl, hx2a, hx2b, hcu2, hg2⟩
    have hc2 := cellRow hg2
    have hf2 := frozRow hg2
    have hz2 := hg2.size
    have hlt2 := hcu2.lt
    try simp at hz2
    go_wp2_with (fail)
    go_ret
    exact ⟨x2, rfl, by omega, by omega, (by repeat' (first | exact CurS.mono hcu2 (by omega) | refine CurS.setc ?_ ?_ | refine CurS.allo ?_ | refine CurS.drw ?_ | (simp; done) | (simp at *; omega) | omega)), by (repeat' (first | exact World.grownBy.refl _ _ | assumption | refine grownA ?_ | refine grownS ?_ ?_ | refine grown_drew ?_ | refine grownT (by assumption) ?_ | (simp; done) | (simp at *; omega) | omega))⟩

theorem CurS.new {w W : World} {g cap : Nat} {A : Option Addr} {cs : List Int} {T : TypeId} (hr : Rds cB 1 w A cs) (hb : Below w.heap.size w W) (hg : g = W.heap.size) : CurS (W.alloc (.cells #[.slice A cs.length cap, .int .i64 0, .int .u64 0] T)) g A cs cap 0 := by
  subst hg
  have hh := heap_alloc_new W (.cells #[.slice A cs.length cap, .int .i64 0, .int .u64 0] T)
  have hc : ∀ o, (W.alloc (.cells #[.slice A cs.length cap, .int .i64 0, .int .u64 0] T)).cell? ⟨W.heap.size, o, none⟩ = (#[Value.slice A cs.length cap, .int .i64 0, .int .u64 0] : Array Value)[o]? := fun o => Fresh.cell hh o
  refine ⟨⟨by simp, by rw [hc]; rfl, ⟨0, by omega, by omega, by rw [hc]; rfl⟩, ⟨0, by rw [hc]; rfl⟩, fun o => Fresh.froz hh o⟩, ?_⟩
  intro i x hx
  obtain ⟨b, off, hA, hlt, hcc⟩ := hr i x hx
  have hs := hb.size
  refine ⟨b, off, hA, by omega, fun j v hv => ?_⟩
  have h2 : Below w.heap.size w (W.alloc (.cells #[.slice A cs.length cap, .int .i64 0, .int .u64 0] T)) := hb.alloc (by omega) _
  exact (h2.cell (p := ⟨b, off + i * 1 + j, none⟩) hlt).trans (hcc j v hv)
theorem below_row {B b : Nat} {a w w' : World} (h : Below B a w) (hg : w.grownBy w' (some b)) (hb : B ≤ b) (hB : B ≤ w.heap.size) : Below B a w' := h.grown hg hB fun k hk => by cases hk; exact hb

end Go.Proofs.Ytgjbdcalmodhpaa
