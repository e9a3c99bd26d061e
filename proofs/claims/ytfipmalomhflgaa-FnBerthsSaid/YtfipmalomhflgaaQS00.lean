import Derived.WalkKit
import Derived.StillTail
namespace Go.Proofs.Ytfipmalomhflgaa
set_option linter.unusedSimpArgs false
set_option linter.unusedVariables false
open Go.RowKit

section
variable {P : Program}

def dstOf (ops : Array Oper) (i : Nat) : Option Tmp := (ops[i]?).bind (·.dst)

def fillA : List Oper → Nat → (Nat → Value) → Act → Act
  | [], _, _, a => a
  | o :: r, k, vals, a => fillA r (k + 1) vals (a.put o.dst (vals k))

def gotV (dst : Option Tmp) (a : Act) : Value := match dst with | some d => a.tmps.getD d undef | none => undef

/-- What an operation of the region's head must leave. -/
def RQ (dst : Option Tmp) (ds : List Deferred) (G : Value → World → Prop) (w0 : World) (e : Exit) (a : Act) (w : World) : Prop :=
  e = .normal ∧ a.defers = ds ∧ G (gotV dst a) w ∧ Below w0.heap.size w0 w

theorem RQ.mk {dst : Option Tmp} {G : Value → World → Prop} {w0 : World} {a : Act} {w : World} {ds : List Deferred} (hd : a.defers = ds) (h1 : G (gotV dst a) w) (h2 : Below w0.heap.size w0 w) : RQ dst ds G w0 .normal a w := ⟨rfl, hd, h1, h2⟩

theorem put_tmps_some (a : Act) (d : Tmp) (v : Value) : (a.put (some d) v).tmps = a.tmps.setIfInBounds d v := rfl
theorem put_none (a : Act) (v : Value) : a.put none v = a := rfl
theorem put_def (a : Act) (d : Option Tmp) (v : Value) : (a.put d v).defers = a.defers := by cases d <;> rfl
theorem put_size (a : Act) (d : Option Tmp) (v : Value) : (a.put d v).tmps.size = a.tmps.size := by
  cases d
  · rfl
  · simp [Act.put]
theorem put_get_ne (a : Act) (d : Option Tmp) (v : Value) (t : Tmp) (h : d ≠ some t) : (a.put d v).tmps[t]? = a.tmps[t]? := by
  cases d with
  | none => rfl
  | some d =>
    have : d ≠ t := fun e => h (by rw [e])
    simp [Act.put, Array.getElem?_setIfInBounds_ne this]
theorem put_get_eq (a : Act) (t : Tmp) (v : Value) (h : t < a.tmps.size) : (a.put (some t) v).tmps[t]? = some v := by
  simp [Act.put, h]
theorem gotV_put (a : Act) (dst : Option Tmp) (v : Value) (h : ∀ d, dst = some d → d < a.tmps.size) : a.put dst (gotV dst (a.put dst v)) = a.put dst v := by
  cases dst with
  | none => rfl
  | some d =>
    have := h d rfl
    simp [gotV, Act.put, this]

theorem upon_pass {o : Oper} {a a2 : Act} {G : Value → World → Prop} {w0 : World} {K : Act → World → Prop} {Q : Exit → Act → World → Prop}
    (hsz : ∀ d, o.dst = some d → d < a.tmps.size)
    (hK : ∀ v w', G v w' → Below w0.heap.size w0 w' → K (a2.put o.dst v) w') (r : Result Next)
    (h : o.upon P a (RQ o.dst a.defers G w0 .normal) (RQ o.dst a.defers G w0) r) : o.upon P a2 K Q r := by
  have one : ∀ v w', RQ o.dst a.defers G w0 .normal (a.put o.dst v) w' → K (a2.put o.dst v) w' := by
    intro v w' hr
    obtain ⟨_, _, h1, h2⟩ := hr
    cases hd : o.dst with
    | none =>
      rw [hd] at h1
      have := hK _ _ h1 h2
      rw [hd] at this
      exact this
    | some d =>
      rw [hd] at h1
      have hs := hsz d hd
      have hg : gotV (some d) (a.put (some d) v) = v := by simp [gotV, Act.put, hs]
      rw [hg] at h1
      have := hK _ _ h1 h2
      rw [hd] at this
      exact this
  cases r with
  | ok n w' =>
    cases n with
    | value v => exact one v w' h
    | skip => exact one undef w' h
    | defer d =>
      obtain ⟨_, h2, _⟩ := h
      rw [put_def] at h2
      exact absurd (congrArg List.length h2) (by simp)
    | enter f args =>
      refine Calls.mono h ?_
      intro e w'' he
      cases e with
      | returned v => exact one v w'' he
      | panicked c => exact absurd he.1 (by simp)
      | outgrown => obtain ⟨_, _, h1, _⟩ := he; exact absurd h1 (by simp)
    | row row args => exact Rows.mono h fun v w'' he => one v w'' he
    | _ => exact h.elim
  | halt x w' =>
    cases x with
    | panic v => exact absurd h.1 (by simp)
    | _ => exact h.elim

def waits (ops : Array Oper) (j i : Nat) : Bool := Region.waitsFor .any ops j i
def waitsB (ops : Array Oper) (i : Nat) : Array Bool := (Array.range ops.size).map fun k => waits ops i k
def fullB (n sz : Nat) : Array Bool := (Array.range sz).map fun k => decide (k < n)

/-- What is asked of the region's shape, by computation. -/
def RB (ops : Array Oper) (n sz : Nat) (late : List Nat) : Bool :=
  Region.noSelect ops && decide (n ≤ ops.size) &&
  ((List.range n).all fun i => match dstOf ops i with
    | some d => decide (d < sz) && (List.range n).all fun j => j == i || dstOf ops j != some d
    | none => true) &&
  ((List.range n).all fun i => match ops[i]? with
    | some o => (o.looksAt ops).all fun t => (List.range n).all fun j => dstOf ops j != some t || waits ops i j
    | none => false) &&
  ((List.range n).all fun i => match ops[i]? with
    | some o => o.after.all fun e => !Region.binds .any e || decide (e.on < i)
    | none => false) &&
  (n == ops.size || (List.range n).all fun i => late.contains i || waits ops n i) &&
  (late.all fun i => Region.free .any ops (waitsB ops i) i) &&
  ((List.range ops.size).all fun t => decide (t ≤ n) || waits ops t (t - 1)) &&
  Region.seqB .any ops (ops.size - n) n (fullB n ops.size)

structure RBs (ops : Array Oper) (n sz : Nat) (late : List Nat) : Prop where
  nosel : ∀ (j : Nat) (o : Oper) (cs : Array SelectCase) (b : Bool), ops[j]? = some o → o.op ≠ .select cs b
  le : n ≤ ops.size
  dsz : ∀ i d, i < n → dstOf ops i = some d → d < sz
  dne : ∀ i j d, i < n → j < n → dstOf ops i = some d → dstOf ops j = some d → j = i
  look : ∀ i o t j, i < n → ops[i]? = some o → t ∈ o.looksAt ops → j < n → dstOf ops j = some t → waits ops i j = true
  back : ∀ i o e, i < n → ops[i]? = some o → e ∈ o.after → Region.binds .any e = true → e.on < i
  last : n < ops.size → ∀ i, i < n → late.contains i = false → waits ops n i = true
  free : ∀ i, late.contains i = true → Region.free .any ops (waitsB ops i) i = true
  chain : ∀ t, n < t → t < ops.size → waits ops t (t - 1) = true
  seq : Region.seqB .any ops (ops.size - n) n (fullB n ops.size) = true

theorem RB_spec {ops : Array Oper} {n sz : Nat} {late : List Nat} (h : RB ops n sz late = true) : RBs ops n sz late := by
  simp only [RB, Bool.and_eq_true, decide_eq_true_eq] at h
  obtain ⟨⟨⟨⟨⟨⟨⟨⟨h1, h2⟩, h3⟩, h4⟩, h5⟩, h6⟩, h9⟩, h7⟩, h8⟩ := h
  refine ⟨Region.noSelect_spec h1, h2, ?_, ?_, ?_, ?_, ?_, ?_, ?_, h8⟩
  · intro i d hi hd
    have := List.all_eq_true.1 h3 i (List.mem_range.2 hi)
    rw [hd] at this
    simp only [Bool.and_eq_true, decide_eq_true_eq] at this
    exact this.1
  · intro i j d hi hj hd hd'
    have := List.all_eq_true.1 h3 i (List.mem_range.2 hi)
    rw [hd] at this
    simp only [Bool.and_eq_true] at this
    have := List.all_eq_true.1 this.2 j (List.mem_range.2 hj)
    rw [hd'] at this
    simpa using this
  · intro i o t j hi ho ht hj hd
    have := List.all_eq_true.1 h4 i (List.mem_range.2 hi)
    rw [ho] at this
    have := List.all_eq_true.1 this t ht
    have := List.all_eq_true.1 this j (List.mem_range.2 hj)
    rw [hd] at this
    simpa using this
  · intro i o e hi ho he hb
    have := List.all_eq_true.1 h5 i (List.mem_range.2 hi)
    rw [ho] at this
    have := Array.all_eq_true_iff_forall_mem.1 this e he
    rw [hb] at this
    simpa using this
  · intro hn i hi hl
    rw [Bool.or_eq_true] at h6
    rcases h6 with h | h
    · have := beq_iff_eq.1 h; omega
    · have := List.all_eq_true.1 h i (List.mem_range.2 hi)
      rw [hl] at this
      simpa using this
  · intro i hl
    exact List.all_eq_true.1 h9 i (List.contains_iff_mem.1 hl)
  · intro t ht ht'
    have := List.all_eq_true.1 h7 t (List.mem_range.2 ht')
    simp only [Bool.or_eq_true, decide_eq_true_eq] at this
    rcases this with h | h
    · omega
    · exact h

/-! the frame with all of the head's values -/
theorem fillA_def : ∀ (l : List Oper) (k : Nat) (vals : Nat → Value) (a : Act), (fillA l k vals a).defers = a.defers
  | [], _, _, _ => rfl
  | o :: r, k, vals, a => by rw [fillA, fillA_def r, put_def]
theorem fillA_size : ∀ (l : List Oper) (k : Nat) (vals : Nat → Value) (a : Act), (fillA l k vals a).tmps.size = a.tmps.size
  | [], _, _, _ => rfl
  | o :: r, k, vals, a => by rw [fillA, fillA_size r, put_size]
theorem fillA_other : ∀ (l : List Oper) (k : Nat) (vals : Nat → Value) (a : Act) (t : Tmp), (∀ o ∈ l, o.dst ≠ some t) → (fillA l k vals a).tmps[t]? = a.tmps[t]?
  | [], _, _, _, _, _ => rfl
  | o :: r, k, vals, a, t, h => by
    rw [fillA, fillA_other r _ _ _ t fun o ho => h o (List.mem_cons_of_mem _ ho), put_get_ne _ _ _ _ (h o List.mem_cons_self)]
theorem fillA_at : ∀ (l : List Oper) (k : Nat) (vals : Nat → Value) (a : Act) (t : Tmp) (j : Nat), t < a.tmps.size → (∀ i o, l[i]? = some o → o.dst = some t → i = j) →
    (∃ o, l[j]? = some o ∧ o.dst = some t) → (fillA l k vals a).tmps[t]? = some (vals (k + j))
  | [], _, _, _, _, _, _, _, h => by obtain ⟨o, h, _⟩ := h; simp at h
  | o :: r, k, vals, a, t, j, ht, hu, h => by
    rw [fillA]
    cases j with
    | zero =>
      obtain ⟨o', h1, h2⟩ := h
      simp at h1
      subst h1
      rw [fillA_other r _ _ _ t, h2]
      · exact put_get_eq _ _ _ ht
      · intro o' ho' hd
        obtain ⟨i, hi⟩ := List.getElem?_of_mem ho'
        have := hu (i + 1) o' (by simpa using hi) hd
        omega
    | succ j =>
      have := fillA_at r (k + 1) vals (a.put o.dst (vals k)) t j (by rw [put_size]; exact ht) (fun i o' hi hd => by
        have := hu (i + 1) o' (by simpa using hi) hd
        omega) (by
          obtain ⟨o', h1, h2⟩ := h
          exact ⟨o', by simpa using h1, h2⟩)
      rw [this]
      congr 2
      omega

theorem execOp_look {ops : Array Oper} (o : Oper) (hs : ∀ cs b, o.op ≠ .select cs b) {a a' : Act} (h : ∀ t ∈ o.looksAt ops, a.tmps[t]? = a'.tmps[t]?) : execOp a.eval o = execOp a'.eval o := by
  refine execOp_congr o hs fun x hx => ?_
  cases x with
  | tmp t =>
    have := h t (List.mem_append_left _ (List.mem_filterMap.2 ⟨.tmp t, by simpa using hx, rfl⟩))
    simp only [Act.eval, Array.getD_eq_getD_getElem?, this]
  | _ => rfl
theorem wanted_look {ops : Array Oper} (o : Oper) {a a' : Act} (h : ∀ t ∈ o.looksAt ops, a.tmps[t]? = a'.tmps[t]?) :
    Region.wanted o (yielded ops a.tmps) = Region.wanted o (yielded ops a'.tmps) := by
  unfold Region.wanted
  cases hg : o.guard with
  | none => rfl
  | some gw =>
    obtain ⟨g, want⟩ := gw
    have hy : yielded ops a.tmps g = yielded ops a'.tmps g := by
      unfold yielded
      cases ht : (ops[g]?).bind (·.dst) with
      | none => rfl
      | some t =>
        have := h t (by simp [Oper.looksAt, hg, ht])
        simp only [Option.bind_some, this]
    simp only [hy]

def unlisted (n : Nat) (listed : Array Bool) : List Nat := (List.range n).filter fun k => !listed.getD k false
theorem unlisted_set {n i : Nat} {listed : Array Bool} (hi : i < n) (hs : i < listed.size) (hu : listed.getD i false = false) : (unlisted n (listed.setIfInBounds i true)).length + 1 = (unlisted n listed).length := by
  have e : unlisted n (listed.setIfInBounds i true) = (unlisted n listed).erase i := by
    unfold unlisted
    rw [List.Nodup.erase_eq_filter ((List.nodup_range).filter _), List.filter_filter]
    refine List.filter_congr fun k _ => ?_
    by_cases hk : i = k
    · subst hk
      simp [hs]
    · rw [getD_set_ne false hk]
      have : (k != i) = true := by simpa using fun e => hk e.symm
      simp [this]
  rw [e, List.length_erase_of_mem (by unfold unlisted; rw [List.mem_filter]; exact ⟨List.mem_range.2 hi, by rw [hu]; rfl⟩)]
  have : 0 < (unlisted n listed).length := List.length_pos_of_mem (a := i) (by unfold unlisted; rw [List.mem_filter]; exact ⟨List.mem_range.2 hi, by rw [hu]; rfl⟩)
  omega

/-- The block that a value leads to. -/
def blkV : Value → Nat
  | .pointer (some a) => a.block
  | .slice (some a) _ _ => a.block
  | _ => 0

structure RInv (ops : Array Oper) (n : Nat) (a0 : Act) (W : World) (F : Nat → Value → World → Prop) (fr : List Nat) (vals : Nat → Value) (listed : Array Bool) (a : Act) (w : World) : Prop where
  hi : HeadInv .any ops n listed
  below : Below W.heap.size W w
  defers : a.defers = a0.defers
  size : a.tmps.size = a0.tmps.size
  facts : ∀ k, k < n → listed.getD k false = true → F k (vals k) w
  at_ : ∀ k d, k < n → listed.getD k false = true → dstOf ops k = some d → a.tmps[d]? = some (vals k)
  rest : ∀ t, (∀ k, k < n → listed.getD k false = true → dstOf ops k ≠ some t) → a.tmps[t]? = a0.tmps[t]?
  dist : ∀ i j, i < n → j < n → i ≠ j → listed.getD i false = true → listed.getD j false = true → fr.contains i = true → fr.contains j = true → blkV (vals i) ≠ blkV (vals j)

theorem fill_at {ops : Array Oper} {n sz : Nat} {late : List Nat} (hB : RBs ops n sz late) (a0 : Act) (hz : a0.tmps.size = sz) (vals : Nat → Value) (k : Nat) (d : Tmp) (hk : k < n) (hd : dstOf ops k = some d) :
    (fillA (ops.toList.take n) 0 vals a0).tmps[d]? = some (vals k) := by
  have hle := hB.le
  have key : ∀ i o, (ops.toList.take n)[i]? = some o → i < n ∧ ops[i]? = some o := by
    intro i o hi
    rw [List.getElem?_take] at hi
    split at hi
    · exact ⟨by assumption, by simpa using hi⟩
    · simp at hi
  have := fillA_at (ops.toList.take n) 0 vals a0 d k (by rw [hz]; exact hB.dsz k d hk hd) (fun i o hi ho => by
      obtain ⟨h1, h2⟩ := key i o hi
      exact hB.dne k i d hk h1 hd (by simp [dstOf, h2, ho])) (by
      unfold dstOf at hd
      cases ho : ops[k]? with
      | none => rw [ho] at hd; cases hd
      | some o =>
        rw [ho] at hd
        exact ⟨o, by rw [List.getElem?_take, if_pos hk]; simpa using ho, by simpa using hd⟩)
  rw [this]
  congr 2
  omega
theorem fill_rest {ops : Array Oper} {n : Nat} (a0 : Act) (vals : Nat → Value) (t : Tmp) (h : ∀ k, k < n → dstOf ops k ≠ some t) :
    (fillA (ops.toList.take n) 0 vals a0).tmps[t]? = a0.tmps[t]? := by
  refine fillA_other _ _ _ _ _ fun o ho hd => ?_
  obtain ⟨i, hi⟩ := List.getElem?_of_mem ho
  rw [List.getElem?_take] at hi
  split at hi
  · rename_i hin
    have ho' : ops[i]? = some o := by simpa using hi
    exact h i hin (by simp [dstOf, ho', hd])
  · simp at hi

theorem waits_mem {ops : Array Oper} {i j : Nat} {o : Oper} (ho : ops[i]? = some o) (h : waits ops i j = true) : ∃ e ∈ o.after, Region.binds .any e = true ∧ e.on = j := by
  obtain ⟨o', ho', h'⟩ := Region.waitsFor_spec h
  rw [ho] at ho'
  cases ho'
  exact h'

theorem getD_set_self {listed : Array Bool} {i : Nat} {sz : Nat} (h : i < sz) (hs : listed.size = sz) : (listed.setIfInBounds i true).getD i false = true := by
  have : i < listed.size := by omega
  simp [this]

theorem wpAny_facts {ops : Array Oper} {n : Nat} {late : List Nat} {a0 : Act} (hB : RBs ops n a0.tmps.size late) {W : World} {Q : Exit → Act → World → Prop} {F : Nat → Value → World → Prop}
    (hst : ∀ i v w w', F i v w → Below w.heap.size w w' → F i v w')
    (fr : List Nat) (hfr : ∀ i, fr.contains i = true → ∀ v w, F i v w → blkV v < w.heap.size) (hlf : ∀ i, late.contains i = true → fr.contains i = false)
    (hQ : ∀ c a d v w, Q (.panic c) (Act.put a d v) w → Q (.panic c) a w)
    (hlate : ∀ i o, i < n → late.contains i = true → ops[i]? = some o → ∀ vals w, Below W.heap.size W w → (∀ j, j < n → waits ops i j = true → F j (vals j) w) →
      ∃ v, F i v w ∧ Yields P ops o v (fillA (ops.toList.take n) 0 vals a0))
    (hop : ∀ i o, i < n → late.contains i = false → ops[i]? = some o → ∀ vals w, Below W.heap.size W w → (∀ j, j < n → waits ops i j = true → F j (vals j) w) →
      wpList P ops (RQ o.dst a0.defers (fun v w' => F i v w' ∧ (fr.contains i = true → w.heap.size ≤ blkV v)) w) [o] (fillA (ops.toList.take n) 0 vals a0) w)
    (htail : ∀ vals w, Below W.heap.size W w → (∀ i, i < n → F i (vals i) w) → (∀ i j, i < n → j < n → i ≠ j → fr.contains i = true → fr.contains j = true → blkV (vals i) ≠ blkV (vals j)) → wpList P ops Q (ops.toList.drop n) (fillA (ops.toList.take n) 0 vals a0) w) :
    ∀ (u : Nat) (vals : Nat → Value) (listed : Array Bool) (a : Act) (w : World), (unlisted n listed).length = u → RInv ops n a0 W F fr vals listed a w →
      wpAny P .any ops Q (u + (ops.size - n)) listed a w := by
  intro u
  induction u with
  | zero =>
    intro vals listed a w hu inv
    have hall : ∀ k, k < n → listed.getD k false = true := by
      intro k hk
      cases h : listed.getD k false with
      | true => rfl
      | false =>
        have : 0 < (unlisted n listed).length := List.length_pos_of_mem (a := k) (by unfold unlisted; rw [List.mem_filter]; exact ⟨List.mem_range.2 hk, by rw [h]; rfl⟩)
        omega
    have hfull : listed = fullB n ops.size := by
      have hs := inv.hi.size
      refine Array.ext (by simp [fullB, hs]) fun k h1 h2 => ?_
      by_cases hk : k < n
      · have := hall k hk
        have h3 : listed[k] = true := by simpa [h1] using this
        simp [fullB, h3, hk]
      · have := inv.hi.tail k (by omega) (by omega)
        have h3 : listed[k] = false := by simpa [h1] using this
        simp [fullB, h3, hk]
    have ha : a = fillA (ops.toList.take n) 0 vals a0 := by
      have hd : a.defers = (fillA (ops.toList.take n) 0 vals a0).defers := by rw [fillA_def, inv.defers]
      have ht : a.tmps = (fillA (ops.toList.take n) 0 vals a0).tmps := by
        refine Array.ext_getElem? fun t => ?_
        by_cases h : ∃ k, k < n ∧ dstOf ops k = some t
        · obtain ⟨k, hk, hkd⟩ := h
          rw [inv.at_ k t hk (hall k hk) hkd, fill_at hB a0 rfl vals k t hk hkd]
        · have h' : ∀ k, k < n → dstOf ops k ≠ some t := fun k hk e => h ⟨k, hk, e⟩
          rw [inv.rest t fun k hk _ => h' k hk, fill_rest a0 vals t h']
      cases a
      cases hf : fillA (ops.toList.take n) 0 vals a0
      rw [hf] at hd ht
      simp_all
    rw [Nat.zero_add, ha, hfull]
    have hl : (ops.toList.drop n).length = ops.size - n := by simp
    rw [← hl]
    exact wpAny_of_seq (ops.toList.drop n) n _ _ w (fun j => by simp [List.getElem?_drop]) (by rw [hl]; exact hB.seq) (htail vals w inv.below (fun i hi => inv.facts i hi (hall i hi)) (fun i j hi hj hne => inv.dist i j hi hj hne (hall i hi) (hall j hj)))
  | succ u ih =>
    intro vals listed a w hu inv
    rw [show u + 1 + (ops.size - n) = (u + (ops.size - n)) + 1 by omega]
    have hsz := inv.hi.size
    have hle := hB.le
    -- some operation of the head is not listed: the least one is ready
    have hex : ∃ k, k < n ∧ listed.getD k false = false := by
      cases hl : unlisted n listed with
      | nil => rw [hl] at hu; simp at hu
      | cons k r =>
        have : k ∈ unlisted n listed := by rw [hl]; exact List.mem_cons_self
        unfold unlisted at this
        rw [List.mem_filter] at this
        exact ⟨k, List.mem_range.1 this.1, by simpa using this.2⟩
    have hready : ∃ k, k < n ∧ k ∈ Region.ready .any ops listed := by
      have hw : ∀ m k, k ≤ m → k < n → listed.getD k false = false → ∃ k, k < n ∧ k ∈ Region.ready .any ops listed := by
        intro m
        induction m with
        | zero =>
          intro k hk hkn hku
          refine ⟨k, hkn, mem_ready.2 ⟨getD_in (by omega) hku, ops[k]'(by omega), by simp, fun e he hb => ?_⟩⟩
          have := hB.back k _ e hkn (by simp) he hb
          omega
        | succ m ihm =>
          intro k hk hkn hku
          by_cases hr : k ∈ Region.ready .any ops listed
          · exact ⟨k, hkn, hr⟩
          · have : ∃ e ∈ (ops[k]'(by omega)).after, Region.binds .any e = true ∧ listed.getD e.on false = false := by
              refine Classical.byContradiction fun hno => hr (mem_ready.2 ⟨getD_in (by omega) hku, ops[k]'(by omega), by simp, fun e he hb => ?_⟩)
              cases h : listed.getD e.on false with
              | true => rfl
              | false => exact absurd ⟨e, he, hb, h⟩ hno
            obtain ⟨e, he, hb, hf⟩ := this
            have hlt := hB.back k _ e hkn (by simp) he hb
            exact ihm e.on (by omega) (by omega) hf
      obtain ⟨k, hk, hku⟩ := hex
      exact hw k k (Nat.le_refl _) hk hku
    -- what is ready is of the head, or all but late ones have come up: then a late one may be taken first
    have hstep1 : ∀ i o, i < n → ops[i]? = some o → i ∈ Region.ready .any ops listed →
        (∀ t ∈ o.looksAt ops, a.tmps[t]? = (fillA (ops.toList.take n) 0 vals a0).tmps[t]?) ∧
        (∀ j, j < n → waits ops i j = true → F j (vals j) w) ∧
        ∀ v w', (F i v w' ∧ (fr.contains i = true → w.heap.size ≤ blkV v)) → Below w.heap.size w w' → wpAny P .any ops Q (u + (ops.size - n)) (listed.setIfInBounds i true) (a.put o.dst v) w' := by
      intro i o hin ho hi
      obtain ⟨hiun, o', ho', hall⟩ := mem_ready.1 hi
      rw [ho] at ho'
      cases ho'
      have hisz : i < ops.size := (Array.getElem?_eq_some_iff.1 ho).1
      have hiu : listed.getD i false = false := getD_both hiun
      have hagree : ∀ t ∈ o.looksAt ops, a.tmps[t]? = (fillA (ops.toList.take n) 0 vals a0).tmps[t]? := by
        intro t ht
        by_cases h : ∃ k, k < n ∧ dstOf ops k = some t
        · obtain ⟨k, hk, hkd⟩ := h
          obtain ⟨e, he, hb, hon⟩ := waits_mem ho (hB.look i o t k hin ho ht hk hkd)
          have := hall e he hb
          rw [hon] at this
          rw [inv.at_ k t hk this hkd, fill_at hB a0 rfl vals k t hk hkd]
        · have h' : ∀ k, k < n → dstOf ops k ≠ some t := fun k hk e => h ⟨k, hk, e⟩
          rw [inv.rest t fun k hk _ => h' k hk, fill_rest a0 vals t h']
      have hdeps : ∀ j, j < n → waits ops i j = true → F j (vals j) w := by
        intro j hj hw
        obtain ⟨e, he, hb, hon⟩ := waits_mem ho hw
        have := hall e he hb
        rw [hon] at this
        exact inv.facts j hj this
      -- what follows, whatever value it has left
      have hnext : ∀ v w', (F i v w' ∧ (fr.contains i = true → w.heap.size ≤ blkV v)) → Below w.heap.size w w' → wpAny P .any ops Q (u + (ops.size - n)) (listed.setIfInBounds i true) (a.put o.dst v) w' := by
        intro v w' hv hb
        have hdi : dstOf ops i = o.dst := by simp [dstOf, ho]
        refine ih (fun k => if k = i then v else vals k) _ _ _ (by have := unlisted_set (listed := listed) hin (by omega) hiu; omega) ⟨inv.hi.set hi hin, inv.below.trans (hb.mono inv.below.size), by rw [put_def, inv.defers], by rw [put_size, inv.size], ?_, ?_, ?_, ?_⟩
        · intro k hk hl
          by_cases hki : k = i
          · subst hki
            simpa using hv.1
          · rw [getD_set_ne false (Ne.symm hki)] at hl
            simpa [hki] using hst k _ _ _ (inv.facts k hk hl) hb
        · intro k d hk hl hd
          by_cases hki : k = i
          · subst hki
            rw [hdi] at hd
            rw [hd]
            simpa using put_get_eq a d v (by rw [inv.size]; exact hB.dsz k d hk (hdi.trans hd))
          · rw [getD_set_ne false (Ne.symm hki)] at hl
            have hne : o.dst ≠ some d := fun e => hki (hB.dne i k d hin hk (hdi.trans e) hd)
            rw [put_get_ne _ _ _ _ hne, inv.at_ k d hk hl hd]
            simp [hki]
        · intro t ht
          have hne : o.dst ≠ some t := fun e => ht i hin (getD_set_self hisz inv.hi.size) (hdi.trans e)
          rw [put_get_ne _ _ _ _ hne]
          exact inv.rest t fun k hk hl => ht k hk (getD_set_true hl)
        · intro p q hp hq hne hlp hlq hfp hfq
          have key : ∀ k, k < n → k ≠ i → (listed.setIfInBounds i true).getD k false = true → fr.contains k = true → blkV (vals k) < w.heap.size := fun k hk hki hl hf => by
            rw [getD_set_ne false (Ne.symm hki)] at hl
            exact hfr k hf _ _ (inv.facts k hk hl)
          by_cases hpi : p = i
          · subst hpi
            have hqi : q ≠ p := Ne.symm hne
            simp only [hqi, if_true, if_false]
            have h1 := key q hq hqi hlq hfq
            have h2 := hv.2 hfp
            omega
          · by_cases hqi : q = i
            · subst hqi
              simp only [hpi, if_true, if_false]
              have h1 := key p hp hpi hlp hfp
              have h2 := hv.2 hfq
              omega
            · simp only [hpi, hqi, if_false]
              rw [getD_set_ne false (Ne.symm hpi)] at hlp
              rw [getD_set_ne false (Ne.symm hqi)] at hlq
              exact inv.dist p q hp hq hne hlp hlq hfp hfq
      exact ⟨hagree, hdeps, hnext⟩
    by_cases hex2 : ∃ k, k < n ∧ listed.getD k false = false ∧ late.contains k = false
    · obtain ⟨k0, hk0n, hk0⟩ := hready
      refine ⟨fun h => (by rw [h] at hk0; cases hk0), fun i hi => ?_⟩
      obtain ⟨hiun, o, ho, hall⟩ := mem_ready.1 hi
      have hisz : i < ops.size := (Array.getElem?_eq_some_iff.1 ho).1
      have hin : i < n := by
        rcases Nat.lt_or_ge i n with h | h
        · exact h
        · exfalso
          by_cases hin : i = n
          · subst hin
            obtain ⟨k, hk, hku, hkl⟩ := hex2
            obtain ⟨e, he, hb, hon⟩ := waits_mem ho (hB.last hisz k hk hkl)
            have := hall e he hb
            rw [hon, hku] at this
            cases this
          · obtain ⟨e, he, hb, hon⟩ := waits_mem ho (hB.chain i (by omega) hisz)
            have := hall e he hb
            rw [hon, getD_both (inv.hi.tail (i - 1) (by omega) (by omega))] at this
            cases this
      obtain ⟨hagree, hdeps, hnext⟩ := hstep1 i o hin ho hi
      have hsel := hB.nosel i o
      cases hl : late.contains i with
      | true =>
        obtain ⟨v, hv, hy⟩ := hlate i o hin hl ho vals w inv.below hdeps
        exact (hy.of_same (execOp_look o (fun cs b => hsel cs b ho) hagree) (wanted_look o hagree)).wpOp ho (hnext v w ⟨hv, fun h => absurd h (by rw [hlf i hl]; simp)⟩ (Below.refl _ _))
      | false =>
        have hstep := hop i o hin hl ho vals w inv.below hdeps
        unfold wpOp
        rw [ho]
        simp only
        rw [wanted_look o hagree]
        unfold wpList at hstep
        by_cases hw : Region.wanted o (yielded ops (fillA (ops.toList.take n) 0 vals a0).tmps) = true
        · rw [if_pos hw] at hstep
          rw [if_pos hw]
          left
          rcases hstep with h | ⟨_, _, _, h, _⟩
          · unfold Oper.wp at h ⊢
            rw [execOp_look o (fun cs b => hsel cs b ho) hagree]
            refine upon_pass (a := fillA (ops.toList.take n) 0 vals a0) (G := fun v w' => F i v w' ∧ (fr.contains i = true → w.heap.size ≤ blkV v)) (w0 := w) ?_ hnext _ ?_
            · intro d hd
              rw [fillA_size]
              exact hB.dsz i d hin (by simp [dstOf, ho, hd])
            · rw [fillA_def]
              exact h
          · exact absurd h (by simp)
        · rw [if_neg hw] at hstep
          rw [if_neg hw]
          obtain ⟨_, _, h1, h2⟩ := hstep
          have := hnext _ _ h1 h2
          cases hd : o.dst with
          | none =>
            rw [hd] at this
            exact this
          | some d =>
            rw [hd] at this h1
            have hlt : d < a0.tmps.size := hB.dsz i d hin (by simp [dstOf, ho, hd])
            have e : gotV (some d) ((fillA (ops.toList.take n) 0 vals a0).put (some d) undef) = undef := by
              simp [gotV, Act.put, fillA_size, hlt]
            rw [e] at this
            exact this
    · obtain ⟨k0, hk0n, hk0⟩ := hready
      obtain ⟨hiun, o, ho, hall⟩ := mem_ready.1 hk0
      have hl : late.contains k0 = true := by
        cases h : late.contains k0 with
        | true => rfl
        | false => exact absurd ⟨k0, hk0n, getD_both hiun, h⟩ hex2
      obtain ⟨hagree, hdeps, hnext⟩ := hstep1 k0 o hk0n ho hk0
      have hsel := hB.nosel k0 o
      obtain ⟨v, hv, hy⟩ := hlate k0 o hk0n hl ho vals w inv.below hdeps
      refine wpAny_first ho hB.nosel (fun c a w => hQ c a _ _ w) _ _ _ _ ?_ hk0 (hy.of_same (execOp_look o (fun cs b => hsel cs b ho) hagree) (wanted_look o hagree)) (hnext v w ⟨hv, fun h => absurd h (by rw [hlf k0 hl]; simp)⟩ (Below.refl _ _))
      intro j oj hj hne hju hno
      exact Region.free_spec ho (hB.free k0 hl) j oj hj hne (by
        have hjs : j < ops.size := (Array.getElem?_eq_some_iff.1 hj).1
        have hw : waits ops k0 j = false := by
          cases h : waits ops k0 j with
          | false => rfl
          | true =>
            obtain ⟨e, he, hb, hon⟩ := waits_mem ho h
            have := hall e he hb
            rw [hon, getD_both hju] at this
            cases this
        simp [waitsB, hjs, hw]) hno

/-- **A region that draws its order, operation by operation.** The head's n operations are shown one by one, each with the facts of those that it waits for, in whatever world has grown out of the region's first; the tail (a forced chain) is walked behind them. -/
theorem wp_region_facts {id n : Nat} (late fr : List Nat) {l : List Oper} {a0 : Act} {w : World} {Q : Exit → Act → World → Prop} (F : Nat → Value → World → Prop) (hm : P.follows .mixedOrders = true)
    (hB : RB l.toArray n a0.tmps.size late = true)
    (hQ : ∀ c a d v w, Q (.panic c) (Act.put a d v) w → Q (.panic c) a w)
    (hst : ∀ i v w w', F i v w → Below w.heap.size w w' → F i v w')
    (hfr : ∀ i, fr.contains i = true → ∀ v w, F i v w → blkV v < w.heap.size) (hlf : ∀ i, late.contains i = true → fr.contains i = false)
    (hlate : ∀ i o, i < n → late.contains i = true → l[i]? = some o → ∀ vals w', Below w.heap.size w w' → (∀ j, j < n → waits l.toArray i j = true → F j (vals j) w') →
      ∃ v, F i v w' ∧ Yields P l.toArray o v (fillA (l.take n) 0 vals a0))
    (hop : ∀ i o, i < n → late.contains i = false → l[i]? = some o → ∀ vals w', Below w.heap.size w w' → (∀ j, j < n → waits l.toArray i j = true → F j (vals j) w') →
      wpList P l.toArray (RQ o.dst a0.defers (fun v w1 => F i v w1 ∧ (fr.contains i = true → w'.heap.size ≤ blkV v)) w') [o] (fillA (l.take n) 0 vals a0) w')
    (htail : ∀ vals w', Below w.heap.size w w' → (∀ i, i < n → F i (vals i) w') → (∀ i j, i < n → j < n → i ≠ j → fr.contains i = true → fr.contains j = true → blkV (vals i) ≠ blkV (vals j)) → wpList P l.toArray Q (l.drop n) (fillA (l.take n) 0 vals a0) w') :
    (Code.region id l.toArray true).wp P Q a0 w := by
  have hB' := RB_spec hB
  refine wp_region_any hm ?_
  have hb0 : Below w.heap.size w { w with drawn := w.drawn + 1 } := (Below.refl _ _).drew
  have hsz : n ≤ l.toArray.size := hB'.le
  have h0 : (unlisted n (Array.replicate l.toArray.size false)).length = n := by
    have : unlisted n (Array.replicate l.toArray.size false) = List.range n := by
      unfold unlisted
      refine List.filter_eq_self.2 fun k _ => ?_
      rw [getD_replicate_false]
      rfl
    rw [this, List.length_range]
  have H := wpAny_facts (P := P) (W := w) (Q := Q) (F := F) hB' hst fr hfr hlf hQ (fun i o hi hl ho vals w' hb hf => by
      have := hlate i o hi hl (by simpa using ho) vals w' hb hf
      simpa using this) (fun i o hi hl ho vals w' hb hf => by
      have := hop i o hi hl (by simpa using ho) vals w' hb hf
      simpa using this) (fun vals w' hb hf hd => by
      have := htail vals w' hb hf hd
      simpa using this) n (fun _ => undef) (Array.replicate l.toArray.size false) a0 { w with drawn := w.drawn + 1 } h0
    ⟨⟨by simp, fun j oj _ hl => (by rw [getD_replicate_false] at hl; cases hl), fun t _ ht => getD_in (by simpa using ht) (getD_replicate_false _ _)⟩, hb0, rfl, rfl,
      fun k _ hl => (by rw [getD_replicate_false] at hl; cases hl), fun k d _ hl => (by rw [getD_replicate_false] at hl; cases hl), fun _ _ => rfl, fun i _ _ _ _ hl => (by rw [getD_replicate_false] at hl; cases hl)⟩
  rw [show n + (l.toArray.size - n) = l.toArray.size by omega] at H
  exact H

/-- The same, the facts said over the region's first world. -/
theorem wp_region_w {id n : Nat} (late fr : List Nat) {l : List Oper} {a0 : Act} {w : World} {Q : Exit → Act → World → Prop} (F : World → Nat → Value → World → Prop) (hm : P.follows .mixedOrders = true)
    (hB : RB l.toArray n a0.tmps.size late = true)
    (hQ : ∀ c a d v w, Q (.panic c) (Act.put a d v) w → Q (.panic c) a w)
    (hst : ∀ i v w1 w', F w i v w1 → Below w1.heap.size w1 w' → F w i v w')
    (hfr : ∀ i, fr.contains i = true → ∀ v w1, F w i v w1 → blkV v < w1.heap.size) (hlf : ∀ i, late.contains i = true → fr.contains i = false)
    (hlate : ∀ i o, i < n → late.contains i = true → l[i]? = some o → ∀ vals w', Below w.heap.size w w' → (∀ j, j < n → waits l.toArray i j = true → F w j (vals j) w') →
      ∃ v, F w i v w' ∧ Yields P l.toArray o v (fillA (l.take n) 0 vals a0))
    (hop : ∀ i o, i < n → late.contains i = false → l[i]? = some o → ∀ vals w', Below w.heap.size w w' → (∀ j, j < n → waits l.toArray i j = true → F w j (vals j) w') →
      wpList P l.toArray (RQ o.dst a0.defers (fun v w1 => F w i v w1 ∧ (fr.contains i = true → w'.heap.size ≤ blkV v)) w') [o] (fillA (l.take n) 0 vals a0) w')
    (htail : ∀ vals w', Below w.heap.size w w' → (∀ i, i < n → F w i (vals i) w') → (∀ i j, i < n → j < n → i ≠ j → fr.contains i = true → fr.contains j = true → blkV (vals i) ≠ blkV (vals j)) → wpList P l.toArray Q (l.drop n) (fillA (l.take n) 0 vals a0) w') :
    (Code.region id l.toArray true).wp P Q a0 w := wp_region_facts late fr (F w) hm hB hQ hst hfr hlf hlate hop htail

theorem wp_named {id : Nat} {l : Array Oper} {d : Bool} {a0 : Act} {w : World} {Q : Exit → Act → World → Prop} (h : ∀ W, W = w → (Code.region id l d).wp P Q a0 W) : (Code.region id l d).wp P Q a0 w := h w rfl
end
end Go.Proofs.Ytfipmalomhflgaa
namespace Go.Proofs.Ytfipmalomhflgaa
set_option linter.unusedSimpArgs false
set_option linter.unusedVariables false
open Go.RowKit

section
variable {P : Program}
/-- What is asked of the region's shape, by computation. -/
def RBt (ops : Array Oper) (n sz : Nat) (late : List Nat) : Bool :=
  Region.noSelect ops && decide (n ≤ ops.size) &&
  ((List.range n).all fun i => match dstOf ops i with
    | some d => decide (d < sz) && (List.range n).all fun j => j == i || dstOf ops j != some d
    | none => true) &&
  ((List.range n).all fun i => match ops[i]? with
    | some o => (o.looksAt ops).all fun t => (List.range n).all fun j => dstOf ops j != some t || waits ops i j
    | none => false) &&
  ((List.range n).all fun i => match ops[i]? with
    | some o => o.after.all fun e => !Region.binds .any e || decide (e.on < i)
    | none => false) &&
  (n == ops.size || (List.range n).all fun i => late.contains i || waits ops n i || (List.range n).any fun j => decide (i < j) && !late.contains j && waits ops j i) &&
  (late.all fun i => Region.free .any ops (waitsB ops i) i) &&
  ((List.range ops.size).all fun t => decide (t ≤ n) || waits ops t (t - 1)) &&
  Region.seqB .any ops (ops.size - n) n (fullB n ops.size)

structure RBst (ops : Array Oper) (n sz : Nat) (late : List Nat) : Prop where
  nosel : ∀ (j : Nat) (o : Oper) (cs : Array SelectCase) (b : Bool), ops[j]? = some o → o.op ≠ .select cs b
  le : n ≤ ops.size
  dsz : ∀ i d, i < n → dstOf ops i = some d → d < sz
  dne : ∀ i j d, i < n → j < n → dstOf ops i = some d → dstOf ops j = some d → j = i
  look : ∀ i o t j, i < n → ops[i]? = some o → t ∈ o.looksAt ops → j < n → dstOf ops j = some t → waits ops i j = true
  back : ∀ i o e, i < n → ops[i]? = some o → e ∈ o.after → Region.binds .any e = true → e.on < i
  last : n < ops.size → ∀ i, i < n → late.contains i = false → waits ops n i = true ∨ ∃ j, i < j ∧ j < n ∧ late.contains j = false ∧ waits ops j i = true
  free : ∀ i, late.contains i = true → Region.free .any ops (waitsB ops i) i = true
  chain : ∀ t, n < t → t < ops.size → waits ops t (t - 1) = true
  seq : Region.seqB .any ops (ops.size - n) n (fullB n ops.size) = true

theorem RB_spect {ops : Array Oper} {n sz : Nat} {late : List Nat} (h : RBt ops n sz late = true) : RBst ops n sz late := by
  simp only [RBt, Bool.and_eq_true, decide_eq_true_eq] at h
  obtain ⟨⟨⟨⟨⟨⟨⟨⟨h1, h2⟩, h3⟩, h4⟩, h5⟩, h6⟩, h9⟩, h7⟩, h8⟩ := h
  refine ⟨Region.noSelect_spec h1, h2, ?_, ?_, ?_, ?_, ?_, ?_, ?_, h8⟩
  · intro i d hi hd
    have := List.all_eq_true.1 h3 i (List.mem_range.2 hi)
    rw [hd] at this
    simp only [Bool.and_eq_true, decide_eq_true_eq] at this
    exact this.1
  · intro i j d hi hj hd hd'
    have := List.all_eq_true.1 h3 i (List.mem_range.2 hi)
    rw [hd] at this
    simp only [Bool.and_eq_true] at this
    have := List.all_eq_true.1 this.2 j (List.mem_range.2 hj)
    rw [hd'] at this
    simpa using this
  · intro i o t j hi ho ht hj hd
    have := List.all_eq_true.1 h4 i (List.mem_range.2 hi)
    rw [ho] at this
    have := List.all_eq_true.1 this t ht
    have := List.all_eq_true.1 this j (List.mem_range.2 hj)
    rw [hd] at this
    simpa using this
  · intro i o e hi ho he hb
    have := List.all_eq_true.1 h5 i (List.mem_range.2 hi)
    rw [ho] at this
    have := Array.all_eq_true_iff_forall_mem.1 this e he
    rw [hb] at this
    simpa using this
  · intro hn i hi hl
    rw [Bool.or_eq_true] at h6
    rcases h6 with h | h
    · have := beq_iff_eq.1 h; omega
    · have := List.all_eq_true.1 h i (List.mem_range.2 hi)
      rw [hl, Bool.false_or, Bool.or_eq_true, List.any_eq_true] at this
      rcases this with h | ⟨j, hj, h⟩
      · exact .inl h
      · simp only [Bool.and_eq_true, decide_eq_true_eq, Bool.not_eq_true'] at h
        exact .inr ⟨j, h.1.1, List.mem_range.1 hj, h.1.2, h.2⟩
  · intro i hl
    exact List.all_eq_true.1 h9 i (List.contains_iff_mem.1 hl)
  · intro t ht ht'
    have := List.all_eq_true.1 h7 t (List.mem_range.2 ht')
    simp only [Bool.or_eq_true, decide_eq_true_eq] at this
    rcases this with h | h
    · omega
    · exact h

theorem fill_att {ops : Array Oper} {n sz : Nat} {late : List Nat} (hB : RBst ops n sz late) (a0 : Act) (hz : a0.tmps.size = sz) (vals : Nat → Value) (k : Nat) (d : Tmp) (hk : k < n) (hd : dstOf ops k = some d) :
    (fillA (ops.toList.take n) 0 vals a0).tmps[d]? = some (vals k) := by
  have hle := hB.le
  have key : ∀ i o, (ops.toList.take n)[i]? = some o → i < n ∧ ops[i]? = some o := by
    intro i o hi
    rw [List.getElem?_take] at hi
    split at hi
    · exact ⟨by assumption, by simpa using hi⟩
    · simp at hi
  have := fillA_at (ops.toList.take n) 0 vals a0 d k (by rw [hz]; exact hB.dsz k d hk hd) (fun i o hi ho => by
      obtain ⟨h1, h2⟩ := key i o hi
      exact hB.dne k i d hk h1 hd (by simp [dstOf, h2, ho])) (by
      unfold dstOf at hd
      cases ho : ops[k]? with
      | none => rw [ho] at hd; cases hd
      | some o =>
        rw [ho] at hd
        exact ⟨o, by rw [List.getElem?_take, if_pos hk]; simpa using ho, by simpa using hd⟩)
  rw [this]
  congr 2
  omega
theorem wpAny_factst {ops : Array Oper} {n : Nat} {late : List Nat} {a0 : Act} (hB : RBst ops n a0.tmps.size late) {W : World} {Q : Exit → Act → World → Prop} {F : Nat → Value → World → Prop}
    (hst : ∀ i v w w', F i v w → Below w.heap.size w w' → F i v w')
    (fr : List Nat) (hfr : ∀ i, fr.contains i = true → ∀ v w, F i v w → blkV v < w.heap.size) (hlf : ∀ i, late.contains i = true → fr.contains i = false)
    (hQ : ∀ c a d v w, Q (.panic c) (Act.put a d v) w → Q (.panic c) a w)
    (hlate : ∀ i o, i < n → late.contains i = true → ops[i]? = some o → ∀ vals w, Below W.heap.size W w → (∀ j, j < n → waits ops i j = true → F j (vals j) w) →
      ∃ v, F i v w ∧ Yields P ops o v (fillA (ops.toList.take n) 0 vals a0))
    (hop : ∀ i o, i < n → late.contains i = false → ops[i]? = some o → ∀ vals w, Below W.heap.size W w → (∀ j, j < n → waits ops i j = true → F j (vals j) w) →
      wpList P ops (RQ o.dst a0.defers (fun v w' => F i v w' ∧ (fr.contains i = true → w.heap.size ≤ blkV v)) w) [o] (fillA (ops.toList.take n) 0 vals a0) w)
    (htail : ∀ vals w, Below W.heap.size W w → (∀ i, i < n → F i (vals i) w) → (∀ i j, i < n → j < n → i ≠ j → fr.contains i = true → fr.contains j = true → blkV (vals i) ≠ blkV (vals j)) → wpList P ops Q (ops.toList.drop n) (fillA (ops.toList.take n) 0 vals a0) w) :
    ∀ (u : Nat) (vals : Nat → Value) (listed : Array Bool) (a : Act) (w : World), (unlisted n listed).length = u → RInv ops n a0 W F fr vals listed a w →
      wpAny P .any ops Q (u + (ops.size - n)) listed a w := by
  intro u
  induction u with
  | zero =>
    intro vals listed a w hu inv
    have hall : ∀ k, k < n → listed.getD k false = true := by
      intro k hk
      cases h : listed.getD k false with
      | true => rfl
      | false =>
        have : 0 < (unlisted n listed).length := List.length_pos_of_mem (a := k) (by unfold unlisted; rw [List.mem_filter]; exact ⟨List.mem_range.2 hk, by rw [h]; rfl⟩)
        omega
    have hfull : listed = fullB n ops.size := by
      have hs := inv.hi.size
      refine Array.ext (by simp [fullB, hs]) fun k h1 h2 => ?_
      by_cases hk : k < n
      · have := hall k hk
        have h3 : listed[k] = true := by simpa [h1] using this
        simp [fullB, h3, hk]
      · have := inv.hi.tail k (by omega) (by omega)
        have h3 : listed[k] = false := by simpa [h1] using this
        simp [fullB, h3, hk]
    have ha : a = fillA (ops.toList.take n) 0 vals a0 := by
      have hd : a.defers = (fillA (ops.toList.take n) 0 vals a0).defers := by rw [fillA_def, inv.defers]
      have ht : a.tmps = (fillA (ops.toList.take n) 0 vals a0).tmps := by
        refine Array.ext_getElem? fun t => ?_
        by_cases h : ∃ k, k < n ∧ dstOf ops k = some t
        · obtain ⟨k, hk, hkd⟩ := h
          rw [inv.at_ k t hk (hall k hk) hkd, fill_att hB a0 rfl vals k t hk hkd]
        · have h' : ∀ k, k < n → dstOf ops k ≠ some t := fun k hk e => h ⟨k, hk, e⟩
          rw [inv.rest t fun k hk _ => h' k hk, fill_rest a0 vals t h']
      cases a
      cases hf : fillA (ops.toList.take n) 0 vals a0
      rw [hf] at hd ht
      simp_all
    rw [Nat.zero_add, ha, hfull]
    have hl : (ops.toList.drop n).length = ops.size - n := by simp
    rw [← hl]
    exact wpAny_of_seq (ops.toList.drop n) n _ _ w (fun j => by simp [List.getElem?_drop]) (by rw [hl]; exact hB.seq) (htail vals w inv.below (fun i hi => inv.facts i hi (hall i hi)) (fun i j hi hj hne => inv.dist i j hi hj hne (hall i hi) (hall j hj)))
  | succ u ih =>
    intro vals listed a w hu inv
    rw [show u + 1 + (ops.size - n) = (u + (ops.size - n)) + 1 by omega]
    have hsz := inv.hi.size
    have hle := hB.le
    -- some operation of the head is not listed: the least one is ready
    have hex : ∃ k, k < n ∧ listed.getD k false = false := by
      cases hl : unlisted n listed with
      | nil => rw [hl] at hu; simp at hu
      | cons k r =>
        have : k ∈ unlisted n listed := by rw [hl]; exact List.mem_cons_self
        unfold unlisted at this
        rw [List.mem_filter] at this
        exact ⟨k, List.mem_range.1 this.1, by simpa using this.2⟩
    have hready : ∃ k, k < n ∧ k ∈ Region.ready .any ops listed := by
      have hw : ∀ m k, k ≤ m → k < n → listed.getD k false = false → ∃ k, k < n ∧ k ∈ Region.ready .any ops listed := by
        intro m
        induction m with
        | zero =>
          intro k hk hkn hku
          refine ⟨k, hkn, mem_ready.2 ⟨getD_in (by omega) hku, ops[k]'(by omega), by simp, fun e he hb => ?_⟩⟩
          have := hB.back k _ e hkn (by simp) he hb
          omega
        | succ m ihm =>
          intro k hk hkn hku
          by_cases hr : k ∈ Region.ready .any ops listed
          · exact ⟨k, hkn, hr⟩
          · have : ∃ e ∈ (ops[k]'(by omega)).after, Region.binds .any e = true ∧ listed.getD e.on false = false := by
              refine Classical.byContradiction fun hno => hr (mem_ready.2 ⟨getD_in (by omega) hku, ops[k]'(by omega), by simp, fun e he hb => ?_⟩)
              cases h : listed.getD e.on false with
              | true => rfl
              | false => exact absurd ⟨e, he, hb, h⟩ hno
            obtain ⟨e, he, hb, hf⟩ := this
            have hlt := hB.back k _ e hkn (by simp) he hb
            exact ihm e.on (by omega) (by omega) hf
      obtain ⟨k, hk, hku⟩ := hex
      exact hw k k (Nat.le_refl _) hk hku
    -- what is ready is of the head, or all but late ones have come up: then a late one may be taken first
    have hstep1 : ∀ i o, i < n → ops[i]? = some o → i ∈ Region.ready .any ops listed →
        (∀ t ∈ o.looksAt ops, a.tmps[t]? = (fillA (ops.toList.take n) 0 vals a0).tmps[t]?) ∧
        (∀ j, j < n → waits ops i j = true → F j (vals j) w) ∧
        ∀ v w', (F i v w' ∧ (fr.contains i = true → w.heap.size ≤ blkV v)) → Below w.heap.size w w' → wpAny P .any ops Q (u + (ops.size - n)) (listed.setIfInBounds i true) (a.put o.dst v) w' := by
      intro i o hin ho hi
      obtain ⟨hiun, o', ho', hall⟩ := mem_ready.1 hi
      rw [ho] at ho'
      cases ho'
      have hisz : i < ops.size := (Array.getElem?_eq_some_iff.1 ho).1
      have hiu : listed.getD i false = false := getD_both hiun
      have hagree : ∀ t ∈ o.looksAt ops, a.tmps[t]? = (fillA (ops.toList.take n) 0 vals a0).tmps[t]? := by
        intro t ht
        by_cases h : ∃ k, k < n ∧ dstOf ops k = some t
        · obtain ⟨k, hk, hkd⟩ := h
          obtain ⟨e, he, hb, hon⟩ := waits_mem ho (hB.look i o t k hin ho ht hk hkd)
          have := hall e he hb
          rw [hon] at this
          rw [inv.at_ k t hk this hkd, fill_att hB a0 rfl vals k t hk hkd]
        · have h' : ∀ k, k < n → dstOf ops k ≠ some t := fun k hk e => h ⟨k, hk, e⟩
          rw [inv.rest t fun k hk _ => h' k hk, fill_rest a0 vals t h']
      have hdeps : ∀ j, j < n → waits ops i j = true → F j (vals j) w := by
        intro j hj hw
        obtain ⟨e, he, hb, hon⟩ := waits_mem ho hw
        have := hall e he hb
        rw [hon] at this
        exact inv.facts j hj this
      -- what follows, whatever value it has left
      have hnext : ∀ v w', (F i v w' ∧ (fr.contains i = true → w.heap.size ≤ blkV v)) → Below w.heap.size w w' → wpAny P .any ops Q (u + (ops.size - n)) (listed.setIfInBounds i true) (a.put o.dst v) w' := by
        intro v w' hv hb
        have hdi : dstOf ops i = o.dst := by simp [dstOf, ho]
        refine ih (fun k => if k = i then v else vals k) _ _ _ (by have := unlisted_set (listed := listed) hin (by omega) hiu; omega) ⟨inv.hi.set hi hin, inv.below.trans (hb.mono inv.below.size), by rw [put_def, inv.defers], by rw [put_size, inv.size], ?_, ?_, ?_, ?_⟩
        · intro k hk hl
          by_cases hki : k = i
          · subst hki
            simpa using hv.1
          · rw [getD_set_ne false (Ne.symm hki)] at hl
            simpa [hki] using hst k _ _ _ (inv.facts k hk hl) hb
        · intro k d hk hl hd
          by_cases hki : k = i
          · subst hki
            rw [hdi] at hd
            rw [hd]
            simpa using put_get_eq a d v (by rw [inv.size]; exact hB.dsz k d hk (hdi.trans hd))
          · rw [getD_set_ne false (Ne.symm hki)] at hl
            have hne : o.dst ≠ some d := fun e => hki (hB.dne i k d hin hk (hdi.trans e) hd)
            rw [put_get_ne _ _ _ _ hne, inv.at_ k d hk hl hd]
            simp [hki]
        · intro t ht
          have hne : o.dst ≠ some t := fun e => ht i hin (getD_set_self hisz inv.hi.size) (hdi.trans e)
          rw [put_get_ne _ _ _ _ hne]
          exact inv.rest t fun k hk hl => ht k hk (getD_set_true hl)
        · intro p q hp hq hne hlp hlq hfp hfq
          have key : ∀ k, k < n → k ≠ i → (listed.setIfInBounds i true).getD k false = true → fr.contains k = true → blkV (vals k) < w.heap.size := fun k hk hki hl hf => by
            rw [getD_set_ne false (Ne.symm hki)] at hl
            exact hfr k hf _ _ (inv.facts k hk hl)
          by_cases hpi : p = i
          · subst hpi
            have hqi : q ≠ p := Ne.symm hne
            simp only [hqi, if_true, if_false]
            have h1 := key q hq hqi hlq hfq
            have h2 := hv.2 hfp
            omega
          · by_cases hqi : q = i
            · subst hqi
              simp only [hpi, if_true, if_false]
              have h1 := key p hp hpi hlp hfp
              have h2 := hv.2 hfq
              omega
            · simp only [hpi, hqi, if_false]
              rw [getD_set_ne false (Ne.symm hpi)] at hlp
              rw [getD_set_ne false (Ne.symm hqi)] at hlq
              exact inv.dist p q hp hq hne hlp hlq hfp hfq
      exact ⟨hagree, hdeps, hnext⟩
    by_cases hex2 : ∃ k, k < n ∧ listed.getD k false = false ∧ late.contains k = false
    · obtain ⟨k0, hk0n, hk0⟩ := hready
      refine ⟨fun h => (by rw [h] at hk0; cases hk0), fun i hi => ?_⟩
      obtain ⟨hiun, o, ho, hall⟩ := mem_ready.1 hi
      have hisz : i < ops.size := (Array.getElem?_eq_some_iff.1 ho).1
      have hin : i < n := by
        rcases Nat.lt_or_ge i n with h | h
        · exact h
        · exfalso
          by_cases hin : i = n
          · subst hin
            obtain ⟨k, hk, hku, hkl⟩ := hex2
            have key : ∀ d q, i - q ≤ d → q < i → late.contains q = false → listed.getD q false = true := by
              intro d
              induction d with
              | zero => intro q h1 h2; omega
              | succ d ihd =>
                intro q h1 h2 h3
                rcases hB.last hisz q h2 h3 with h | ⟨j, hj1, hj2, hj3, hj4⟩
                · obtain ⟨e, he, hb, hon⟩ := waits_mem ho h
                  have := hall e he hb
                  rwa [hon] at this
                · have hjl := ihd j (by omega) hj2 hj3
                  obtain ⟨oj, hoj, e, he, hb, hon⟩ := Region.waitsFor_spec hj4
                  have := inv.hi.closed j oj hoj hjl e he hb
                  rwa [hon] at this
            rw [key (i - k) k (Nat.le_refl _) hk hkl] at hku
            cases hku
          · obtain ⟨e, he, hb, hon⟩ := waits_mem ho (hB.chain i (by omega) hisz)
            have := hall e he hb
            rw [hon, getD_both (inv.hi.tail (i - 1) (by omega) (by omega))] at this
            cases this
      obtain ⟨hagree, hdeps, hnext⟩ := hstep1 i o hin ho hi
      have hsel := hB.nosel i o
      cases hl : late.contains i with
      | true =>
        obtain ⟨v, hv, hy⟩ := hlate i o hin hl ho vals w inv.below hdeps
        exact (hy.of_same (execOp_look o (fun cs b => hsel cs b ho) hagree) (wanted_look o hagree)).wpOp ho (hnext v w ⟨hv, fun h => absurd h (by rw [hlf i hl]; simp)⟩ (Below.refl _ _))
      | false =>
        have hstep := hop i o hin hl ho vals w inv.below hdeps
        unfold wpOp
        rw [ho]
        simp only
        rw [wanted_look o hagree]
        unfold wpList at hstep
        by_cases hw : Region.wanted o (yielded ops (fillA (ops.toList.take n) 0 vals a0).tmps) = true
        · rw [if_pos hw] at hstep
          rw [if_pos hw]
          left
          rcases hstep with h | ⟨_, _, _, h, _⟩
          · unfold Oper.wp at h ⊢
            rw [execOp_look o (fun cs b => hsel cs b ho) hagree]
            refine upon_pass (a := fillA (ops.toList.take n) 0 vals a0) (G := fun v w' => F i v w' ∧ (fr.contains i = true → w.heap.size ≤ blkV v)) (w0 := w) ?_ hnext _ ?_
            · intro d hd
              rw [fillA_size]
              exact hB.dsz i d hin (by simp [dstOf, ho, hd])
            · rw [fillA_def]
              exact h
          · exact absurd h (by simp)
        · rw [if_neg hw] at hstep
          rw [if_neg hw]
          obtain ⟨_, _, h1, h2⟩ := hstep
          have := hnext _ _ h1 h2
          cases hd : o.dst with
          | none =>
            rw [hd] at this
            exact this
          | some d =>
            rw [hd] at this h1
            have hlt : d < a0.tmps.size := hB.dsz i d hin (by simp [dstOf, ho, hd])
            have e : gotV (some d) ((fillA (ops.toList.take n) 0 vals a0).put (some d) undef) = undef := by
              simp [gotV, Act.put, fillA_size, hlt]
            rw [e] at this
            exact this
    · obtain ⟨k0, hk0n, hk0⟩ := hready
      obtain ⟨hiun, o, ho, hall⟩ := mem_ready.1 hk0
      have hl : late.contains k0 = true := by
        cases h : late.contains k0 with
        | true => rfl
        | false => exact absurd ⟨k0, hk0n, getD_both hiun, h⟩ hex2
      obtain ⟨hagree, hdeps, hnext⟩ := hstep1 k0 o hk0n ho hk0
      have hsel := hB.nosel k0 o
      obtain ⟨v, hv, hy⟩ := hlate k0 o hk0n hl ho vals w inv.below hdeps
      refine wpAny_first ho hB.nosel (fun c a w => hQ c a _ _ w) _ _ _ _ ?_ hk0 (hy.of_same (execOp_look o (fun cs b => hsel cs b ho) hagree) (wanted_look o hagree)) (hnext v w ⟨hv, fun h => absurd h (by rw [hlf k0 hl]; simp)⟩ (Below.refl _ _))
      intro j oj hj hne hju hno
      exact Region.free_spec ho (hB.free k0 hl) j oj hj hne (by
        have hjs : j < ops.size := (Array.getElem?_eq_some_iff.1 hj).1
        have hw : waits ops k0 j = false := by
          cases h : waits ops k0 j with
          | false => rfl
          | true =>
            obtain ⟨e, he, hb, hon⟩ := waits_mem ho h
            have := hall e he hb
            rw [hon, getD_both hju] at this
            cases this
        simp [waitsB, hjs, hw]) hno

/-- **A region that draws its order, operation by operation.** The head's n operations are shown one by one, each with the facts of those that it waits for, in whatever world has grown out of the region's first; the tail (a forced chain) is walked behind them. -/
theorem wp_region_factst {id n : Nat} (late fr : List Nat) {l : List Oper} {a0 : Act} {w : World} {Q : Exit → Act → World → Prop} (F : Nat → Value → World → Prop) (hm : P.follows .mixedOrders = true)
    (hB : RBt l.toArray n a0.tmps.size late = true)
    (hQ : ∀ c a d v w, Q (.panic c) (Act.put a d v) w → Q (.panic c) a w)
    (hst : ∀ i v w w', F i v w → Below w.heap.size w w' → F i v w')
    (hfr : ∀ i, fr.contains i = true → ∀ v w, F i v w → blkV v < w.heap.size) (hlf : ∀ i, late.contains i = true → fr.contains i = false)
    (hlate : ∀ i o, i < n → late.contains i = true → l[i]? = some o → ∀ vals w', Below w.heap.size w w' → (∀ j, j < n → waits l.toArray i j = true → F j (vals j) w') →
      ∃ v, F i v w' ∧ Yields P l.toArray o v (fillA (l.take n) 0 vals a0))
    (hop : ∀ i o, i < n → late.contains i = false → l[i]? = some o → ∀ vals w', Below w.heap.size w w' → (∀ j, j < n → waits l.toArray i j = true → F j (vals j) w') →
      wpList P l.toArray (RQ o.dst a0.defers (fun v w1 => F i v w1 ∧ (fr.contains i = true → w'.heap.size ≤ blkV v)) w') [o] (fillA (l.take n) 0 vals a0) w')
    (htail : ∀ vals w', Below w.heap.size w w' → (∀ i, i < n → F i (vals i) w') → (∀ i j, i < n → j < n → i ≠ j → fr.contains i = true → fr.contains j = true → blkV (vals i) ≠ blkV (vals j)) → wpList P l.toArray Q (l.drop n) (fillA (l.take n) 0 vals a0) w') :
    (Code.region id l.toArray true).wp P Q a0 w := by
  have hB' := RB_spect hB
  refine wp_region_any hm ?_
  have hb0 : Below w.heap.size w { w with drawn := w.drawn + 1 } := (Below.refl _ _).drew
  have hsz : n ≤ l.toArray.size := hB'.le
  have h0 : (unlisted n (Array.replicate l.toArray.size false)).length = n := by
    have : unlisted n (Array.replicate l.toArray.size false) = List.range n := by
      unfold unlisted
      refine List.filter_eq_self.2 fun k _ => ?_
      rw [getD_replicate_false]
      rfl
    rw [this, List.length_range]
  have H := wpAny_factst (P := P) (W := w) (Q := Q) (F := F) hB' hst fr hfr hlf hQ (fun i o hi hl ho vals w' hb hf => by
      have := hlate i o hi hl (by simpa using ho) vals w' hb hf
      simpa using this) (fun i o hi hl ho vals w' hb hf => by
      have := hop i o hi hl (by simpa using ho) vals w' hb hf
      simpa using this) (fun vals w' hb hf hd => by
      have := htail vals w' hb hf hd
      simpa using this) n (fun _ => undef) (Array.replicate l.toArray.size false) a0 { w with drawn := w.drawn + 1 } h0
    ⟨⟨by simp, fun j oj _ hl => (by rw [getD_replicate_false] at hl; cases hl), fun t _ ht => getD_in (by simpa using ht) (getD_replicate_false _ _)⟩, hb0, rfl, rfl,
      fun k _ hl => (by rw [getD_replicate_false] at hl; cases hl), fun k d _ hl => (by rw [getD_replicate_false] at hl; cases hl), fun _ _ => rfl, fun i _ _ _ _ hl => (by rw [getD_replicate_false] at hl; cases hl)⟩
  rw [show n + (l.toArray.size - n) = l.toArray.size by omega] at H
  exact H

/-- The same, the facts said over the region's first world. -/
theorem wp_region_wt {id n : Nat} (late fr : List Nat) {l : List Oper} {a0 : Act} {w : World} {Q : Exit → Act → World → Prop} (F : World → Nat → Value → World → Prop) (hm : P.follows .mixedOrders = true)
    (hB : RBt l.toArray n a0.tmps.size late = true)
    (hQ : ∀ c a d v w, Q (.panic c) (Act.put a d v) w → Q (.panic c) a w)
    (hst : ∀ i v w1 w', F w i v w1 → Below w1.heap.size w1 w' → F w i v w')
    (hfr : ∀ i, fr.contains i = true → ∀ v w1, F w i v w1 → blkV v < w1.heap.size) (hlf : ∀ i, late.contains i = true → fr.contains i = false)
    (hlate : ∀ i o, i < n → late.contains i = true → l[i]? = some o → ∀ vals w', Below w.heap.size w w' → (∀ j, j < n → waits l.toArray i j = true → F w j (vals j) w') →
      ∃ v, F w i v w' ∧ Yields P l.toArray o v (fillA (l.take n) 0 vals a0))
    (hop : ∀ i o, i < n → late.contains i = false → l[i]? = some o → ∀ vals w', Below w.heap.size w w' → (∀ j, j < n → waits l.toArray i j = true → F w j (vals j) w') →
      wpList P l.toArray (RQ o.dst a0.defers (fun v w1 => F w i v w1 ∧ (fr.contains i = true → w'.heap.size ≤ blkV v)) w') [o] (fillA (l.take n) 0 vals a0) w')
    (htail : ∀ vals w', Below w.heap.size w w' → (∀ i, i < n → F w i (vals i) w') → (∀ i j, i < n → j < n → i ≠ j → fr.contains i = true → fr.contains j = true → blkV (vals i) ≠ blkV (vals j)) → wpList P l.toArray Q (l.drop n) (fillA (l.take n) 0 vals a0) w') :
    (Code.region id l.toArray true).wp P Q a0 w := wp_region_factst late fr (F w) hm hB hQ hst hfr hlf hlate hop htail

end
end Go.Proofs.Ytfipmalomhflgaa
namespace Go.Proofs.Ytfipmalomhflgaa
set_option linter.unusedSimpArgs false
set_option linter.unusedVariables false
open Go.RowKit

section
variable {P : Program}

/-- What an operation of the head must leave, the worlds' relation told by G. -/
def RQO (dst : Option Tmp) (ds : List Deferred) (G : Value → World → Prop) (e : Exit) (a : Act) (w : World) : Prop :=
  e = .normal ∧ a.defers = ds ∧ G (gotV dst a) w

theorem upon_passO {o : Oper} {a a2 : Act} {G : Value → World → Prop} {K : Act → World → Prop} {Q : Exit → Act → World → Prop}
    (hsz : ∀ d, o.dst = some d → d < a.tmps.size)
    (hK : ∀ v w', G v w' → K (a2.put o.dst v) w') (r : Result Next)
    (h : o.upon P a (RQO o.dst a.defers G .normal) (RQO o.dst a.defers G) r) : o.upon P a2 K Q r := by
  have one : ∀ v w', RQO o.dst a.defers G .normal (a.put o.dst v) w' → K (a2.put o.dst v) w' := by
    intro v w' hr
    obtain ⟨_, _, h1⟩ := hr
    cases hd : o.dst with
    | none =>
      rw [hd] at h1
      have := hK _ _ h1
      rw [hd] at this
      exact this
    | some d =>
      rw [hd] at h1
      have hs := hsz d hd
      have hg : gotV (some d) (a.put (some d) v) = v := by simp [gotV, Act.put, hs]
      rw [hg] at h1
      have := hK _ _ h1
      rw [hd] at this
      exact this
  cases r with
  | ok n w' =>
    cases n with
    | value v => exact one v w' h
    | skip => exact one undef w' h
    | defer d =>
      obtain ⟨_, h2, _⟩ := h
      rw [put_def] at h2
      exact absurd (congrArg List.length h2) (by simp)
    | enter f args =>
      refine Calls.mono h ?_
      intro e w'' he
      cases e with
      | returned v => exact one v w'' he
      | panicked c => exact absurd he.1 (by simp)
      | outgrown => obtain ⟨_, _, h1, _⟩ := he; exact absurd h1 (by simp)
    | row row args => exact Rows.mono h fun v w'' he => one v w'' he
    | _ => exact h.elim
  | halt x w' =>
    cases x with
    | panic v => exact absurd h.1 (by simp)
    | _ => exact h.elim

/-- Each of `own` is used by one operation of the head at most. -/
def ownB (ops : Array Oper) (n : Nat) (own : List Nat) : Bool :=
  own.all fun j => (List.range n).all fun i => (List.range n).all fun k => !waits ops i j || !waits ops k j || i == k

theorem ownB_spec {ops : Array Oper} {n : Nat} {own : List Nat} (h : ownB ops n own = true) {i j k : Nat} (hj : own.contains j = true) (hi : i < n) (hk : k < n) (h1 : waits ops i j = true) (h2 : waits ops k j = true) : i = k := by
  have := List.all_eq_true.1 h j (List.contains_iff_mem.1 hj)
  have := List.all_eq_true.1 this i (List.mem_range.2 hi)
  have := List.all_eq_true.1 this k (List.mem_range.2 hk)
  rw [h1, h2] at this
  simpa using this

def Alive (ops : Array Oper) (n : Nat) (own : List Nat) (listed : Array Bool) (j : Nat) : Prop :=
  listed.getD j false = true ∧ (own.contains j = true → ∀ i, i < n → waits ops i j = true → listed.getD i false = false)

structure RInvO (bl : Value → Option Nat) (ops : Array Oper) (n : Nat) (a0 : Act) (W : World) (F : Nat → Value → World → Prop) (fr own : List Nat) (vals : Nat → Value) (listed : Array Bool) (a : Act) (w : World) : Prop where
  hi : HeadInv .any ops n listed
  below : Below W.heap.size W w
  defers : a.defers = a0.defers
  size : a.tmps.size = a0.tmps.size
  facts : ∀ k, k < n → Alive ops n own listed k → F k (vals k) w
  at_ : ∀ k d, k < n → listed.getD k false = true → dstOf ops k = some d → a.tmps[d]? = some (vals k)
  rest : ∀ t, (∀ k, k < n → listed.getD k false = true → dstOf ops k ≠ some t) → a.tmps[t]? = a0.tmps[t]?
  dist : ∀ i j, i < n → j < n → i ≠ j → Alive ops n own listed i → Alive ops n own listed j → fr.contains i = true → fr.contains j = true → bl (vals i) = none ∨ bl (vals i) ≠ bl (vals j)

/-- What operation i may do: it makes new blocks, and turns the row of one that it alone uses. -/
def StepO (bl : Value → Option Nat) (ops : Array Oper) (n : Nat) (F : Nat → Value → World → Prop) (fr own : List Nat) (i : Nat) (vals : Nat → Value) (w : World) (v : Value) (w' : World) : Prop :=
  ∃ row, (row = none ∨ ∃ j, j < n ∧ own.contains j = true ∧ waits ops i j = true ∧ row = bl (vals j)) ∧ w.grownBy w' row ∧ F i v w' ∧
    (fr.contains i = true → bl v = none ∨ bl v = row ∨ ∃ b, bl v = some b ∧ w.heap.size ≤ b)

theorem wpAny_factso {ops : Array Oper} {n : Nat} {a0 : Act} (hB : RBst ops n a0.tmps.size []) {W : World} {Q : Exit → Act → World → Prop} {F : Nat → Value → World → Prop}
    (bl : Value → Option Nat) (fr own : List Nat) (hown : ownB ops n own = true) (hof : ∀ j, own.contains j = true → fr.contains j = true)
    (hst : ∀ i v w w' row, F i v w → w.grownBy w' row → (fr.contains i = true → bl v = none ∨ bl v ≠ row) → (∀ b, row = some b → W.heap.size ≤ b) → F i v w')
    (hfr : ∀ i, fr.contains i = true → ∀ v w, F i v w → ∀ b, bl v = some b → W.heap.size ≤ b ∧ b < w.heap.size)
    (hQ : ∀ c a d v w, Q (.panic c) (Act.put a d v) w → Q (.panic c) a w)
    (hop : ∀ i o, i < n → ops[i]? = some o → ∀ vals w, Below W.heap.size W w → (∀ j, j < n → waits ops i j = true → F j (vals j) w) → (∀ j k, j < n → k < n → j ≠ k → waits ops i j = true → waits ops i k = true → fr.contains j = true → fr.contains k = true → bl (vals j) = none ∨ bl (vals j) ≠ bl (vals k)) →
      wpList P ops (RQO o.dst a0.defers (StepO bl ops n F fr own i vals w)) [o] (fillA (ops.toList.take n) 0 vals a0) w)
    (htail : ∀ vals w, Below W.heap.size W w → (∀ i, i < n → own.contains i = false → F i (vals i) w) → (∀ i j, i < n → j < n → i ≠ j → own.contains i = false → own.contains j = false → fr.contains i = true → fr.contains j = true → bl (vals i) = none ∨ bl (vals i) ≠ bl (vals j)) → wpList P ops Q (ops.toList.drop n) (fillA (ops.toList.take n) 0 vals a0) w) :
    ∀ (u : Nat) (vals : Nat → Value) (listed : Array Bool) (a : Act) (w : World), (unlisted n listed).length = u → RInvO bl ops n a0 W F fr own vals listed a w →
      wpAny P .any ops Q (u + (ops.size - n)) listed a w := by
  intro u
  induction u with
  | zero =>
    intro vals listed a w hu inv
    have hall : ∀ k, k < n → listed.getD k false = true := by
      intro k hk
      cases h : listed.getD k false with
      | true => rfl
      | false =>
        have : 0 < (unlisted n listed).length := List.length_pos_of_mem (a := k) (by unfold unlisted; rw [List.mem_filter]; exact ⟨List.mem_range.2 hk, by rw [h]; rfl⟩)
        omega
    have hfull : listed = fullB n ops.size := by
      have hs := inv.hi.size
      refine Array.ext (by simp [fullB, hs]) fun k h1 h2 => ?_
      by_cases hk : k < n
      · have := hall k hk
        have h3 : listed[k] = true := by simpa [h1] using this
        simp [fullB, h3, hk]
      · have := inv.hi.tail k (by omega) (by omega)
        have h3 : listed[k] = false := by simpa [h1] using this
        simp [fullB, h3, hk]
    have ha : a = fillA (ops.toList.take n) 0 vals a0 := by
      have hd : a.defers = (fillA (ops.toList.take n) 0 vals a0).defers := by rw [fillA_def, inv.defers]
      have ht : a.tmps = (fillA (ops.toList.take n) 0 vals a0).tmps := by
        refine Array.ext_getElem? fun t => ?_
        by_cases h : ∃ k, k < n ∧ dstOf ops k = some t
        · obtain ⟨k, hk, hkd⟩ := h
          rw [inv.at_ k t hk (hall k hk) hkd, fill_att hB a0 rfl vals k t hk hkd]
        · have h' : ∀ k, k < n → dstOf ops k ≠ some t := fun k hk e => h ⟨k, hk, e⟩
          rw [inv.rest t fun k hk _ => h' k hk, fill_rest a0 vals t h']
      cases a
      cases hf : fillA (ops.toList.take n) 0 vals a0
      rw [hf] at hd ht
      simp_all
    rw [Nat.zero_add, ha, hfull]
    have hl : (ops.toList.drop n).length = ops.size - n := by simp
    rw [← hl]
    exact wpAny_of_seq (ops.toList.drop n) n _ _ w (fun j => by simp [List.getElem?_drop]) (by rw [hl]; exact hB.seq) (htail vals w inv.below (fun i hi ho => inv.facts i hi ⟨hall i hi, fun h => (by rw [ho] at h; cases h)⟩) (fun i j hi hj hne h1 h2 => inv.dist i j hi hj hne ⟨hall i hi, fun h => (by rw [h1] at h; cases h)⟩ ⟨hall j hj, fun h => (by rw [h2] at h; cases h)⟩))
  | succ u ih =>
    intro vals listed a w hu inv
    rw [show u + 1 + (ops.size - n) = (u + (ops.size - n)) + 1 by omega]
    have hsz := inv.hi.size
    have hle := hB.le
    -- some operation of the head is not listed: the least one is ready
    have hex : ∃ k, k < n ∧ listed.getD k false = false := by
      cases hl : unlisted n listed with
      | nil => rw [hl] at hu; simp at hu
      | cons k r =>
        have : k ∈ unlisted n listed := by rw [hl]; exact List.mem_cons_self
        unfold unlisted at this
        rw [List.mem_filter] at this
        exact ⟨k, List.mem_range.1 this.1, by simpa using this.2⟩
    have hready : ∃ k, k < n ∧ k ∈ Region.ready .any ops listed := by
      have hw : ∀ m k, k ≤ m → k < n → listed.getD k false = false → ∃ k, k < n ∧ k ∈ Region.ready .any ops listed := by
        intro m
        induction m with
        | zero =>
          intro k hk hkn hku
          refine ⟨k, hkn, mem_ready.2 ⟨getD_in (by omega) hku, ops[k]'(by omega), by simp, fun e he hb => ?_⟩⟩
          have := hB.back k _ e hkn (by simp) he hb
          omega
        | succ m ihm =>
          intro k hk hkn hku
          by_cases hr : k ∈ Region.ready .any ops listed
          · exact ⟨k, hkn, hr⟩
          · have : ∃ e ∈ (ops[k]'(by omega)).after, Region.binds .any e = true ∧ listed.getD e.on false = false := by
              refine Classical.byContradiction fun hno => hr (mem_ready.2 ⟨getD_in (by omega) hku, ops[k]'(by omega), by simp, fun e he hb => ?_⟩)
              cases h : listed.getD e.on false with
              | true => rfl
              | false => exact absurd ⟨e, he, hb, h⟩ hno
            obtain ⟨e, he, hb, hf⟩ := this
            have hlt := hB.back k _ e hkn (by simp) he hb
            exact ihm e.on (by omega) (by omega) hf
      obtain ⟨k, hk, hku⟩ := hex
      exact hw k k (Nat.le_refl _) hk hku
    -- what is ready is of the head, or all but late ones have come up: then a late one may be taken first
    have hstep1 : ∀ i o, i < n → ops[i]? = some o → i ∈ Region.ready .any ops listed →
        (∀ t ∈ o.looksAt ops, a.tmps[t]? = (fillA (ops.toList.take n) 0 vals a0).tmps[t]?) ∧
        (∀ j, j < n → waits ops i j = true → F j (vals j) w) ∧
        (∀ j k, j < n → k < n → j ≠ k → waits ops i j = true → waits ops i k = true → fr.contains j = true → fr.contains k = true → bl (vals j) = none ∨ bl (vals j) ≠ bl (vals k)) ∧
        ∀ v w', StepO bl ops n F fr own i vals w v w' → wpAny P .any ops Q (u + (ops.size - n)) (listed.setIfInBounds i true) (a.put o.dst v) w' := by
      intro i o hin ho hi
      obtain ⟨hiun, o', ho', hall⟩ := mem_ready.1 hi
      rw [ho] at ho'
      cases ho'
      have hisz : i < ops.size := (Array.getElem?_eq_some_iff.1 ho).1
      have hiu : listed.getD i false = false := getD_both hiun
      have hagree : ∀ t ∈ o.looksAt ops, a.tmps[t]? = (fillA (ops.toList.take n) 0 vals a0).tmps[t]? := by
        intro t ht
        by_cases h : ∃ k, k < n ∧ dstOf ops k = some t
        · obtain ⟨k, hk, hkd⟩ := h
          obtain ⟨e, he, hb, hon⟩ := waits_mem ho (hB.look i o t k hin ho ht hk hkd)
          have := hall e he hb
          rw [hon] at this
          rw [inv.at_ k t hk this hkd, fill_att hB a0 rfl vals k t hk hkd]
        · have h' : ∀ k, k < n → dstOf ops k ≠ some t := fun k hk e => h ⟨k, hk, e⟩
          rw [inv.rest t fun k hk _ => h' k hk, fill_rest a0 vals t h']
      have halive : ∀ j, j < n → waits ops i j = true → Alive ops n own listed j := by
        intro j hj hw
        obtain ⟨e, he, hb, hon⟩ := waits_mem ho hw
        have := hall e he hb
        rw [hon] at this
        refine ⟨this, fun hoj k hk hwk => ?_⟩
        have := ownB_spec hown hoj hin hk hw hwk
        rw [← this]; exact hiu
      have hdeps : ∀ j, j < n → waits ops i j = true → F j (vals j) w := fun j hj hw => inv.facts j hj (halive j hj hw)
      have hdist : ∀ j k, j < n → k < n → j ≠ k → waits ops i j = true → waits ops i k = true → fr.contains j = true → fr.contains k = true → bl (vals j) = none ∨ bl (vals j) ≠ bl (vals k) := fun j k hj hk hne h1 h2 => inv.dist j k hj hk hne (halive j hj h1) (halive k hk h2)
      -- who is alive behind the step was so before it
      have hback : ∀ k, k < n → k ≠ i → Alive ops n own (listed.setIfInBounds i true) k → Alive ops n own listed k := by
        intro k hk hki hl
        refine ⟨by have := hl.1; rwa [getD_set_ne false (Ne.symm hki)] at this, fun hok p hp hwp => ?_⟩
        have h1 := hl.2 hok p hp hwp
        by_cases hpi : p = i
        · rw [hpi]; exact hiu
        · rwa [getD_set_ne false (Ne.symm hpi)] at h1
      -- and is not what the step uses up
      have hnot : ∀ k j, own.contains j = true → waits ops i j = true → Alive ops n own (listed.setIfInBounds i true) k → k ≠ j := by
        intro k j hoj hw hl e
        subst e
        have := hl.2 hoj i hin hw
        rw [getD_set_self hisz inv.hi.size] at this
        cases this
      -- what follows, whatever value it has left
      have hnext : ∀ v w', StepO bl ops n F fr own i vals w v w' → wpAny P .any ops Q (u + (ops.size - n)) (listed.setIfInBounds i true) (a.put o.dst v) w' := by
        intro v w' hv
        obtain ⟨row, hrow, hg, hF, hbl⟩ := hv
        have hdi : dstOf ops i = o.dst := by simp [dstOf, ho]
        have hlow : ∀ b, row = some b → W.heap.size ≤ b := by
          intro b hb
          rcases hrow with h | ⟨j, hj, hoj, hw, h⟩
          · rw [h] at hb; cases hb
          · rw [h] at hb
            exact (hfr j (hof j hoj) _ _ (hdeps j hj hw) b hb).1
        have hkeep : ∀ k, k < n → k ≠ i → Alive ops n own (listed.setIfInBounds i true) k → fr.contains k = true → bl (vals k) = none ∨ bl (vals k) ≠ row := by
          intro k hk hki hl hf
          rcases hrow with h | ⟨j, hj, hoj, hw, h⟩
          · rw [h]
            cases hb : bl (vals k) with
            | none => exact .inl rfl
            | some b => exact .inr (by simp)
          · rw [h]
            exact inv.dist k j hk hj (hnot k j hoj hw hl) (hback k hk hki hl) (halive j hj hw) hf (hof j hoj)
        have hnew : ∀ k, k < n → k ≠ i → Alive ops n own (listed.setIfInBounds i true) k → fr.contains k = true → fr.contains i = true → bl (vals k) = none ∨ bl (vals k) ≠ bl v := by
          intro k hk hki hl hf hfi
          rcases hbl hfi with h | h | ⟨b, h, hb⟩
          · rw [h]
            cases hb : bl (vals k) with
            | none => exact .inl rfl
            | some b => exact .inr (by simp)
          · rw [h]; exact hkeep k hk hki hl hf
          · rw [h]
            cases hbk : bl (vals k) with
            | none => exact .inl rfl
            | some b' =>
              have := (hfr k hf _ _ (inv.facts k hk (hback k hk hki hl)) b' hbk).2
              exact .inr (by simp; omega)
        refine ih (fun k => if k = i then v else vals k) _ _ _ (by have := unlisted_set (listed := listed) hin (by omega) hiu; omega) ⟨inv.hi.set hi hin, inv.below.grown hg inv.below.size hlow, by rw [put_def, inv.defers], by rw [put_size, inv.size], ?_, ?_, ?_, ?_⟩
        · intro k hk hl
          by_cases hki : k = i
          · subst hki
            simpa using hF
          · simpa [hki] using hst k _ _ _ row (inv.facts k hk (hback k hk hki hl)) hg (hkeep k hk hki hl) hlow
        · intro k d hk hl hd
          by_cases hki : k = i
          · subst hki
            rw [hdi] at hd
            rw [hd]
            simpa using put_get_eq a d v (by rw [inv.size]; exact hB.dsz k d hk (hdi.trans hd))
          · rw [getD_set_ne false (Ne.symm hki)] at hl
            have hne : o.dst ≠ some d := fun e => hki (hB.dne i k d hin hk (hdi.trans e) hd)
            rw [put_get_ne _ _ _ _ hne, inv.at_ k d hk hl hd]
            simp [hki]
        · intro t ht
          have hne : o.dst ≠ some t := fun e => ht i hin (getD_set_self hisz inv.hi.size) (hdi.trans e)
          rw [put_get_ne _ _ _ _ hne]
          exact inv.rest t fun k hk hl => ht k hk (getD_set_true hl)
        · intro p q hp hq hne hlp hlq hfp hfq
          by_cases hpi : p = i
          · subst hpi
            have hqi : q ≠ p := Ne.symm hne
            simp only [hqi, if_true, if_false]
            rcases hnew q hq hqi hlq hfq hfp with h | h
            · rw [h]
              cases hbv : bl v with
              | none => exact .inl rfl
              | some b => exact .inr (by simp)
            · exact .inr (Ne.symm h)
          · by_cases hqi : q = i
            · subst hqi
              simp only [hpi, if_true, if_false]
              exact hnew p hp hpi hlp hfp hfq
            · simp only [hpi, hqi, if_false]
              exact inv.dist p q hp hq hne (hback p hp hpi hlp) (hback q hq hqi hlq) hfp hfq
      exact ⟨hagree, hdeps, hdist, hnext⟩
    obtain ⟨k0, hk0n, hk0⟩ := hready
    refine ⟨fun h => (by rw [h] at hk0; cases hk0), fun i hi => ?_⟩
    obtain ⟨hiun, o, ho, hall⟩ := mem_ready.1 hi
    have hisz : i < ops.size := (Array.getElem?_eq_some_iff.1 ho).1
    have hin : i < n := by
      rcases Nat.lt_or_ge i n with h | h
      · exact h
      · exfalso
        by_cases hin : i = n
        · subst hin
          obtain ⟨k, hk, hku⟩ := hex
          have key : ∀ d q, i - q ≤ d → q < i → listed.getD q false = true := by
            intro d
            induction d with
            | zero => intro q h1 h2; omega
            | succ d ihd =>
              intro q h1 h2
              rcases hB.last hisz q h2 rfl with h | ⟨j, hj1, hj2, hj3, hj4⟩
              · obtain ⟨e, he, hb, hon⟩ := waits_mem ho h
                have := hall e he hb
                rwa [hon] at this
              · have hjl := ihd j (by omega) hj2
                obtain ⟨oj, hoj, e, he, hb, hon⟩ := Region.waitsFor_spec hj4
                have := inv.hi.closed j oj hoj hjl e he hb
                rwa [hon] at this
          rw [key (i - k) k (Nat.le_refl _) hk] at hku
          cases hku
        · obtain ⟨e, he, hb, hon⟩ := waits_mem ho (hB.chain i (by omega) hisz)
          have := hall e he hb
          rw [hon, getD_both (inv.hi.tail (i - 1) (by omega) (by omega))] at this
          cases this
    obtain ⟨hagree, hdeps, hdist, hnext⟩ := hstep1 i o hin ho hi
    have hsel := hB.nosel i o
    have hstep := hop i o hin ho vals w inv.below hdeps hdist
    unfold wpOp
    rw [ho]
    simp only
    rw [wanted_look o hagree]
    unfold wpList at hstep
    by_cases hw : Region.wanted o (yielded ops (fillA (ops.toList.take n) 0 vals a0).tmps) = true
    · rw [if_pos hw] at hstep
      rw [if_pos hw]
      left
      rcases hstep with h | ⟨_, _, _, h, _⟩
      · unfold Oper.wp at h ⊢
        rw [execOp_look o (fun cs b => hsel cs b ho) hagree]
        refine upon_passO (a := fillA (ops.toList.take n) 0 vals a0) (G := StepO bl ops n F fr own i vals w) ?_ hnext _ ?_
        · intro d hd
          rw [fillA_size]
          exact hB.dsz i d hin (by simp [dstOf, ho, hd])
        · rw [fillA_def]
          exact h
      · exact absurd h (by simp)
    · rw [if_neg hw] at hstep
      rw [if_neg hw]
      obtain ⟨_, _, h1⟩ := hstep
      have := hnext _ _ h1
      cases hd : o.dst with
      | none =>
        rw [hd] at this
        exact this
      | some d =>
        rw [hd] at this h1
        have hlt : d < a0.tmps.size := hB.dsz i d hin (by simp [dstOf, ho, hd])
        have e : gotV (some d) ((fillA (ops.toList.take n) 0 vals a0).put (some d) undef) = undef := by
          simp [gotV, Act.put, fillA_size, hlt]
        rw [e] at this
        exact this

/-- **A region that draws its order, with rows that are turned.** Each row of `own` is used by one operation, which may turn it. -/
theorem wp_region_o {id n : Nat} (bl : Value → Option Nat) (fr own : List Nat) {l : List Oper} {a0 : Act} {w : World} {Q : Exit → Act → World → Prop} (F : Nat → Value → World → Prop) (hm : P.follows .mixedOrders = true)
    (hB : RBt l.toArray n a0.tmps.size [] = true) (hown : ownB l.toArray n own = true) (hof : ∀ j, own.contains j = true → fr.contains j = true)
    (hQ : ∀ c a d v w, Q (.panic c) (Act.put a d v) w → Q (.panic c) a w)
    (hst : ∀ i v w1 w2 row, F i v w1 → w1.grownBy w2 row → (fr.contains i = true → bl v = none ∨ bl v ≠ row) → (∀ b, row = some b → w.heap.size ≤ b) → F i v w2)
    (hfr : ∀ i, fr.contains i = true → ∀ v w1, F i v w1 → ∀ b, bl v = some b → w.heap.size ≤ b ∧ b < w1.heap.size)
    (hop : ∀ i o, i < n → l[i]? = some o → ∀ vals w', Below w.heap.size w w' → (∀ j, j < n → waits l.toArray i j = true → F j (vals j) w') → (∀ j k, j < n → k < n → j ≠ k → waits l.toArray i j = true → waits l.toArray i k = true → fr.contains j = true → fr.contains k = true → bl (vals j) = none ∨ bl (vals j) ≠ bl (vals k)) →
      wpList P l.toArray (RQO o.dst a0.defers (StepO bl l.toArray n F fr own i vals w')) [o] (fillA (l.take n) 0 vals a0) w')
    (htail : ∀ vals w', Below w.heap.size w w' → (∀ i, i < n → own.contains i = false → F i (vals i) w') → (∀ i j, i < n → j < n → i ≠ j → own.contains i = false → own.contains j = false → fr.contains i = true → fr.contains j = true → bl (vals i) = none ∨ bl (vals i) ≠ bl (vals j)) → wpList P l.toArray Q (l.drop n) (fillA (l.take n) 0 vals a0) w') :
    (Code.region id l.toArray true).wp P Q a0 w := by
  have hB' := RB_spect hB
  refine wp_region_any hm ?_
  have hb0 : Below w.heap.size w { w with drawn := w.drawn + 1 } := (Below.refl _ _).drew
  have hsz : n ≤ l.toArray.size := hB'.le
  have h0 : (unlisted n (Array.replicate l.toArray.size false)).length = n := by
    have : unlisted n (Array.replicate l.toArray.size false) = List.range n := by
      unfold unlisted
      refine List.filter_eq_self.2 fun k _ => ?_
      rw [getD_replicate_false]
      rfl
    rw [this, List.length_range]
  have hno : ∀ k, ¬ Alive l.toArray n own (Array.replicate l.toArray.size false) k := fun k h => (by have := h.1; rw [getD_replicate_false] at this; cases this)
  have H := wpAny_factso (P := P) (W := w) (Q := Q) (F := F) hB' bl fr own hown hof hst hfr hQ (fun i o hi ho vals w' hb hf hd => by
      have := hop i o hi (by simpa using ho) vals w' hb hf hd
      simpa using this) (fun vals w' hb hf hd => by
      have := htail vals w' hb hf hd
      simpa using this) n (fun _ => undef) (Array.replicate l.toArray.size false) a0 { w with drawn := w.drawn + 1 } h0
    ⟨⟨by simp, fun j oj _ hl => (by rw [getD_replicate_false] at hl; cases hl), fun t _ ht => getD_in (by simpa using ht) (getD_replicate_false _ _)⟩, hb0, rfl, rfl,
      fun k _ hl => (hno k hl).elim, fun k d _ hl => (by rw [getD_replicate_false] at hl; cases hl), fun _ _ => rfl, fun i _ _ _ _ hl => (hno i hl).elim⟩
  rw [show n + (l.toArray.size - n) = l.toArray.size by omega] at H
  exact H

end
end Go.Proofs.Ytfipmalomhflgaa
namespace Go.Proofs.Ytfipmalomhflgaa
set_option linter.unusedSimpArgs false
set_option linter.unusedVariables false
open Go.RowKit

section
variable {P : Program}

structure RInvC (b : Nat) (T : Nat → World → Prop) (ops : Array Oper) (n : Nat) (a0 : Act) (W : World) (F : Nat → Value → World → Prop) (fr : List Nat) (vals : Nat → Value) (listed : Array Bool) (a : Act) (w : World) : Prop where
  hi : HeadInv .any ops n listed
  grown : W.grownBy w (some b)
  tok : T (n - (unlisted n listed).length) w
  defers : a.defers = a0.defers
  size : a.tmps.size = a0.tmps.size
  facts : ∀ k, k < n → listed.getD k false = true → F k (vals k) w
  at_ : ∀ k d, k < n → listed.getD k false = true → dstOf ops k = some d → a.tmps[d]? = some (vals k)
  rest : ∀ t, (∀ k, k < n → listed.getD k false = true → dstOf ops k ≠ some t) → a.tmps[t]? = a0.tmps[t]?
  dist : ∀ i j, i < n → j < n → i ≠ j → listed.getD i false = true → listed.getD j false = true → fr.contains i = true → fr.contains j = true → blkV (vals i) ≠ blkV (vals j)

/-- What operation i may do: it makes new blocks, and turns block b. -/
def StepC (b : Nat) (T : Nat → World → Prop) (F : Nat → Value → World → Prop) (fr : List Nat) (i k : Nat) (w : World) (v : Value) (w' : World) : Prop :=
  w.grownBy w' (some b) ∧ T (k + 1) w' ∧ F i v w' ∧ (fr.contains i = true → w.heap.size ≤ blkV v)

theorem grownTr {a w w' : World} {row : Option Nat} (h : a.grownBy w row) (h' : w.grownBy w' row) : a.grownBy w' row :=
  ⟨h'.os.trans h.os, h'.tape.trans h.tape, h'.output.trans h.output, Nat.le_trans h.size h'.size, fun i hi hne => (h'.block i (Nat.lt_of_lt_of_le hi h.size) hne).trans (h.block i hi hne)⟩

theorem wpAny_factsc {ops : Array Oper} {n : Nat} {a0 : Act} (hB : RBst ops n a0.tmps.size []) {W : World} {Q : Exit → Act → World → Prop} {F : Nat → Value → World → Prop}
    (b : Nat) (T : Nat → World → Prop) (fr : List Nat)
    (hst : ∀ i v w w', F i v w → w.grownBy w' (some b) → F i v w')
    (hfr : ∀ i, fr.contains i = true → ∀ v w, F i v w → blkV v < w.heap.size)
    (hQ : ∀ c a d v w, Q (.panic c) (Act.put a d v) w → Q (.panic c) a w)
    (hop : ∀ i o, i < n → ops[i]? = some o → ∀ vals k w, k < n → T k w → W.grownBy w (some b) → (∀ j, j < n → waits ops i j = true → F j (vals j) w) →
      wpList P ops (RQO o.dst a0.defers (StepC b T F fr i k w)) [o] (fillA (ops.toList.take n) 0 vals a0) w)
    (htail : ∀ vals w, T n w → W.grownBy w (some b) → (∀ i, i < n → F i (vals i) w) → (∀ i j, i < n → j < n → i ≠ j → fr.contains i = true → fr.contains j = true → blkV (vals i) ≠ blkV (vals j)) → wpList P ops Q (ops.toList.drop n) (fillA (ops.toList.take n) 0 vals a0) w) :
    ∀ (u : Nat) (vals : Nat → Value) (listed : Array Bool) (a : Act) (w : World), (unlisted n listed).length = u → RInvC b T ops n a0 W F fr vals listed a w →
      wpAny P .any ops Q (u + (ops.size - n)) listed a w := by
  intro u
  induction u with
  | zero =>
    intro vals listed a w hu inv
    have hall : ∀ k, k < n → listed.getD k false = true := by
      intro k hk
      cases h : listed.getD k false with
      | true => rfl
      | false =>
        have : 0 < (unlisted n listed).length := List.length_pos_of_mem (a := k) (by unfold unlisted; rw [List.mem_filter]; exact ⟨List.mem_range.2 hk, by rw [h]; rfl⟩)
        omega
    have hfull : listed = fullB n ops.size := by
      have hs := inv.hi.size
      refine Array.ext (by simp [fullB, hs]) fun k h1 h2 => ?_
      by_cases hk : k < n
      · have := hall k hk
        have h3 : listed[k] = true := by simpa [h1] using this
        simp [fullB, h3, hk]
      · have := inv.hi.tail k (by omega) (by omega)
        have h3 : listed[k] = false := by simpa [h1] using this
        simp [fullB, h3, hk]
    have ha : a = fillA (ops.toList.take n) 0 vals a0 := by
      have hd : a.defers = (fillA (ops.toList.take n) 0 vals a0).defers := by rw [fillA_def, inv.defers]
      have ht : a.tmps = (fillA (ops.toList.take n) 0 vals a0).tmps := by
        refine Array.ext_getElem? fun t => ?_
        by_cases h : ∃ k, k < n ∧ dstOf ops k = some t
        · obtain ⟨k, hk, hkd⟩ := h
          rw [inv.at_ k t hk (hall k hk) hkd, fill_att hB a0 rfl vals k t hk hkd]
        · have h' : ∀ k, k < n → dstOf ops k ≠ some t := fun k hk e => h ⟨k, hk, e⟩
          rw [inv.rest t fun k hk _ => h' k hk, fill_rest a0 vals t h']
      cases a
      cases hf : fillA (ops.toList.take n) 0 vals a0
      rw [hf] at hd ht
      simp_all
    rw [Nat.zero_add, ha, hfull]
    have hl : (ops.toList.drop n).length = ops.size - n := by simp
    rw [← hl]
    exact wpAny_of_seq (ops.toList.drop n) n _ _ w (fun j => by simp [List.getElem?_drop]) (by rw [hl]; exact hB.seq) (htail vals w (by have := inv.tok; rwa [hu] at this) inv.grown (fun i hi => inv.facts i hi (hall i hi)) (fun i j hi hj hne => inv.dist i j hi hj hne (hall i hi) (hall j hj)))
  | succ u ih =>
    intro vals listed a w hu inv
    rw [show u + 1 + (ops.size - n) = (u + (ops.size - n)) + 1 by omega]
    have hsz := inv.hi.size
    have hle := hB.le
    -- some operation of the head is not listed: the least one is ready
    have hex : ∃ k, k < n ∧ listed.getD k false = false := by
      cases hl : unlisted n listed with
      | nil => rw [hl] at hu; simp at hu
      | cons k r =>
        have : k ∈ unlisted n listed := by rw [hl]; exact List.mem_cons_self
        unfold unlisted at this
        rw [List.mem_filter] at this
        exact ⟨k, List.mem_range.1 this.1, by simpa using this.2⟩
    have hready : ∃ k, k < n ∧ k ∈ Region.ready .any ops listed := by
      have hw : ∀ m k, k ≤ m → k < n → listed.getD k false = false → ∃ k, k < n ∧ k ∈ Region.ready .any ops listed := by
        intro m
        induction m with
        | zero =>
          intro k hk hkn hku
          refine ⟨k, hkn, mem_ready.2 ⟨getD_in (by omega) hku, ops[k]'(by omega), by simp, fun e he hb => ?_⟩⟩
          have := hB.back k _ e hkn (by simp) he hb
          omega
        | succ m ihm =>
          intro k hk hkn hku
          by_cases hr : k ∈ Region.ready .any ops listed
          · exact ⟨k, hkn, hr⟩
          · have : ∃ e ∈ (ops[k]'(by omega)).after, Region.binds .any e = true ∧ listed.getD e.on false = false := by
              refine Classical.byContradiction fun hno => hr (mem_ready.2 ⟨getD_in (by omega) hku, ops[k]'(by omega), by simp, fun e he hb => ?_⟩)
              cases h : listed.getD e.on false with
              | true => rfl
              | false => exact absurd ⟨e, he, hb, h⟩ hno
            obtain ⟨e, he, hb, hf⟩ := this
            have hlt := hB.back k _ e hkn (by simp) he hb
            exact ihm e.on (by omega) (by omega) hf
      obtain ⟨k, hk, hku⟩ := hex
      exact hw k k (Nat.le_refl _) hk hku
    -- what is ready is of the head, or all but late ones have come up: then a late one may be taken first
    have hstep1 : ∀ i o, i < n → ops[i]? = some o → i ∈ Region.ready .any ops listed →
        (∀ t ∈ o.looksAt ops, a.tmps[t]? = (fillA (ops.toList.take n) 0 vals a0).tmps[t]?) ∧
        (∀ j, j < n → waits ops i j = true → F j (vals j) w) ∧
        ∀ v w', StepC b T F fr i (n - (u + 1)) w v w' → wpAny P .any ops Q (u + (ops.size - n)) (listed.setIfInBounds i true) (a.put o.dst v) w' := by
      intro i o hin ho hi
      obtain ⟨hiun, o', ho', hall⟩ := mem_ready.1 hi
      rw [ho] at ho'
      cases ho'
      have hisz : i < ops.size := (Array.getElem?_eq_some_iff.1 ho).1
      have hiu : listed.getD i false = false := getD_both hiun
      have hagree : ∀ t ∈ o.looksAt ops, a.tmps[t]? = (fillA (ops.toList.take n) 0 vals a0).tmps[t]? := by
        intro t ht
        by_cases h : ∃ k, k < n ∧ dstOf ops k = some t
        · obtain ⟨k, hk, hkd⟩ := h
          obtain ⟨e, he, hb, hon⟩ := waits_mem ho (hB.look i o t k hin ho ht hk hkd)
          have := hall e he hb
          rw [hon] at this
          rw [inv.at_ k t hk this hkd, fill_att hB a0 rfl vals k t hk hkd]
        · have h' : ∀ k, k < n → dstOf ops k ≠ some t := fun k hk e => h ⟨k, hk, e⟩
          rw [inv.rest t fun k hk _ => h' k hk, fill_rest a0 vals t h']
      have hdeps : ∀ j, j < n → waits ops i j = true → F j (vals j) w := by
        intro j hj hw
        obtain ⟨e, he, hb, hon⟩ := waits_mem ho hw
        have := hall e he hb
        rw [hon] at this
        exact inv.facts j hj this
      -- what follows, whatever value it has left
      have hnext : ∀ v w', StepC b T F fr i (n - (u + 1)) w v w' → wpAny P .any ops Q (u + (ops.size - n)) (listed.setIfInBounds i true) (a.put o.dst v) w' := by
        intro v w' hv
        obtain ⟨hg, hT, hF, hbl⟩ := hv
        have hdi : dstOf ops i = o.dst := by simp [dstOf, ho]
        have hul := unlisted_set (listed := listed) hin (by omega) hiu
        have hun : u + 1 ≤ n := by
          have h1 : (unlisted n listed).length ≤ n := by
            unfold unlisted
            exact Nat.le_trans (List.length_filter_le _ _) (by simp)
          omega
        refine ih (fun k => if k = i then v else vals k) _ _ _ (by omega) ⟨inv.hi.set hi hin, grownTr inv.grown hg, by rw [show n - (unlisted n (listed.setIfInBounds i true)).length = n - (u + 1) + 1 by omega]; exact hT, by rw [put_def, inv.defers], by rw [put_size, inv.size], ?_, ?_, ?_, ?_⟩
        · intro k hk hl
          by_cases hki : k = i
          · subst hki
            simpa using hF
          · rw [getD_set_ne false (Ne.symm hki)] at hl
            simpa [hki] using hst k _ _ _ (inv.facts k hk hl) hg
        · intro k d hk hl hd
          by_cases hki : k = i
          · subst hki
            rw [hdi] at hd
            rw [hd]
            simpa using put_get_eq a d v (by rw [inv.size]; exact hB.dsz k d hk (hdi.trans hd))
          · rw [getD_set_ne false (Ne.symm hki)] at hl
            have hne : o.dst ≠ some d := fun e => hki (hB.dne i k d hin hk (hdi.trans e) hd)
            rw [put_get_ne _ _ _ _ hne, inv.at_ k d hk hl hd]
            simp [hki]
        · intro t ht
          have hne : o.dst ≠ some t := fun e => ht i hin (getD_set_self hisz inv.hi.size) (hdi.trans e)
          rw [put_get_ne _ _ _ _ hne]
          exact inv.rest t fun k hk hl => ht k hk (getD_set_true hl)
        · intro p q hp hq hne hlp hlq hfp hfq
          have key : ∀ k, k < n → k ≠ i → (listed.setIfInBounds i true).getD k false = true → fr.contains k = true → blkV (vals k) < w.heap.size := fun k hk hki hl hf => by
            rw [getD_set_ne false (Ne.symm hki)] at hl
            exact hfr k hf _ _ (inv.facts k hk hl)
          by_cases hpi : p = i
          · subst hpi
            have hqi : q ≠ p := Ne.symm hne
            simp only [hqi, if_true, if_false]
            have h1 := key q hq hqi hlq hfq
            have h2 := hbl hfp
            omega
          · by_cases hqi : q = i
            · subst hqi
              simp only [hpi, if_true, if_false]
              have h1 := key p hp hpi hlp hfp
              have h2 := hbl hfq
              omega
            · simp only [hpi, hqi, if_false]
              rw [getD_set_ne false (Ne.symm hpi)] at hlp
              rw [getD_set_ne false (Ne.symm hqi)] at hlq
              exact inv.dist p q hp hq hne hlp hlq hfp hfq
      exact ⟨hagree, hdeps, hnext⟩
    obtain ⟨k0, hk0n, hk0⟩ := hready
    refine ⟨fun h => (by rw [h] at hk0; cases hk0), fun i hi => ?_⟩
    obtain ⟨hiun, o, ho, hall⟩ := mem_ready.1 hi
    have hisz : i < ops.size := (Array.getElem?_eq_some_iff.1 ho).1
    have hin : i < n := by
      rcases Nat.lt_or_ge i n with h | h
      · exact h
      · exfalso
        by_cases hin : i = n
        · subst hin
          obtain ⟨k, hk, hku⟩ := hex
          have key : ∀ d q, i - q ≤ d → q < i → listed.getD q false = true := by
            intro d
            induction d with
            | zero => intro q h1 h2; omega
            | succ d ihd =>
              intro q h1 h2
              rcases hB.last hisz q h2 rfl with h | ⟨j, hj1, hj2, hj3, hj4⟩
              · obtain ⟨e, he, hb, hon⟩ := waits_mem ho h
                have := hall e he hb
                rwa [hon] at this
              · have hjl := ihd j (by omega) hj2
                obtain ⟨oj, hoj, e, he, hb, hon⟩ := Region.waitsFor_spec hj4
                have := inv.hi.closed j oj hoj hjl e he hb
                rwa [hon] at this
          rw [key (i - k) k (Nat.le_refl _) hk] at hku
          cases hku
        · obtain ⟨e, he, hb, hon⟩ := waits_mem ho (hB.chain i (by omega) hisz)
          have := hall e he hb
          rw [hon, getD_both (inv.hi.tail (i - 1) (by omega) (by omega))] at this
          cases this
    obtain ⟨hagree, hdeps, hnext⟩ := hstep1 i o hin ho hi
    have hsel := hB.nosel i o
    have hun : (unlisted n listed).length ≤ n := by
      unfold unlisted
      exact Nat.le_trans (List.length_filter_le _ _) (by simp)
    have hstep := hop i o hin ho vals (n - (u + 1)) w (by omega) (by have := inv.tok; rwa [hu] at this) inv.grown hdeps
    unfold wpOp
    rw [ho]
    simp only
    rw [wanted_look o hagree]
    unfold wpList at hstep
    by_cases hw : Region.wanted o (yielded ops (fillA (ops.toList.take n) 0 vals a0).tmps) = true
    · rw [if_pos hw] at hstep
      rw [if_pos hw]
      left
      rcases hstep with h | ⟨_, _, _, h, _⟩
      · unfold Oper.wp at h ⊢
        rw [execOp_look o (fun cs b => hsel cs b ho) hagree]
        refine upon_passO (a := fillA (ops.toList.take n) 0 vals a0) (G := StepC b T F fr i (n - (u + 1)) w) ?_ hnext _ ?_
        · intro d hd
          rw [fillA_size]
          exact hB.dsz i d hin (by simp [dstOf, ho, hd])
        · rw [fillA_def]
          exact h
      · exact absurd h (by simp)
    · rw [if_neg hw] at hstep
      rw [if_neg hw]
      obtain ⟨_, _, h1⟩ := hstep
      have := hnext _ _ h1
      cases hd : o.dst with
      | none =>
        rw [hd] at this
        exact this
      | some d =>
        rw [hd] at this h1
        have hlt : d < a0.tmps.size := hB.dsz i d hin (by simp [dstOf, ho, hd])
        have e : gotV (some d) ((fillA (ops.toList.take n) 0 vals a0).put (some d) undef) = undef := by
          simp [gotV, Act.put, fillA_size, hlt]
        rw [e] at this
        exact this

/-- **A region that draws its order, with a block that the calls turn** (a cursor): T k holds of the world behind k operations. -/
theorem wp_region_c {id n : Nat} (b : Nat) (T : Nat → World → Prop) (fr : List Nat) {l : List Oper} {a0 : Act} {w : World} {Q : Exit → Act → World → Prop} (F : Nat → Value → World → Prop) (hm : P.follows .mixedOrders = true)
    (hB : RBt l.toArray n a0.tmps.size [] = true)
    (hQ : ∀ c a d v w, Q (.panic c) (Act.put a d v) w → Q (.panic c) a w)
    (hT0 : T 0 { w with drawn := w.drawn + 1 })
    (hst : ∀ i v w1 w2, F i v w1 → w1.grownBy w2 (some b) → F i v w2)
    (hfr : ∀ i, fr.contains i = true → ∀ v w1, F i v w1 → blkV v < w1.heap.size)
    (hop : ∀ i o, i < n → l[i]? = some o → ∀ vals k w', k < n → T k w' → w.grownBy w' (some b) → (∀ j, j < n → waits l.toArray i j = true → F j (vals j) w') →
      wpList P l.toArray (RQO o.dst a0.defers (StepC b T F fr i k w')) [o] (fillA (l.take n) 0 vals a0) w')
    (htail : ∀ vals w', T n w' → w.grownBy w' (some b) → (∀ i, i < n → F i (vals i) w') → (∀ i j, i < n → j < n → i ≠ j → fr.contains i = true → fr.contains j = true → blkV (vals i) ≠ blkV (vals j)) → wpList P l.toArray Q (l.drop n) (fillA (l.take n) 0 vals a0) w') :
    (Code.region id l.toArray true).wp P Q a0 w := by
  have hB' := RB_spect hB
  refine wp_region_any hm ?_
  have hb0 : w.grownBy { w with drawn := w.drawn + 1 } (some b) := ⟨rfl, rfl, rfl, Nat.le_refl _, fun _ _ _ => rfl⟩
  have hsz : n ≤ l.toArray.size := hB'.le
  have h0 : (unlisted n (Array.replicate l.toArray.size false)).length = n := by
    have : unlisted n (Array.replicate l.toArray.size false) = List.range n := by
      unfold unlisted
      refine List.filter_eq_self.2 fun k _ => ?_
      rw [getD_replicate_false]
      rfl
    rw [this, List.length_range]
  have H := wpAny_factsc (P := P) (W := w) (Q := Q) (F := F) hB' b T fr hst hfr hQ (fun i o hi ho vals k w' hk ht hb hf => by
      have := hop i o hi (by simpa using ho) vals k w' hk ht hb hf
      simpa using this) (fun vals w' ht hb hf hd => by
      have := htail vals w' ht hb hf hd
      simpa using this) n (fun _ => undef) (Array.replicate l.toArray.size false) a0 { w with drawn := w.drawn + 1 } h0
    ⟨⟨by simp, fun j oj _ hl => (by rw [getD_replicate_false] at hl; cases hl), fun t _ ht => getD_in (by simpa using ht) (getD_replicate_false _ _)⟩, hb0, by rw [h0, Nat.sub_self]; exact hT0, rfl, rfl,
      fun k _ hl => (by rw [getD_replicate_false] at hl; cases hl), fun k d _ hl => (by rw [getD_replicate_false] at hl; cases hl), fun _ _ => rfl, fun i _ _ _ _ hl => (by rw [getD_replicate_false] at hl; cases hl)⟩
  rw [show n + (l.toArray.size - n) = l.toArray.size by omega] at H
  exact H

end
end Go.Proofs.Ytfipmalomhflgaa
