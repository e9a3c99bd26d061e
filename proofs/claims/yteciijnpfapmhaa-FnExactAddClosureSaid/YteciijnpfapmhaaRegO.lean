import Derived.Test.YteciijnpfapmhaaRegT
namespace Go.Proofs.Yteciijnpfapmhaa
open Go.RowKit

section
variable {P : Program}

/-- What an operation of the head must leave, the worlds' relation told by G. -/
def RQO (dst : Option Tmp) (ds : List Deferred) (G : Value → World → Prop) (e : Exit) (a : Act) (w : World) : Prop :=
  e = .normal ∧ a.defers = ds ∧ G (gotV dst a) w

theorem upon_passO {o : Oper} {a a2 : Act} {G : Value → World → Prop} {K : Act → World → Prop} {Q : Exit → Act → World → Prop}
    (hsz : ∀ d, o.dst = some d → d < a.tmps.size)
    (hK : ∀ v w', G v w' → K (a2.put o.dst v) w') (r : Result Next)
    (h : o.upon P a (RQO o.dst a.defers G .normal) (RQO o.dst a.defers G) r) : o.upon P a2 K Q r := by
  have one : ∀ v w', RQO o.dst a.defers G .normal (a.put o.dst v) w' → K (a2.put o.dst v) w' := by
    intro v w' hr
    obtain ⟨_, _, h1⟩ := hr
    cases hd : o.dst with
    | none =>
      rw [hd] at h1
      have := hK _ _ h1
      rw [hd] at this
      exact this
    | some d =>
      rw [hd] at h1
      have hs := hsz d hd
      have hg : gotV (some d) (a.put (some d) v) = v := by simp [gotV, Act.put, hs]
      rw [hg] at h1
      have := hK _ _ h1
      rw [hd] at this
      exact this
  cases r with
  | ok n w' =>
    cases n with
    | value v => exact one v w' h
    | skip => exact one undef w' h
    | defer d =>
      obtain ⟨_, h2, _⟩ := h
      rw [put_def] at h2
      exact absurd (congrArg List.length h2) (by simp)
    | enter f args =>
      refine Calls.mono h ?_
      intro e w'' he
      cases e with
      | returned v => exact one v w'' he
      | panicked c => exact absurd he.1 (by simp)
      | outgrown => obtain ⟨_, _, h1, _⟩ := he; exact absurd h1 (by simp)
    | row row args => exact Rows.mono h fun v w'' he => one v w'' he
    | _ => exact h.elim
  | halt x w' =>
    cases x with
    | panic v => exact absurd h.1 (by simp)
    | _ => exact h.elim

/-- Each of `own` is used by one operation of the head at most. -/
def ownB (ops : Array Oper) (n : Nat) (own : List Nat) : Bool :=
  own.all fun j => (List.range n).all fun i => (List.range n).all fun k => !waits ops i j || !waits ops k j || i == k

theorem ownB_spec {ops : Array Oper} {n : Nat} {own : List Nat} (h : ownB ops n own = true) {i j k : Nat} (hj : own.contains j = true) (hi : i < n) (hk : k < n) (h1 : waits ops i j = true) (h2 : waits ops k j = true) : i = k := by
  have := List.all_eq_true.1 h j (List.contains_iff_mem.1 hj)
  have := List.all_eq_true.1 this i (List.mem_range.2 hi)
  have := List.all_eq_true.1 this k (List.mem_range.2 hk)
  rw [h1, h2] at this
  simpa using this

def Alive (ops : Array Oper) (n : Nat) (own : List Nat) (listed : Array Bool) (j : Nat) : Prop :=
  listed.getD j false = true ∧ (own.contains j = true → ∀ i, i < n → waits ops i j = true → listed.getD i false = false)

structure RInvO (bl : Value → Option Nat) (ops : Array Oper) (n : Nat) (a0 : Act) (W : World) (F : Nat → Value → World → Prop) (fr own : List Nat) (vals : Nat → Value) (listed : Array Bool) (a : Act) (w : World) : Prop where
  hi : HeadInv .any ops n listed
  below : Below W.heap.size W w
  defers : a.defers = a0.defers
  size : a.tmps.size = a0.tmps.size
  facts : ∀ k, k < n → Alive ops n own listed k → F k (vals k) w
  at_ : ∀ k d, k < n → listed.getD k false = true → dstOf ops k = some d → a.tmps[d]? = some (vals k)
  rest : ∀ t, (∀ k, k < n → listed.getD k false = true → dstOf ops k ≠ some t) → a.tmps[t]? = a0.tmps[t]?
  dist : ∀ i j, i < n → j < n → i ≠ j → Alive ops n own listed i → Alive ops n own listed j → fr.contains i = true → fr.contains j = true → bl (vals i) = none ∨ bl (vals i) ≠ bl (vals j)

/-- What operation i may do: it makes new blocks, and turns the row of one that it alone uses. -/
def StepO (bl : Value → Option Nat) (ops : Array Oper) (n : Nat) (F : Nat → Value → World → Prop) (fr own : List Nat) (i : Nat) (vals : Nat → Value) (w : World) (v : Value) (w' : World) : Prop :=
  ∃ row, (row = none ∨ ∃ j, j < n ∧ own.contains j = true ∧ waits ops i j = true ∧ row = bl (vals j)) ∧ w.grownBy w' row ∧ F i v w' ∧
    (fr.contains i = true → bl v = none ∨ bl v = row ∨ ∃ b, bl v = some b ∧ w.heap.size ≤ b)

theorem wpAny_factso {ops : Array Oper} {n : Nat} {a0 : Act} (hB : RBst ops n a0.tmps.size []) {W : World} {Q : Exit → Act → World → Prop} {F : Nat → Value → World → Prop}
    (bl : Value → Option Nat) (fr own : List Nat) (hown : ownB ops n own = true) (hof : ∀ j, own.contains j = true → fr.contains j = true)
    (hst : ∀ i v w w' row, F i v w → w.grownBy w' row → (fr.contains i = true → bl v = none ∨ bl v ≠ row) → (∀ b, row = some b → W.heap.size ≤ b) → F i v w')
    (hfr : ∀ i, fr.contains i = true → ∀ v w, F i v w → ∀ b, bl v = some b → W.heap.size ≤ b ∧ b < w.heap.size)
    (hQ : ∀ c a d v w, Q (.panic c) (Act.put a d v) w → Q (.panic c) a w)
    (hop : ∀ i o, i < n → ops[i]? = some o → ∀ vals w, Below W.heap.size W w → (∀ j, j < n → waits ops i j = true → F j (vals j) w) → (∀ j k, j < n → k < n → j ≠ k → waits ops i j = true → waits ops i k = true → fr.contains j = true → fr.contains k = true → bl (vals j) = none ∨ bl (vals j) ≠ bl (vals k)) →
      wpList P ops (RQO o.dst a0.defers (StepO bl ops n F fr own i vals w)) [o] (fillA (ops.toList.take n) 0 vals a0) w)
    (htail : ∀ vals w, Below W.heap.size W w → (∀ i, i < n → own.contains i = false → F i (vals i) w) → (∀ i j, i < n → j < n → i ≠ j → own.contains i = false → own.contains j = false → fr.contains i = true → fr.contains j = true → bl (vals i) = none ∨ bl (vals i) ≠ bl (vals j)) → wpList P ops Q (ops.toList.drop n) (fillA (ops.toList.take n) 0 vals a0) w) :
    ∀ (u : Nat) (vals : Nat → Value) (listed : Array Bool) (a : Act) (w : World), (unlisted n listed).length = u → RInvO bl ops n a0 W F fr own vals listed a w →
      wpAny P .any ops Q (u + (ops.size - n)) listed a w := by
  intro u
  induction u with
  | zero =>
    intro vals listed a w hu inv
    have hall : ∀ k, k < n → listed.getD k false = true := by
      intro k hk
      cases h : listed.getD k false with
      | true => rfl
      | false =>
        have : 0 < (unlisted n listed).length := List.length_pos_of_mem (a := k) (by unfold unlisted; rw [List.mem_filter]; exact ⟨List.mem_range.2 hk, by rw [h]; rfl⟩)
        omega
    have hfull : listed = fullB n ops.size := by
      have hs := inv.hi.size
      refine Array.ext (by simp [fullB, hs]) fun k h1 h2 => ?_
      by_cases hk : k < n
      · have := hall k hk
        have h3 : listed[k] = true := by simpa [h1] using this
        simp [fullB, h3, hk]
      · have := inv.hi.tail k (by omega) (by omega)
        have h3 : listed[k] = false := by simpa [h1] using this
        simp [fullB, h3, hk]
    have ha : a = fillA (ops.toList.take n) 0 vals a0 := by
      have hd : a.defers = (fillA (ops.toList.take n) 0 vals a0).defers := by rw [fillA_def, inv.defers]
      have ht : a.tmps = (fillA (ops.toList.take n) 0 vals a0).tmps := by
        refine Array.ext_getElem? fun t => ?_
        by_cases h : ∃ k, k < n ∧ dstOf ops k = some t
        · obtain ⟨k, hk, hkd⟩ := h
          rw [inv.at_ k t hk (hall k hk) hkd, fill_att hB a0 rfl vals k t hk hkd]
        · have h' : ∀ k, k < n → dstOf ops k ≠ some t := fun k hk e => h ⟨k, hk, e⟩
          rw [inv.rest t fun k hk _ => h' k hk, fill_rest a0 vals t h']
      cases a
      cases hf : fillA (ops.toList.take n) 0 vals a0
      rw [hf] at hd ht
      simp_all
    rw [Nat.zero_add, ha, hfull]
    have hl : (ops.toList.drop n).length = ops.size - n := by simp
    rw [← hl]
    exact wpAny_of_seq (ops.toList.drop n) n _ _ w (fun j => by simp [List.getElem?_drop]) (by rw [hl]; exact hB.seq) (htail vals w inv.below (fun i hi ho => inv.facts i hi ⟨hall i hi, fun h => (by rw [ho] at h; cases h)⟩) (fun i j hi hj hne h1 h2 => inv.dist i j hi hj hne ⟨hall i hi, fun h => (by rw [h1] at h; cases h)⟩ ⟨hall j hj, fun h => (by rw [h2] at h; cases h)⟩))
  | succ u ih =>
    intro vals listed a w hu inv
    rw [show u + 1 + (ops.size - n) = (u + (ops.size - n)) + 1 by omega]
    have hsz := inv.hi.size
    have hle := hB.le
    -- some operation of the head is not listed: the least one is ready
    have hex : ∃ k, k < n ∧ listed.getD k false = false := by
      cases hl : unlisted n listed with
      | nil => rw [hl] at hu; simp at hu
      | cons k r =>
        have : k ∈ unlisted n listed := by rw [hl]; exact List.mem_cons_self
        unfold unlisted at this
        rw [List.mem_filter] at this
        exact ⟨k, List.mem_range.1 this.1, by simpa using this.2⟩
    have hready : ∃ k, k < n ∧ k ∈ Region.ready .any ops listed := by
      have hw : ∀ m k, k ≤ m → k < n → listed.getD k false = false → ∃ k, k < n ∧ k ∈ Region.ready .any ops listed := by
        intro m
        induction m with
        | zero =>
          intro k hk hkn hku
          refine ⟨k, hkn, mem_ready.2 ⟨getD_in (by omega) hku, ops[k]'(by omega), by simp, fun e he hb => ?_⟩⟩
          have := hB.back k _ e hkn (by simp) he hb
          omega
        | succ m ihm =>
          intro k hk hkn hku
          by_cases hr : k ∈ Region.ready .any ops listed
          · exact ⟨k, hkn, hr⟩
          · have : ∃ e ∈ (ops[k]'(by omega)).after, Region.binds .any e = true ∧ listed.getD e.on false = false := by
              refine Classical.byContradiction fun hno => hr (mem_ready.2 ⟨getD_in (by omega) hku, ops[k]'(by omega), by simp, fun e he hb => ?_⟩)
              cases h : listed.getD e.on false with
              | true => rfl
              | false => exact absurd ⟨e, he, hb, h⟩ hno
            obtain ⟨e, he, hb, hf⟩ := this
            have hlt := hB.back k _ e hkn (by simp) he hb
            exact ihm e.on (by omega) (by omega) hf
      obtain ⟨k, hk, hku⟩ := hex
      exact hw k k (Nat.le_refl _) hk hku
    -- what is ready is of the head, or all but late ones have come up: then a late one may be taken first
    have hstep1 : ∀ i o, i < n → ops[i]? = some o → i ∈ Region.ready .any ops listed →
        (∀ t ∈ o.looksAt ops, a.tmps[t]? = (fillA (ops.toList.take n) 0 vals a0).tmps[t]?) ∧
        (∀ j, j < n → waits ops i j = true → F j (vals j) w) ∧
        (∀ j k, j < n → k < n → j ≠ k → waits ops i j = true → waits ops i k = true → fr.contains j = true → fr.contains k = true → bl (vals j) = none ∨ bl (vals j) ≠ bl (vals k)) ∧
        ∀ v w', StepO bl ops n F fr own i vals w v w' → wpAny P .any ops Q (u + (ops.size - n)) (listed.setIfInBounds i true) (a.put o.dst v) w' := by
      intro i o hin ho hi
      obtain ⟨hiun, o', ho', hall⟩ := mem_ready.1 hi
      rw [ho] at ho'
      cases ho'
      have hisz : i < ops.size := (Array.getElem?_eq_some_iff.1 ho).1
      have hiu : listed.getD i false = false := getD_both hiun
      have hagree : ∀ t ∈ o.looksAt ops, a.tmps[t]? = (fillA (ops.toList.take n) 0 vals a0).tmps[t]? := by
        intro t ht
        by_cases h : ∃ k, k < n ∧ dstOf ops k = some t
        · obtain ⟨k, hk, hkd⟩ := h
          obtain ⟨e, he, hb, hon⟩ := waits_mem ho (hB.look i o t k hin ho ht hk hkd)
          have := hall e he hb
          rw [hon] at this
          rw [inv.at_ k t hk this hkd, fill_att hB a0 rfl vals k t hk hkd]
        · have h' : ∀ k, k < n → dstOf ops k ≠ some t := fun k hk e => h ⟨k, hk, e⟩
          rw [inv.rest t fun k hk _ => h' k hk, fill_rest a0 vals t h']
      have halive : ∀ j, j < n → waits ops i j = true → Alive ops n own listed j := by
        intro j hj hw
        obtain ⟨e, he, hb, hon⟩ := waits_mem ho hw
        have := hall e he hb
        rw [hon] at this
        refine ⟨this, fun hoj k hk hwk => ?_⟩
        have := ownB_spec hown hoj hin hk hw hwk
        rw [← this]; exact hiu
      have hdeps : ∀ j, j < n → waits ops i j = true → F j (vals j) w := fun j hj hw => inv.facts j hj (halive j hj hw)
      have hdist : ∀ j k, j < n → k < n → j ≠ k → waits ops i j = true → waits ops i k = true → fr.contains j = true → fr.contains k = true → bl (vals j) = none ∨ bl (vals j) ≠ bl (vals k) := fun j k hj hk hne h1 h2 => inv.dist j k hj hk hne (halive j hj h1) (halive k hk h2)
      -- who is alive behind the step was so before it
      have hback : ∀ k, k < n → k ≠ i → Alive ops n own (listed.setIfInBounds i true) k → Alive ops n own listed k := by
        intro k hk hki hl
        refine ⟨by have := hl.1; rwa [getD_set_ne false (Ne.symm hki)] at this, fun hok p hp hwp => ?_⟩
        have h1 := hl.2 hok p hp hwp
        by_cases hpi : p = i
        · rw [hpi]; exact hiu
        · rwa [getD_set_ne false (Ne.symm hpi)] at h1
      -- and is not what the step uses up
      have hnot : ∀ k j, own.contains j = true → waits ops i j = true → Alive ops n own (listed.setIfInBounds i true) k → k ≠ j := by
        intro k j hoj hw hl e
        subst e
        have := hl.2 hoj i hin hw
        rw [getD_set_self hisz inv.hi.size] at this
        cases this
      -- what follows, whatever value it has left
      have hnext : ∀ v w', StepO bl ops n F fr own i vals w v w' → wpAny P .any ops Q (u + (ops.size - n)) (listed.setIfInBounds i true) (a.put o.dst v) w' := by
        intro v w' hv
        obtain ⟨row, hrow, hg, hF, hbl⟩ := hv
        have hdi : dstOf ops i = o.dst := by simp [dstOf, ho]
        have hlow : ∀ b, row = some b → W.heap.size ≤ b := by
          intro b hb
          rcases hrow with h | ⟨j, hj, hoj, hw, h⟩
          · rw [h] at hb; cases hb
          · rw [h] at hb
            exact (hfr j (hof j hoj) _ _ (hdeps j hj hw) b hb).1
        have hkeep : ∀ k, k < n → k ≠ i → Alive ops n own (listed.setIfInBounds i true) k → fr.contains k = true → bl (vals k) = none ∨ bl (vals k) ≠ row := by
          intro k hk hki hl hf
          rcases hrow with h | ⟨j, hj, hoj, hw, h⟩
          · rw [h]
            cases hb : bl (vals k) with
            | none => exact .inl rfl
            | some b => exact .inr (by simp)
          · rw [h]
            exact inv.dist k j hk hj (hnot k j hoj hw hl) (hback k hk hki hl) (halive j hj hw) hf (hof j hoj)
        have hnew : ∀ k, k < n → k ≠ i → Alive ops n own (listed.setIfInBounds i true) k → fr.contains k = true → fr.contains i = true → bl (vals k) = none ∨ bl (vals k) ≠ bl v := by
          intro k hk hki hl hf hfi
          rcases hbl hfi with h | h | ⟨b, h, hb⟩
          · rw [h]
            cases hb : bl (vals k) with
            | none => exact .inl rfl
            | some b => exact .inr (by simp)
          · rw [h]; exact hkeep k hk hki hl hf
          · rw [h]
            cases hbk : bl (vals k) with
            | none => exact .inl rfl
            | some b' =>
              have := (hfr k hf _ _ (inv.facts k hk (hback k hk hki hl)) b' hbk).2
              exact .inr (by simp; omega)
        refine ih (fun k => if k = i then v else vals k) _ _ _ (by have := unlisted_set (listed := listed) hin (by omega) hiu; omega) ⟨inv.hi.set hi hin, inv.below.grown hg inv.below.size hlow, by rw [put_def, inv.defers], by rw [put_size, inv.size], ?_, ?_, ?_, ?_⟩
        · intro k hk hl
          by_cases hki : k = i
          · subst hki
            simpa using hF
          · simpa [hki] using hst k _ _ _ row (inv.facts k hk (hback k hk hki hl)) hg (hkeep k hk hki hl) hlow
        · intro k d hk hl hd
          by_cases hki : k = i
          · subst hki
            rw [hdi] at hd
            rw [hd]
            simpa using put_get_eq a d v (by rw [inv.size]; exact hB.dsz k d hk (hdi.trans hd))
          · rw [getD_set_ne false (Ne.symm hki)] at hl
            have hne : o.dst ≠ some d := fun e => hki (hB.dne i k d hin hk (hdi.trans e) hd)
            rw [put_get_ne _ _ _ _ hne, inv.at_ k d hk hl hd]
            simp [hki]
        · intro t ht
          have hne : o.dst ≠ some t := fun e => ht i hin (getD_set_self hisz inv.hi.size) (hdi.trans e)
          rw [put_get_ne _ _ _ _ hne]
          exact inv.rest t fun k hk hl => ht k hk (getD_set_true hl)
        · intro p q hp hq hne hlp hlq hfp hfq
          by_cases hpi : p = i
          · subst hpi
            have hqi : q ≠ p := Ne.symm hne
            simp only [hqi, if_true, if_false]
            rcases hnew q hq hqi hlq hfq hfp with h | h
            · rw [h]
              cases hbv : bl v with
              | none => exact .inl rfl
              | some b => exact .inr (by simp)
            · exact .inr (Ne.symm h)
          · by_cases hqi : q = i
            · subst hqi
              simp only [hpi, if_true, if_false]
              exact hnew p hp hpi hlp hfp hfq
            · simp only [hpi, hqi, if_false]
              exact inv.dist p q hp hq hne (hback p hp hpi hlp) (hback q hq hqi hlq) hfp hfq
      exact ⟨hagree, hdeps, hdist, hnext⟩
    obtain ⟨k0, hk0n, hk0⟩ := hready
    refine ⟨fun h => (by rw [h] at hk0; cases hk0), fun i hi => ?_⟩
    obtain ⟨hiun, o, ho, hall⟩ := mem_ready.1 hi
    have hisz : i < ops.size := (Array.getElem?_eq_some_iff.1 ho).1
    have hin : i < n := by
      rcases Nat.lt_or_ge i n with h | h
      · exact h
      · exfalso
        by_cases hin : i = n
        · subst hin
          obtain ⟨k, hk, hku⟩ := hex
          have key : ∀ d q, i - q ≤ d → q < i → listed.getD q false = true := by
            intro d
            induction d with
            | zero => intro q h1 h2; omega
            | succ d ihd =>
              intro q h1 h2
              rcases hB.last hisz q h2 rfl with h | ⟨j, hj1, hj2, hj3, hj4⟩
              · obtain ⟨e, he, hb, hon⟩ := waits_mem ho h
                have := hall e he hb
                rwa [hon] at this
              · have hjl := ihd j (by omega) hj2
                obtain ⟨oj, hoj, e, he, hb, hon⟩ := Region.waitsFor_spec hj4
                have := inv.hi.closed j oj hoj hjl e he hb
                rwa [hon] at this
          rw [key (i - k) k (Nat.le_refl _) hk] at hku
          cases hku
        · obtain ⟨e, he, hb, hon⟩ := waits_mem ho (hB.chain i (by omega) hisz)
          have := hall e he hb
          rw [hon, getD_both (inv.hi.tail (i - 1) (by omega) (by omega))] at this
          cases this
    obtain ⟨hagree, hdeps, hdist, hnext⟩ := hstep1 i o hin ho hi
    have hsel := hB.nosel i o
    have hstep := hop i o hin ho vals w inv.below hdeps hdist
    unfold wpOp
    rw [ho]
    simp only
    rw [wanted_look o hagree]
    unfold wpList at hstep
    by_cases hw : Region.wanted o (yielded ops (fillA (ops.toList.take n) 0 vals a0).tmps) = true
    · rw [if_pos hw] at hstep
      rw [if_pos hw]
      left
      rcases hstep with h | ⟨_, _, _, h, _⟩
      · unfold Oper.wp at h ⊢
        rw [execOp_look o (fun cs b => hsel cs b ho) hagree]
        refine upon_passO (a := fillA (ops.toList.take n) 0 vals a0) (G := StepO bl ops n F fr own i vals w) ?_ hnext _ ?_
        · intro d hd
          rw [fillA_size]
          exact hB.dsz i d hin (by simp [dstOf, ho, hd])
        · rw [fillA_def]
          exact h
      · exact absurd h (by simp)
    · rw [if_neg hw] at hstep
      rw [if_neg hw]
      obtain ⟨_, _, h1⟩ := hstep
      have := hnext _ _ h1
      cases hd : o.dst with
      | none =>
        rw [hd] at this
        exact this
      | some d =>
        rw [hd] at this h1
        have hlt : d < a0.tmps.size := hB.dsz i d hin (by simp [dstOf, ho, hd])
        have e : gotV (some d) ((fillA (ops.toList.take n) 0 vals a0).put (some d) undef) = undef := by
          simp [gotV, Act.put, fillA_size, hlt]
        rw [e] at this
        exact this

/-- **A region that draws its order, with rows that are turned.** Each row of `own` is used by one operation, which may turn it. -/
theorem wp_region_o {id n : Nat} (bl : Value → Option Nat) (fr own : List Nat) {l : List Oper} {a0 : Act} {w : World} {Q : Exit → Act → World → Prop} (F : Nat → Value → World → Prop) (hm : P.follows .mixedOrders = true)
    (hB : RBt l.toArray n a0.tmps.size [] = true) (hown : ownB l.toArray n own = true) (hof : ∀ j, own.contains j = true → fr.contains j = true)
    (hQ : ∀ c a d v w, Q (.panic c) (Act.put a d v) w → Q (.panic c) a w)
    (hst : ∀ i v w1 w2 row, F i v w1 → w1.grownBy w2 row → (fr.contains i = true → bl v = none ∨ bl v ≠ row) → (∀ b, row = some b → w.heap.size ≤ b) → F i v w2)
    (hfr : ∀ i, fr.contains i = true → ∀ v w1, F i v w1 → ∀ b, bl v = some b → w.heap.size ≤ b ∧ b < w1.heap.size)
    (hop : ∀ i o, i < n → l[i]? = some o → ∀ vals w', Below w.heap.size w w' → (∀ j, j < n → waits l.toArray i j = true → F j (vals j) w') → (∀ j k, j < n → k < n → j ≠ k → waits l.toArray i j = true → waits l.toArray i k = true → fr.contains j = true → fr.contains k = true → bl (vals j) = none ∨ bl (vals j) ≠ bl (vals k)) →
      wpList P l.toArray (RQO o.dst a0.defers (StepO bl l.toArray n F fr own i vals w')) [o] (fillA (l.take n) 0 vals a0) w')
    (htail : ∀ vals w', Below w.heap.size w w' → (∀ i, i < n → own.contains i = false → F i (vals i) w') → (∀ i j, i < n → j < n → i ≠ j → own.contains i = false → own.contains j = false → fr.contains i = true → fr.contains j = true → bl (vals i) = none ∨ bl (vals i) ≠ bl (vals j)) → wpList P l.toArray Q (l.drop n) (fillA (l.take n) 0 vals a0) w') :
    (Code.region id l.toArray true).wp P Q a0 w := by
  have hB' := RB_spect hB
  refine wp_region_any hm ?_
  have hb0 : Below w.heap.size w { w with drawn := w.drawn + 1 } := (Below.refl _ _).drew
  have hsz : n ≤ l.toArray.size := hB'.le
  have h0 : (unlisted n (Array.replicate l.toArray.size false)).length = n := by
    have : unlisted n (Array.replicate l.toArray.size false) = List.range n := by
      unfold unlisted
      refine List.filter_eq_self.2 fun k _ => ?_
      rw [getD_replicate_false]
      rfl
    rw [this, List.length_range]
  have hno : ∀ k, ¬ Alive l.toArray n own (Array.replicate l.toArray.size false) k := fun k h => (by have := h.1; rw [getD_replicate_false] at this; cases this)
  have H := wpAny_factso (P := P) (W := w) (Q := Q) (F := F) hB' bl fr own hown hof hst hfr hQ (fun i o hi ho vals w' hb hf hd => by
      have := hop i o hi (by simpa using ho) vals w' hb hf hd
      simpa using this) (fun vals w' hb hf hd => by
      have := htail vals w' hb hf hd
      simpa using this) n (fun _ => undef) (Array.replicate l.toArray.size false) a0 { w with drawn := w.drawn + 1 } h0
    ⟨⟨by simp, fun j oj _ hl => (by rw [getD_replicate_false] at hl; cases hl), fun t _ ht => getD_in (by simpa using ht) (getD_replicate_false _ _)⟩, hb0, rfl, rfl,
      fun k _ hl => (hno k hl).elim, fun k d _ hl => (by rw [getD_replicate_false] at hl; cases hl), fun _ _ => rfl, fun i _ _ _ _ hl => (hno i hl).elim⟩
  rw [show n + (l.toArray.size - n) = l.toArray.size by omega] at H
  exact H

end
end Go.Proofs.Yteciijnpfapmhaa
