import Derived.Test.YteciijnpfapmhaaReg
namespace Go.Proofs.Yteciijnpfapmhaa
open Go.RowKit

section
variable {P : Program}
/-- What is asked of the region's shape, by computation. -/
def RBt (ops : Array Oper) (n sz : Nat) (late : List Nat) : Bool :=
  Region.noSelect ops && decide (n ≤ ops.size) &&
  ((List.range n).all fun i => match dstOf ops i with
    | some d => decide (d < sz) && (List.range n).all fun j => j == i || dstOf ops j != some d
    | none => true) &&
  ((List.range n).all fun i => match ops[i]? with
    | some o => (o.looksAt ops).all fun t => (List.range n).all fun j => dstOf ops j != some t || waits ops i j
    | none => false) &&
  ((List.range n).all fun i => match ops[i]? with
    | some o => o.after.all fun e => !Region.binds .any e || decide (e.on < i)
    | none => false) &&
  (n == ops.size || (List.range n).all fun i => late.contains i || waits ops n i || (List.range n).any fun j => decide (i < j) && !late.contains j && waits ops j i) &&
  (late.all fun i => Region.free .any ops (waitsB ops i) i) &&
  ((List.range ops.size).all fun t => decide (t ≤ n) || waits ops t (t - 1)) &&
  Region.seqB .any ops (ops.size - n) n (fullB n ops.size)

structure RBst (ops : Array Oper) (n sz : Nat) (late : List Nat) : Prop where
  nosel : ∀ (j : Nat) (o : Oper) (cs : Array SelectCase) (b : Bool), ops[j]? = some o → o.op ≠ .select cs b
  le : n ≤ ops.size
  dsz : ∀ i d, i < n → dstOf ops i = some d → d < sz
  dne : ∀ i j d, i < n → j < n → dstOf ops i = some d → dstOf ops j = some d → j = i
  look : ∀ i o t j, i < n → ops[i]? = some o → t ∈ o.looksAt ops → j < n → dstOf ops j = some t → waits ops i j = true
  back : ∀ i o e, i < n → ops[i]? = some o → e ∈ o.after → Region.binds .any e = true → e.on < i
  last : n < ops.size → ∀ i, i < n → late.contains i = false → waits ops n i = true ∨ ∃ j, i < j ∧ j < n ∧ late.contains j = false ∧ waits ops j i = true
  free : ∀ i, late.contains i = true → Region.free .any ops (waitsB ops i) i = true
  chain : ∀ t, n < t → t < ops.size → waits ops t (t - 1) = true
  seq : Region.seqB .any ops (ops.size - n) n (fullB n ops.size) = true

theorem RB_spect {ops : Array Oper} {n sz : Nat} {late : List Nat} (h : RBt ops n sz late = true) : RBst ops n sz late := by
  simp only [RBt, Bool.and_eq_true, decide_eq_true_eq] at h
  obtain ⟨⟨⟨⟨⟨⟨⟨⟨h1, h2⟩, h3⟩, h4⟩, h5⟩, h6⟩, h9⟩, h7⟩, h8⟩ := h
  refine ⟨Region.noSelect_spec h1, h2, ?_, ?_, ?_, ?_, ?_, ?_, ?_, h8⟩
  · intro i d hi hd
    have := List.all_eq_true.1 h3 i (List.mem_range.2 hi)
    rw [hd] at this
    simp only [Bool.and_eq_true, decide_eq_true_eq] at this
    exact this.1
  · intro i j d hi hj hd hd'
    have := List.all_eq_true.1 h3 i (List.mem_range.2 hi)
    rw [hd] at this
    simp only [Bool.and_eq_true] at this
    have := List.all_eq_true.1 this.2 j (List.mem_range.2 hj)
    rw [hd'] at this
    simpa using this
  · intro i o t j hi ho ht hj hd
    have := List.all_eq_true.1 h4 i (List.mem_range.2 hi)
    rw [ho] at this
    have := List.all_eq_true.1 this t ht
    have := List.all_eq_true.1 this j (List.mem_range.2 hj)
    rw [hd] at this
    simpa using this
  · intro i o e hi ho he hb
    have := List.all_eq_true.1 h5 i (List.mem_range.2 hi)
    rw [ho] at this
    have := Array.all_eq_true_iff_forall_mem.1 this e he
    rw [hb] at this
    simpa using this
  · intro hn i hi hl
    rw [Bool.or_eq_true] at h6
    rcases h6 with h | h
    · have := beq_iff_eq.1 h; omega
    · have := List.all_eq_true.1 h i (List.mem_range.2 hi)
      rw [hl, Bool.false_or, Bool.or_eq_true, List.any_eq_true] at this
      rcases this with h | ⟨j, hj, h⟩
      · exact .inl h
      · simp only [Bool.and_eq_true, decide_eq_true_eq, Bool.not_eq_true'] at h
        exact .inr ⟨j, h.1.1, List.mem_range.1 hj, h.1.2, h.2⟩
  · intro i hl
    exact List.all_eq_true.1 h9 i (List.contains_iff_mem.1 hl)
  · intro t ht ht'
    have := List.all_eq_true.1 h7 t (List.mem_range.2 ht')
    simp only [Bool.or_eq_true, decide_eq_true_eq] at this
    rcases this with h | h
    · omega
    · exact h

theorem fill_att {ops : Array Oper} {n sz : Nat} {late : List Nat} (hB : RBst ops n sz late) (a0 : Act) (hz : a0.tmps.size = sz) (vals : Nat → Value) (k : Nat) (d : Tmp) (hk : k < n) (hd : dstOf ops k = some d) :
    (fillA (ops.toList.take n) 0 vals a0).tmps[d]? = some (vals k) := by
  have hle := hB.le
  have key : ∀ i o, (ops.toList.take n)[i]? = some o → i < n ∧ ops[i]? = some o := by
    intro i o hi
    rw [List.getElem?_take] at hi
    split at hi
    · exact ⟨by assumption, by simpa using hi⟩
    · simp at hi
  have := fillA_at (ops.toList.take n) 0 vals a0 d k (by rw [hz]; exact hB.dsz k d hk hd) (fun i o hi ho => by
      obtain ⟨h1, h2⟩ := key i o hi
      exact hB.dne k i d hk h1 hd (by simp [dstOf, h2, ho])) (by
      unfold dstOf at hd
      cases ho : ops[k]? with
      | none => rw [ho] at hd; cases hd
      | some o =>
        rw [ho] at hd
        exact ⟨o, by rw [List.getElem?_take, if_pos hk]; simpa using ho, by simpa using hd⟩)
  rw [this]
  congr 2
  omega
theorem wpAny_factst {ops : Array Oper} {n : Nat} {late : List Nat} {a0 : Act} (hB : RBst ops n a0.tmps.size late) {W : World} {Q : Exit → Act → World → Prop} {F : Nat → Value → World → Prop}
    (hst : ∀ i v w w', F i v w → Below w.heap.size w w' → F i v w')
    (fr : List Nat) (hfr : ∀ i, fr.contains i = true → ∀ v w, F i v w → blkV v < w.heap.size) (hlf : ∀ i, late.contains i = true → fr.contains i = false)
    (hQ : ∀ c a d v w, Q (.panic c) (Act.put a d v) w → Q (.panic c) a w)
    (hlate : ∀ i o, i < n → late.contains i = true → ops[i]? = some o → ∀ vals w, Below W.heap.size W w → (∀ j, j < n → waits ops i j = true → F j (vals j) w) →
      ∃ v, F i v w ∧ Yields P ops o v (fillA (ops.toList.take n) 0 vals a0))
    (hop : ∀ i o, i < n → late.contains i = false → ops[i]? = some o → ∀ vals w, Below W.heap.size W w → (∀ j, j < n → waits ops i j = true → F j (vals j) w) →
      wpList P ops (RQ o.dst a0.defers (fun v w' => F i v w' ∧ (fr.contains i = true → w.heap.size ≤ blkV v)) w) [o] (fillA (ops.toList.take n) 0 vals a0) w)
    (htail : ∀ vals w, Below W.heap.size W w → (∀ i, i < n → F i (vals i) w) → (∀ i j, i < n → j < n → i ≠ j → fr.contains i = true → fr.contains j = true → blkV (vals i) ≠ blkV (vals j)) → wpList P ops Q (ops.toList.drop n) (fillA (ops.toList.take n) 0 vals a0) w) :
    ∀ (u : Nat) (vals : Nat → Value) (listed : Array Bool) (a : Act) (w : World), (unlisted n listed).length = u → RInv ops n a0 W F fr vals listed a w →
      wpAny P .any ops Q (u + (ops.size - n)) listed a w := by
  intro u
  induction u with
  | zero =>
    intro vals listed a w hu inv
    have hall : ∀ k, k < n → listed.getD k false = true := by
      intro k hk
      cases h : listed.getD k false with
      | true => rfl
      | false =>
        have : 0 < (unlisted n listed).length := List.length_pos_of_mem (a := k) (by unfold unlisted; rw [List.mem_filter]; exact ⟨List.mem_range.2 hk, by rw [h]; rfl⟩)
        omega
    have hfull : listed = fullB n ops.size := by
      have hs := inv.hi.size
      refine Array.ext (by simp [fullB, hs]) fun k h1 h2 => ?_
      by_cases hk : k < n
      · have := hall k hk
        have h3 : listed[k] = true := by simpa [h1] using this
        simp [fullB, h3, hk]
      · have := inv.hi.tail k (by omega) (by omega)
        have h3 : listed[k] = false := by simpa [h1] using this
        simp [fullB, h3, hk]
    have ha : a = fillA (ops.toList.take n) 0 vals a0 := by
      have hd : a.defers = (fillA (ops.toList.take n) 0 vals a0).defers := by rw [fillA_def, inv.defers]
      have ht : a.tmps = (fillA (ops.toList.take n) 0 vals a0).tmps := by
        refine Array.ext_getElem? fun t => ?_
        by_cases h : ∃ k, k < n ∧ dstOf ops k = some t
        · obtain ⟨k, hk, hkd⟩ := h
          rw [inv.at_ k t hk (hall k hk) hkd, fill_att hB a0 rfl vals k t hk hkd]
        · have h' : ∀ k, k < n → dstOf ops k ≠ some t := fun k hk e => h ⟨k, hk, e⟩
          rw [inv.rest t fun k hk _ => h' k hk, fill_rest a0 vals t h']
      cases a
      cases hf : fillA (ops.toList.take n) 0 vals a0
      rw [hf] at hd ht
      simp_all
    rw [Nat.zero_add, ha, hfull]
    have hl : (ops.toList.drop n).length = ops.size - n := by simp
    rw [← hl]
    exact wpAny_of_seq (ops.toList.drop n) n _ _ w (fun j => by simp [List.getElem?_drop]) (by rw [hl]; exact hB.seq) (htail vals w inv.below (fun i hi => inv.facts i hi (hall i hi)) (fun i j hi hj hne => inv.dist i j hi hj hne (hall i hi) (hall j hj)))
  | succ u ih =>
    intro vals listed a w hu inv
    rw [show u + 1 + (ops.size - n) = (u + (ops.size - n)) + 1 by omega]
    have hsz := inv.hi.size
    have hle := hB.le
    -- some operation of the head is not listed: the least one is ready
    have hex : ∃ k, k < n ∧ listed.getD k false = false := by
      cases hl : unlisted n listed with
      | nil => rw [hl] at hu; simp at hu
      | cons k r =>
        have : k ∈ unlisted n listed := by rw [hl]; exact List.mem_cons_self
        unfold unlisted at this
        rw [List.mem_filter] at this
        exact ⟨k, List.mem_range.1 this.1, by simpa using this.2⟩
    have hready : ∃ k, k < n ∧ k ∈ Region.ready .any ops listed := by
      have hw : ∀ m k, k ≤ m → k < n → listed.getD k false = false → ∃ k, k < n ∧ k ∈ Region.ready .any ops listed := by
        intro m
        induction m with
        | zero =>
          intro k hk hkn hku
          refine ⟨k, hkn, mem_ready.2 ⟨getD_in (by omega) hku, ops[k]'(by omega), by simp, fun e he hb => ?_⟩⟩
          have := hB.back k _ e hkn (by simp) he hb
          omega
        | succ m ihm =>
          intro k hk hkn hku
          by_cases hr : k ∈ Region.ready .any ops listed
          · exact ⟨k, hkn, hr⟩
          · have : ∃ e ∈ (ops[k]'(by omega)).after, Region.binds .any e = true ∧ listed.getD e.on false = false := by
              refine Classical.byContradiction fun hno => hr (mem_ready.2 ⟨getD_in (by omega) hku, ops[k]'(by omega), by simp, fun e he hb => ?_⟩)
              cases h : listed.getD e.on false with
              | true => rfl
              | false => exact absurd ⟨e, he, hb, h⟩ hno
            obtain ⟨e, he, hb, hf⟩ := this
            have hlt := hB.back k _ e hkn (by simp) he hb
            exact ihm e.on (by omega) (by omega) hf
      obtain ⟨k, hk, hku⟩ := hex
      exact hw k k (Nat.le_refl _) hk hku
    -- what is ready is of the head, or all but late ones have come up: then a late one may be taken first
    have hstep1 : ∀ i o, i < n → ops[i]? = some o → i ∈ Region.ready .any ops listed →
        (∀ t ∈ o.looksAt ops, a.tmps[t]? = (fillA (ops.toList.take n) 0 vals a0).tmps[t]?) ∧
        (∀ j, j < n → waits ops i j = true → F j (vals j) w) ∧
        ∀ v w', (F i v w' ∧ (fr.contains i = true → w.heap.size ≤ blkV v)) → Below w.heap.size w w' → wpAny P .any ops Q (u + (ops.size - n)) (listed.setIfInBounds i true) (a.put o.dst v) w' := by
      intro i o hin ho hi
      obtain ⟨hiun, o', ho', hall⟩ := mem_ready.1 hi
      rw [ho] at ho'
      cases ho'
      have hisz : i < ops.size := (Array.getElem?_eq_some_iff.1 ho).1
      have hiu : listed.getD i false = false := getD_both hiun
      have hagree : ∀ t ∈ o.looksAt ops, a.tmps[t]? = (fillA (ops.toList.take n) 0 vals a0).tmps[t]? := by
        intro t ht
        by_cases h : ∃ k, k < n ∧ dstOf ops k = some t
        · obtain ⟨k, hk, hkd⟩ := h
          obtain ⟨e, he, hb, hon⟩ := waits_mem ho (hB.look i o t k hin ho ht hk hkd)
          have := hall e he hb
          rw [hon] at this
          rw [inv.at_ k t hk this hkd, fill_att hB a0 rfl vals k t hk hkd]
        · have h' : ∀ k, k < n → dstOf ops k ≠ some t := fun k hk e => h ⟨k, hk, e⟩
          rw [inv.rest t fun k hk _ => h' k hk, fill_rest a0 vals t h']
      have hdeps : ∀ j, j < n → waits ops i j = true → F j (vals j) w := by
        intro j hj hw
        obtain ⟨e, he, hb, hon⟩ := waits_mem ho hw
        have := hall e he hb
        rw [hon] at this
        exact inv.facts j hj this
      -- what follows, whatever value it has left
      have hnext : ∀ v w', (F i v w' ∧ (fr.contains i = true → w.heap.size ≤ blkV v)) → Below w.heap.size w w' → wpAny P .any ops Q (u + (ops.size - n)) (listed.setIfInBounds i true) (a.put o.dst v) w' := by
        intro v w' hv hb
        have hdi : dstOf ops i = o.dst := by simp [dstOf, ho]
        refine ih (fun k => if k = i then v else vals k) _ _ _ (by have := unlisted_set (listed := listed) hin (by omega) hiu; omega) ⟨inv.hi.set hi hin, inv.below.trans (hb.mono inv.below.size), by rw [put_def, inv.defers], by rw [put_size, inv.size], ?_, ?_, ?_, ?_⟩
        · intro k hk hl
          by_cases hki : k = i
          · subst hki
            simpa using hv.1
          · rw [getD_set_ne false (Ne.symm hki)] at hl
            simpa [hki] using hst k _ _ _ (inv.facts k hk hl) hb
        · intro k d hk hl hd
          by_cases hki : k = i
          · subst hki
            rw [hdi] at hd
            rw [hd]
            simpa using put_get_eq a d v (by rw [inv.size]; exact hB.dsz k d hk (hdi.trans hd))
          · rw [getD_set_ne false (Ne.symm hki)] at hl
            have hne : o.dst ≠ some d := fun e => hki (hB.dne i k d hin hk (hdi.trans e) hd)
            rw [put_get_ne _ _ _ _ hne, inv.at_ k d hk hl hd]
            simp [hki]
        · intro t ht
          have hne : o.dst ≠ some t := fun e => ht i hin (getD_set_self hisz inv.hi.size) (hdi.trans e)
          rw [put_get_ne _ _ _ _ hne]
          exact inv.rest t fun k hk hl => ht k hk (getD_set_true hl)
        · intro p q hp hq hne hlp hlq hfp hfq
          have key : ∀ k, k < n → k ≠ i → (listed.setIfInBounds i true).getD k false = true → fr.contains k = true → blkV (vals k) < w.heap.size := fun k hk hki hl hf => by
            rw [getD_set_ne false (Ne.symm hki)] at hl
            exact hfr k hf _ _ (inv.facts k hk hl)
          by_cases hpi : p = i
          · subst hpi
            have hqi : q ≠ p := Ne.symm hne
            simp only [hqi, if_true, if_false]
            have h1 := key q hq hqi hlq hfq
            have h2 := hv.2 hfp
            omega
          · by_cases hqi : q = i
            · subst hqi
              simp only [hpi, if_true, if_false]
              have h1 := key p hp hpi hlp hfp
              have h2 := hv.2 hfq
              omega
            · simp only [hpi, hqi, if_false]
              rw [getD_set_ne false (Ne.symm hpi)] at hlp
              rw [getD_set_ne false (Ne.symm hqi)] at hlq
              exact inv.dist p q hp hq hne hlp hlq hfp hfq
      exact ⟨hagree, hdeps, hnext⟩
    by_cases hex2 : ∃ k, k < n ∧ listed.getD k false = false ∧ late.contains k = false
    · obtain ⟨k0, hk0n, hk0⟩ := hready
      refine ⟨fun h => (by rw [h] at hk0; cases hk0), fun i hi => ?_⟩
      obtain ⟨hiun, o, ho, hall⟩ := mem_ready.1 hi
      have hisz : i < ops.size := (Array.getElem?_eq_some_iff.1 ho).1
      have hin : i < n := by
        rcases Nat.lt_or_ge i n with h | h
        · exact h
        · exfalso
          by_cases hin : i = n
          · subst hin
            obtain ⟨k, hk, hku, hkl⟩ := hex2
            have key : ∀ d q, i - q ≤ d → q < i → late.contains q = false → listed.getD q false = true := by
              intro d
              induction d with
              | zero => intro q h1 h2; omega
              | succ d ihd =>
                intro q h1 h2 h3
                rcases hB.last hisz q h2 h3 with h | ⟨j, hj1, hj2, hj3, hj4⟩
                · obtain ⟨e, he, hb, hon⟩ := waits_mem ho h
                  have := hall e he hb
                  rwa [hon] at this
                · have hjl := ihd j (by omega) hj2 hj3
                  obtain ⟨oj, hoj, e, he, hb, hon⟩ := Region.waitsFor_spec hj4
                  have := inv.hi.closed j oj hoj hjl e he hb
                  rwa [hon] at this
            rw [key (i - k) k (Nat.le_refl _) hk hkl] at hku
            cases hku
          · obtain ⟨e, he, hb, hon⟩ := waits_mem ho (hB.chain i (by omega) hisz)
            have := hall e he hb
            rw [hon, getD_both (inv.hi.tail (i - 1) (by omega) (by omega))] at this
            cases this
      obtain ⟨hagree, hdeps, hnext⟩ := hstep1 i o hin ho hi
      have hsel := hB.nosel i o
      cases hl : late.contains i with
      | true =>
        obtain ⟨v, hv, hy⟩ := hlate i o hin hl ho vals w inv.below hdeps
        exact (hy.of_same (execOp_look o (fun cs b => hsel cs b ho) hagree) (wanted_look o hagree)).wpOp ho (hnext v w ⟨hv, fun h => absurd h (by rw [hlf i hl]; simp)⟩ (Below.refl _ _))
      | false =>
        have hstep := hop i o hin hl ho vals w inv.below hdeps
        unfold wpOp
        rw [ho]
        simp only
        rw [wanted_look o hagree]
        unfold wpList at hstep
        by_cases hw : Region.wanted o (yielded ops (fillA (ops.toList.take n) 0 vals a0).tmps) = true
        · rw [if_pos hw] at hstep
          rw [if_pos hw]
          left
          rcases hstep with h | ⟨_, _, _, h, _⟩
          · unfold Oper.wp at h ⊢
            rw [execOp_look o (fun cs b => hsel cs b ho) hagree]
            refine upon_pass (a := fillA (ops.toList.take n) 0 vals a0) (G := fun v w' => F i v w' ∧ (fr.contains i = true → w.heap.size ≤ blkV v)) (w0 := w) ?_ hnext _ ?_
            · intro d hd
              rw [fillA_size]
              exact hB.dsz i d hin (by simp [dstOf, ho, hd])
            · rw [fillA_def]
              exact h
          · exact absurd h (by simp)
        · rw [if_neg hw] at hstep
          rw [if_neg hw]
          obtain ⟨_, _, h1, h2⟩ := hstep
          have := hnext _ _ h1 h2
          cases hd : o.dst with
          | none =>
            rw [hd] at this
            exact this
          | some d =>
            rw [hd] at this h1
            have hlt : d < a0.tmps.size := hB.dsz i d hin (by simp [dstOf, ho, hd])
            have e : gotV (some d) ((fillA (ops.toList.take n) 0 vals a0).put (some d) undef) = undef := by
              simp [gotV, Act.put, fillA_size, hlt]
            rw [e] at this
            exact this
    · obtain ⟨k0, hk0n, hk0⟩ := hready
      obtain ⟨hiun, o, ho, hall⟩ := mem_ready.1 hk0
      have hl : late.contains k0 = true := by
        cases h : late.contains k0 with
        | true => rfl
        | false => exact absurd ⟨k0, hk0n, getD_both hiun, h⟩ hex2
      obtain ⟨hagree, hdeps, hnext⟩ := hstep1 k0 o hk0n ho hk0
      have hsel := hB.nosel k0 o
      obtain ⟨v, hv, hy⟩ := hlate k0 o hk0n hl ho vals w inv.below hdeps
      refine wpAny_first ho hB.nosel (fun c a w => hQ c a _ _ w) _ _ _ _ ?_ hk0 (hy.of_same (execOp_look o (fun cs b => hsel cs b ho) hagree) (wanted_look o hagree)) (hnext v w ⟨hv, fun h => absurd h (by rw [hlf k0 hl]; simp)⟩ (Below.refl _ _))
      intro j oj hj hne hju hno
      exact Region.free_spec ho (hB.free k0 hl) j oj hj hne (by
        have hjs : j < ops.size := (Array.getElem?_eq_some_iff.1 hj).1
        have hw : waits ops k0 j = false := by
          cases h : waits ops k0 j with
          | false => rfl
          | true =>
            obtain ⟨e, he, hb, hon⟩ := waits_mem ho h
            have := hall e he hb
            rw [hon, getD_both hju] at this
            cases this
        simp [waitsB, hjs, hw]) hno

/-- **A region that draws its order, operation by operation.** The head's n operations are shown one by one, each with the facts of those that it waits for, in whatever world has grown out of the region's first; the tail (a forced chain) is walked behind them. -/
theorem wp_region_factst {id n : Nat} (late fr : List Nat) {l : List Oper} {a0 : Act} {w : World} {Q : Exit → Act → World → Prop} (F : Nat → Value → World → Prop) (hm : P.follows .mixedOrders = true)
    (hB : RBt l.toArray n a0.tmps.size late = true)
    (hQ : ∀ c a d v w, Q (.panic c) (Act.put a d v) w → Q (.panic c) a w)
    (hst : ∀ i v w w', F i v w → Below w.heap.size w w' → F i v w')
    (hfr : ∀ i, fr.contains i = true → ∀ v w, F i v w → blkV v < w.heap.size) (hlf : ∀ i, late.contains i = true → fr.contains i = false)
    (hlate : ∀ i o, i < n → late.contains i = true → l[i]? = some o → ∀ vals w', Below w.heap.size w w' → (∀ j, j < n → waits l.toArray i j = true → F j (vals j) w') →
      ∃ v, F i v w' ∧ Yields P l.toArray o v (fillA (l.take n) 0 vals a0))
    (hop : ∀ i o, i < n → late.contains i = false → l[i]? = some o → ∀ vals w', Below w.heap.size w w' → (∀ j, j < n → waits l.toArray i j = true → F j (vals j) w') →
      wpList P l.toArray (RQ o.dst a0.defers (fun v w1 => F i v w1 ∧ (fr.contains i = true → w'.heap.size ≤ blkV v)) w') [o] (fillA (l.take n) 0 vals a0) w')
    (htail : ∀ vals w', Below w.heap.size w w' → (∀ i, i < n → F i (vals i) w') → (∀ i j, i < n → j < n → i ≠ j → fr.contains i = true → fr.contains j = true → blkV (vals i) ≠ blkV (vals j)) → wpList P l.toArray Q (l.drop n) (fillA (l.take n) 0 vals a0) w') :
    (Code.region id l.toArray true).wp P Q a0 w := by
  have hB' := RB_spect hB
  refine wp_region_any hm ?_
  have hb0 : Below w.heap.size w { w with drawn := w.drawn + 1 } := (Below.refl _ _).drew
  have hsz : n ≤ l.toArray.size := hB'.le
  have h0 : (unlisted n (Array.replicate l.toArray.size false)).length = n := by
    have : unlisted n (Array.replicate l.toArray.size false) = List.range n := by
      unfold unlisted
      refine List.filter_eq_self.2 fun k _ => ?_
      rw [getD_replicate_false]
      rfl
    rw [this, List.length_range]
  have H := wpAny_factst (P := P) (W := w) (Q := Q) (F := F) hB' hst fr hfr hlf hQ (fun i o hi hl ho vals w' hb hf => by
      have := hlate i o hi hl (by simpa using ho) vals w' hb hf
      simpa using this) (fun i o hi hl ho vals w' hb hf => by
      have := hop i o hi hl (by simpa using ho) vals w' hb hf
      simpa using this) (fun vals w' hb hf hd => by
      have := htail vals w' hb hf hd
      simpa using this) n (fun _ => undef) (Array.replicate l.toArray.size false) a0 { w with drawn := w.drawn + 1 } h0
    ⟨⟨by simp, fun j oj _ hl => (by rw [getD_replicate_false] at hl; cases hl), fun t _ ht => getD_in (by simpa using ht) (getD_replicate_false _ _)⟩, hb0, rfl, rfl,
      fun k _ hl => (by rw [getD_replicate_false] at hl; cases hl), fun k d _ hl => (by rw [getD_replicate_false] at hl; cases hl), fun _ _ => rfl, fun i _ _ _ _ hl => (by rw [getD_replicate_false] at hl; cases hl)⟩
  rw [show n + (l.toArray.size - n) = l.toArray.size by omega] at H
  exact H

/-- The same, the facts said over the region's first world. -/
theorem wp_region_wt {id n : Nat} (late fr : List Nat) {l : List Oper} {a0 : Act} {w : World} {Q : Exit → Act → World → Prop} (F : World → Nat → Value → World → Prop) (hm : P.follows .mixedOrders = true)
    (hB : RBt l.toArray n a0.tmps.size late = true)
    (hQ : ∀ c a d v w, Q (.panic c) (Act.put a d v) w → Q (.panic c) a w)
    (hst : ∀ i v w1 w', F w i v w1 → Below w1.heap.size w1 w' → F w i v w')
    (hfr : ∀ i, fr.contains i = true → ∀ v w1, F w i v w1 → blkV v < w1.heap.size) (hlf : ∀ i, late.contains i = true → fr.contains i = false)
    (hlate : ∀ i o, i < n → late.contains i = true → l[i]? = some o → ∀ vals w', Below w.heap.size w w' → (∀ j, j < n → waits l.toArray i j = true → F w j (vals j) w') →
      ∃ v, F w i v w' ∧ Yields P l.toArray o v (fillA (l.take n) 0 vals a0))
    (hop : ∀ i o, i < n → late.contains i = false → l[i]? = some o → ∀ vals w', Below w.heap.size w w' → (∀ j, j < n → waits l.toArray i j = true → F w j (vals j) w') →
      wpList P l.toArray (RQ o.dst a0.defers (fun v w1 => F w i v w1 ∧ (fr.contains i = true → w'.heap.size ≤ blkV v)) w') [o] (fillA (l.take n) 0 vals a0) w')
    (htail : ∀ vals w', Below w.heap.size w w' → (∀ i, i < n → F w i (vals i) w') → (∀ i j, i < n → j < n → i ≠ j → fr.contains i = true → fr.contains j = true → blkV (vals i) ≠ blkV (vals j)) → wpList P l.toArray Q (l.drop n) (fillA (l.take n) 0 vals a0) w') :
    (Code.region id l.toArray true).wp P Q a0 w := wp_region_factst late fr (F w) hm hB hQ hst hfr hlf hlate hop htail

end
end Go.Proofs.Yteciijnpfapmhaa
