/- Reg, RegG. -/
import Derived.StillTail
import Derived.WalkKit
set_option linter.unnecessarySimpa false
set_option linter.unusedVariables false
set_option linter.unusedSimpArgs false
section
namespace Go.Proofs.YtmfedaakeeiolaaGreat
open Go
def fillR (u : Nat → Value) : List Oper → Nat → Act → Act
  | [], _, a => a
  | o :: r, k, a => fillR u r (k + 1) (a.put o.dst (u k))
def depsR (V : Nat → World → Value → Prop) (u : Nat → Value) (w : World) : List Edge → Prop
  | [] => True
  | e :: r => bif Region.binds .any e then V e.on w (u e.on) ∧ depsR V u w r else depsR V u w r
def stepR (P : Program) (ops : Array Oper) (C : World → Prop) (E : World → World → Prop) (V : Nat → World → Value → Prop) (Q : Exit → Act → World → Prop) (fill : (Nat → Value) → Act) (k : Nat) (o : Oper) : Prop :=
  ∀ u w, C w → depsR V u w o.after.toList →
    match o.guard with
    | none => ∀ K : Act → World → Prop, (∀ v w', C w' → E w w' → V k w' v → K ((fill u).put o.dst v) w') → o.wp P (fill u) w K Q
    | some _ => (Region.wanted o (yielded ops (fill u).tmps) = true → ∀ K : Act → World → Prop, (∀ v w', C w' → E w w' → V k w' v → K ((fill u).put o.dst v) w') → o.wp P (fill u) w K Q) ∧
        (Region.wanted o (yielded ops (fill u).tmps) = false → V k w undef)
def stepsR (P : Program) (ops : Array Oper) (C : World → Prop) (E : World → World → Prop) (V : Nat → World → Value → Prop) (Q : Exit → Act → World → Prop) (fill : (Nat → Value) → Act) : List Oper → Nat → Prop
  | [], _ => True
  | o :: r, k => stepR P ops C E V Q fill k o ∧ stepsR P ops C E V Q fill r (k + 1)
def allR (V : Nat → World → Value → Prop) (u : Nat → Value) (w : World) : List Oper → Nat → Prop
  | [], _ => True
  | _ :: r, k => V k w (u k) ∧ allR V u w r (k + 1)
def dstsB (l : List Oper) : Bool := (List.range l.length).all fun i => (List.range l.length).all fun j =>
  i == j || (match (l[i]?).bind (·.dst), (l[j]?).bind (·.dst) with | some d, some e => d != e | _, _ => true)
def backB (l : List Oper) : Bool := (List.range l.length).all fun i => match l[i]? with | some o => o.after.all fun e => !Region.binds .any e || decide (e.on < i) | none => false
def arrR (N m : Nat) : Array Bool := ((List.replicate N true) ++ (List.replicate m false)).toArray
theorem arrR_get (N m i : Nat) : (arrR N m)[i]? = if i < N then some true else if i < N + m then some false else none := by
  simp only [arrR, List.getElem?_toArray, List.getElem?_append, List.length_replicate, List.getElem?_replicate]
  split
  · rfl
  · split
    · rw [if_pos (by omega)]
    · rw [if_neg (by omega)]
def okR (l : List Oper) (N : Nat) : Bool :=
  dstsB (l.take N) && backB (l.take N) && decide (N ≤ l.length) && (decide (N = l.length) || (decide (N < l.length) && Region.sinkB .any l.toArray N && Region.chainB .any l.toArray N)) &&
    Region.seqB .any l.toArray (l.length - N) N (arrR N (l.length - N))
theorem depsR_spec {V : Nat → World → Value → Prop} {u : Nat → Value} {w : World} : ∀ {l : List Edge}, (∀ e ∈ l, Region.binds .any e = true → V e.on w (u e.on)) → depsR V u w l
  | [], _ => trivial
  | e :: r, h => by
    unfold depsR
    cases hb : Region.binds .any e with
    | true => exact ⟨h e (List.mem_cons_self ..) hb, depsR_spec fun e' he' => h e' (List.mem_cons_of_mem _ he')⟩
    | false => exact depsR_spec fun e' he' => h e' (List.mem_cons_of_mem _ he')
theorem stepsR_spec {P : Program} {ops : Array Oper} {C : World → Prop} {E : World → World → Prop} {V : Nat → World → Value → Prop} {Q : Exit → Act → World → Prop} {fill : (Nat → Value) → Act} :
    ∀ {l : List Oper} {k : Nat}, stepsR P ops C E V Q fill l k → ∀ i o, l[i]? = some o → stepR P ops C E V Q fill (k + i) o
  | [], _, _, i, o, hi => by simp at hi
  | o :: r, k, h, i, o', hi => by
    cases i with
    | zero => simp at hi; subst hi; exact h.1
    | succ i =>
      have := stepsR_spec h.2 i o' (by simpa using hi)
      rw [show k + (i + 1) = k + 1 + i by omega]
      exact this
theorem allR_spec {V : Nat → World → Value → Prop} {u : Nat → Value} {w : World} : ∀ {l : List Oper} {k : Nat}, (∀ i, i < l.length → V (k + i) w (u (k + i))) → allR V u w l k
  | [], _, _ => trivial
  | _ :: r, k, h => ⟨by simpa using h 0 (by simp), allR_spec fun i hi => by have := h (i + 1) (by simp; omega); rwa [show k + (i + 1) = k + 1 + i by omega] at this⟩
theorem put_put (a : Act) (d : Option Tmp) (v v' : Value) : (a.put d v).put d v' = a.put d v' := by
  cases d with
  | none => rfl
  | some d => simp [Act.put]
theorem put_same (a : Act) (d : Tmp) : a.put (some d) (a.tmps.getD d undef) = a := by
  obtain ⟨t, ds⟩ := a
  simp only [Act.put]
  congr 1
  apply Array.ext (by simp)
  intro i h1 h2
  rw [Array.getElem_setIfInBounds]
  split
  · rename_i h; subst h; simp [h2]
  · rfl
def distinct (l : List Oper) : Prop := ∀ (i j : Nat) (o o' : Oper) (d : Tmp), l[i]? = some o → l[j]? = some o' → i ≠ j → o.dst = some d → o'.dst ≠ some d
theorem distinct_of (l : List Oper) (h : dstsB l = true) : distinct l := by
  intro i j o o' d hi hj hne hd hd'
  have hil : i < l.length := (List.getElem?_eq_some_iff.1 hi).1
  have hjl : j < l.length := (List.getElem?_eq_some_iff.1 hj).1
  have h1 := List.all_eq_true.1 (List.all_eq_true.1 h i (List.mem_range.2 hil)) j (List.mem_range.2 hjl)
  simp [hi, hj, hd, hd', hne] at h1
theorem distinct_tail {o : Oper} {l : List Oper} (h : distinct (o :: l)) : distinct l := fun i j a b d hi hj hne => h (i + 1) (j + 1) a b d (by simpa using hi) (by simpa using hj) (by omega)
theorem fillR_put (u : Nat → Value) (d : Option Tmp) (v : Value) : ∀ (l : List Oper) (k : Nat) (a : Act), (∀ (i : Nat) (o : Oper), l[i]? = some o → ∀ e, o.dst = some e → d ≠ some e) → (fillR u l k a).put d v = fillR u l k (a.put d v)
  | [], _, _, _ => rfl
  | o :: r, k, a, h => by
    simp only [fillR]
    rw [fillR_put u d v r (k + 1) _ (fun i o' hi => h (i + 1) o' (by simpa using hi)), Act.put_comm a (u k) v (fun e he => h 0 o rfl e he)]
theorem fillR_at (u : Nat → Value) (v : Value) : ∀ (l : List Oper) (k i : Nat) (a : Act) (o : Oper), distinct l → l[i]? = some o →
    (fillR u l k a).put o.dst v = fillR (fun j => if j = k + i then v else u j) l k a
  | [], _, i, _, _, _, hi => by simp at hi
  | x :: r, k, i, a, o, hd, hi => by
    cases i with
    | zero =>
      simp at hi
      subst hi
      simp only [fillR, Nat.add_zero, if_true]
      rw [fillR_put u x.dst v r (k + 1) _ (fun i o' hi' e he hx => hd 0 (i + 1) x o' e rfl (by simpa using hi') (by omega) hx he), put_put]
      have : ∀ (l : List Oper) (m : Nat) (a : Act), k < m → fillR u l m a = fillR (fun j => if j = k then v else u j) l m a := by
        intro l
        induction l with
        | nil => intros; rfl
        | cons y l ih => intro m a hm; simp only [fillR]; rw [if_neg (by omega)]; exact ih _ _ (by omega)
      exact this r (k + 1) _ (by omega)
    | succ i =>
      simp only [fillR]
      rw [if_neg (by omega), fillR_at u v r (k + 1) i _ o (distinct_tail hd) (by simpa using hi)]
      have : (fun j => if j = k + 1 + i then v else u j) = (fun j => if j = k + (i + 1) then v else u j) := by
        funext j
        rw [show k + 1 + i = k + (i + 1) by omega]
      rw [this]
theorem fillR_id : ∀ (l : List Oper) (k : Nat) (a : Act) (u : Nat → Value), distinct l → (∀ (i : Nat) (o : Oper) (d : Tmp), l[i]? = some o → o.dst = some d → u (k + i) = a.tmps.getD d undef) → fillR u l k a = a
  | [], _, _, _, _, _ => rfl
  | x :: r, k, a, u, hd, h => by
    have h0 : a.put x.dst (u k) = a := by
      cases hx : x.dst with
      | none => rfl
      | some d =>
        have := h 0 x d rfl hx
        simp only [Nat.add_zero] at this
        rw [this]
        exact put_same a d
    simp only [fillR]
    rw [h0]
    exact fillR_id r (k + 1) a u (distinct_tail hd) (fun i o d hi ho => by rw [show k + 1 + i = k + (i + 1) by omega]; exact h (i + 1) o d (by simpa using hi) ho)
def leftR (N : Nat) (listed : Array Bool) : Nat := ((List.range N).filter fun i => !listed.getD i false).length
theorem leftR_zero {N : Nat} {listed : Array Bool} (h : leftR N listed = 0) : ∀ i, i < N → listed.getD i false = true := by
  intro i hi
  have h1 := List.eq_nil_of_length_eq_zero h
  cases hl : listed.getD i false with
  | true => rfl
  | false =>
    have : i ∈ (List.range N).filter fun i => !listed.getD i false := List.mem_filter.2 ⟨List.mem_range.2 hi, by simp [hl]⟩
    rw [h1] at this
    cases this
theorem filter_lt {α : Type} (p q : α → Bool) (l : List α) (x : α) (hx : x ∈ l) (hpx : p x = true) (hqx : q x = false) (hpq : ∀ y, q y = true → p y = true) : (l.filter q).length < (l.filter p).length := by
  induction l with
  | nil => cases hx
  | cons y l ih =>
    have hle : (l.filter q).length ≤ (l.filter p).length := by
      clear ih hx
      induction l with
      | nil => simp
      | cons z l ih2 =>
        rw [List.filter_cons, List.filter_cons]
        by_cases hq : q z = true
        · simp [hq, hpq z hq]; exact ih2
        · by_cases hp : p z = true
          · simp [hq, hp]; omega
          · simp [hq, hp]; exact ih2
    rw [List.filter_cons, List.filter_cons]
    rcases List.mem_cons.1 hx with rfl | hx
    · simp [hpx, hqx]; omega
    · have := ih hx
      by_cases hq : q y = true
      · simp [hq, hpq y hq]; exact this
      · by_cases hp : p y = true
        · simp [hq, hp]; omega
        · simp [hq, hp]; exact this
theorem leftR_set {N i : Nat} {listed : Array Bool} (hi : i < N) (h : listed.getD i true = false) : leftR N (listed.setIfInBounds i true) < leftR N listed := by
  have hs : i < listed.size := by
    rcases Nat.lt_or_ge i listed.size with h1 | h1
    · exact h1
    · simp [Array.getElem?_eq_none h1] at h
  refine filter_lt _ _ _ i (List.mem_range.2 hi) (by simp [getD_both h]) ?_ ?_
  · simp [hs]
  · intro j hj
    simp only [Bool.not_eq_true'] at hj ⊢
    cases hl : listed.getD j false with
    | false => rfl
    | true => rw [getD_set_true hl] at hj; cases hj
theorem wp_region_each {P : Program} {id : Nat} {l : List Oper} {Q : Exit → Act → World → Prop} {a0 : Act} {w0 : World} (N : Nat) (C : World → Prop) (E : World → World → Prop) (V : Nat → World → Value → Prop)
    (hm : P.follows .mixedOrders = true) (hB : okR l N = true) (h0 : C w0.drew) (hR : ∀ w, C w → E w w) (hE : ∀ i w w' v, C w → C w' → E w w' → V i w v → V i w' v)
    (hstep : stepsR P l.toArray C E V Q (fun u => fillR u (l.take N) 0 a0) (l.take N) 0)
    (hend : ∀ u w, C w → allR V u w (l.take N) 0 → wpList P l.toArray Q (l.drop N) (fillR u (l.take N) 0 a0) w) : (Code.region id l.toArray true).wp P Q a0 w0 := by
  simp only [okR, Bool.and_eq_true, Bool.or_eq_true, decide_eq_true_eq] at hB
  obtain ⟨⟨⟨⟨hdst, hback⟩, hN⟩, htail⟩, hseq⟩ := hB
  have hdis := distinct_of _ hdst
  have htl : (l.take N).length = N := by rw [List.length_take]; omega
  have hsz : l.toArray.size = l.length := by simp
  have hget : ∀ i, i < N → (l.take N)[i]? = l.toArray[i]? := by
    intro i hi
    rw [List.getElem?_take_of_lt hi]; simp
  have key : ∀ (f : Nat) (listed : Array Bool) (u : Nat → Value) (w : World), HeadInv .any l.toArray N listed → leftR N listed = f → C w → (∀ i, i < N → listed.getD i false = true → V i w (u i)) →
      wpAny P .any l.toArray Q (f + (l.length - N)) listed (fillR u (l.take N) 0 a0) w := by
    intro f
    induction f using Nat.strongRecOn with
    | ind f ih =>
      intro listed u w inv hf hC hV
      by_cases hf0 : f = 0
      · subst hf0
        have hall := leftR_zero hf
        have hlisted : listed = arrR N (l.length - N) := by
          apply Array.ext_getElem?
          intro i
          have hls := inv.size
          by_cases hi : i < N
          · have h1 := hall i hi
            have his : i < listed.size := by omega
            simp [his] at h1
            rw [Array.getElem?_eq_getElem his, h1, arrR_get, if_pos hi]
          · by_cases hi2 : i < l.length
            · have h1 := inv.tail i (by omega) (by omega)
              have his : i < listed.size := by omega
              simp [his] at h1
              rw [Array.getElem?_eq_getElem his, h1, arrR_get, if_neg hi, if_pos (by omega)]
            · rw [Array.getElem?_eq_none (by omega), arrR_get, if_neg hi, if_neg (by omega)]
        have hdl : (l.drop N).length = l.length - N := List.length_drop
        have := wpAny_of_seq (md := .any) (Q' := Q) (P := P) (l.drop N) N listed (fillR u (l.take N) 0 a0) w (fun j => by simp [List.getElem?_drop]) (by rw [hdl, hlisted]; exact hseq)
          (hend u w hC (allR_spec fun i hi => by rw [Nat.zero_add]; rw [htl] at hi; exact hV i hi (hall i hi)))
        rw [Nat.zero_add, ← hdl]
        exact this
      · obtain ⟨f', rfl⟩ : ∃ f', f = f' + 1 := ⟨f - 1, by omega⟩
        have hex : ∃ i, i < N ∧ listed.getD i false = false := by
          rcases Classical.em (∃ i, i < N ∧ listed.getD i false = false) with h | h
          · exact h
          · exfalso
            apply hf0
            rw [← hf, leftR, List.length_eq_zero_iff, List.filter_eq_nil_iff]
            intro i hi
            have hi := List.mem_range.1 hi
            cases hl : listed.getD i false with
            | true => simp
            | false => exact absurd ⟨i, hi, hl⟩ h
        rw [show f' + 1 + (l.length - N) = (f' + (l.length - N)) + 1 by omega]
        refine ⟨fun hnil => ?_, fun i hi => ?_⟩
        · exfalso
          suffices hno : ∀ i, i < N → listed.getD i false = false → False by
            obtain ⟨i, hiN, hil⟩ := hex
            exact hno i hiN hil
          intro i
          induction i using Nat.strongRecOn with
          | ind i ihi =>
            intro hiN hil
            have hob : (l.take N)[i]? = some ((l.take N)[i]'(by omega)) := List.getElem?_eq_getElem (by omega)
            have hb := List.all_eq_true.1 hback i (List.mem_range.2 (by omega))
            rw [hob] at hb
            have hb' := Array.all_eq_true'.1 hb
            rcases Classical.em (∃ e ∈ ((l.take N)[i]'(by omega)).after, Region.binds .any e = true ∧ listed.getD e.on false = false) with h | h
            · obtain ⟨e, he, hbe, hle⟩ := h
              have hlt : e.on < i := by have := hb' e he; rw [hbe] at this; simpa using this
              exact ihi e.on hlt (by omega) hle
            · have : i ∈ Region.ready .any l.toArray listed := mem_ready.2 ⟨getD_in (by rw [inv.size]; omega) hil, _, by rw [← hget i hiN]; exact hob, fun e he hbe => by
                cases hl : listed.getD e.on false with
                | true => rfl
                | false => exact absurd ⟨e, he, hbe, hl⟩ h⟩
              rw [hnil] at this
              cases this
        · have hiN : i < N := by
            rcases htail with h | h
            · obtain ⟨_, o, ho, _⟩ := mem_ready.1 hi
              have := (Array.getElem?_eq_some_iff.1 ho).1
              omega
            · rcases Nat.lt_or_ge i N with h1 | h1
              · exact h1
              · obtain ⟨i0, hi0, hl0⟩ := hex
                exact absurd hi (tail_waits h.1.2 h.2 (by rw [hsz]; exact h.1.1) inv _ i0 rfl hi0 (getD_in (by rw [inv.size]; omega) hl0) i h1)
          obtain ⟨hun, o, ho, hdep⟩ := mem_ready.1 hi
          have hol : (l.take N)[i]? = some o := by rw [hget i hiN]; exact ho
          have hlt : ∀ e ∈ o.after, Region.binds .any e = true → e.on < i := by
            intro e he hbe
            have hb := List.all_eq_true.1 hback i (List.mem_range.2 (by omega))
            rw [hol] at hb
            have := Array.all_eq_true'.1 hb e he
            rw [hbe] at this
            simpa using this
          have hS := stepsR_spec hstep i o hol u w hC (depsR_spec fun e he hbe => hV e.on (by have := hlt e (by simpa using he) hbe; omega) (hdep e (by simpa using he) hbe))
          rw [Nat.zero_add] at hS
          have next : ∀ v w', C w' → E w w' → V i w' v → wpAny P .any l.toArray Q (f' + (l.length - N)) (listed.setIfInBounds i true) ((fillR u (l.take N) 0 a0).put o.dst v) w' := by
            intro v w' hC' hE' hVi
            rw [fillR_at u v (l.take N) 0 i a0 o hdis hol, Nat.zero_add]
            have hinv := inv.set hi hiN
            have hleft := leftR_set hiN hun
            have hV' : ∀ j, j < N → (listed.setIfInBounds i true).getD j false = true → V j w' ((fun j => if j = i then v else u j) j) := by
              intro j hj hjl
              by_cases hji : j = i
              · subst hji; simpa using hVi
              · simp only [if_neg hji]
                rw [getD_set_ne false (Ne.symm hji)] at hjl
                exact hE j w w' _ hC hC' hE' (hV j hj hjl)
            have hle : leftR N (listed.setIfInBounds i true) ≤ f' := by omega
            have hge : f' ≤ leftR N (listed.setIfInBounds i true) := by
              have : leftR N listed ≤ leftR N (listed.setIfInBounds i true) + 1 := by
                unfold leftR
                have hcount : ∀ m, ((List.range m).filter fun j => !listed.getD j false).length ≤ ((List.range m).filter fun j => !(listed.setIfInBounds i true).getD j false).length + (if i < m then 1 else 0) := by
                  intro m
                  induction m with
                  | zero => simp
                  | succ m ihm =>
                    rw [List.range_succ, List.filter_append, List.filter_append, List.length_append, List.length_append]
                    by_cases hmi : m = i
                    · subst hmi
                      have h1 : (List.filter (fun j => !listed.getD j false) [m]).length ≤ 1 := by
                        exact Nat.le_trans (List.length_filter_le _ _) (by simp)
                      rw [if_neg (by omega)] at ihm
                      rw [if_pos (by omega)]
                      omega
                    · have h1 : (List.filter (fun j => !(listed.setIfInBounds i true).getD j false) [m]) = (List.filter (fun j => !listed.getD j false) [m]) := by
                        simp only [List.filter_cons, List.filter_nil]
                        rw [getD_set_ne false (Ne.symm hmi)]
                      rw [h1]
                      split at ihm <;> split <;> omega
                have := hcount N
                split at this <;> omega
              omega
            have hex' : leftR N (listed.setIfInBounds i true) = f' := Nat.le_antisymm hle hge
            exact ih f' (by omega) (listed.setIfInBounds i true) _ w' hinv hex' hC' hV'
          unfold wpOp
          simp only [ho]
          unfold stepR at *
          cases hg : o.guard with
          | none =>
            rw [hg] at hS
            rw [if_pos (by simp [Region.wanted, hg])]
            exact .inl (hS _ next)
          | some p =>
            rw [hg] at hS
            by_cases hw : Region.wanted o (yielded l.toArray (fillR u (l.take N) 0 a0).tmps) = true
            · rw [if_pos hw]
              exact .inl (hS.1 hw _ next)
            · rw [if_neg hw]
              exact next undef w hC (hR w hC) (hS.2 (by simpa using hw))
  refine wp_region_any hm ?_
  have inv0 : HeadInv .any l.toArray N (Array.replicate l.toArray.size false) :=
    ⟨by simp, fun j oj _ hl => (by rw [getD_replicate_false] at hl; cases hl), fun t _ ht => getD_in (by simpa using ht) (getD_replicate_false _ _)⟩
  have hleft0 : leftR N (Array.replicate l.toArray.size false) = N := by
    unfold leftR
    rw [List.filter_eq_self.2 (fun i _ => by rw [getD_replicate_false]; rfl), List.length_range]
  obtain ⟨u0, hid⟩ : ∃ u0, fillR u0 (l.take N) 0 a0 = a0 :=
    ⟨fun i => match ((l.take N)[i]?).bind (·.dst) with | some d => a0.tmps.getD d undef | none => undef, fillR_id _ 0 a0 _ hdis (fun i o d hi ho => by simp [hi, ho])⟩
  have hk := key N (Array.replicate l.toArray.size false) u0 { w0 with drawn := w0.drawn + 1 } inv0 hleft0 h0 (fun i _ hl => by rw [getD_replicate_false] at hl; cases hl)
  rw [hid, show N + (l.length - N) = l.toArray.size by rw [hsz]; omega] at hk
  exact hk
def slotR (l : List Oper) (a : Act) (j : Nat) : Value := match (l[j]?).bind (·.dst) with
  | some d => a.tmps.getD d undef
  | none => undef
def depsA (V : Nat → World → Value → Prop) (l : List Oper) (a : Act) (w : World) : List Edge → Prop
  | [] => True
  | e :: r => bif Region.binds .any e then V e.on w (slotR l a e.on) ∧ depsA V l a w r else depsA V l a w r
def hasR (l : List Oper) (s : Tmp) : Bool := l.any fun o => o.dst == some s
def stepA (P : Program) (ops : Array Oper) (C : World → Prop) (E : World → World → Prop) (V : Nat → World → Value → Prop) (Q : Exit → Act → World → Prop) (l : List Oper) (a0 : Act) (k : Nat) (o : Oper) : Prop :=
  ∀ (a : Act) (w : World), (∀ s, hasR l s = false → a.tmps.getD s undef = a0.tmps.getD s undef) → C w → depsA V l a w o.after.toList →
    match o.guard with
    | none => ∀ K : Act → World → Prop, (∀ v w', C w' → E w w' → V k w' v → K (a.put o.dst v) w') → o.wp P a w K Q
    | some _ => (Region.wanted o (yielded ops a.tmps) = true → ∀ K : Act → World → Prop, (∀ v w', C w' → E w w' → V k w' v → K (a.put o.dst v) w') → o.wp P a w K Q) ∧
        (Region.wanted o (yielded ops a.tmps) = false → V k w undef)
def stepsA (P : Program) (ops : Array Oper) (C : World → Prop) (E : World → World → Prop) (V : Nat → World → Value → Prop) (Q : Exit → Act → World → Prop) (h : List Oper) (a0 : Act) : List Oper → Nat → Prop
  | [], _ => True
  | o :: r, k => stepA P ops C E V Q h a0 k o ∧ stepsA P ops C E V Q h a0 r (k + 1)
def inB (l : List Oper) (n : Nat) : Bool := l.all fun o => match o.dst with | some d => decide (d < n) | none => true
theorem put_get_ne (a : Act) (d : Option Tmp) (v : Value) (s : Tmp) (h : d ≠ some s) : (a.put d v).tmps.getD s undef = a.tmps.getD s undef := by
  cases d with
  | none => rfl
  | some d =>
    have : d ≠ s := fun e => h (by rw [e])
    simp [Act.put, Array.getElem?_setIfInBounds, this]
theorem fillR_out (u : Nat → Value) (s : Tmp) : ∀ (l : List Oper) (k : Nat) (a : Act), hasR l s = false → (fillR u l k a).tmps.getD s undef = a.tmps.getD s undef
  | [], _, _, _ => rfl
  | o :: r, k, a, h => by
    simp only [hasR, List.any_cons, Bool.or_eq_false_iff, beq_eq_false_iff_ne] at h
    simp only [fillR]
    rw [fillR_out u s r (k + 1) _ h.2, put_get_ne _ _ _ _ h.1]
theorem fillR_in (u : Nat → Value) : ∀ (l : List Oper) (k i : Nat) (a : Act) (o : Oper) (d : Tmp), distinct l → l[i]? = some o → o.dst = some d → d < a.tmps.size → (fillR u l k a).tmps.getD d undef = u (k + i)
  | [], _, i, _, _, _, _, hi, _, _ => by simp at hi
  | x :: r, k, i, a, o, d, hd, hi, ho, hs => by
    cases i with
    | zero =>
      simp at hi
      subst hi
      simp only [fillR]
      have hn : hasR r d = false := by
        simp only [hasR, List.any_eq_false, beq_iff_eq]
        intro y hy he
        obtain ⟨j, hj⟩ := List.mem_iff_getElem?.1 hy
        exact hd 0 (j + 1) x y d rfl (by simpa using hj) (by omega) ho he
      rw [fillR_out u d r (k + 1) _ hn, ho]
      simp [Act.put, hs]
    | succ i =>
      simp only [fillR]
      rw [fillR_in u r (k + 1) i _ o d (distinct_tail hd) (by simpa using hi) ho (by cases x.dst <;> simpa [Act.put] using hs), show k + 1 + i = k + (i + 1) by omega]
theorem depsA_of {V : Nat → World → Value → Prop} {h : List Oper} {u : Nat → Value} {a0 : Act} {w : World} (hd : distinct h) (hin : inB h a0.tmps.size = true) :
    ∀ {l : List Edge}, (∀ e ∈ l, Region.binds .any e = true → ∃ o d, h[e.on]? = some o ∧ o.dst = some d) → depsR V u w l → depsA V h (fillR u h 0 a0) w l
  | [], _, _ => trivial
  | e :: r, hl, hr => by
    unfold depsR at hr
    unfold depsA
    have hrest := fun h' => depsA_of (V := V) (u := u) (w := w) hd hin (l := r) (fun e' he' => hl e' (List.mem_cons_of_mem _ he')) h'
    cases hb : Region.binds .any e with
    | false => rw [hb] at hr; exact hrest hr
    | true =>
      rw [hb] at hr
      refine ⟨?_, hrest hr.2⟩
      obtain ⟨o, d, ho, hod⟩ := hl e (List.mem_cons_self ..) hb
      have hsz : d < a0.tmps.size := by
        have := List.all_eq_true.1 hin o (List.mem_of_getElem? ho)
        rw [hod] at this
        simpa using this
      have := fillR_in u h 0 e.on a0 o d hd ho hod hsz
      rw [Nat.zero_add] at this
      simp only [slotR, ho, Option.bind_some, hod]
      rw [this]
      exact hr.1
def slotB (l : List Oper) : Bool := l.all fun o => o.after.all fun e => !Region.binds .any e || ((l[e.on]?).bind (·.dst)).isSome
theorem slotB_spec {l : List Oper} (h : slotB l = true) {i : Nat} {o : Oper} (hi : l[i]? = some o) : ∀ e ∈ o.after.toList, Region.binds .any e = true → ∃ o' d, l[e.on]? = some o' ∧ o'.dst = some d := by
  intro e he hb
  have h1 := List.all_eq_true.1 h o (List.mem_of_getElem? hi)
  have h2 := Array.all_eq_true'.1 h1 e (by simpa using he)
  rw [hb] at h2
  cases ho : l[e.on]? with
  | none => rw [ho] at h2; cases h2
  | some o' =>
    rw [ho] at h2
    cases hd : o'.dst with
    | none => simp [hd] at h2
    | some d => exact ⟨o', d, rfl, hd⟩
theorem stepsR_of {P : Program} {ops : Array Oper} {C : World → Prop} {E : World → World → Prop} {V : Nat → World → Value → Prop} {Q : Exit → Act → World → Prop} {h : List Oper} {a0 : Act} (hd : distinct h) (hin : inB h a0.tmps.size = true)
    (hsl : slotB h = true) : ∀ (l : List Oper) (k : Nat), (∀ i, l[i]? = h[k + i]?) → stepsA P ops C E V Q h a0 l k → stepsR P ops C E V Q (fun u => fillR u h 0 a0) l k
  | [], _, _, _ => trivial
  | o :: r, k, hl, hs => by
    have hi : h[k]? = some o := by simpa using (hl 0).symm
    refine ⟨fun u w hC hdep => ?_, stepsR_of hd hin hsl r (k + 1) (fun i => by have := hl (i + 1); rw [show k + 1 + i = k + (i + 1) by omega, ← this]; simp) hs.2⟩
    exact hs.1 (fillR u h 0 a0) w (fun s h1 => fillR_out u s h 0 a0 h1) hC (depsA_of hd hin (slotB_spec hsl hi) hdep)
theorem wp_region_acts {P : Program} {id : Nat} {l : List Oper} {Q : Exit → Act → World → Prop} {a0 : Act} {w0 : World} (N : Nat) (C : World → Prop) (E : World → World → Prop) (V : Nat → World → Value → Prop)
    (hm : P.follows .mixedOrders = true) (hB : (okR l N && slotB (l.take N)) = true) (hin : inB (l.take N) a0.tmps.size = true) (h0 : C w0.drew) (hR : ∀ w, C w → E w w) (hE : ∀ i w w' v, C w → C w' → E w w' → V i w v → V i w' v)
    (hstep : stepsA P l.toArray C E V Q (l.take N) a0 (l.take N) 0)
    (hend : ∀ u w, C w → allR V u w (l.take N) 0 → wpList P l.toArray Q (l.drop N) (fillR u (l.take N) 0 a0) w) : (Code.region id l.toArray true).wp P Q a0 w0 := by
  rw [Bool.and_eq_true] at hB
  refine wp_region_each N C E V hm hB.1 h0 hR hE (stepsR_of ?_ hin hB.2 _ 0 (fun i => by rw [Nat.zero_add]) hstep) hend
  have h1 := hB.1
  simp only [okR, Bool.and_eq_true] at h1
  exact distinct_of _ h1.1.1.1.1
def Gh := Nat → Option Value
def gh0 : Gh := fun _ => none
def Gh.upd (γ : Gh) (k : Nat) (v : Value) : Gh := fun i => if i = k then some v else γ i
theorem Gh.upd_self (γ : Gh) (k : Nat) (v : Value) : γ.upd k v k = some v := if_pos rfl
theorem Gh.upd_ne (γ : Gh) {k i : Nat} (v : Value) (h : i ≠ k) : γ.upd k v i = γ i := if_neg h
def noGuard (l : List Oper) : Bool := l.all fun o => o.guard.isNone
theorem noGuard_spec {l : List Oper} (h : noGuard l = true) {i : Nat} {o : Oper} (hi : l[i]? = some o) : o.guard = none := by
  have := List.all_eq_true.1 h o (List.mem_of_getElem? hi)
  simpa using this
def stepG (P : Program) (C : Gh → World → Prop) (E : Gh → World → Gh → World → Prop) (V : Nat → Gh → World → Value → Prop) (Q : Exit → Act → World → Prop) (fill : (Nat → Value) → Act) (k : Nat) (o : Oper) : Prop :=
  ∀ u γ w, C γ w → γ k = none → depsR (fun i w v => γ i = some v ∧ V i γ w v) u w o.after.toList →
    ∀ K : Act → World → Prop, (∀ v w', C (γ.upd k v) w' → E γ w (γ.upd k v) w' → V k (γ.upd k v) w' v → K ((fill u).put o.dst v) w') → o.wp P (fill u) w K Q
def stepsG (P : Program) (C : Gh → World → Prop) (E : Gh → World → Gh → World → Prop) (V : Nat → Gh → World → Value → Prop) (Q : Exit → Act → World → Prop) (fill : (Nat → Value) → Act) : List Oper → Nat → Prop
  | [], _ => True
  | o :: r, k => stepG P C E V Q fill k o ∧ stepsG P C E V Q fill r (k + 1)
def allG (γ : Gh) (u : Nat → Value) : List Oper → Nat → Prop
  | [], _ => True
  | _ :: r, k => γ k = some (u k) ∧ allG γ u r (k + 1)
theorem allG_spec {γ : Gh} {u : Nat → Value} : ∀ {l : List Oper} {k : Nat}, (∀ i, i < l.length → γ (k + i) = some (u (k + i))) → allG γ u l k
  | [], _, _ => trivial
  | _ :: r, k, h => ⟨by simpa using h 0 (by simp), allG_spec fun i hi => by have := h (i + 1) (by simp; omega); rwa [show k + (i + 1) = k + 1 + i by omega] at this⟩
theorem stepsG_spec {P : Program} {C : Gh → World → Prop} {E : Gh → World → Gh → World → Prop} {V : Nat → Gh → World → Value → Prop} {Q : Exit → Act → World → Prop} {fill : (Nat → Value) → Act} :
    ∀ {l : List Oper} {k : Nat}, stepsG P C E V Q fill l k → ∀ i o, l[i]? = some o → stepG P C E V Q fill (k + i) o
  | [], _, _, i, o, hi => by simp at hi
  | o :: r, k, h, i, o', hi => by
    cases i with
    | zero => simp at hi; subst hi; exact h.1
    | succ i =>
      have := stepsG_spec h.2 i o' (by simpa using hi)
      rw [show k + (i + 1) = k + 1 + i by omega]
      exact this
theorem wp_region_eachG {P : Program} {id : Nat} {l : List Oper} {Q : Exit → Act → World → Prop} {a0 : Act} {w0 : World} (N : Nat) (C : Gh → World → Prop) (E : Gh → World → Gh → World → Prop) (V : Nat → Gh → World → Value → Prop)
    (hm : P.follows .mixedOrders = true) (hB : okR l N = true) (hG : noGuard (l.take N) = true) (h0 : C gh0 w0.drew) (hE : ∀ i γ w k x w' v, C γ w → C (γ.upd k x) w' → E γ w (γ.upd k x) w' → γ k = none → γ i = some v → V i γ w v → V i (γ.upd k x) w' v)
    (hstep : stepsG P C E V Q (fun u => fillR u (l.take N) 0 a0) (l.take N) 0)
    (hend : ∀ γ u w, C γ w → allG γ u (l.take N) 0 → allR (fun i => V i γ) u w (l.take N) 0 → wpList P l.toArray Q (l.drop N) (fillR u (l.take N) 0 a0) w) : (Code.region id l.toArray true).wp P Q a0 w0 := by
  simp only [okR, Bool.and_eq_true, Bool.or_eq_true, decide_eq_true_eq] at hB
  obtain ⟨⟨⟨⟨hdst, hback⟩, hN⟩, htail⟩, hseq⟩ := hB
  have hdis := distinct_of _ hdst
  have htl : (l.take N).length = N := by rw [List.length_take]; omega
  have hsz : l.toArray.size = l.length := by simp
  have hget : ∀ i, i < N → (l.take N)[i]? = l.toArray[i]? := by
    intro i hi
    rw [List.getElem?_take_of_lt hi]; simp
  have key : ∀ (f : Nat) (listed : Array Bool) (u : Nat → Value) (γ : Gh) (w : World), HeadInv .any l.toArray N listed → leftR N listed = f → C γ w → (∀ i, i < N → listed.getD i false = true → γ i = some (u i) ∧ V i γ w (u i)) → (∀ i, i < N → listed.getD i false = false → γ i = none) →
      wpAny P .any l.toArray Q (f + (l.length - N)) listed (fillR u (l.take N) 0 a0) w := by
    intro f
    induction f using Nat.strongRecOn with
    | ind f ih =>
      intro listed u γ w inv hf hC hV hgn
      by_cases hf0 : f = 0
      · subst hf0
        have hall := leftR_zero hf
        have hlisted : listed = arrR N (l.length - N) := by
          apply Array.ext_getElem?
          intro i
          have hls := inv.size
          by_cases hi : i < N
          · have h1 := hall i hi
            have his : i < listed.size := by omega
            simp [his] at h1
            rw [Array.getElem?_eq_getElem his, h1, arrR_get, if_pos hi]
          · by_cases hi2 : i < l.length
            · have h1 := inv.tail i (by omega) (by omega)
              have his : i < listed.size := by omega
              simp [his] at h1
              rw [Array.getElem?_eq_getElem his, h1, arrR_get, if_neg hi, if_pos (by omega)]
            · rw [Array.getElem?_eq_none (by omega), arrR_get, if_neg hi, if_neg (by omega)]
        have hdl : (l.drop N).length = l.length - N := List.length_drop
        have := wpAny_of_seq (md := .any) (Q' := Q) (P := P) (l.drop N) N listed (fillR u (l.take N) 0 a0) w (fun j => by simp [List.getElem?_drop]) (by rw [hdl, hlisted]; exact hseq)
          (hend γ u w hC (allG_spec fun i hi => by rw [Nat.zero_add]; rw [htl] at hi; exact (hV i hi (hall i hi)).1) (allR_spec fun i hi => by rw [Nat.zero_add]; rw [htl] at hi; exact (hV i hi (hall i hi)).2))
        rw [Nat.zero_add, ← hdl]
        exact this
      · obtain ⟨f', rfl⟩ : ∃ f', f = f' + 1 := ⟨f - 1, by omega⟩
        have hex : ∃ i, i < N ∧ listed.getD i false = false := by
          rcases Classical.em (∃ i, i < N ∧ listed.getD i false = false) with h | h
          · exact h
          · exfalso
            apply hf0
            rw [← hf, leftR, List.length_eq_zero_iff, List.filter_eq_nil_iff]
            intro i hi
            have hi := List.mem_range.1 hi
            cases hl : listed.getD i false with
            | true => simp
            | false => exact absurd ⟨i, hi, hl⟩ h
        rw [show f' + 1 + (l.length - N) = (f' + (l.length - N)) + 1 by omega]
        refine ⟨fun hnil => ?_, fun i hi => ?_⟩
        · exfalso
          suffices hno : ∀ i, i < N → listed.getD i false = false → False by
            obtain ⟨i, hiN, hil⟩ := hex
            exact hno i hiN hil
          intro i
          induction i using Nat.strongRecOn with
          | ind i ihi =>
            intro hiN hil
            have hob : (l.take N)[i]? = some ((l.take N)[i]'(by omega)) := List.getElem?_eq_getElem (by omega)
            have hb := List.all_eq_true.1 hback i (List.mem_range.2 (by omega))
            rw [hob] at hb
            have hb' := Array.all_eq_true'.1 hb
            rcases Classical.em (∃ e ∈ ((l.take N)[i]'(by omega)).after, Region.binds .any e = true ∧ listed.getD e.on false = false) with h | h
            · obtain ⟨e, he, hbe, hle⟩ := h
              have hlt : e.on < i := by have := hb' e he; rw [hbe] at this; simpa using this
              exact ihi e.on hlt (by omega) hle
            · have : i ∈ Region.ready .any l.toArray listed := mem_ready.2 ⟨getD_in (by rw [inv.size]; omega) hil, _, by rw [← hget i hiN]; exact hob, fun e he hbe => by
                cases hl : listed.getD e.on false with
                | true => rfl
                | false => exact absurd ⟨e, he, hbe, hl⟩ h⟩
              rw [hnil] at this
              cases this
        · have hiN : i < N := by
            rcases htail with h | h
            · obtain ⟨_, o, ho, _⟩ := mem_ready.1 hi
              have := (Array.getElem?_eq_some_iff.1 ho).1
              omega
            · rcases Nat.lt_or_ge i N with h1 | h1
              · exact h1
              · obtain ⟨i0, hi0, hl0⟩ := hex
                exact absurd hi (tail_waits h.1.2 h.2 (by rw [hsz]; exact h.1.1) inv _ i0 rfl hi0 (getD_in (by rw [inv.size]; omega) hl0) i h1)
          obtain ⟨hun, o, ho, hdep⟩ := mem_ready.1 hi
          have hol : (l.take N)[i]? = some o := by rw [hget i hiN]; exact ho
          have hlt : ∀ e ∈ o.after, Region.binds .any e = true → e.on < i := by
            intro e he hbe
            have hb := List.all_eq_true.1 hback i (List.mem_range.2 (by omega))
            rw [hol] at hb
            have := Array.all_eq_true'.1 hb e he
            rw [hbe] at this
            simpa using this
          have hgi : γ i = none := hgn i hiN (by
            have hun2 := hun
            simp only [Array.getD_eq_getD_getElem?] at hun2 ⊢
            cases h : listed[i]? with
            | none => rfl
            | some b => rw [h] at hun2; simpa using hun2)
          have hS := stepsG_spec hstep i o hol u γ w hC (by rw [Nat.zero_add]; exact hgi) (depsR_spec (V := fun i w v => γ i = some v ∧ V i γ w v) fun e he hbe => hV e.on (by have := hlt e (by simpa using he) hbe; omega) (hdep e (by simpa using he) hbe))
          rw [Nat.zero_add] at hS
          have next : ∀ v w', C (γ.upd i v) w' → E γ w (γ.upd i v) w' → V i (γ.upd i v) w' v → wpAny P .any l.toArray Q (f' + (l.length - N)) (listed.setIfInBounds i true) ((fillR u (l.take N) 0 a0).put o.dst v) w' := by
            intro v w' hC' hE' hVi
            rw [fillR_at u v (l.take N) 0 i a0 o hdis hol, Nat.zero_add]
            have hinv := inv.set hi hiN
            have hleft := leftR_set hiN hun
            have hV' : ∀ j, j < N → (listed.setIfInBounds i true).getD j false = true → (γ.upd i v) j = some ((fun j => if j = i then v else u j) j) ∧ V j (γ.upd i v) w' ((fun j => if j = i then v else u j) j) := by
              intro j hj hjl
              by_cases hji : j = i
              · subst hji; simpa [Gh.upd] using hVi
              · simp only [if_neg hji]
                rw [getD_set_ne false (Ne.symm hji)] at hjl
                obtain ⟨k1, k2⟩ := hV j hj hjl
                exact ⟨by simp only [Gh.upd, if_neg hji]; exact k1, hE j γ w i v w' _ hC hC' hE' hgi k1 k2⟩
            have hgn' : ∀ j, j < N → (listed.setIfInBounds i true).getD j false = false → (γ.upd i v) j = none := by
              intro j hj hjl
              by_cases hji : j = i
              · subst hji; rw [Array.getD_eq_getD_getElem?, Array.getElem?_setIfInBounds_self_of_lt (by rw [inv.size]; omega)] at hjl; cases hjl
              · rw [getD_set_ne false (Ne.symm hji)] at hjl
                simp only [Gh.upd, if_neg hji]
                exact hgn j hj hjl
            have hle : leftR N (listed.setIfInBounds i true) ≤ f' := by omega
            have hge : f' ≤ leftR N (listed.setIfInBounds i true) := by
              have : leftR N listed ≤ leftR N (listed.setIfInBounds i true) + 1 := by
                unfold leftR
                have hcount : ∀ m, ((List.range m).filter fun j => !listed.getD j false).length ≤ ((List.range m).filter fun j => !(listed.setIfInBounds i true).getD j false).length + (if i < m then 1 else 0) := by
                  intro m
                  induction m with
                  | zero => simp
                  | succ m ihm =>
                    rw [List.range_succ, List.filter_append, List.filter_append, List.length_append, List.length_append]
                    by_cases hmi : m = i
                    · subst hmi
                      have h1 : (List.filter (fun j => !listed.getD j false) [m]).length ≤ 1 := by
                        exact Nat.le_trans (List.length_filter_le _ _) (by simp)
                      rw [if_neg (by omega)] at ihm
                      rw [if_pos (by omega)]
                      omega
                    · have h1 : (List.filter (fun j => !(listed.setIfInBounds i true).getD j false) [m]) = (List.filter (fun j => !listed.getD j false) [m]) := by
                        simp only [List.filter_cons, List.filter_nil]
                        rw [getD_set_ne false (Ne.symm hmi)]
                      rw [h1]
                      split at ihm <;> split <;> omega
                have := hcount N
                split at this <;> omega
              omega
            have hex' : leftR N (listed.setIfInBounds i true) = f' := Nat.le_antisymm hle hge
            exact ih f' (by omega) (listed.setIfInBounds i true) _ _ w' hinv hex' hC' hV' hgn'
          unfold wpOp
          simp only [ho]
          have hg : o.guard = none := noGuard_spec hG hol
          rw [if_pos (by simp [Region.wanted, hg])]
          exact .inl (hS _ next)
  refine wp_region_any hm ?_
  have inv0 : HeadInv .any l.toArray N (Array.replicate l.toArray.size false) :=
    ⟨by simp, fun j oj _ hl => (by rw [getD_replicate_false] at hl; cases hl), fun t _ ht => getD_in (by simpa using ht) (getD_replicate_false _ _)⟩
  have hleft0 : leftR N (Array.replicate l.toArray.size false) = N := by
    unfold leftR
    rw [List.filter_eq_self.2 (fun i _ => by rw [getD_replicate_false]; rfl), List.length_range]
  obtain ⟨u0, hid⟩ : ∃ u0, fillR u0 (l.take N) 0 a0 = a0 :=
    ⟨fun i => match ((l.take N)[i]?).bind (·.dst) with | some d => a0.tmps.getD d undef | none => undef, fillR_id _ 0 a0 _ hdis (fun i o d hi ho => by simp [hi, ho])⟩
  have hk := key N (Array.replicate l.toArray.size false) u0 gh0 { w0 with drawn := w0.drawn + 1 } inv0 hleft0 h0 (fun i _ hl => by rw [getD_replicate_false] at hl; cases hl) (fun _ _ _ => rfl)
  rw [hid, show N + (l.length - N) = l.toArray.size by rw [hsz]; omega] at hk
  exact hk
def stepAG (P : Program) (C : Gh → World → Prop) (E : Gh → World → Gh → World → Prop) (V : Nat → Gh → World → Value → Prop) (Q : Exit → Act → World → Prop) (l : List Oper) (a0 : Act) (k : Nat) (o : Oper) : Prop :=
  ∀ (a : Act) (γ : Gh) (w : World), (∀ s, hasR l s = false → a.tmps.getD s undef = a0.tmps.getD s undef) → C γ w → γ k = none → depsA (fun i w v => γ i = some v ∧ V i γ w v) l a w o.after.toList →
    ∀ K : Act → World → Prop, (∀ v w', C (γ.upd k v) w' → E γ w (γ.upd k v) w' → V k (γ.upd k v) w' v → K (a.put o.dst v) w') → o.wp P a w K Q
def stepsAG (P : Program) (C : Gh → World → Prop) (E : Gh → World → Gh → World → Prop) (V : Nat → Gh → World → Value → Prop) (Q : Exit → Act → World → Prop) (h : List Oper) (a0 : Act) : List Oper → Nat → Prop
  | [], _ => True
  | o :: r, k => stepAG P C E V Q h a0 k o ∧ stepsAG P C E V Q h a0 r (k + 1)
theorem stepsG_of {P : Program} {C : Gh → World → Prop} {E : Gh → World → Gh → World → Prop} {V : Nat → Gh → World → Value → Prop} {Q : Exit → Act → World → Prop} {h : List Oper} {a0 : Act} (hd : distinct h) (hin : inB h a0.tmps.size = true)
    (hsl : slotB h = true) : ∀ (l : List Oper) (k : Nat), (∀ i, l[i]? = h[k + i]?) → stepsAG P C E V Q h a0 l k → stepsG P C E V Q (fun u => fillR u h 0 a0) l k
  | [], _, _, _ => trivial
  | o :: r, k, hl, hs => by
    have hi : h[k]? = some o := by simpa using (hl 0).symm
    refine ⟨fun u γ w hC hk hdep => ?_, stepsG_of hd hin hsl r (k + 1) (fun i => by have := hl (i + 1); rw [show k + 1 + i = k + (i + 1) by omega, ← this]; simp) hs.2⟩
    exact hs.1 (fillR u h 0 a0) γ w (fun s h1 => fillR_out u s h 0 a0 h1) hC hk (depsA_of hd hin (slotB_spec hsl hi) hdep)
theorem wp_region_ghost {P : Program} {id : Nat} {l : List Oper} {Q : Exit → Act → World → Prop} {a0 : Act} {w0 : World} (N : Nat) (C : Gh → World → Prop) (E : Gh → World → Gh → World → Prop) (V : Nat → Gh → World → Value → Prop)
    (hm : P.follows .mixedOrders = true) (hB : (okR l N && slotB (l.take N) && noGuard (l.take N)) = true) (hin : inB (l.take N) a0.tmps.size = true) (h0 : C gh0 w0.drew)
    (hE : ∀ i γ w k x w' v, C γ w → C (γ.upd k x) w' → E γ w (γ.upd k x) w' → γ k = none → γ i = some v → V i γ w v → V i (γ.upd k x) w' v)
    (hstep : stepsAG P C E V Q (l.take N) a0 (l.take N) 0)
    (hend : ∀ γ u w, C γ w → allG γ u (l.take N) 0 → allR (fun i => V i γ) u w (l.take N) 0 → wpList P l.toArray Q (l.drop N) (fillR u (l.take N) 0 a0) w) : (Code.region id l.toArray true).wp P Q a0 w0 := by
  rw [Bool.and_eq_true, Bool.and_eq_true] at hB
  refine wp_region_eachG N C E V hm hB.1.1 hB.2 h0 hE (stepsG_of ?_ hin hB.1.2 _ 0 (fun i => by rw [Nat.zero_add]) hstep) hend
  have h1 := hB.1.1
  simp only [okR, Bool.and_eq_true] at h1
  exact distinct_of _ h1.1.1.1.1
end Go.Proofs.YtmfedaakeeiolaaGreat
end
