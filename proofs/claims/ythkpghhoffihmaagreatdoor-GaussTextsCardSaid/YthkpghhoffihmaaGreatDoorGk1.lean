/- Reg, RegG, Num. -/
import Derived.StillTail
import Derived.WalkKit
import Derived.Below
set_option linter.unnecessarySimpa false
set_option linter.unusedVariables false
set_option linter.unusedSimpArgs false
section
namespace Go.Proofs.YthkpghhoffihmaaGreatDoor
open Go
def fillR (u : Nat → Value) : List Oper → Nat → Act → Act
  | [], _, a => a
  | o :: r, k, a => fillR u r (k + 1) (a.put o.dst (u k))
def depsR (V : Nat → World → Value → Prop) (u : Nat → Value) (w : World) : List Edge → Prop
  | [] => True
  | e :: r => bif Region.binds .any e then V e.on w (u e.on) ∧ depsR V u w r else depsR V u w r
def stepR (P : Program) (ops : Array Oper) (C : World → Prop) (E : World → World → Prop) (V : Nat → World → Value → Prop) (Q : Exit → Act → World → Prop) (fill : (Nat → Value) → Act) (k : Nat) (o : Oper) : Prop :=
  ∀ u w, C w → depsR V u w o.after.toList →
    match o.guard with
    | none => ∀ K : Act → World → Prop, (∀ v w', C w' → E w w' → V k w' v → K ((fill u).put o.dst v) w') → o.wp P (fill u) w K Q
    | some _ => (Region.wanted o (yielded ops (fill u).tmps) = true → ∀ K : Act → World → Prop, (∀ v w', C w' → E w w' → V k w' v → K ((fill u).put o.dst v) w') → o.wp P (fill u) w K Q) ∧
        (Region.wanted o (yielded ops (fill u).tmps) = false → V k w undef)
def stepsR (P : Program) (ops : Array Oper) (C : World → Prop) (E : World → World → Prop) (V : Nat → World → Value → Prop) (Q : Exit → Act → World → Prop) (fill : (Nat → Value) → Act) : List Oper → Nat → Prop
  | [], _ => True
  | o :: r, k => stepR P ops C E V Q fill k o ∧ stepsR P ops C E V Q fill r (k + 1)
def allR (V : Nat → World → Value → Prop) (u : Nat → Value) (w : World) : List Oper → Nat → Prop
  | [], _ => True
  | _ :: r, k => V k w (u k) ∧ allR V u w r (k + 1)
def dstsB (l : List Oper) : Bool := (List.range l.length).all fun i => (List.range l.length).all fun j =>
  i == j || (match (l[i]?).bind (·.dst), (l[j]?).bind (·.dst) with | some d, some e => d != e | _, _ => true)
def backB (l : List Oper) : Bool := (List.range l.length).all fun i => match l[i]? with | some o => o.after.all fun e => !Region.binds .any e || decide (e.on < i) | none => false
def arrR (N m : Nat) : Array Bool := ((List.replicate N true) ++ (List.replicate m false)).toArray
theorem arrR_get (N m i : Nat) : (arrR N m)[i]? = if i < N then some true else if i < N + m then some false else none := by
  simp only [arrR, List.getElem?_toArray, List.getElem?_append, List.length_replicate, List.getElem?_replicate]
  split
  · rfl
  · split
    · rw [if_pos (by omega)]
    · rw [if_neg (by omega)]
def okR (l : List Oper) (N : Nat) : Bool :=
  dstsB (l.take N) && backB (l.take N) && decide (N ≤ l.length) && (decide (N = l.length) || (decide (N < l.length) && Region.sinkB .any l.toArray N && Region.chainB .any l.toArray N)) &&
    Region.seqB .any l.toArray (l.length - N) N (arrR N (l.length - N))
theorem depsR_spec {V : Nat → World → Value → Prop} {u : Nat → Value} {w : World} : ∀ {l : List Edge}, (∀ e ∈ l, Region.binds .any e = true → V e.on w (u e.on)) → depsR V u w l
  | [], _ => trivial
  | e :: r, h => by
    unfold depsR
    cases hb : Region.binds .any e with
    | true => exact ⟨h e (List.mem_cons_self ..) hb, depsR_spec fun e' he' => h e' (List.mem_cons_of_mem _ he')⟩
    | false => exact depsR_spec fun e' he' => h e' (List.mem_cons_of_mem _ he')
theorem stepsR_spec {P : Program} {ops : Array Oper} {C : World → Prop} {E : World → World → Prop} {V : Nat → World → Value → Prop} {Q : Exit → Act → World → Prop} {fill : (Nat → Value) → Act} :
    ∀ {l : List Oper} {k : Nat}, stepsR P ops C E V Q fill l k → ∀ i o, l[i]? = some o → stepR P ops C E V Q fill (k + i) o
  | [], _, _, i, o, hi => by simp at hi
  | o :: r, k, h, i, o', hi => by
    cases i with
    | zero => simp at hi; subst hi; exact h.1
    | succ i =>
      have := stepsR_spec h.2 i o' (by simpa using hi)
      rw [show k + (i + 1) = k + 1 + i by omega]
      exact this
theorem allR_spec {V : Nat → World → Value → Prop} {u : Nat → Value} {w : World} : ∀ {l : List Oper} {k : Nat}, (∀ i, i < l.length → V (k + i) w (u (k + i))) → allR V u w l k
  | [], _, _ => trivial
  | _ :: r, k, h => ⟨by simpa using h 0 (by simp), allR_spec fun i hi => by have := h (i + 1) (by simp; omega); rwa [show k + (i + 1) = k + 1 + i by omega] at this⟩
theorem put_put (a : Act) (d : Option Tmp) (v v' : Value) : (a.put d v).put d v' = a.put d v' := by
  cases d with
  | none => rfl
  | some d => simp [Act.put]
theorem put_same (a : Act) (d : Tmp) : a.put (some d) (a.tmps.getD d undef) = a := by
  obtain ⟨t, ds⟩ := a
  simp only [Act.put]
  congr 1
  apply Array.ext (by simp)
  intro i h1 h2
  rw [Array.getElem_setIfInBounds]
  split
  · rename_i h; subst h; simp [h2]
  · rfl
def distinct (l : List Oper) : Prop := ∀ (i j : Nat) (o o' : Oper) (d : Tmp), l[i]? = some o → l[j]? = some o' → i ≠ j → o.dst = some d → o'.dst ≠ some d
theorem distinct_of (l : List Oper) (h : dstsB l = true) : distinct l := by
  intro i j o o' d hi hj hne hd hd'
  have hil : i < l.length := (List.getElem?_eq_some_iff.1 hi).1
  have hjl : j < l.length := (List.getElem?_eq_some_iff.1 hj).1
  have h1 := List.all_eq_true.1 (List.all_eq_true.1 h i (List.mem_range.2 hil)) j (List.mem_range.2 hjl)
  simp [hi, hj, hd, hd', hne] at h1
theorem distinct_tail {o : Oper} {l : List Oper} (h : distinct (o :: l)) : distinct l := fun i j a b d hi hj hne => h (i + 1) (j + 1) a b d (by simpa using hi) (by simpa using hj) (by omega)
theorem fillR_put (u : Nat → Value) (d : Option Tmp) (v : Value) : ∀ (l : List Oper) (k : Nat) (a : Act), (∀ (i : Nat) (o : Oper), l[i]? = some o → ∀ e, o.dst = some e → d ≠ some e) → (fillR u l k a).put d v = fillR u l k (a.put d v)
  | [], _, _, _ => rfl
  | o :: r, k, a, h => by
    simp only [fillR]
    rw [fillR_put u d v r (k + 1) _ (fun i o' hi => h (i + 1) o' (by simpa using hi)), Act.put_comm a (u k) v (fun e he => h 0 o rfl e he)]
theorem fillR_at (u : Nat → Value) (v : Value) : ∀ (l : List Oper) (k i : Nat) (a : Act) (o : Oper), distinct l → l[i]? = some o →
    (fillR u l k a).put o.dst v = fillR (fun j => if j = k + i then v else u j) l k a
  | [], _, i, _, _, _, hi => by simp at hi
  | x :: r, k, i, a, o, hd, hi => by
    cases i with
    | zero =>
      simp at hi
      subst hi
      simp only [fillR, Nat.add_zero, if_true]
      rw [fillR_put u x.dst v r (k + 1) _ (fun i o' hi' e he hx => hd 0 (i + 1) x o' e rfl (by simpa using hi') (by omega) hx he), put_put]
      have : ∀ (l : List Oper) (m : Nat) (a : Act), k < m → fillR u l m a = fillR (fun j => if j = k then v else u j) l m a := by
        intro l
        induction l with
        | nil => intros; rfl
        | cons y l ih => intro m a hm; simp only [fillR]; rw [if_neg (by omega)]; exact ih _ _ (by omega)
      exact this r (k + 1) _ (by omega)
    | succ i =>
      simp only [fillR]
      rw [if_neg (by omega), fillR_at u v r (k + 1) i _ o (distinct_tail hd) (by simpa using hi)]
      have : (fun j => if j = k + 1 + i then v else u j) = (fun j => if j = k + (i + 1) then v else u j) := by
        funext j
        rw [show k + 1 + i = k + (i + 1) by omega]
      rw [this]
theorem fillR_id : ∀ (l : List Oper) (k : Nat) (a : Act) (u : Nat → Value), distinct l → (∀ (i : Nat) (o : Oper) (d : Tmp), l[i]? = some o → o.dst = some d → u (k + i) = a.tmps.getD d undef) → fillR u l k a = a
  | [], _, _, _, _, _ => rfl
  | x :: r, k, a, u, hd, h => by
    have h0 : a.put x.dst (u k) = a := by
      cases hx : x.dst with
      | none => rfl
      | some d =>
        have := h 0 x d rfl hx
        simp only [Nat.add_zero] at this
        rw [this]
        exact put_same a d
    simp only [fillR]
    rw [h0]
    exact fillR_id r (k + 1) a u (distinct_tail hd) (fun i o d hi ho => by rw [show k + 1 + i = k + (i + 1) by omega]; exact h (i + 1) o d (by simpa using hi) ho)
def leftR (N : Nat) (listed : Array Bool) : Nat := ((List.range N).filter fun i => !listed.getD i false).length
theorem leftR_zero {N : Nat} {listed : Array Bool} (h : leftR N listed = 0) : ∀ i, i < N → listed.getD i false = true := by
  intro i hi
  have h1 := List.eq_nil_of_length_eq_zero h
  cases hl : listed.getD i false with
  | true => rfl
  | false =>
    have : i ∈ (List.range N).filter fun i => !listed.getD i false := List.mem_filter.2 ⟨List.mem_range.2 hi, by simp [hl]⟩
    rw [h1] at this
    cases this
theorem filter_lt {α : Type} (p q : α → Bool) (l : List α) (x : α) (hx : x ∈ l) (hpx : p x = true) (hqx : q x = false) (hpq : ∀ y, q y = true → p y = true) : (l.filter q).length < (l.filter p).length := by
  induction l with
  | nil => cases hx
  | cons y l ih =>
    have hle : (l.filter q).length ≤ (l.filter p).length := by
      clear ih hx
      induction l with
      | nil => simp
      | cons z l ih2 =>
        rw [List.filter_cons, List.filter_cons]
        by_cases hq : q z = true
        · simp [hq, hpq z hq]; exact ih2
        · by_cases hp : p z = true
          · simp [hq, hp]; omega
          · simp [hq, hp]; exact ih2
    rw [List.filter_cons, List.filter_cons]
    rcases List.mem_cons.1 hx with rfl | hx
    · simp [hpx, hqx]; omega
    · have := ih hx
      by_cases hq : q y = true
      · simp [hq, hpq y hq]; exact this
      · by_cases hp : p y = true
        · simp [hq, hp]; omega
        · simp [hq, hp]; exact this
theorem leftR_set {N i : Nat} {listed : Array Bool} (hi : i < N) (h : listed.getD i true = false) : leftR N (listed.setIfInBounds i true) < leftR N listed := by
  have hs : i < listed.size := by
    rcases Nat.lt_or_ge i listed.size with h1 | h1
    · exact h1
    · simp [Array.getElem?_eq_none h1] at h
  refine filter_lt _ _ _ i (List.mem_range.2 hi) (by simp [getD_both h]) ?_ ?_
  · simp [hs]
  · intro j hj
    simp only [Bool.not_eq_true'] at hj ⊢
    cases hl : listed.getD j false with
    | false => rfl
    | true => rw [getD_set_true hl] at hj; cases hj
theorem wp_region_each {P : Program} {id : Nat} {l : List Oper} {Q : Exit → Act → World → Prop} {a0 : Act} {w0 : World} (N : Nat) (C : World → Prop) (E : World → World → Prop) (V : Nat → World → Value → Prop)
    (hm : P.follows .mixedOrders = true) (hB : okR l N = true) (h0 : C w0.drew) (hR : ∀ w, C w → E w w) (hE : ∀ i w w' v, C w → C w' → E w w' → V i w v → V i w' v)
    (hstep : stepsR P l.toArray C E V Q (fun u => fillR u (l.take N) 0 a0) (l.take N) 0)
    (hend : ∀ u w, C w → allR V u w (l.take N) 0 → wpList P l.toArray Q (l.drop N) (fillR u (l.take N) 0 a0) w) : (Code.region id l.toArray true).wp P Q a0 w0 := by
  simp only [okR, Bool.and_eq_true, Bool.or_eq_true, decide_eq_true_eq] at hB
  obtain ⟨⟨⟨⟨hdst, hback⟩, hN⟩, htail⟩, hseq⟩ := hB
  have hdis := distinct_of _ hdst
  have htl : (l.take N).length = N := by rw [List.length_take]; omega
  have hsz : l.toArray.size = l.length := by simp
  have hget : ∀ i, i < N → (l.take N)[i]? = l.toArray[i]? := by
    intro i hi
    rw [List.getElem?_take_of_lt hi]; simp
  have key : ∀ (f : Nat) (listed : Array Bool) (u : Nat → Value) (w : World), HeadInv .any l.toArray N listed → leftR N listed = f → C w → (∀ i, i < N → listed.getD i false = true → V i w (u i)) →
      wpAny P .any l.toArray Q (f + (l.length - N)) listed (fillR u (l.take N) 0 a0) w := by
    intro f
    induction f using Nat.strongRecOn with
    | ind f ih =>
      intro listed u w inv hf hC hV
      by_cases hf0 : f = 0
      · subst hf0
        have hall := leftR_zero hf
        have hlisted : listed = arrR N (l.length - N) := by
          apply Array.ext_getElem?
          intro i
          have hls := inv.size
          by_cases hi : i < N
          · have h1 := hall i hi
            have his : i < listed.size := by omega
            simp [his] at h1
            rw [Array.getElem?_eq_getElem his, h1, arrR_get, if_pos hi]
          · by_cases hi2 : i < l.length
            · have h1 := inv.tail i (by omega) (by omega)
              have his : i < listed.size := by omega
              simp [his] at h1
              rw [Array.getElem?_eq_getElem his, h1, arrR_get, if_neg hi, if_pos (by omega)]
            · rw [Array.getElem?_eq_none (by omega), arrR_get, if_neg hi, if_neg (by omega)]
        have hdl : (l.drop N).length = l.length - N := List.length_drop
        have := wpAny_of_seq (md := .any) (Q' := Q) (P := P) (l.drop N) N listed (fillR u (l.take N) 0 a0) w (fun j => by simp [List.getElem?_drop]) (by rw [hdl, hlisted]; exact hseq)
          (hend u w hC (allR_spec fun i hi => by rw [Nat.zero_add]; rw [htl] at hi; exact hV i hi (hall i hi)))
        rw [Nat.zero_add, ← hdl]
        exact this
      · obtain ⟨f', rfl⟩ : ∃ f', f = f' + 1 := ⟨f - 1, by omega⟩
        have hex : ∃ i, i < N ∧ listed.getD i false = false := by
          rcases Classical.em (∃ i, i < N ∧ listed.getD i false = false) with h | h
          · exact h
          · exfalso
            apply hf0
            rw [← hf, leftR, List.length_eq_zero_iff, List.filter_eq_nil_iff]
            intro i hi
            have hi := List.mem_range.1 hi
            cases hl : listed.getD i false with
            | true => simp
            | false => exact absurd ⟨i, hi, hl⟩ h
        rw [show f' + 1 + (l.length - N) = (f' + (l.length - N)) + 1 by omega]
        refine ⟨fun hnil => ?_, fun i hi => ?_⟩
        · exfalso
          suffices hno : ∀ i, i < N → listed.getD i false = false → False by
            obtain ⟨i, hiN, hil⟩ := hex
            exact hno i hiN hil
          intro i
          induction i using Nat.strongRecOn with
          | ind i ihi =>
            intro hiN hil
            have hob : (l.take N)[i]? = some ((l.take N)[i]'(by omega)) := List.getElem?_eq_getElem (by omega)
            have hb := List.all_eq_true.1 hback i (List.mem_range.2 (by omega))
            rw [hob] at hb
            have hb' := Array.all_eq_true'.1 hb
            rcases Classical.em (∃ e ∈ ((l.take N)[i]'(by omega)).after, Region.binds .any e = true ∧ listed.getD e.on false = false) with h | h
            · obtain ⟨e, he, hbe, hle⟩ := h
              have hlt : e.on < i := by have := hb' e he; rw [hbe] at this; simpa using this
              exact ihi e.on hlt (by omega) hle
            · have : i ∈ Region.ready .any l.toArray listed := mem_ready.2 ⟨getD_in (by rw [inv.size]; omega) hil, _, by rw [← hget i hiN]; exact hob, fun e he hbe => by
                cases hl : listed.getD e.on false with
                | true => rfl
                | false => exact absurd ⟨e, he, hbe, hl⟩ h⟩
              rw [hnil] at this
              cases this
        · have hiN : i < N := by
            rcases htail with h | h
            · obtain ⟨_, o, ho, _⟩ := mem_ready.1 hi
              have := (Array.getElem?_eq_some_iff.1 ho).1
              omega
            · rcases Nat.lt_or_ge i N with h1 | h1
              · exact h1
              · obtain ⟨i0, hi0, hl0⟩ := hex
                exact absurd hi (tail_waits h.1.2 h.2 (by rw [hsz]; exact h.1.1) inv _ i0 rfl hi0 (getD_in (by rw [inv.size]; omega) hl0) i h1)
          obtain ⟨hun, o, ho, hdep⟩ := mem_ready.1 hi
          have hol : (l.take N)[i]? = some o := by rw [hget i hiN]; exact ho
          have hlt : ∀ e ∈ o.after, Region.binds .any e = true → e.on < i := by
            intro e he hbe
            have hb := List.all_eq_true.1 hback i (List.mem_range.2 (by omega))
            rw [hol] at hb
            have := Array.all_eq_true'.1 hb e he
            rw [hbe] at this
            simpa using this
          have hS := stepsR_spec hstep i o hol u w hC (depsR_spec fun e he hbe => hV e.on (by have := hlt e (by simpa using he) hbe; omega) (hdep e (by simpa using he) hbe))
          rw [Nat.zero_add] at hS
          have next : ∀ v w', C w' → E w w' → V i w' v → wpAny P .any l.toArray Q (f' + (l.length - N)) (listed.setIfInBounds i true) ((fillR u (l.take N) 0 a0).put o.dst v) w' := by
            intro v w' hC' hE' hVi
            rw [fillR_at u v (l.take N) 0 i a0 o hdis hol, Nat.zero_add]
            have hinv := inv.set hi hiN
            have hleft := leftR_set hiN hun
            have hV' : ∀ j, j < N → (listed.setIfInBounds i true).getD j false = true → V j w' ((fun j => if j = i then v else u j) j) := by
              intro j hj hjl
              by_cases hji : j = i
              · subst hji; simpa using hVi
              · simp only [if_neg hji]
                rw [getD_set_ne false (Ne.symm hji)] at hjl
                exact hE j w w' _ hC hC' hE' (hV j hj hjl)
            have hle : leftR N (listed.setIfInBounds i true) ≤ f' := by omega
            have hge : f' ≤ leftR N (listed.setIfInBounds i true) := by
              have : leftR N listed ≤ leftR N (listed.setIfInBounds i true) + 1 := by
                unfold leftR
                have hcount : ∀ m, ((List.range m).filter fun j => !listed.getD j false).length ≤ ((List.range m).filter fun j => !(listed.setIfInBounds i true).getD j false).length + (if i < m then 1 else 0) := by
                  intro m
                  induction m with
                  | zero => simp
                  | succ m ihm =>
                    rw [List.range_succ, List.filter_append, List.filter_append, List.length_append, List.length_append]
                    by_cases hmi : m = i
                    · subst hmi
                      have h1 : (List.filter (fun j => !listed.getD j false) [m]).length ≤ 1 := by
                        exact Nat.le_trans (List.length_filter_le _ _) (by simp)
                      rw [if_neg (by omega)] at ihm
                      rw [if_pos (by omega)]
                      omega
                    · have h1 : (List.filter (fun j => !(listed.setIfInBounds i true).getD j false) [m]) = (List.filter (fun j => !listed.getD j false) [m]) := by
                        simp only [List.filter_cons, List.filter_nil]
                        rw [getD_set_ne false (Ne.symm hmi)]
                      rw [h1]
                      split at ihm <;> split <;> omega
                have := hcount N
                split at this <;> omega
              omega
            have hex' : leftR N (listed.setIfInBounds i true) = f' := Nat.le_antisymm hle hge
            exact ih f' (by omega) (listed.setIfInBounds i true) _ w' hinv hex' hC' hV'
          unfold wpOp
          simp only [ho]
          unfold stepR at *
          cases hg : o.guard with
          | none =>
            rw [hg] at hS
            rw [if_pos (by simp [Region.wanted, hg])]
            exact .inl (hS _ next)
          | some p =>
            rw [hg] at hS
            by_cases hw : Region.wanted o (yielded l.toArray (fillR u (l.take N) 0 a0).tmps) = true
            · rw [if_pos hw]
              exact .inl (hS.1 hw _ next)
            · rw [if_neg hw]
              exact next undef w hC (hR w hC) (hS.2 (by simpa using hw))
  refine wp_region_any hm ?_
  have inv0 : HeadInv .any l.toArray N (Array.replicate l.toArray.size false) :=
    ⟨by simp, fun j oj _ hl => (by rw [getD_replicate_false] at hl; cases hl), fun t _ ht => getD_in (by simpa using ht) (getD_replicate_false _ _)⟩
  have hleft0 : leftR N (Array.replicate l.toArray.size false) = N := by
    unfold leftR
    rw [List.filter_eq_self.2 (fun i _ => by rw [getD_replicate_false]; rfl), List.length_range]
  obtain ⟨u0, hid⟩ : ∃ u0, fillR u0 (l.take N) 0 a0 = a0 :=
    ⟨fun i => match ((l.take N)[i]?).bind (·.dst) with | some d => a0.tmps.getD d undef | none => undef, fillR_id _ 0 a0 _ hdis (fun i o d hi ho => by simp [hi, ho])⟩
  have hk := key N (Array.replicate l.toArray.size false) u0 { w0 with drawn := w0.drawn + 1 } inv0 hleft0 h0 (fun i _ hl => by rw [getD_replicate_false] at hl; cases hl)
  rw [hid, show N + (l.length - N) = l.toArray.size by rw [hsz]; omega] at hk
  exact hk
def slotR (l : List Oper) (a : Act) (j : Nat) : Value := match (l[j]?).bind (·.dst) with
  | some d => a.tmps.getD d undef
  | none => undef
def depsA (V : Nat → World → Value → Prop) (l : List Oper) (a : Act) (w : World) : List Edge → Prop
  | [] => True
  | e :: r => bif Region.binds .any e then V e.on w (slotR l a e.on) ∧ depsA V l a w r else depsA V l a w r
def hasR (l : List Oper) (s : Tmp) : Bool := l.any fun o => o.dst == some s
def stepA (P : Program) (ops : Array Oper) (C : World → Prop) (E : World → World → Prop) (V : Nat → World → Value → Prop) (Q : Exit → Act → World → Prop) (l : List Oper) (a0 : Act) (k : Nat) (o : Oper) : Prop :=
  ∀ (a : Act) (w : World), (∀ s, hasR l s = false → a.tmps.getD s undef = a0.tmps.getD s undef) → C w → depsA V l a w o.after.toList →
    match o.guard with
    | none => ∀ K : Act → World → Prop, (∀ v w', C w' → E w w' → V k w' v → K (a.put o.dst v) w') → o.wp P a w K Q
    | some _ => (Region.wanted o (yielded ops a.tmps) = true → ∀ K : Act → World → Prop, (∀ v w', C w' → E w w' → V k w' v → K (a.put o.dst v) w') → o.wp P a w K Q) ∧
        (Region.wanted o (yielded ops a.tmps) = false → V k w undef)
def stepsA (P : Program) (ops : Array Oper) (C : World → Prop) (E : World → World → Prop) (V : Nat → World → Value → Prop) (Q : Exit → Act → World → Prop) (h : List Oper) (a0 : Act) : List Oper → Nat → Prop
  | [], _ => True
  | o :: r, k => stepA P ops C E V Q h a0 k o ∧ stepsA P ops C E V Q h a0 r (k + 1)
def inB (l : List Oper) (n : Nat) : Bool := l.all fun o => match o.dst with | some d => decide (d < n) | none => true
theorem put_get_ne (a : Act) (d : Option Tmp) (v : Value) (s : Tmp) (h : d ≠ some s) : (a.put d v).tmps.getD s undef = a.tmps.getD s undef := by
  cases d with
  | none => rfl
  | some d =>
    have : d ≠ s := fun e => h (by rw [e])
    simp [Act.put, Array.getElem?_setIfInBounds, this]
theorem fillR_out (u : Nat → Value) (s : Tmp) : ∀ (l : List Oper) (k : Nat) (a : Act), hasR l s = false → (fillR u l k a).tmps.getD s undef = a.tmps.getD s undef
  | [], _, _, _ => rfl
  | o :: r, k, a, h => by
    simp only [hasR, List.any_cons, Bool.or_eq_false_iff, beq_eq_false_iff_ne] at h
    simp only [fillR]
    rw [fillR_out u s r (k + 1) _ h.2, put_get_ne _ _ _ _ h.1]
theorem fillR_in (u : Nat → Value) : ∀ (l : List Oper) (k i : Nat) (a : Act) (o : Oper) (d : Tmp), distinct l → l[i]? = some o → o.dst = some d → d < a.tmps.size → (fillR u l k a).tmps.getD d undef = u (k + i)
  | [], _, i, _, _, _, _, hi, _, _ => by simp at hi
  | x :: r, k, i, a, o, d, hd, hi, ho, hs => by
    cases i with
    | zero =>
      simp at hi
      subst hi
      simp only [fillR]
      have hn : hasR r d = false := by
        simp only [hasR, List.any_eq_false, beq_iff_eq]
        intro y hy he
        obtain ⟨j, hj⟩ := List.mem_iff_getElem?.1 hy
        exact hd 0 (j + 1) x y d rfl (by simpa using hj) (by omega) ho he
      rw [fillR_out u d r (k + 1) _ hn, ho]
      simp [Act.put, hs]
    | succ i =>
      simp only [fillR]
      rw [fillR_in u r (k + 1) i _ o d (distinct_tail hd) (by simpa using hi) ho (by cases x.dst <;> simpa [Act.put] using hs), show k + 1 + i = k + (i + 1) by omega]
theorem depsA_of {V : Nat → World → Value → Prop} {h : List Oper} {u : Nat → Value} {a0 : Act} {w : World} (hd : distinct h) (hin : inB h a0.tmps.size = true) :
    ∀ {l : List Edge}, (∀ e ∈ l, Region.binds .any e = true → ∃ o d, h[e.on]? = some o ∧ o.dst = some d) → depsR V u w l → depsA V h (fillR u h 0 a0) w l
  | [], _, _ => trivial
  | e :: r, hl, hr => by
    unfold depsR at hr
    unfold depsA
    have hrest := fun h' => depsA_of (V := V) (u := u) (w := w) hd hin (l := r) (fun e' he' => hl e' (List.mem_cons_of_mem _ he')) h'
    cases hb : Region.binds .any e with
    | false => rw [hb] at hr; exact hrest hr
    | true =>
      rw [hb] at hr
      refine ⟨?_, hrest hr.2⟩
      obtain ⟨o, d, ho, hod⟩ := hl e (List.mem_cons_self ..) hb
      have hsz : d < a0.tmps.size := by
        have := List.all_eq_true.1 hin o (List.mem_of_getElem? ho)
        rw [hod] at this
        simpa using this
      have := fillR_in u h 0 e.on a0 o d hd ho hod hsz
      rw [Nat.zero_add] at this
      simp only [slotR, ho, Option.bind_some, hod]
      rw [this]
      exact hr.1
def slotB (l : List Oper) : Bool := l.all fun o => o.after.all fun e => !Region.binds .any e || ((l[e.on]?).bind (·.dst)).isSome
theorem slotB_spec {l : List Oper} (h : slotB l = true) {i : Nat} {o : Oper} (hi : l[i]? = some o) : ∀ e ∈ o.after.toList, Region.binds .any e = true → ∃ o' d, l[e.on]? = some o' ∧ o'.dst = some d := by
  intro e he hb
  have h1 := List.all_eq_true.1 h o (List.mem_of_getElem? hi)
  have h2 := Array.all_eq_true'.1 h1 e (by simpa using he)
  rw [hb] at h2
  cases ho : l[e.on]? with
  | none => rw [ho] at h2; cases h2
  | some o' =>
    rw [ho] at h2
    cases hd : o'.dst with
    | none => simp [hd] at h2
    | some d => exact ⟨o', d, rfl, hd⟩
theorem stepsR_of {P : Program} {ops : Array Oper} {C : World → Prop} {E : World → World → Prop} {V : Nat → World → Value → Prop} {Q : Exit → Act → World → Prop} {h : List Oper} {a0 : Act} (hd : distinct h) (hin : inB h a0.tmps.size = true)
    (hsl : slotB h = true) : ∀ (l : List Oper) (k : Nat), (∀ i, l[i]? = h[k + i]?) → stepsA P ops C E V Q h a0 l k → stepsR P ops C E V Q (fun u => fillR u h 0 a0) l k
  | [], _, _, _ => trivial
  | o :: r, k, hl, hs => by
    have hi : h[k]? = some o := by simpa using (hl 0).symm
    refine ⟨fun u w hC hdep => ?_, stepsR_of hd hin hsl r (k + 1) (fun i => by have := hl (i + 1); rw [show k + 1 + i = k + (i + 1) by omega, ← this]; simp) hs.2⟩
    exact hs.1 (fillR u h 0 a0) w (fun s h1 => fillR_out u s h 0 a0 h1) hC (depsA_of hd hin (slotB_spec hsl hi) hdep)
theorem wp_region_acts {P : Program} {id : Nat} {l : List Oper} {Q : Exit → Act → World → Prop} {a0 : Act} {w0 : World} (N : Nat) (C : World → Prop) (E : World → World → Prop) (V : Nat → World → Value → Prop)
    (hm : P.follows .mixedOrders = true) (hB : (okR l N && slotB (l.take N)) = true) (hin : inB (l.take N) a0.tmps.size = true) (h0 : C w0.drew) (hR : ∀ w, C w → E w w) (hE : ∀ i w w' v, C w → C w' → E w w' → V i w v → V i w' v)
    (hstep : stepsA P l.toArray C E V Q (l.take N) a0 (l.take N) 0)
    (hend : ∀ u w, C w → allR V u w (l.take N) 0 → wpList P l.toArray Q (l.drop N) (fillR u (l.take N) 0 a0) w) : (Code.region id l.toArray true).wp P Q a0 w0 := by
  rw [Bool.and_eq_true] at hB
  refine wp_region_each N C E V hm hB.1 h0 hR hE (stepsR_of ?_ hin hB.2 _ 0 (fun i => by rw [Nat.zero_add]) hstep) hend
  have h1 := hB.1
  simp only [okR, Bool.and_eq_true] at h1
  exact distinct_of _ h1.1.1.1.1
def Gh := Nat → Option Value
def gh0 : Gh := fun _ => none
def Gh.upd (γ : Gh) (k : Nat) (v : Value) : Gh := fun i => if i = k then some v else γ i
theorem Gh.upd_self (γ : Gh) (k : Nat) (v : Value) : γ.upd k v k = some v := if_pos rfl
theorem Gh.upd_ne (γ : Gh) {k i : Nat} (v : Value) (h : i ≠ k) : γ.upd k v i = γ i := if_neg h
def noGuard (l : List Oper) : Bool := l.all fun o => o.guard.isNone
theorem noGuard_spec {l : List Oper} (h : noGuard l = true) {i : Nat} {o : Oper} (hi : l[i]? = some o) : o.guard = none := by
  have := List.all_eq_true.1 h o (List.mem_of_getElem? hi)
  simpa using this
def stepG (P : Program) (C : Gh → World → Prop) (E : Gh → World → Gh → World → Prop) (V : Nat → Gh → World → Value → Prop) (Q : Exit → Act → World → Prop) (fill : (Nat → Value) → Act) (k : Nat) (o : Oper) : Prop :=
  ∀ u γ w, C γ w → γ k = none → depsR (fun i w v => γ i = some v ∧ V i γ w v) u w o.after.toList →
    ∀ K : Act → World → Prop, (∀ v w', C (γ.upd k v) w' → E γ w (γ.upd k v) w' → V k (γ.upd k v) w' v → K ((fill u).put o.dst v) w') → o.wp P (fill u) w K Q
def stepsG (P : Program) (C : Gh → World → Prop) (E : Gh → World → Gh → World → Prop) (V : Nat → Gh → World → Value → Prop) (Q : Exit → Act → World → Prop) (fill : (Nat → Value) → Act) : List Oper → Nat → Prop
  | [], _ => True
  | o :: r, k => stepG P C E V Q fill k o ∧ stepsG P C E V Q fill r (k + 1)
def allG (γ : Gh) (u : Nat → Value) : List Oper → Nat → Prop
  | [], _ => True
  | _ :: r, k => γ k = some (u k) ∧ allG γ u r (k + 1)
theorem allG_spec {γ : Gh} {u : Nat → Value} : ∀ {l : List Oper} {k : Nat}, (∀ i, i < l.length → γ (k + i) = some (u (k + i))) → allG γ u l k
  | [], _, _ => trivial
  | _ :: r, k, h => ⟨by simpa using h 0 (by simp), allG_spec fun i hi => by have := h (i + 1) (by simp; omega); rwa [show k + (i + 1) = k + 1 + i by omega] at this⟩
theorem stepsG_spec {P : Program} {C : Gh → World → Prop} {E : Gh → World → Gh → World → Prop} {V : Nat → Gh → World → Value → Prop} {Q : Exit → Act → World → Prop} {fill : (Nat → Value) → Act} :
    ∀ {l : List Oper} {k : Nat}, stepsG P C E V Q fill l k → ∀ i o, l[i]? = some o → stepG P C E V Q fill (k + i) o
  | [], _, _, i, o, hi => by simp at hi
  | o :: r, k, h, i, o', hi => by
    cases i with
    | zero => simp at hi; subst hi; exact h.1
    | succ i =>
      have := stepsG_spec h.2 i o' (by simpa using hi)
      rw [show k + (i + 1) = k + 1 + i by omega]
      exact this
theorem wp_region_eachG {P : Program} {id : Nat} {l : List Oper} {Q : Exit → Act → World → Prop} {a0 : Act} {w0 : World} (N : Nat) (C : Gh → World → Prop) (E : Gh → World → Gh → World → Prop) (V : Nat → Gh → World → Value → Prop)
    (hm : P.follows .mixedOrders = true) (hB : okR l N = true) (hG : noGuard (l.take N) = true) (h0 : C gh0 w0.drew) (hE : ∀ i γ w k x w' v, C γ w → C (γ.upd k x) w' → E γ w (γ.upd k x) w' → γ k = none → γ i = some v → V i γ w v → V i (γ.upd k x) w' v)
    (hstep : stepsG P C E V Q (fun u => fillR u (l.take N) 0 a0) (l.take N) 0)
    (hend : ∀ γ u w, C γ w → allG γ u (l.take N) 0 → allR (fun i => V i γ) u w (l.take N) 0 → wpList P l.toArray Q (l.drop N) (fillR u (l.take N) 0 a0) w) : (Code.region id l.toArray true).wp P Q a0 w0 := by
  simp only [okR, Bool.and_eq_true, Bool.or_eq_true, decide_eq_true_eq] at hB
  obtain ⟨⟨⟨⟨hdst, hback⟩, hN⟩, htail⟩, hseq⟩ := hB
  have hdis := distinct_of _ hdst
  have htl : (l.take N).length = N := by rw [List.length_take]; omega
  have hsz : l.toArray.size = l.length := by simp
  have hget : ∀ i, i < N → (l.take N)[i]? = l.toArray[i]? := by
    intro i hi
    rw [List.getElem?_take_of_lt hi]; simp
  have key : ∀ (f : Nat) (listed : Array Bool) (u : Nat → Value) (γ : Gh) (w : World), HeadInv .any l.toArray N listed → leftR N listed = f → C γ w → (∀ i, i < N → listed.getD i false = true → γ i = some (u i) ∧ V i γ w (u i)) → (∀ i, i < N → listed.getD i false = false → γ i = none) →
      wpAny P .any l.toArray Q (f + (l.length - N)) listed (fillR u (l.take N) 0 a0) w := by
    intro f
    induction f using Nat.strongRecOn with
    | ind f ih =>
      intro listed u γ w inv hf hC hV hgn
      by_cases hf0 : f = 0
      · subst hf0
        have hall := leftR_zero hf
        have hlisted : listed = arrR N (l.length - N) := by
          apply Array.ext_getElem?
          intro i
          have hls := inv.size
          by_cases hi : i < N
          · have h1 := hall i hi
            have his : i < listed.size := by omega
            simp [his] at h1
            rw [Array.getElem?_eq_getElem his, h1, arrR_get, if_pos hi]
          · by_cases hi2 : i < l.length
            · have h1 := inv.tail i (by omega) (by omega)
              have his : i < listed.size := by omega
              simp [his] at h1
              rw [Array.getElem?_eq_getElem his, h1, arrR_get, if_neg hi, if_pos (by omega)]
            · rw [Array.getElem?_eq_none (by omega), arrR_get, if_neg hi, if_neg (by omega)]
        have hdl : (l.drop N).length = l.length - N := List.length_drop
        have := wpAny_of_seq (md := .any) (Q' := Q) (P := P) (l.drop N) N listed (fillR u (l.take N) 0 a0) w (fun j => by simp [List.getElem?_drop]) (by rw [hdl, hlisted]; exact hseq)
          (hend γ u w hC (allG_spec fun i hi => by rw [Nat.zero_add]; rw [htl] at hi; exact (hV i hi (hall i hi)).1) (allR_spec fun i hi => by rw [Nat.zero_add]; rw [htl] at hi; exact (hV i hi (hall i hi)).2))
        rw [Nat.zero_add, ← hdl]
        exact this
      · obtain ⟨f', rfl⟩ : ∃ f', f = f' + 1 := ⟨f - 1, by omega⟩
        have hex : ∃ i, i < N ∧ listed.getD i false = false := by
          rcases Classical.em (∃ i, i < N ∧ listed.getD i false = false) with h | h
          · exact h
          · exfalso
            apply hf0
            rw [← hf, leftR, List.length_eq_zero_iff, List.filter_eq_nil_iff]
            intro i hi
            have hi := List.mem_range.1 hi
            cases hl : listed.getD i false with
            | true => simp
            | false => exact absurd ⟨i, hi, hl⟩ h
        rw [show f' + 1 + (l.length - N) = (f' + (l.length - N)) + 1 by omega]
        refine ⟨fun hnil => ?_, fun i hi => ?_⟩
        · exfalso
          suffices hno : ∀ i, i < N → listed.getD i false = false → False by
            obtain ⟨i, hiN, hil⟩ := hex
            exact hno i hiN hil
          intro i
          induction i using Nat.strongRecOn with
          | ind i ihi =>
            intro hiN hil
            have hob : (l.take N)[i]? = some ((l.take N)[i]'(by omega)) := List.getElem?_eq_getElem (by omega)
            have hb := List.all_eq_true.1 hback i (List.mem_range.2 (by omega))
            rw [hob] at hb
            have hb' := Array.all_eq_true'.1 hb
            rcases Classical.em (∃ e ∈ ((l.take N)[i]'(by omega)).after, Region.binds .any e = true ∧ listed.getD e.on false = false) with h | h
            · obtain ⟨e, he, hbe, hle⟩ := h
              have hlt : e.on < i := by have := hb' e he; rw [hbe] at this; simpa using this
              exact ihi e.on hlt (by omega) hle
            · have : i ∈ Region.ready .any l.toArray listed := mem_ready.2 ⟨getD_in (by rw [inv.size]; omega) hil, _, by rw [← hget i hiN]; exact hob, fun e he hbe => by
                cases hl : listed.getD e.on false with
                | true => rfl
                | false => exact absurd ⟨e, he, hbe, hl⟩ h⟩
              rw [hnil] at this
              cases this
        · have hiN : i < N := by
            rcases htail with h | h
            · obtain ⟨_, o, ho, _⟩ := mem_ready.1 hi
              have := (Array.getElem?_eq_some_iff.1 ho).1
              omega
            · rcases Nat.lt_or_ge i N with h1 | h1
              · exact h1
              · obtain ⟨i0, hi0, hl0⟩ := hex
                exact absurd hi (tail_waits h.1.2 h.2 (by rw [hsz]; exact h.1.1) inv _ i0 rfl hi0 (getD_in (by rw [inv.size]; omega) hl0) i h1)
          obtain ⟨hun, o, ho, hdep⟩ := mem_ready.1 hi
          have hol : (l.take N)[i]? = some o := by rw [hget i hiN]; exact ho
          have hlt : ∀ e ∈ o.after, Region.binds .any e = true → e.on < i := by
            intro e he hbe
            have hb := List.all_eq_true.1 hback i (List.mem_range.2 (by omega))
            rw [hol] at hb
            have := Array.all_eq_true'.1 hb e he
            rw [hbe] at this
            simpa using this
          have hgi : γ i = none := hgn i hiN (by
            have hun2 := hun
            simp only [Array.getD_eq_getD_getElem?] at hun2 ⊢
            cases h : listed[i]? with
            | none => rfl
            | some b => rw [h] at hun2; simpa using hun2)
          have hS := stepsG_spec hstep i o hol u γ w hC (by rw [Nat.zero_add]; exact hgi) (depsR_spec (V := fun i w v => γ i = some v ∧ V i γ w v) fun e he hbe => hV e.on (by have := hlt e (by simpa using he) hbe; omega) (hdep e (by simpa using he) hbe))
          rw [Nat.zero_add] at hS
          have next : ∀ v w', C (γ.upd i v) w' → E γ w (γ.upd i v) w' → V i (γ.upd i v) w' v → wpAny P .any l.toArray Q (f' + (l.length - N)) (listed.setIfInBounds i true) ((fillR u (l.take N) 0 a0).put o.dst v) w' := by
            intro v w' hC' hE' hVi
            rw [fillR_at u v (l.take N) 0 i a0 o hdis hol, Nat.zero_add]
            have hinv := inv.set hi hiN
            have hleft := leftR_set hiN hun
            have hV' : ∀ j, j < N → (listed.setIfInBounds i true).getD j false = true → (γ.upd i v) j = some ((fun j => if j = i then v else u j) j) ∧ V j (γ.upd i v) w' ((fun j => if j = i then v else u j) j) := by
              intro j hj hjl
              by_cases hji : j = i
              · subst hji; simpa [Gh.upd] using hVi
              · simp only [if_neg hji]
                rw [getD_set_ne false (Ne.symm hji)] at hjl
                obtain ⟨k1, k2⟩ := hV j hj hjl
                exact ⟨by simp only [Gh.upd, if_neg hji]; exact k1, hE j γ w i v w' _ hC hC' hE' hgi k1 k2⟩
            have hgn' : ∀ j, j < N → (listed.setIfInBounds i true).getD j false = false → (γ.upd i v) j = none := by
              intro j hj hjl
              by_cases hji : j = i
              · subst hji; rw [Array.getD_eq_getD_getElem?, Array.getElem?_setIfInBounds_self_of_lt (by rw [inv.size]; omega)] at hjl; cases hjl
              · rw [getD_set_ne false (Ne.symm hji)] at hjl
                simp only [Gh.upd, if_neg hji]
                exact hgn j hj hjl
            have hle : leftR N (listed.setIfInBounds i true) ≤ f' := by omega
            have hge : f' ≤ leftR N (listed.setIfInBounds i true) := by
              have : leftR N listed ≤ leftR N (listed.setIfInBounds i true) + 1 := by
                unfold leftR
                have hcount : ∀ m, ((List.range m).filter fun j => !listed.getD j false).length ≤ ((List.range m).filter fun j => !(listed.setIfInBounds i true).getD j false).length + (if i < m then 1 else 0) := by
                  intro m
                  induction m with
                  | zero => simp
                  | succ m ihm =>
                    rw [List.range_succ, List.filter_append, List.filter_append, List.length_append, List.length_append]
                    by_cases hmi : m = i
                    · subst hmi
                      have h1 : (List.filter (fun j => !listed.getD j false) [m]).length ≤ 1 := by
                        exact Nat.le_trans (List.length_filter_le _ _) (by simp)
                      rw [if_neg (by omega)] at ihm
                      rw [if_pos (by omega)]
                      omega
                    · have h1 : (List.filter (fun j => !(listed.setIfInBounds i true).getD j false) [m]) = (List.filter (fun j => !listed.getD j false) [m]) := by
                        simp only [List.filter_cons, List.filter_nil]
                        rw [getD_set_ne false (Ne.symm hmi)]
                      rw [h1]
                      split at ihm <;> split <;> omega
                have := hcount N
                split at this <;> omega
              omega
            have hex' : leftR N (listed.setIfInBounds i true) = f' := Nat.le_antisymm hle hge
            exact ih f' (by omega) (listed.setIfInBounds i true) _ _ w' hinv hex' hC' hV' hgn'
          unfold wpOp
          simp only [ho]
          have hg : o.guard = none := noGuard_spec hG hol
          rw [if_pos (by simp [Region.wanted, hg])]
          exact .inl (hS _ next)
  refine wp_region_any hm ?_
  have inv0 : HeadInv .any l.toArray N (Array.replicate l.toArray.size false) :=
    ⟨by simp, fun j oj _ hl => (by rw [getD_replicate_false] at hl; cases hl), fun t _ ht => getD_in (by simpa using ht) (getD_replicate_false _ _)⟩
  have hleft0 : leftR N (Array.replicate l.toArray.size false) = N := by
    unfold leftR
    rw [List.filter_eq_self.2 (fun i _ => by rw [getD_replicate_false]; rfl), List.length_range]
  obtain ⟨u0, hid⟩ : ∃ u0, fillR u0 (l.take N) 0 a0 = a0 :=
    ⟨fun i => match ((l.take N)[i]?).bind (·.dst) with | some d => a0.tmps.getD d undef | none => undef, fillR_id _ 0 a0 _ hdis (fun i o d hi ho => by simp [hi, ho])⟩
  have hk := key N (Array.replicate l.toArray.size false) u0 gh0 { w0 with drawn := w0.drawn + 1 } inv0 hleft0 h0 (fun i _ hl => by rw [getD_replicate_false] at hl; cases hl) (fun _ _ _ => rfl)
  rw [hid, show N + (l.length - N) = l.toArray.size by rw [hsz]; omega] at hk
  exact hk
def stepAG (P : Program) (C : Gh → World → Prop) (E : Gh → World → Gh → World → Prop) (V : Nat → Gh → World → Value → Prop) (Q : Exit → Act → World → Prop) (l : List Oper) (a0 : Act) (k : Nat) (o : Oper) : Prop :=
  ∀ (a : Act) (γ : Gh) (w : World), (∀ s, hasR l s = false → a.tmps.getD s undef = a0.tmps.getD s undef) → C γ w → γ k = none → depsA (fun i w v => γ i = some v ∧ V i γ w v) l a w o.after.toList →
    ∀ K : Act → World → Prop, (∀ v w', C (γ.upd k v) w' → E γ w (γ.upd k v) w' → V k (γ.upd k v) w' v → K (a.put o.dst v) w') → o.wp P a w K Q
def stepsAG (P : Program) (C : Gh → World → Prop) (E : Gh → World → Gh → World → Prop) (V : Nat → Gh → World → Value → Prop) (Q : Exit → Act → World → Prop) (h : List Oper) (a0 : Act) : List Oper → Nat → Prop
  | [], _ => True
  | o :: r, k => stepAG P C E V Q h a0 k o ∧ stepsAG P C E V Q h a0 r (k + 1)
theorem stepsG_of {P : Program} {C : Gh → World → Prop} {E : Gh → World → Gh → World → Prop} {V : Nat → Gh → World → Value → Prop} {Q : Exit → Act → World → Prop} {h : List Oper} {a0 : Act} (hd : distinct h) (hin : inB h a0.tmps.size = true)
    (hsl : slotB h = true) : ∀ (l : List Oper) (k : Nat), (∀ i, l[i]? = h[k + i]?) → stepsAG P C E V Q h a0 l k → stepsG P C E V Q (fun u => fillR u h 0 a0) l k
  | [], _, _, _ => trivial
  | o :: r, k, hl, hs => by
    have hi : h[k]? = some o := by simpa using (hl 0).symm
    refine ⟨fun u γ w hC hk hdep => ?_, stepsG_of hd hin hsl r (k + 1) (fun i => by have := hl (i + 1); rw [show k + 1 + i = k + (i + 1) by omega, ← this]; simp) hs.2⟩
    exact hs.1 (fillR u h 0 a0) γ w (fun s h1 => fillR_out u s h 0 a0 h1) hC hk (depsA_of hd hin (slotB_spec hsl hi) hdep)
theorem wp_region_ghost {P : Program} {id : Nat} {l : List Oper} {Q : Exit → Act → World → Prop} {a0 : Act} {w0 : World} (N : Nat) (C : Gh → World → Prop) (E : Gh → World → Gh → World → Prop) (V : Nat → Gh → World → Value → Prop)
    (hm : P.follows .mixedOrders = true) (hB : (okR l N && slotB (l.take N) && noGuard (l.take N)) = true) (hin : inB (l.take N) a0.tmps.size = true) (h0 : C gh0 w0.drew)
    (hE : ∀ i γ w k x w' v, C γ w → C (γ.upd k x) w' → E γ w (γ.upd k x) w' → γ k = none → γ i = some v → V i γ w v → V i (γ.upd k x) w' v)
    (hstep : stepsAG P C E V Q (l.take N) a0 (l.take N) 0)
    (hend : ∀ γ u w, C γ w → allG γ u (l.take N) 0 → allR (fun i => V i γ) u w (l.take N) 0 → wpList P l.toArray Q (l.drop N) (fillR u (l.take N) 0 a0) w) : (Code.region id l.toArray true).wp P Q a0 w0 := by
  rw [Bool.and_eq_true, Bool.and_eq_true] at hB
  refine wp_region_eachG N C E V hm hB.1.1 hB.2 h0 hE (stepsG_of ?_ hin hB.1.2 _ 0 (fun i => by rw [Nat.zero_add]) hstep) hend
  have h1 := hB.1.1
  simp only [okR, Bool.and_eq_true] at h1
  exact distinct_of _ h1.1.1.1.1
end Go.Proofs.YthkpghhoffihmaaGreatDoor
end
section
namespace Go.Proofs.YthkpghhoffihmaaGreatDoor
section
def val : List Nat → Nat
  | [] => 0
  | x :: r => x + 4294967296 * val r
def Wf (xs : List Nat) : Prop := ∀ x ∈ xs, x < 4294967296
def trim : List Nat → List Nat
  | [] => []
  | x :: r => match trim r with
    | [] => if x = 0 then [] else [x]
    | s => x :: s
def dig (n : Nat) : List Nat := if n = 0 then [] else (n % 4294967296) :: dig (n / 4294967296)
  termination_by n
  decreasing_by omega
theorem dig_zero : dig 0 = [] := by rw [dig]; simp
theorem dig_pos (n : Nat) (h : 0 < n) : dig n = (n % 4294967296) :: dig (n / 4294967296) := by rw [dig, if_neg (by omega)]
theorem Wf.nil : Wf [] := by intro x h; cases h
theorem Wf.cons {x : Nat} {r : List Nat} (h : x < 4294967296) (hr : Wf r) : Wf (x :: r) := by
  intro y hy
  rcases List.mem_cons.1 hy with rfl | hy
  · exact h
  · exact hr y hy
theorem Wf.head {x : Nat} {r : List Nat} (h : Wf (x :: r)) : x < 4294967296 := h x (List.mem_cons_self ..)
theorem Wf.tail {x : Nat} {r : List Nat} (h : Wf (x :: r)) : Wf r := fun y hy => h y (List.mem_cons_of_mem _ hy)
theorem Wf.append {xs ys : List Nat} (h : Wf xs) (k : Wf ys) : Wf (xs ++ ys) := by
  intro y hy
  rcases List.mem_append.1 hy with hy | hy
  · exact h y hy
  · exact k y hy
theorem Wf.left {xs ys : List Nat} (h : Wf (xs ++ ys)) : Wf xs := fun y hy => h y (List.mem_append_left _ hy)
theorem Wf.right {xs ys : List Nat} (h : Wf (xs ++ ys)) : Wf ys := fun y hy => h y (List.mem_append_right _ hy)
theorem Wf.snoc {xs : List Nat} {x : Nat} (h : Wf xs) (k : x < 4294967296) : Wf (xs ++ [x]) := h.append (Wf.cons k Wf.nil)
theorem Wf.take {xs : List Nat} (h : Wf xs) (k : Nat) : Wf (xs.take k) := fun y hy => h y (List.mem_of_mem_take hy)
theorem Wf.drop {xs : List Nat} (h : Wf xs) (k : Nat) : Wf (xs.drop k) := fun y hy => h y (List.mem_of_mem_drop hy)
theorem Wf.zeros (k : Nat) : Wf (List.replicate k 0) := by
  intro y hy
  have := (List.mem_replicate.1 hy).2
  omega
theorem getD_in {xs : List Nat} {i : Nat} (h : i < xs.length) : xs.getD i 0 = xs[i] := by simp [List.getD, h]
theorem getD_out {xs : List Nat} {i : Nat} (h : xs.length ≤ i) : xs.getD i 0 = 0 := by simp [List.getD, h]
theorem Wf.getD {xs : List Nat} (h : Wf xs) (i : Nat) : xs.getD i 0 < 4294967296 := by
  rcases Nat.lt_or_ge i xs.length with hi | hi
  · rw [getD_in hi]; exact h _ (List.getElem_mem hi)
  · rw [getD_out hi]; omega
theorem Wf.get? {xs : List Nat} (h : Wf xs) (i : Nat) : xs[i]?.getD 0 < 4294967296 := by
  have := h.getD i
  simpa using this
theorem val_append (xs ys : List Nat) : val (xs ++ ys) = val xs + 4294967296 ^ xs.length * val ys := by
  induction xs with
  | nil => simp [val]
  | cons x r ih =>
    simp only [List.cons_append, val, ih, List.length_cons, Nat.pow_succ]
    generalize 4294967296 ^ r.length = p
    rw [Nat.mul_add, Nat.add_assoc, Nat.mul_comm p 4294967296, Nat.mul_assoc]
theorem val_snoc (xs : List Nat) (x : Nat) : val (xs ++ [x]) = val xs + 4294967296 ^ xs.length * x := by
  rw [val_append]; simp [val]
theorem val_lt (xs : List Nat) (h : Wf xs) : val xs < 4294967296 ^ xs.length := by
  induction xs with
  | nil => simp [val]
  | cons x r ih =>
    have h1 := ih h.tail
    have h2 := h.head
    simp only [val, List.length_cons, Nat.pow_succ]
    generalize 4294967296 ^ r.length = p at *
    omega
theorem val_zeros (k : Nat) : val (List.replicate k 0) = 0 := by
  induction k with
  | zero => rfl
  | succ k ih => rw [List.replicate_succ, val, ih]
theorem val_take_succ (xs : List Nat) (k : Nat) (h : k < xs.length) : val (xs.take (k + 1)) = val (xs.take k) + 4294967296 ^ k * xs.getD k 0 := by
  rw [List.take_succ_eq_append_getElem h, val_snoc, List.length_take, Nat.min_eq_left (Nat.le_of_lt h), getD_in h]
theorem val_take_step (xs : List Nat) (k : Nat) : val (xs.take (k + 1)) = val (xs.take k) + 4294967296 ^ k * xs.getD k 0 := by
  rcases Nat.lt_or_ge k xs.length with h | h
  · exact val_take_succ xs k h
  · rw [List.take_of_length_le (by omega), List.take_of_length_le h, getD_out h]; omega
theorem val_take_all (xs : List Nat) (k : Nat) (h : xs.length ≤ k) : val (xs.take k) = val xs := by rw [List.take_of_length_le h]
theorem val_take_drop (xs : List Nat) (k : Nat) (h : k ≤ xs.length) : val xs = val (xs.take k) + 4294967296 ^ k * val (xs.drop k) := by
  have := val_append (xs.take k) (xs.drop k)
  rw [List.take_append_drop, List.length_take, Nat.min_eq_left h] at this
  exact this
theorem trim_snoc_zero (xs : List Nat) : trim (xs ++ [0]) = trim xs := by
  induction xs with
  | nil => rfl
  | cons x r ih => simp only [List.cons_append, trim, ih]
theorem trim_snoc_pos (xs : List Nat) (x : Nat) (h : x ≠ 0) : trim (xs ++ [x]) = xs ++ [x] := by
  induction xs with
  | nil => simp [trim, h]
  | cons y r ih =>
    simp only [List.cons_append, trim, ih]
    split
    · rename_i h2; simp at h2
    · rfl
theorem val_trim (xs : List Nat) : val (trim xs) = val xs := by
  induction xs with
  | nil => rfl
  | cons x r ih =>
    rw [trim]
    split
    · rename_i h
      rw [h] at ih
      simp only [val] at ih ⊢
      split
      · rename_i hx; subst hx; simp only [val]; omega
      · simp only [val]; omega
    · rename_i h
      simp only [val]; rw [ih]
theorem trim_prefix (xs : List Nat) : ∃ k, xs = trim xs ++ List.replicate k 0 := by
  induction xs with
  | nil => exact ⟨0, rfl⟩
  | cons x r ih =>
    obtain ⟨k, hk⟩ := ih
    rw [trim]
    split
    · rename_i h
      rw [h] at hk
      split
      · rename_i hx; subst hx; exact ⟨k + 1, by rw [List.nil_append] at hk ⊢; rw [List.replicate_succ, ← hk]⟩
      · exact ⟨k, by rw [List.nil_append] at hk; rw [List.singleton_append, ← hk]⟩
    · rename_i h
      exact ⟨k, by rw [List.cons_append, ← hk]⟩
theorem trim_length_le (xs : List Nat) : (trim xs).length ≤ xs.length := by
  obtain ⟨k, hk⟩ := trim_prefix xs
  have := congrArg List.length hk
  rw [List.length_append] at this
  omega
theorem trim_eq_take (xs : List Nat) : trim xs = xs.take (trim xs).length := by
  obtain ⟨k, hk⟩ := trim_prefix xs
  have h : xs.take (trim xs).length = (trim xs ++ List.replicate k 0).take (trim xs).length := congrArg _ hk
  rw [h, List.take_left]
theorem trim_nil_iff (xs : List Nat) : trim xs = [] ↔ val xs = 0 := by
  constructor
  · intro h; rw [← val_trim, h]; rfl
  · intro h
    induction xs with
    | nil => rfl
    | cons x r ih =>
      simp only [val] at h
      rw [trim, ih (by omega)]
      simp; omega
theorem val_dig (n : Nat) : val (dig n) = n := by
  induction n using Nat.strongRecOn with
  | ind n ih =>
    rw [dig]
    split
    · rename_i h; simp [val, h]
    · rename_i h; rw [val, ih (n / 4294967296) (by omega)]; omega
theorem Wf_dig (n : Nat) : Wf (dig n) := by
  induction n using Nat.strongRecOn with
  | ind n ih =>
    rw [dig]
    split
    · exact Wf.nil
    · exact Wf.cons (by omega) (ih _ (by omega))
theorem dig_nil_iff (n : Nat) : dig n = [] ↔ n = 0 := by
  constructor
  · intro h; have := val_dig n; rw [h] at this; exact this.symm
  · rintro rfl; exact dig_zero
theorem dig_val (xs : List Nat) (h : Wf xs) : dig (val xs) = trim xs := by
  induction xs with
  | nil => rw [val, dig_zero]; rfl
  | cons x r ih =>
    have hx := h.head
    have ih := ih h.tail
    rw [val, trim]
    by_cases h0 : val r = 0
    · have hr := (trim_nil_iff r).2 h0
      rw [hr, h0]
      by_cases hx0 : x = 0
      · subst hx0; rw [dig]; simp
      · simp only [if_neg hx0]
        rw [dig_pos _ (by omega)]
        have e1 : (x + 4294967296 * 0) % 4294967296 = x := by omega
        have e2 : (x + 4294967296 * 0) / 4294967296 = 0 := by omega
        rw [e1, e2, dig_zero]
    · have hr : trim r ≠ [] := fun h1 => h0 ((trim_nil_iff r).1 h1)
      rw [dig_pos _ (by omega)]
      have e1 : (x + 4294967296 * val r) % 4294967296 = x := by omega
      have e2 : (x + 4294967296 * val r) / 4294967296 = val r := by omega
      rw [e1, e2, ih]
      split
      · rename_i h2; exact absurd h2 hr
      · rfl
theorem trim_dig (n : Nat) : trim (dig n) = dig n := by
  have := dig_val (dig n) (Wf_dig n)
  rw [val_dig] at this
  exact this.symm
theorem dig_of (xs : List Nat) (n : Nat) (h : Wf xs) (hv : val xs = n) : trim xs = dig n := by rw [← hv]; exact (dig_val xs h).symm
theorem dig_lt (n : Nat) : n < 4294967296 ^ (dig n).length := by
  have := val_lt (dig n) (Wf_dig n)
  rw [val_dig] at this
  exact this
theorem dig_len_le (n k : Nat) (h : n < 4294967296 ^ k) : (dig n).length ≤ k := by
  induction k generalizing n with
  | zero => rw [Nat.pow_zero] at h; have : n = 0 := by omega
            subst this; rw [dig_zero]; exact Nat.le_refl _
  | succ k ih =>
    rw [dig]
    split
    · simp
    · rw [List.length_cons]
      refine Nat.succ_le_succ (ih _ ?_)
      rw [Nat.pow_succ] at h
      generalize 4294967296 ^ k = p at *
      omega
theorem dig_len_ge (n : Nat) (h : 0 < n) : 4294967296 ^ ((dig n).length - 1) ≤ n := by
  induction n using Nat.strongRecOn with
  | ind n ih =>
    rw [dig_pos n h, List.length_cons, Nat.add_sub_cancel]
    by_cases h0 : n / 4294967296 = 0
    · rw [h0, dig_zero]; simp; omega
    · have := ih (n / 4294967296) (by omega) (by omega)
      have hl : 0 < (dig (n / 4294967296)).length := by
        rw [dig_pos _ (by omega)]; simp
      have e : (dig (n / 4294967296)).length = ((dig (n / 4294967296)).length - 1) + 1 := by omega
      rw [e, Nat.pow_succ]
      generalize 4294967296 ^ ((dig (n / 4294967296)).length - 1) = p at *
      omega
theorem dig_len_mono (n m : Nat) (h : n ≤ m) : (dig n).length ≤ (dig m).length := dig_len_le n _ (Nat.lt_of_le_of_lt h (dig_lt m))
theorem dig_len_lt (n m : Nat) (h : (dig n).length < (dig m).length) : n < m := by
  rcases Nat.lt_or_ge n m with h1 | h1
  · exact h1
  · have := dig_len_mono m n h1; omega
theorem val_cmp_step (xs ys : List Nat) (k : Nat) (hx : Wf xs) (hxl : k < xs.length) (hyl : k < ys.length) (h : xs.getD k 0 < ys.getD k 0) :
    val (xs.take (k + 1)) < val (ys.take (k + 1)) := by
  rw [val_take_succ xs k hxl, val_take_succ ys k hyl]
  have h1 := val_lt (xs.take k) (hx.take k)
  rw [List.length_take, Nat.min_eq_left (Nat.le_of_lt hxl)] at h1
  generalize 4294967296 ^ k = p at *
  generalize xs.getD k 0 = a at *
  generalize ys.getD k 0 = b at *
  have : p * (a + 1) ≤ p * b := Nat.mul_le_mul_left p h
  rw [Nat.mul_add] at this
  omega
def cmpN (n m : Nat) : Int := if n < m then -1 else if m < n then 1 else 0
theorem val_lt_of (xs ys : List Nat) (k : Nat) (hx : Wf xs) (hl : xs.length = ys.length) (hk : k < xs.length) (h : xs.getD k 0 < ys.getD k 0) (hs : ∀ j, k < j → j < xs.length → xs.getD j 0 = ys.getD j 0) :
    val xs < val ys := by
  have h1 := val_cmp_step xs ys k hx hk (by omega) h
  rw [val_take_drop xs (k + 1) (by omega), val_take_drop ys (k + 1) (by omega)]
  have : xs.drop (k + 1) = ys.drop (k + 1) := by
    apply List.ext_getElem (by simp; omega)
    intro i a b
    simp only [List.length_drop] at a b
    rw [List.getElem_drop, List.getElem_drop, ← getD_in (by omega), ← getD_in (by omega)]
    exact hs _ (by omega) (by omega)
  rw [this]
  omega
theorem val_eq_of_same (xs ys : List Nat) (hl : xs.length = ys.length) (h : ∀ i, i < xs.length → xs.getD i 0 = ys.getD i 0) : xs = ys := by
  apply List.ext_getElem hl
  intro i h1 h2
  have := h i h1
  rw [getD_in h1, getD_in h2] at this
  exact this
theorem more_val (xs ys zs : List Nat) (k d s : Nat) (hz : zs.length = k) (hv : val zs + 4294967296 ^ k * d = val (xs.take k) + val (ys.take k)) (hs : s = d + xs.getD k 0 + ys.getD k 0) :
    val (zs ++ [s % 4294967296]) + 4294967296 ^ (k + 1) * (s / 4294967296) = val (xs.take (k + 1)) + val (ys.take (k + 1)) := by
  rw [val_snoc, hz, val_take_step xs k, val_take_step ys k]
  have h1 : 4294967296 ^ k * (s % 4294967296) + 4294967296 ^ (k + 1) * (s / 4294967296) = 4294967296 ^ k * s := by
    rw [Nat.pow_succ, Nat.mul_assoc, ← Nat.mul_add, Nat.mod_add_div]
  rw [hs, Nat.mul_add, Nat.mul_add] at h1
  rw [← hs] at h1
  omega
theorem less_val (xs ys zs : List Nat) (k d z d' : Nat) (hz : zs.length = k) (hv : val zs + val (ys.take k) = val (xs.take k) + 4294967296 ^ k * d) (hs : z + (d + ys.getD k 0) = xs.getD k 0 + 4294967296 * d') :
    val (zs ++ [z]) + val (ys.take (k + 1)) = val (xs.take (k + 1)) + 4294967296 ^ (k + 1) * d' := by
  rw [val_snoc, hz, val_take_step xs k, val_take_step ys k]
  have h1 : 4294967296 ^ k * (z + (d + ys.getD k 0)) = 4294967296 ^ k * (xs.getD k 0 + 4294967296 * d') := by rw [hs]
  rw [Nat.pow_succ, Nat.mul_assoc]
  simp only [Nat.mul_add] at h1
  omega
theorem less_end (xs ys zs : List Nat) (n d : Nat) (hz : Wf zs) (hzl : zs.length = n) (hv : val zs + val ys = val xs + 4294967296 ^ n * d) (hle : val ys ≤ val xs) (hd : d ≤ 1) : val zs = val xs - val ys := by
  have h := val_lt zs hz
  rw [hzl] at h
  rcases Nat.eq_zero_or_pos d with rfl | h1
  · omega
  · obtain rfl : d = 1 := by omega
    omega
theorem val_set (xs : List Nat) (j z : Nat) (h : j < xs.length) : val (xs.set j z) + 4294967296 ^ j * xs.getD j 0 = val xs + 4294967296 ^ j * z := by
  induction xs generalizing j with
  | nil => simp at h
  | cons x r ih =>
    cases j with
    | zero => simp [val, List.set]; omega
    | succ j =>
      have := ih j (by simpa using h)
      simp only [List.set_cons_succ, val, Nat.pow_succ, List.getD_cons_succ]
      rw [Nat.mul_comm (4294967296 ^ j) 4294967296, Nat.mul_assoc, Nat.mul_assoc]
      omega
theorem prod_val (os os' ys : List Nat) (i k c x s : Nat) (hj : i + k < os'.length) (hv : val os' + 4294967296 ^ (i + k) * c = val os + 4294967296 ^ i * (x * val (ys.take k))) (hs : s = c + (x * ys.getD k 0 + os'.getD (i + k) 0)) :
    val (os'.set (i + k) (s % 4294967296)) + 4294967296 ^ (i + (k + 1)) * (s / 4294967296) = val os + 4294967296 ^ i * (x * val (ys.take (k + 1))) := by
  have h1 := val_set os' (i + k) (s % 4294967296) hj
  have h2 : 4294967296 ^ (i + k) * (s % 4294967296) + 4294967296 ^ (i + (k + 1)) * (s / 4294967296) = 4294967296 ^ (i + k) * s := by
    rw [← Nat.add_assoc, Nat.pow_succ, Nat.mul_assoc, ← Nat.mul_add, Nat.mod_add_div]
  have h3 : 4294967296 ^ i * (x * val (ys.take (k + 1))) = 4294967296 ^ i * (x * val (ys.take k)) + 4294967296 ^ (i + k) * (x * ys.getD k 0) := by
    rw [val_take_step, Nat.mul_add, Nat.mul_add, Nat.pow_add, Nat.mul_left_comm x, Nat.mul_assoc]
  rw [hs, Nat.mul_add, Nat.mul_add] at h2
  rw [← hs] at h2
  omega
theorem prod_end (os os' xs ys : List Nat) (i c : Nat) (hj : i + ys.length < os'.length) (h0 : os'.getD (i + ys.length) 0 = 0) (ho : val os = val (xs.take i) * val ys)
    (hv : val os' + 4294967296 ^ (i + ys.length) * c = val os + 4294967296 ^ i * (xs.getD i 0 * val ys)) : val (os'.set (i + ys.length) c) = val (xs.take (i + 1)) * val ys := by
  have h1 := val_set os' (i + ys.length) c hj
  rw [h0] at h1
  rw [val_take_step, Nat.add_mul, Nat.mul_assoc]
  omega
theorem mul_word (x y : Nat) (hx : x < 4294967296) (hy : y < 4294967296) : x * y ≤ 18446744065119617025 := Nat.mul_le_mul (Nat.le_of_lt_succ hx) (Nat.le_of_lt_succ hy)
theorem or_add (c x s : Nat) (h : c < 2 ^ s) : c ||| (x * 2 ^ s) = c + x * 2 ^ s := by
  have := Nat.shiftLeft_add_eq_or_of_lt h x
  rw [Nat.shiftLeft_eq] at this
  rw [Nat.or_comm, ← this, Nat.add_comm]
theorem mul_two_pow_lt (x s : Nat) (hx : x < 4294967296) (hs : s ≤ 32) : x * 2 ^ s + 2 ^ s ≤ 18446744073709551616 := by
  have h1 : 2 ^ s ≤ 2 ^ 32 := Nat.pow_le_pow_right (by omega) hs
  have h2 : (x + 1) * 2 ^ s ≤ 4294967296 * 2 ^ 32 := Nat.mul_le_mul hx h1
  rw [Nat.add_mul] at h2
  omega
theorem left_carry (x s c : Nat) (hx : x < 4294967296) (hs : s ≤ 32) (hc : c < 2 ^ s) : (c + x * 2 ^ s) / 4294967296 < 2 ^ s := by
  have h : c + x * 2 ^ s < 4294967296 * 2 ^ s := by
    have : (x + 1) * 2 ^ s ≤ 4294967296 * 2 ^ s := Nat.mul_le_mul_right _ hx
    rw [Nat.add_mul] at this
    omega
  exact Nat.div_lt_of_lt_mul h
theorem left_val (xs ys : List Nat) (k d s t : Nat) (hy : ys.length = k) (hv : val ys + 4294967296 ^ k * d = val (xs.take k) * 2 ^ s) (ht : t = d + xs.getD k 0 * 2 ^ s) :
    val (ys ++ [t % 4294967296]) + 4294967296 ^ (k + 1) * (t / 4294967296) = val (xs.take (k + 1)) * 2 ^ s := by
  rw [val_snoc, hy, val_take_step, Nat.add_mul]
  have h1 : 4294967296 ^ k * (t % 4294967296) + 4294967296 ^ (k + 1) * (t / 4294967296) = 4294967296 ^ k * t := by
    rw [Nat.pow_succ, Nat.mul_assoc, ← Nat.mul_add, Nat.mod_add_div]
  rw [ht, Nat.mul_add, ← Nat.mul_assoc] at h1
  rw [← ht] at h1
  omega
theorem pow_words (n : Nat) : 4294967296 ^ (n / 32) * 2 ^ (n % 32) = 2 ^ n := by
  have : (4294967296 : Nat) = 2 ^ 32 := by decide
  rw [this, ← Nat.pow_mul, ← Nat.pow_add, Nat.div_add_mod]
theorem left_end (xs ys : List Nat) (n d : Nat) (hv : val ys + 4294967296 ^ ys.length * d = val xs * 2 ^ (n % 32)) :
    val (List.replicate (n / 32) 0 ++ (ys ++ [d])) = val xs * 2 ^ n := by
  rw [val_append, val_zeros, List.length_replicate, val_snoc, hv, Nat.zero_add, Nat.mul_left_comm, pow_words]
def shrL (s : Nat) (ys : List Nat) : List Nat := (List.range ys.length).map fun i => ((ys.getD i 0 + 4294967296 * ys.getD (i + 1) 0) / 2 ^ s) % 4294967296
theorem shrL_length (s : Nat) (ys : List Nat) : (shrL s ys).length = ys.length := by simp [shrL]
theorem shrL_take (s : Nat) (ys : List Nat) (k : Nat) (h : k < ys.length) :
    (shrL s ys).take (k + 1) = (shrL s ys).take k ++ [((ys.getD k 0 + 4294967296 * ys.getD (k + 1) 0) / 2 ^ s) % 4294967296] := by
  rw [List.take_succ_eq_append_getElem (by rw [shrL_length]; exact h)]
  simp [shrL]
theorem shr_step (y V y1 V1 s : Nat) (hy : y < 4294967296) (hs : s < 32) (hV : V = y1 + 4294967296 * V1) : (y + 4294967296 * V) / 2 ^ s = ((y + 4294967296 * y1) / 2 ^ s) % 4294967296 + 4294967296 * (V / 2 ^ s) := by
  obtain ⟨t, ht⟩ : ∃ t, 4294967296 = 2 ^ s * t := ⟨2 ^ (32 - s), by rw [← Nat.pow_add, show s + (32 - s) = 32 by omega]⟩
  have hp := Nat.two_pow_pos s
  have ht' : t * 2 ^ s = 4294967296 := by rw [Nat.mul_comm]; exact ht.symm
  have e1 : ∀ Z, (y + 4294967296 * Z) / 2 ^ s = y / 2 ^ s + t * Z := by
    intro Z
    rw [ht, Nat.mul_assoc, Nat.add_mul_div_left _ _ hp]
  have hc : y / 2 ^ s < t := by
    rw [Nat.div_lt_iff_lt_mul hp, Nat.mul_comm, ← ht]; exact hy
  rw [e1, e1]
  have hm : y1 % 2 ^ s = V % 2 ^ s := by
    rw [hV, ht, Nat.mul_assoc, Nat.add_mul_mod_self_left]
  have h1 : y / 2 ^ s + t * y1 = (y / 2 ^ s + t * (y1 % 2 ^ s)) + 4294967296 * (y1 / 2 ^ s) := by
    have := Nat.mod_add_div y1 (2 ^ s)
    have h2 : t * y1 = t * (y1 % 2 ^ s + 2 ^ s * (y1 / 2 ^ s)) := by rw [this]
    rw [h2, Nat.mul_add, ← Nat.mul_assoc t, ht']; omega
  have h3 : y / 2 ^ s + t * (y1 % 2 ^ s) < 4294967296 := by
    have h4 : y1 % 2 ^ s + 1 ≤ 2 ^ s := Nat.mod_lt _ hp
    have h5 : t * (y1 % 2 ^ s + 1) ≤ t * 2 ^ s := Nat.mul_le_mul_left _ h4
    rw [Nat.mul_add, Nat.mul_comm t (2 ^ s), ← ht] at h5
    omega
  rw [h1, Nat.add_mul_mod_self_left, Nat.mod_eq_of_lt h3, hm]
  have := Nat.mod_add_div V (2 ^ s)
  have h2 : t * V = t * (V % 2 ^ s + 2 ^ s * (V / 2 ^ s)) := by rw [this]
  rw [h2, Nat.mul_add, ← Nat.mul_assoc t (2 ^ s), ht']; omega
theorem val_shrL (s : Nat) (ys : List Nat) (h : Wf ys) (hs : s < 32) : val (shrL s ys) = val ys / 2 ^ s := by
  induction ys with
  | nil => simp [shrL, val]
  | cons y r ih =>
    have e : shrL s (y :: r) = ((y + 4294967296 * r.getD 0 0) / 2 ^ s % 4294967296) :: shrL s r := by
      simp only [shrL, List.length_cons, List.range_succ_eq_map, List.map_cons, List.map_map]
      rfl
    rw [e, val, val, ih h.tail]
    cases r with
    | nil => simp [val, shrL]; have := h.head; exact Nat.lt_of_le_of_lt (Nat.div_le_self _ _) this
    | cons y1 r1 =>
      exact (shr_step y (val (y1 :: r1)) y1 (val r1) s h.head hs rfl).symm
theorem Wf_shrL (s : Nat) (ys : List Nat) : Wf (shrL s ys) := by
  intro x hx
  simp only [shrL, List.mem_map] at hx
  obtain ⟨i, _, rfl⟩ := hx
  exact Nat.mod_lt _ (by omega)
theorem shr_words (xs : List Nat) (n : Nat) (h : Wf xs) (hn : n / 32 < xs.length) : val (xs.drop (n / 32)) / 2 ^ (n % 32) = val xs / 2 ^ n := by
  rw [val_take_drop xs (n / 32) (by omega), ← pow_words n, ← Nat.div_div_eq_div_mul]
  have h1 := val_lt (xs.take (n / 32)) (h.take _)
  rw [List.length_take, Nat.min_eq_left (by omega)] at h1
  rw [Nat.add_mul_div_left _ _ (Nat.pow_pos (by omega)), Nat.div_eq_of_lt h1, Nat.zero_add]
theorem shr_none (xs : List Nat) (n : Nat) (h : Wf xs) (hn : xs.length ≤ n / 32) : val xs / 2 ^ n = 0 := by
  apply Nat.div_eq_of_lt
  have h1 := val_lt xs h
  have h2 : 4294967296 ^ xs.length ≤ 4294967296 ^ (n / 32) := Nat.pow_le_pow_right (by omega) hn
  have h3 := pow_words n
  have h4 : 4294967296 ^ (n / 32) * 1 ≤ 4294967296 ^ (n / 32) * 2 ^ (n % 32) := Nat.mul_le_mul_left _ (Nat.two_pow_pos _)
  omega
theorem set_zero_append (k q : Nat) (qs : List Nat) : (List.replicate (k + 1) 0 ++ qs).set k q = List.replicate k 0 ++ (q :: qs) := by
  have : List.replicate (k + 1) 0 ++ qs = List.replicate k 0 ++ (0 :: qs) := by
    rw [List.replicate_succ', List.append_assoc]; rfl
  rw [this, List.set_append_right _ _ (by simp)]
  simp
theorem short_val (xs qs : List Nat) (k r d t : Nat) (hk : k < xs.length) (hv : val qs * d + r = val (xs.drop (k + 1))) (ht : t = r * 4294967296 + xs.getD k 0) :
    val (t / d :: qs) * d + t % d = val (xs.drop k) := by
  have e : xs.drop k = xs.getD k 0 :: xs.drop (k + 1) := by rw [List.drop_eq_getElem_cons hk, getD_in hk]
  rw [e, val, val, ← hv, Nat.add_mul, Nat.mul_assoc]
  have := Nat.div_add_mod t d
  rw [Nat.mul_comm] at this
  omega
theorem short_word (r d x : Nat) (hr : r < d) (hx : x < 4294967296) : (r * 4294967296 + x) / d < 4294967296 := by
  apply Nat.div_lt_of_lt_mul
  have : (r + 1) * 4294967296 ≤ d * 4294967296 := Nat.mul_le_mul_right _ hr
  omega
theorem short_end (xs qs : List Nat) (r d : Nat) (hr : r < d) (hv : val qs * d + r = val xs) : val qs = val xs / d ∧ r = val xs % d := by
  have h1 : (val qs * d + r) / d = val qs := by
    rw [Nat.mul_comm, Nat.mul_add_div (by omega), Nat.div_eq_of_lt hr, Nat.add_zero]
  have h2 : (val qs * d + r) % d = r := by
    rw [Nat.mul_comm, Nat.mul_add_mod, Nat.mod_eq_of_lt hr]
  rw [← hv, h1, h2]
  exact ⟨rfl, rfl⟩
theorem or_word (a x : Nat) (hx : x < 4294967296) : a * 4294967296 ||| x = a * 4294967296 + x := by
  have := or_add x a 32 (by omega)
  rw [Nat.or_comm, Nat.add_comm]
  exact this
theorem mid_get (pre ms us post : List Nat) (k : Nat) (hk : ms.length = k) (h : k < us.length) : (pre ++ ((ms ++ us.drop k) ++ post)).getD (pre.length + k) 0 = us.getD k 0 := by
  subst hk
  simp only [List.getD]
  rw [List.getElem?_append_right (by omega), Nat.add_sub_cancel_left, List.getElem?_append_left (by simp; omega), List.getElem?_append_right (Nat.le_refl _), Nat.sub_self, List.getElem?_drop, Nat.add_zero]
theorem mid_set (pre ms us post : List Nat) (k z : Nat) (hk : ms.length = k) (h : k < us.length) : (pre ++ ((ms ++ us.drop k) ++ post)).set (pre.length + k) z = pre ++ (((ms ++ [z]) ++ us.drop (k + 1)) ++ post) := by
  subst hk
  rw [List.set_append_right _ _ (by omega), Nat.add_sub_cancel_left, List.set_append_left _ _ (by simp; omega), List.set_append_right _ _ (Nat.le_refl _), Nat.sub_self]
  have e : us.drop ms.length = us[ms.length] :: us.drop (ms.length + 1) := List.drop_eq_getElem_cons h
  rw [e, List.set_cons_zero]
  simp only [List.append_assoc, List.cons_append, List.nil_append]
theorem mid_len (pre ms us post : List Nat) (k : Nat) (hk : ms.length = k) (h : k ≤ us.length) : (pre ++ ((ms ++ us.drop k) ++ post)).length = pre.length + us.length + post.length := by
  simp; omega
end
section
theorem knu_le (U V top v1 P : Nat) (h1 : U < (top + 1) * P) (h2 : v1 * P ≤ V) (h3 : 0 < v1) (hV : 0 < V) : U < (top / v1 + 1) * V := by
  have hQ : U / V ≤ top / v1 := by
    rw [Nat.le_div_iff_mul_le h3]
    have e1 : U / V * V ≤ U := Nat.div_mul_le_self U V
    have e2 : U / V * v1 * P ≤ U / V * V := by rw [Nat.mul_assoc]; exact Nat.mul_le_mul_left _ h2
    have e3 : U / V * v1 * P < (top + 1) * P := Nat.lt_of_le_of_lt (Nat.le_trans e2 e1) h1
    have := Nat.lt_of_mul_lt_mul_right e3
    omega
  have := Nat.lt_mul_div_succ U hV
  have e4 : V * (U / V + 1) ≤ (top / v1 + 1) * V := by rw [Nat.mul_comm]; exact Nat.mul_le_mul_right _ (by omega)
  omega
structure Knu (U V top v1 v2 u2 P : Nat) : Prop where
  hU : U < 4294967296 * V
  hT : (top * 4294967296 + u2) * P ≤ U
  hT' : U < (top * 4294967296 + u2 + 1) * P
  hW : (v1 * 4294967296 + v2) * P ≤ V
  hW' : V < (v1 * 4294967296 + v2 + 1) * P
  h1 : 2147483648 ≤ v1
  h1' : v1 < 4294967296
  h2 : v2 < 4294967296
  hu2 : u2 < 4294967296
theorem Knu.pos {U V top v1 v2 u2 P : Nat} (k : Knu U V top v1 v2 u2 P) : 0 < P := by
  rcases Nat.eq_zero_or_pos P with rfl | h
  · have := k.hT'; simp at this
  · exact h
theorem Knu.first {U V top v1 v2 u2 P : Nat} (k : Knu U V top v1 v2 u2 P) : U < (top / v1 + 1) * V := by
  have hP := k.pos
  have h1 := k.h1
  have hV : 0 < V := by
    have := k.hW
    have h2 : 1 * P ≤ (v1 * 4294967296 + v2) * P := Nat.mul_le_mul_right _ (by omega)
    omega
  refine knu_le U V top v1 (4294967296 * P) ?_ ?_ (by omega) hV
  · refine Nat.lt_of_lt_of_le k.hT' ?_
    rw [← Nat.mul_assoc]
    exact Nat.mul_le_mul_right _ (by have := k.hu2; omega)
  · refine Nat.le_trans ?_ k.hW
    rw [← Nat.mul_assoc]
    exact Nat.mul_le_mul_right _ (by omega)
theorem Knu.down {U V top v1 v2 u2 P q r : Nat} (k : Knu U V top v1 v2 u2 P) (hq : q * v1 + r = top) (h : 4294967296 ≤ q ∨ r * 4294967296 + u2 < q * v2) : U < q * V := by
  rcases h with h | h
  · exact Nat.lt_of_lt_of_le k.hU (Nat.mul_le_mul_right _ h)
  · refine Nat.lt_of_lt_of_le k.hT' (Nat.le_trans ?_ (Nat.mul_le_mul_left q k.hW))
    rw [← Nat.mul_assoc]
    refine Nat.mul_le_mul_right _ ?_
    rw [← hq, Nat.mul_add, Nat.add_mul, ← Nat.mul_assoc]
    omega
theorem Knu.done {U V top v1 v2 u2 P q r : Nat} (k : Knu U V top v1 v2 u2 P) (hq : q * v1 + r = top) (h1 : q < 4294967296) (h2 : q * v2 ≤ r * 4294967296 + u2) : q * V ≤ U + V := by
  have e1 : q * (v1 * 4294967296 + v2) ≤ top * 4294967296 + u2 := by
    rw [← hq, Nat.mul_add, Nat.add_mul, ← Nat.mul_assoc]; omega
  have e2 : q * V ≤ q * ((v1 * 4294967296 + v2 + 1) * P) := Nat.mul_le_mul_left _ (Nat.le_of_lt k.hW')
  have e3 : q * ((v1 * 4294967296 + v2 + 1) * P) = q * (v1 * 4294967296 + v2) * P + q * P := by
    rw [Nat.add_mul (v1 * 4294967296 + v2) 1 P, Nat.mul_add, Nat.one_mul, Nat.mul_assoc]
  have e4 : q * (v1 * 4294967296 + v2) * P ≤ (top * 4294967296 + u2) * P := Nat.mul_le_mul_right _ e1
  have e5 : q * P ≤ (v1 * 4294967296 + v2) * P := Nat.mul_le_mul_right _ (by have := k.h1; omega)
  have := k.hT
  have := k.hW
  omega
theorem Knu.top_le {U V top v1 v2 u2 P : Nat} (k : Knu U V top v1 v2 u2 P) : top ≤ v1 * 4294967296 + v2 := by
  have e1 : (top * 4294967296 + u2) * P < 4294967296 * (v1 * 4294967296 + v2 + 1) * P := by
    refine Nat.lt_of_le_of_lt k.hT (Nat.lt_of_lt_of_le k.hU ?_)
    rw [Nat.mul_assoc]
    exact Nat.mul_le_mul_left _ (Nat.le_of_lt k.hW')
  have := Nat.lt_of_mul_lt_mul_right e1
  omega
theorem Knu.out {U V top v1 v2 u2 P q r : Nat} (k : Knu U V top v1 v2 u2 P) (hq : q * v1 + r = top) (hr : 4294967296 ≤ r) : q < 4294967296 ∧ q * v2 ≤ r * 4294967296 + u2 := by
  have ht := k.top_le
  have h2 := k.h2
  have h1 : q < 4294967296 := by
    have : q * v1 < 4294967296 * v1 := by omega
    exact Nat.lt_of_mul_lt_mul_right this
  refine ⟨h1, ?_⟩
  have e1 : q * v2 ≤ 4294967296 * 4294967296 := Nat.mul_le_mul (by omega) (by omega)
  omega
theorem step_val (us vs ms : List Nat) (k q c b z b' t : Nat) (hk : ms.length = k) (hv : val ms + q * val (vs.take k) = val (us.take k) + 4294967296 ^ k * (b + c))
    (ht : t = c + q * vs.getD k 0) (hz : z + (t % 4294967296 + b) = us.getD k 0 + 4294967296 * b') :
    val (ms ++ [z]) + q * val (vs.take (k + 1)) = val (us.take (k + 1)) + 4294967296 ^ (k + 1) * (b' + t / 4294967296) := by
  rw [val_snoc, hk, val_take_step vs k, val_take_step us k, Nat.mul_add q, Nat.mul_left_comm q, Nat.pow_succ, Nat.mul_assoc (4294967296 ^ k)]
  generalize 4294967296 ^ k = p at *
  have h1 := Nat.mod_add_div t 4294967296
  have h2 : p * (z + (t % 4294967296 + b) + (4294967296 * (t / 4294967296))) = p * (us.getD k 0 + 4294967296 * b' + 4294967296 * (t / 4294967296)) := by rw [hz]
  have h3 : z + (t % 4294967296 + b) + 4294967296 * (t / 4294967296) = z + b + (c + q * vs.getD k 0) := by omega
  have h4 : us.getD k 0 + 4294967296 * b' + 4294967296 * (t / 4294967296) = us.getD k 0 + 4294967296 * (b' + t / 4294967296) := by omega
  rw [h3, h4] at h2
  simp only [Nat.mul_add] at *
  omega
theorem step_carry (q x c : Nat) (hq : q < 4294967296) (hx : x < 4294967296) (hc : c < 4294967296) : c + q * x ≤ 18446744069414584320 ∧ (c + q * x) / 4294967296 < 4294967296 := by
  have := mul_word q x hq hx
  omega
theorem step_end0 (us ms : List Nat) (U V q m : Nat) (hU : val us = U) (hv : val ms + q * V = U + 4294967296 ^ m * 0) (hU2 : U < (q + 1) * V) : val ms + q * V = U ∧ val ms < V := by
  rw [Nat.add_mul] at hU2
  omega
theorem step_end1 (ms ns : List Nat) (U V q m c : Nat) (hv : val ms + q * V = U + 4294967296 ^ m * 1) (hm : Wf ms) (hml : ms.length = m) (hn : Wf ns) (hnl : ns.length = m) (hc : c ≤ 1)
    (hs : val ns + 4294967296 ^ m * c = val ms + V) (hV : V < 4294967296 ^ m) (hq : q * V ≤ U + V) : 1 ≤ q ∧ val ns + (q - 1) * V = U ∧ val ns < V := by
  have h1 := val_lt ms hm
  have h2 := val_lt ns hn
  rw [hml] at h1
  rw [hnl] at h2
  have hq1 : 1 ≤ q := by
    rcases Nat.eq_zero_or_pos q with rfl | h
    · omega
    · exact h
  obtain ⟨q', rfl⟩ : ∃ q', q = q' + 1 := ⟨q - 1, by omega⟩
  rw [Nat.add_mul, Nat.one_mul] at hv hq
  rw [Nat.add_sub_cancel]
  generalize 4294967296 ^ m = p at *
  rcases Nat.eq_zero_or_pos c with rfl | h
  · omega
  · obtain rfl : c = 1 := by omega
    omega
theorem norm_top (b n t k : Nat) (hn : (dig b).length = n) (h0 : 0 < n) (ht : (dig b).getD (n - 1) 0 = t) (h1 : 2147483648 ≤ t * 2 ^ k) (h2 : t * 2 ^ k < 4294967296) (hk : k ≤ 31) :
    (dig (b * 2 ^ k)).length = n ∧ 2147483648 ≤ (dig (b * 2 ^ k)).getD (n - 1) 0 ∧ 4294967296 ^ (n - 1) * 2147483648 ≤ b * 2 ^ k := by
  have hb : b = val ((dig b).take (n - 1)) + 4294967296 ^ (n - 1) * t := by
    have := val_take_succ (dig b) (n - 1) (by omega)
    rw [show n - 1 + 1 = n by omega, val_take_all _ _ (by omega), val_dig, ht] at this
    exact this
  have hlow := val_lt ((dig b).take (n - 1)) ((Wf_dig b).take _)
  rw [List.length_take, Nat.min_eq_left (by omega)] at hlow
  generalize val ((dig b).take (n - 1)) = low at *
  have hp : 0 < 4294967296 ^ (n - 1) := Nat.pow_pos (by omega)
  have hge : 4294967296 ^ (n - 1) * 2147483648 ≤ b * 2 ^ k := by
    rw [hb, Nat.add_mul, Nat.mul_assoc]
    have := Nat.mul_le_mul_left (4294967296 ^ (n - 1)) h1
    omega
  have hup : (t + 1) * 2 ^ k ≤ 4294967296 := by
    have e : (4294967296 : Nat) = 2 ^ (32 - k) * 2 ^ k := by rw [← Nat.pow_add, show 32 - k + k = 32 by omega]
    rw [e] at h2 ⊢
    exact Nat.mul_le_mul_right _ (Nat.lt_of_mul_lt_mul_right h2)
  have hlt : b * 2 ^ k < 4294967296 ^ n := by
    have e1 : b * 2 ^ k < 4294967296 ^ (n - 1) * (t + 1) * 2 ^ k := by
      refine Nat.mul_lt_mul_of_pos_right ?_ (Nat.two_pow_pos k)
      rw [Nat.mul_add, hb]; omega
    rw [Nat.mul_assoc] at e1
    have e2 := Nat.mul_le_mul_left (4294967296 ^ (n - 1)) hup
    have e3 : 4294967296 ^ n = 4294967296 ^ (n - 1) * 4294967296 := by rw [← Nat.pow_succ]; congr 1; omega
    omega
  have hlen : (dig (b * 2 ^ k)).length = n := by
    refine Nat.le_antisymm (dig_len_le _ _ hlt) ?_
    have h3 := dig_lt (b * 2 ^ k)
    rcases Nat.lt_or_ge (dig (b * 2 ^ k)).length n with h | h
    · exfalso
      have h4 : 4294967296 ^ (dig (b * 2 ^ k)).length ≤ 4294967296 ^ (n - 1) := Nat.pow_le_pow_right (by omega) (by omega)
      have h5 : 4294967296 ^ (n - 1) * 1 ≤ 4294967296 ^ (n - 1) * 2147483648 := Nat.mul_le_mul_left _ (by omega)
      omega
    · exact h
  refine ⟨hlen, ?_, hge⟩
  have h3 := val_take_succ (dig (b * 2 ^ k)) (n - 1) (by omega)
  rw [show n - 1 + 1 = n by omega, val_take_all _ _ (by omega), val_dig] at h3
  have h4 := val_lt ((dig (b * 2 ^ k)).take (n - 1)) ((Wf_dig _).take _)
  rw [List.length_take, Nat.min_eq_left (by omega)] at h4
  rcases Nat.lt_or_ge ((dig (b * 2 ^ k)).getD (n - 1) 0) 2147483648 with h | h
  · exfalso
    have h5 : 4294967296 ^ (n - 1) * ((dig (b * 2 ^ k)).getD (n - 1) 0 + 1) ≤ 4294967296 ^ (n - 1) * 2147483648 := Nat.mul_le_mul_left _ h
    rw [Nat.mul_add] at h5
    omega
  · exact h
structure Div (us0 us qs : List Nat) (V j L n : Nat) : Prop where
  lu : us.length = L
  lq : qs.length = L - n
  low : us.take j = us0.take j
  rest : val (us.drop j) < V
  eq : val (qs.drop j) * V + val (us.drop j) = val (us0.drop j)
theorem drop_cons (xs : List Nat) (j : Nat) (h : j < xs.length) : xs.drop j = xs.getD j 0 :: xs.drop (j + 1) := by rw [List.drop_eq_getElem_cons h, getD_in h]
theorem Div.window {us0 us qs : List Nat} {V j L n : Nat} (d : Div us0 us qs V (j + 1) L n) (hw : Wf us) (hV : V < 4294967296 ^ n) (hj : j + n + 1 ≤ L) :
    us = us.take j ++ ((us.drop j).take (n + 1) ++ us.drop (j + n + 1)) ∧ (us.take j).length = j ∧ ((us.drop j).take (n + 1)).length = n + 1 ∧ val (us.drop (j + n + 1)) = 0 ∧
    val ((us.drop j).take (n + 1)) = us.getD j 0 + 4294967296 * val (us.drop (j + 1)) ∧ val ((us.drop j).take (n + 1)) < 4294967296 * V := by
  have hl := d.lu
  have h1 : us.drop (j + n + 1) = (us.drop j).drop (n + 1) := by rw [List.drop_drop, Nat.add_assoc]
  have hz : val (us.drop (j + n + 1)) = 0 := by
    have h2 := val_take_drop (us.drop (j + 1)) n (by rw [List.length_drop]; omega)
    rw [List.drop_drop, show j + 1 + n = j + n + 1 by omega] at h2
    have h3 := d.rest
    rcases Nat.eq_zero_or_pos (val (us.drop (j + n + 1))) with h | h
    · exact h
    · have h4 : 4294967296 ^ n * 1 ≤ 4294967296 ^ n * val (us.drop (j + n + 1)) := Nat.mul_le_mul_left _ h
      omega
  have hval : val ((us.drop j).take (n + 1)) = us.getD j 0 + 4294967296 * val (us.drop (j + 1)) := by
    have h2 := val_take_drop (us.drop j) (n + 1) (by rw [List.length_drop]; omega)
    rw [← h1, hz, Nat.mul_zero, Nat.add_zero, drop_cons us j (by omega), val] at h2
    rw [drop_cons us j (by omega)]
    exact h2.symm
  refine ⟨?_, by rw [List.length_take]; omega, by rw [List.length_take, List.length_drop]; omega, hz, hval, ?_⟩
  · rw [h1, List.take_append_drop, List.take_append_drop]
  · have := hw.getD j
    have := d.rest
    omega
theorem Div.next {us0 us qs ms : List Nat} {V j L n q : Nat} (d : Div us0 us qs V (j + 1) L n) (hw : Wf us) (hV : V < 4294967296 ^ n) (hj : j + n + 1 ≤ L) (hl0 : us0.length = L) (hm : ms.length = ((us.drop j).take (n + 1)).length)
    (hq : val ms + q * V = val ((us.drop j).take (n + 1))) (hr : val ms < V) : Div us0 (us.take j ++ (ms ++ us.drop (j + n + 1))) (qs.set j q) V j L n := by
  obtain ⟨h1, h2, h3, h4, h5, h6⟩ := d.window hw hV hj
  have hl := d.lu
  have hlq := d.lq
  have hd : (us.take j ++ (ms ++ us.drop (j + n + 1))).drop j = ms ++ us.drop (j + n + 1) := by
    conv => lhs; rw [← h2]
    rw [List.length_take, Nat.min_eq_left (by omega), List.drop_append, List.drop_of_length_le (by rw [List.length_take]; omega), List.nil_append, List.length_take, Nat.min_eq_left (by omega), Nat.sub_self, List.drop_zero]
  have hvd : val (ms ++ us.drop (j + n + 1)) = val ms := by rw [val_append, h4, Nat.mul_zero, Nat.add_zero]
  have hlow : us.take j = us0.take j := by
    have := congrArg (List.take j) d.low
    rw [List.take_take, List.take_take, Nat.min_eq_left (by omega)] at this
    exact this
  have hujd : us.getD j 0 = us0.getD j 0 := by
    have := congrArg (fun l => l.getD j 0) d.low
    simp only [List.getD] at this ⊢
    rw [List.getElem?_take_of_lt (by omega), List.getElem?_take_of_lt (by omega)] at this
    exact this
  refine ⟨?_, by rw [List.length_set]; exact hlq, ?_, by rw [hd, hvd]; exact hr, ?_⟩
  · rw [List.length_append, List.length_append, h2, hm, h3, List.length_drop]; omega
  · rw [List.take_append_of_le_length (by rw [h2]; exact Nat.le_refl _), List.take_take, Nat.min_self]; exact hlow
  · rw [hd, hvd]
    have hqd : (qs.set j q).drop j = q :: qs.drop (j + 1) := by
      rw [drop_cons _ j (by rw [List.length_set]; omega), getD_in (by rw [List.length_set]; omega), List.getElem_set_self]
      congr 1
      rw [List.drop_set_of_lt (by omega)]
    rw [hqd, val, drop_cons us0 j (by omega), val, ← d.eq, ← hujd, Nat.add_mul, Nat.mul_assoc]
    omega
theorem top_three (us : List Nat) (n : Nat) (hl : us.length = n + 1) (hn : 2 ≤ n) : val us = val (us.take (n - 2)) + 4294967296 ^ (n - 2) * ((us.getD n 0 * 4294967296 + us.getD (n - 1) 0) * 4294967296 + us.getD (n - 2) 0) := by
  obtain ⟨m, rfl⟩ : ∃ m, n = m + 2 := ⟨n - 2, by omega⟩
  simp only [Nat.add_sub_cancel, show m + 2 - 1 = m + 1 by omega]
  rw [val_take_drop us m (by omega), drop_cons us m (by omega), drop_cons us (m + 1) (by omega), drop_cons us (m + 2) (by omega), List.drop_of_length_le (by omega)]
  simp only [val]
  congr 2
  omega
theorem top_two (vs : List Nat) (n : Nat) (hl : vs.length = n) (hn : 2 ≤ n) : val vs = val (vs.take (n - 2)) + 4294967296 ^ (n - 2) * (vs.getD (n - 1) 0 * 4294967296 + vs.getD (n - 2) 0) := by
  obtain ⟨m, rfl⟩ : ∃ m, n = m + 2 := ⟨n - 2, by omega⟩
  simp only [Nat.add_sub_cancel, show m + 2 - 1 = m + 1 by omega]
  rw [val_take_drop vs m (by omega), drop_cons vs m (by omega), drop_cons vs (m + 1) (by omega), List.drop_of_length_le (by omega)]
  simp only [val]
  congr 2
  omega
theorem below_next (l p t : Nat) (h : l < p) : l + p * t < (t + 1) * p := by rw [Nat.add_mul, Nat.one_mul, Nat.mul_comm]; omega
theorem knu_of (us vs : List Nat) (n : Nat) (hu : us.length = n + 1) (hv : vs.length = n) (hn : 2 ≤ n) (hwu : Wf us) (hwv : Wf vs) (h1 : 2147483648 ≤ vs.getD (n - 1) 0) (hlt : val us < 4294967296 * val vs) :
    Knu (val us) (val vs) (us.getD n 0 * 4294967296 + us.getD (n - 1) 0) (vs.getD (n - 1) 0) (vs.getD (n - 2) 0) (us.getD (n - 2) 0) (4294967296 ^ (n - 2)) := by
  have e1 := top_three us n hu hn
  have e2 := top_two vs n hv hn
  have l1 := val_lt (us.take (n - 2)) (hwu.take _)
  have l2 := val_lt (vs.take (n - 2)) (hwv.take _)
  rw [List.length_take, Nat.min_eq_left (by omega)] at l1 l2
  refine ⟨hlt, ?_, ?_, ?_, ?_, h1, hwv.getD _, hwv.getD _, hwu.getD _⟩
  · rw [e1, Nat.mul_comm]; exact Nat.le_add_left _ _
  · rw [e1]; exact below_next _ _ _ l1
  · rw [e2, Nat.mul_comm]; exact Nat.le_add_left _ _
  · rw [e2]; exact below_next _ _ _ l2
theorem Div.first (us0 : List Nat) (A V k la n : Nat) (hA : A < 4294967296 ^ la) (hu : val us0 = A * 2 ^ k) (hl : us0.length = la + 1) (hn : 0 < n) (hnl : n ≤ la) (hk : k ≤ 31) (hV : 4294967296 ^ (n - 1) * 2147483648 ≤ V) :
    Div us0 us0 (List.replicate (la + 1 - n) 0) V (la + 1 - n) (la + 1) n := by
  refine ⟨hl, by simp, rfl, ?_, by rw [List.drop_of_length_le (by simp)]; simp [val]⟩
  have h1 := val_take_drop us0 (la + 1 - n) (by omega)
  have h2 : 4294967296 ^ (la + 1 - n) * val (us0.drop (la + 1 - n)) < 4294967296 ^ la * 2 ^ k := by
    have : A * 2 ^ k < 4294967296 ^ la * 2 ^ k := Nat.mul_lt_mul_of_pos_right hA (Nat.two_pow_pos k)
    omega
  have h3 : 4294967296 ^ la = 4294967296 ^ (la + 1 - n) * 4294967296 ^ (n - 1) := by rw [← Nat.pow_add]; congr 1; omega
  rw [h3, Nat.mul_assoc] at h2
  have h4 := Nat.lt_of_mul_lt_mul_left h2
  have h5 : 2 ^ k ≤ 2 ^ 31 := Nat.pow_le_pow_right (by omega) hk
  have h6 : 4294967296 ^ (n - 1) * 2 ^ k ≤ 4294967296 ^ (n - 1) * 2147483648 := Nat.mul_le_mul_left _ h5
  omega
theorem Div.last {us0 us qs : List Nat} {b k L n a : Nat} (d : Div us0 us qs (b * 2 ^ k) 0 L n) (hu : val us0 = a * 2 ^ k) (hw : Wf us) (hV : b * 2 ^ k < 4294967296 ^ n) (hn : n ≤ L) :
    val qs = a / b ∧ val (us.take n) / 2 ^ k = a % b := by
  have h1 := d.eq
  have h2 := d.rest
  simp only [List.drop_zero] at h1 h2
  rw [hu] at h1
  have hp := Nat.two_pow_pos k
  have hz : val (us.take n) = val us := by
    have h3 := val_take_drop us n (by rw [d.lu]; exact hn)
    rcases Nat.eq_zero_or_pos (val (us.drop n)) with h | h
    · rw [h, Nat.mul_zero, Nat.add_zero] at h3; exact h3.symm
    · have h4 : 4294967296 ^ n * 1 ≤ 4294967296 ^ n * val (us.drop n) := Nat.mul_le_mul_left _ h
      omega
  obtain ⟨e1, e2⟩ := short_end (dig (a * 2 ^ k)) qs (val us) (b * 2 ^ k) h2 (by rw [val_dig]; exact h1)
  rw [val_dig] at e1 e2
  refine ⟨by rw [e1, Nat.mul_div_mul_right _ _ hp], ?_⟩
  rw [hz, e2, Nat.mul_mod_mul_right, Nat.mul_div_cancel _ hp]
end
section
def bval : List Nat → Nat
  | [] => 0
  | x :: r => x + 256 * bval r
def B8 (xs : List Nat) : Prop := ∀ x ∈ xs, x < 256
def led (n : Nat) : List Nat := if n = 0 then [] else (n % 256) :: led (n / 256)
  termination_by n
  decreasing_by omega
theorem led_zero : led 0 = [] := by rw [led]; simp
theorem led_pos (n : Nat) (h : 0 < n) : led n = (n % 256) :: led (n / 256) := by rw [led, if_neg (by omega)]
theorem B8.nil : B8 [] := by intro x h; cases h
theorem B8.tail {x : Nat} {r : List Nat} (h : B8 (x :: r)) : B8 r := fun y hy => h y (List.mem_cons_of_mem _ hy)
theorem B8.head {x : Nat} {r : List Nat} (h : B8 (x :: r)) : x < 256 := h x (List.mem_cons_self ..)
theorem B8.take {xs : List Nat} (h : B8 xs) (k : Nat) : B8 (xs.take k) := fun y hy => h y (List.mem_of_mem_take hy)
theorem B8.getD {xs : List Nat} (h : B8 xs) (i : Nat) : xs.getD i 0 < 256 := by
  rcases Nat.lt_or_ge i xs.length with k | k
  · rw [getD_in k]; exact h _ (List.getElem_mem k)
  · rw [getD_out k]; omega
theorem B8_led (n : Nat) : B8 (led n) := by
  induction n using Nat.strongRecOn with
  | ind n ih =>
    rcases Nat.eq_zero_or_pos n with h | h
    · subst h; rw [led_zero]; exact B8.nil
    · rw [led_pos n h]
      intro x hx
      rcases List.mem_cons.1 hx with rfl | hx
      · exact Nat.mod_lt _ (by decide)
      · exact ih (n / 256) (by omega) x hx
theorem bval_led (n : Nat) : bval (led n) = n := by
  induction n using Nat.strongRecOn with
  | ind n ih =>
    rcases Nat.eq_zero_or_pos n with h | h
    · subst h; rw [led_zero]; rfl
    · rw [led_pos n h, bval, ih (n / 256) (by omega)]; omega
theorem bval_append (xs ys : List Nat) : bval (xs ++ ys) = bval xs + 256 ^ xs.length * bval ys := by
  induction xs with
  | nil => simp [bval]
  | cons x r ih =>
    simp only [List.cons_append, bval, ih, List.length_cons, Nat.pow_succ]
    rw [Nat.mul_add, Nat.add_assoc, Nat.mul_comm (256 ^ r.length) 256, Nat.mul_assoc]
theorem bval_lt (xs : List Nat) (h : B8 xs) : bval xs < 256 ^ xs.length := by
  induction xs with
  | nil => simp [bval]
  | cons x r ih =>
    have := ih h.tail
    have hx := h.head
    rw [bval, List.length_cons, Nat.pow_succ]
    omega
theorem bval_take_step (xs : List Nat) (k : Nat) : bval (xs.take (k + 1)) = bval (xs.take k) + 256 ^ k * xs.getD k 0 := by
  rcases Nat.lt_or_ge k xs.length with h | h
  · rw [List.take_succ_eq_append_getElem h, bval_append, getD_in h]
    simp [bval, List.length_take, Nat.min_eq_left (Nat.le_of_lt h)]
  · rw [List.take_of_length_le h, List.take_of_length_le (by omega), getD_out h]; simp
theorem led_lt (n : Nat) : n < 256 ^ (led n).length := by
  have := bval_lt (led n) (B8_led n)
  rwa [bval_led] at this
theorem led_len_le (n k : Nat) (h : n < 256 ^ k) : (led n).length ≤ k := by
  induction k generalizing n with
  | zero => rw [show n = 0 by simpa using h, led_zero]; simp
  | succ k ih =>
    rcases Nat.eq_zero_or_pos n with h0 | h0
    · subst h0; rw [led_zero]; simp
    · rw [led_pos n h0, List.length_cons]
      have := ih (n / 256) (by rw [Nat.pow_succ] at h; omega)
      omega
theorem led_len_pos (n : Nat) (h : 0 < n) : 256 ^ ((led n).length - 1) ≤ n := by
  rcases Nat.lt_or_ge n (256 ^ ((led n).length - 1)) with k | k
  · have := led_len_le n _ k
    have : 0 < (led n).length := by rw [led_pos n h]; simp
    omega
  · exact k
theorem led_nil_iff (n : Nat) : led n = [] ↔ n = 0 := by
  constructor
  · intro h
    have := bval_led n
    rw [h] at this
    exact this.symm
  · rintro rfl; exact led_zero
theorem bval_getD (xs : List Nat) (h : B8 xs) (k : Nat) : xs.getD k 0 = bval xs / 256 ^ k % 256 := by
  induction xs generalizing k with
  | nil => simp [bval]
  | cons x r ih =>
    have hx := h.head
    cases k with
    | zero => simp [bval]; omega
    | succ k =>
      rw [show (x :: r).getD (k + 1) 0 = r.getD k 0 by simp [List.getD], ih h.tail k, bval, Nat.pow_succ, Nat.mul_comm (256 ^ k) 256, ← Nat.div_div_eq_div_mul, show (x + 256 * bval r) / 256 = bval r by omega]
theorem val_getD (xs : List Nat) (h : Wf xs) (k : Nat) : xs.getD k 0 = val xs / 4294967296 ^ k % 4294967296 := by
  induction xs generalizing k with
  | nil => simp [val]
  | cons x r ih =>
    have hx := h.head
    cases k with
    | zero => simp [val]; omega
    | succ k =>
      rw [show (x :: r).getD (k + 1) 0 = r.getD k 0 by simp [List.getD], ih h.tail k, val, Nat.pow_succ, Nat.mul_comm (4294967296 ^ k) 4294967296, ← Nat.div_div_eq_div_mul, show (x + 4294967296 * val r) / 4294967296 = val r by omega]
theorem dig_getD (n k : Nat) : (dig n).getD k 0 = n / 4294967296 ^ k % 4294967296 := by rw [val_getD _ (Wf_dig n), val_dig]
theorem led_getD (n k : Nat) : (led n).getD k 0 = n / 256 ^ k % 256 := by rw [bval_getD _ (B8_led n), bval_led]
theorem p256 (k : Nat) : 256 ^ k = 2 ^ (8 * k) := by rw [Nat.pow_mul]
theorem p32 (k : Nat) : 4294967296 ^ k = 2 ^ (32 * k) := by rw [Nat.pow_mul]
theorem byte_word (n i : Nat) : (n / 4294967296 ^ (i / 4) % 4294967296) / 2 ^ (i % 4 * 8) % 256 = n / 256 ^ i % 256 := by
  have hi : 32 * (i / 4) + i % 4 * 8 = 8 * i := by omega
  have h4 : i % 4 < 4 := Nat.mod_lt _ (by decide)
  rw [p256, ← hi, Nat.pow_add, ← Nat.div_div_eq_div_mul, ← p32]
  generalize n / 4294967296 ^ (i / 4) = m
  generalize i % 4 = r at h4
  rcases (by omega : r = 0 ∨ r = 1 ∨ r = 2 ∨ r = 3) with rfl | rfl | rfl | rfl <;> omega
theorem led_of (xs : List Nat) (h : B8 xs) (ht : xs = [] ∨ xs.getD (xs.length - 1) 0 ≠ 0) : led (bval xs) = xs := by
  induction xs with
  | nil => exact led_zero
  | cons x r ih =>
    have hx := h.head
    rcases ht with ht | ht
    · cases ht
    · have hr : r = [] ∨ r.getD (r.length - 1) 0 ≠ 0 := by
        cases r with
        | nil => exact .inl rfl
        | cons y t => exact .inr (by simpa [List.getD] using ht)
      have ihr := ih h.tail hr
      have hp : 0 < bval (x :: r) := by
        cases r with
        | nil => simp [List.getD] at ht; simp [bval]; omega
        | cons y t =>
          have : bval (y :: t) ≠ 0 := fun e => by rw [e, led_zero] at ihr; cases ihr
          rw [bval]; omega
      rw [led_pos _ hp, bval, show (x + 256 * bval r) % 256 = x by omega, show (x + 256 * bval r) / 256 = bval r by omega, ihr]
theorem led_top (n : Nat) : led n = [] ∨ (led n).getD ((led n).length - 1) 0 ≠ 0 := by
  rcases Nat.eq_zero_or_pos n with h | h
  · exact .inl ((led_nil_iff n).2 h)
  · refine .inr ?_
    have h1 := led_len_pos n h
    have h2 := led_lt n
    have h3 : 0 < (led n).length := by rw [led_pos n h]; simp
    rw [led_getD]
    generalize (led n).length = k at *
    obtain ⟨j, rfl⟩ : ∃ j, k = j + 1 := ⟨k - 1, by omega⟩
    rw [Nat.add_sub_cancel] at *
    rw [Nat.pow_succ] at h2
    have h5 : 0 < 256 ^ j := Nat.pow_pos (by decide)
    have h6 : n / 256 ^ j < 256 := Nat.div_lt_of_lt_mul h2
    have h7 : 0 < n / 256 ^ j := Nat.div_pos h1 h5
    omega
theorem led_len_bits (n L : Nat) (h1 : n < 2 ^ L) (h2 : 0 < L → 2 ^ (L - 1) ≤ n) : (led n).length = (L + 7) / 8 := by
  refine Nat.le_antisymm (led_len_le _ _ ?_) ?_
  · rw [p256]
    exact Nat.lt_of_lt_of_le h1 (Nat.pow_le_pow_right (by decide) (by omega))
  · rcases Nat.eq_zero_or_pos L with h0 | h0
    · omega
    · have h3 := h2 h0
      have h4 := led_lt n
      rw [p256] at h4
      have h5 : 2 ^ (L - 1) < 2 ^ (8 * (led n).length) := by omega
      have := (Nat.pow_lt_pow_iff_right (by decide : 1 < 2)).1 h5
      omega
def strN (xs : List Nat) : ByteArray := ⟨(xs.map UInt8.ofNat).toArray⟩
def leS (s : ByteArray) : List Nat := (s.data.toList.map UInt8.toNat).reverse
def mag (n : Nat) : ByteArray := strN (led n).reverse
def num (s : ByteArray) : Nat := bval (leS s)
theorem leS_len (s : ByteArray) : (leS s).length = s.size := by
  unfold leS
  rw [List.length_reverse, List.length_map]
  rfl
theorem B8_leS (s : ByteArray) : B8 (leS s) := by
  intro x hx
  simp only [leS, List.mem_reverse, List.mem_map] at hx
  obtain ⟨a, _, rfl⟩ := hx
  exact a.toNat_lt
theorem strN_size (xs : List Nat) : (strN xs).size = xs.length := by simp [strN, ByteArray.size]
theorem leS_strN (xs : List Nat) (h : B8 xs) : leS (strN xs) = xs.reverse := by
  unfold leS strN
  congr 1
  simp only [List.map_map]
  conv => rhs; rw [← List.map_id xs]
  refine List.map_congr_left fun x hx => ?_
  have := h x hx
  simp [Function.comp, UInt8.toNat_ofNat']
  omega
theorem strN_leS (s : ByteArray) : strN (leS s).reverse = s := by
  unfold leS strN
  rw [List.reverse_reverse, List.map_map, show (UInt8.ofNat ∘ UInt8.toNat) = id from funext fun a => by simp, List.map_id]
theorem B8.reverse {xs : List Nat} (h : B8 xs) : B8 xs.reverse := fun x hx => h x (List.mem_reverse.1 hx)
theorem leS_mag (n : Nat) : leS (mag n) = led n := by rw [mag, leS_strN _ (B8_led n).reverse, List.reverse_reverse]
theorem num_mag (n : Nat) : num (mag n) = n := by rw [num, leS_mag, bval_led]
theorem mag_inj {n m : Nat} (h : mag n = mag m) : n = m := by rw [← num_mag n, h, num_mag]
theorem mag_size (n : Nat) : (mag n).size = (led n).length := by rw [mag, strN_size, List.length_reverse]
theorem mag_size_le {n k : Nat} : (mag n).size ≤ k ↔ n < 256 ^ k := by
  rw [mag_size]
  constructor
  · intro h
    exact Nat.lt_of_lt_of_le (led_lt n) (Nat.pow_le_pow_right (by decide) h)
  · exact led_len_le n k
theorem num_lt (s : ByteArray) : num s < 256 ^ s.size := by
  have := bval_lt _ (B8_leS s)
  rwa [leS_len] at this
theorem mag_zero : mag 0 = ByteArray.empty := by rw [mag, led_zero]; rfl
def Plain1 (s : ByteArray) : Prop := s.size = 0 ∨ (leS s).getD (s.size - 1) 0 ≠ 0
theorem mag_lean (n : Nat) : Plain1 (mag n) := by
  unfold Plain1
  rw [leS_mag, mag_size]
  rcases led_top n with h | h
  · exact .inl (by rw [h]; rfl)
  · exact .inr h
theorem mag_num {s : ByteArray} (h : Plain1 s) : mag (num s) = s := by
  have e : led (num s) = leS s := led_of _ (B8_leS s) (by
    rcases h with h | h
    · exact .inl (List.eq_nil_of_length_eq_zero (by rw [leS_len, h]))
    · exact .inr (by rw [leS_len]; exact h))
  rw [mag, e, strN_leS]
theorem leS_getD (s : ByteArray) (i : Nat) (h : i < s.size) : (leS s).getD i 0 = (s.data[s.size - 1 - i]'(by have : s.size = s.data.size := rfl; omega)).toNat := by
  have hl : i < (leS s).length := by rw [leS_len]; exact h
  rw [getD_in hl]
  have e : (leS s)[i] = ((s.data.toList.map UInt8.toNat).reverse)[i]'(by rw [List.length_reverse, List.length_map]; exact h) := rfl
  rw [e, List.getElem_reverse, List.getElem_map]
  congr 2
  rw [List.length_map]
  rfl
end
section
def dd (n : Nat) : List Nat := if n = 0 then [] else (48 + n % 10) :: dd (n / 10)
  termination_by n
  decreasing_by omega
theorem dd_zero : dd 0 = [] := by rw [dd]; simp
theorem dd_pos (n : Nat) (h : 0 < n) : dd n = (48 + n % 10) :: dd (n / 10) := by rw [dd, if_neg (by omega)]
theorem dd_nil_iff (n : Nat) : dd n = [] ↔ n = 0 := by
  constructor
  · intro h
    rcases Nat.eq_zero_or_pos n with k | k
    · exact k
    · rw [dd_pos n k] at h; cases h
  · rintro rfl; exact dd_zero
theorem dd_digit (n : Nat) : ∀ x ∈ dd n, 48 ≤ x ∧ x < 58 := by
  induction n using Nat.strongRecOn with
  | ind n ih =>
    rcases Nat.eq_zero_or_pos n with h | h
    · subst h; rw [dd_zero]; intro x hx; cases hx
    · rw [dd_pos n h]
      intro x hx
      rcases List.mem_cons.1 hx with rfl | hx
      · omega
      · exact ih (n / 10) (by omega) x hx
theorem B8_dd (n : Nat) : B8 (dd n) := fun x hx => Nat.lt_trans (dd_digit n x hx).2 (by decide)
theorem dd_len (n k : Nat) (h : n < 10 ^ k) : (dd n).length ≤ k := by
  induction k generalizing n with
  | zero => rw [show n = 0 by simpa using h, dd_zero]; simp
  | succ k ih =>
    rcases Nat.eq_zero_or_pos n with h0 | h0
    · subst h0; rw [dd_zero]; simp
    · rw [dd_pos n h0, List.length_cons]
      have := ih (n / 10) (by rw [Nat.pow_succ] at h; omega)
      omega
theorem dd_step {N r q k R : Nat} {ds : List Nat} (h : dd N = ds ++ dd R) (hR : R = r + 10 ^ (9 - k) * q) (hk : k < 9) (hp : 0 < r ∨ 0 < q) :
    dd N = (ds ++ [48 + r % 10]) ++ dd (R / 10) ∧ R / 10 = r / 10 + 10 ^ (9 - (k + 1)) * q := by
  have e : 10 ^ (9 - k) = 10 * 10 ^ (9 - (k + 1)) := by
    rw [show 9 - k = (9 - (k + 1)) + 1 by omega, Nat.pow_succ, Nat.mul_comm]
  rw [e, Nat.mul_assoc] at hR
  have hpos : 0 < 10 ^ (9 - (k + 1)) := Nat.pow_pos (by decide)
  generalize hT : 10 ^ (9 - (k + 1)) * q = T at *
  have hRp : 0 < R := by
    rcases hp with h0 | h0
    · omega
    · have : 0 < T := by rw [← hT]; exact Nat.mul_pos hpos h0
      omega
  refine ⟨?_, by omega⟩
  rw [h, dd_pos R hRp, show 48 + R % 10 = 48 + r % 10 by omega]
  simp
def txt (n : Int) : List Nat := if n = 0 then [48] else (dd n.natAbs ++ if n < 0 then [45] else []).reverse
theorem B8_txt (n : Int) : B8 (txt n) := by
  unfold txt
  split
  · intro x hx; simp at hx; omega
  · refine B8.reverse fun x hx => ?_
    rcases List.mem_append.1 hx with h | h
    · exact B8_dd _ x h
    · split at h
      · simp at h; omega
      · cases h
def textN (n : Int) : ByteArray := strN (txt n)
theorem textN_size (n : Int) : (textN n).size = (txt n).length := strN_size _
def turned (xs : List Nat) (i : Nat) : List Nat := (List.range xs.length).map fun j => if j < i ∨ xs.length - 1 - i < j then xs.getD (xs.length - 1 - j) 0 else xs.getD j 0
theorem turned_len (xs : List Nat) (i : Nat) : (turned xs i).length = xs.length := by simp [turned]
theorem turned_zero (xs : List Nat) : turned xs 0 = xs := by
  refine List.ext_getElem (turned_len xs 0) fun j h1 h2 => ?_
  simp only [turned, List.getElem_map, List.getElem_range]
  rw [if_neg (by omega), getD_in h2]
theorem turned_done (xs : List Nat) (i : Nat) (h : xs.length ≤ 2 * i + 1) : turned xs i = xs.reverse := by
  refine List.ext_getElem (by rw [turned_len, List.length_reverse]) fun j h1 h2 => ?_
  rw [turned_len] at h1
  simp only [turned, List.getElem_map, List.getElem_range, List.getElem_reverse]
  split
  · rw [getD_in (by omega)]
  · rename_i hn
    have e : j = xs.length - 1 - j := by omega
    rw [getD_in h1]
    congr 1
theorem turned_getD (xs : List Nat) (i j : Nat) (h : i ≤ j) (h2 : j + i < xs.length) : (turned xs i).getD j 0 = xs.getD j 0 := by
  rw [getD_in (by rw [turned_len]; omega)]
  simp only [turned, List.getElem_map, List.getElem_range]
  rw [if_neg (by omega)]
theorem turned_step (xs : List Nat) (i k : Nat) (hk : i + k + 1 = xs.length) (h : i < k) : ((turned xs i).set i (xs.getD k 0)).set k (xs.getD i 0) = turned xs (i + 1) := by
  refine List.ext_getElem (by simp [turned_len]) fun j h1 h2 => ?_
  rw [turned_len] at h2
  rw [List.getElem_set, List.getElem_set]
  simp only [turned, List.getElem_map, List.getElem_range]
  by_cases h3 : k = j
  · subst h3
    rw [if_pos rfl, if_pos (by omega)]
    congr 1
    omega
  · rw [if_neg h3]
    by_cases h4 : i = j
    · subst h4
      rw [if_pos rfl, if_pos (by omega)]
      congr 1
      omega
    · rw [if_neg h4]
      by_cases h5 : j < i ∨ xs.length - 1 - i < j
      · rw [if_pos h5, if_pos (by omega)]
      · rw [if_neg h5, if_neg (by omega)]
end
end Go.Proofs.YthkpghhoffihmaaGreatDoor
end
