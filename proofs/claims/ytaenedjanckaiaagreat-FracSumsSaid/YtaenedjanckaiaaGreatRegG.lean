/- A region whose order is open, with a ghost: what has been done so far, and what it gave. -/
import Derived.Test.YtaenedjanckaiaaGreatReg
namespace Go.Proofs.YtaenedjanckaiaaGreat
set_option linter.unnecessarySimpa false
set_option linter.unusedVariables false
set_option linter.unusedSimpArgs false
open Go

/-- What each operation gave, if it is done. -/
def Gh := Nat → Option Value
def gh0 : Gh := fun _ => none
def Gh.upd (γ : Gh) (k : Nat) (v : Value) : Gh := fun i => if i = k then some v else γ i
theorem Gh.upd_self (γ : Gh) (k : Nat) (v : Value) : γ.upd k v k = some v := if_pos rfl
theorem Gh.upd_ne (γ : Gh) {k i : Nat} (v : Value) (h : i ≠ k) : γ.upd k v i = γ i := if_neg h
def noGuard (l : List Oper) : Bool := l.all fun o => o.guard.isNone
theorem noGuard_spec {l : List Oper} (h : noGuard l = true) {i : Nat} {o : Oper} (hi : l[i]? = some o) : o.guard = none := by
  have := List.all_eq_true.1 h o (List.mem_of_getElem? hi)
  simpa using this
def stepG (P : Program) (C : Gh → World → Prop) (E : Gh → World → Gh → World → Prop) (V : Nat → Gh → World → Value → Prop) (Q : Exit → Act → World → Prop) (fill : (Nat → Value) → Act) (k : Nat) (o : Oper) : Prop :=
  ∀ u γ w, C γ w → γ k = none → depsR (fun i w v => γ i = some v ∧ V i γ w v) u w o.after.toList →
    ∀ K : Act → World → Prop, (∀ v w', C (γ.upd k v) w' → E γ w (γ.upd k v) w' → V k (γ.upd k v) w' v → K ((fill u).put o.dst v) w') → o.wp P (fill u) w K Q
def stepsG (P : Program) (C : Gh → World → Prop) (E : Gh → World → Gh → World → Prop) (V : Nat → Gh → World → Value → Prop) (Q : Exit → Act → World → Prop) (fill : (Nat → Value) → Act) : List Oper → Nat → Prop
  | [], _ => True
  | o :: r, k => stepG P C E V Q fill k o ∧ stepsG P C E V Q fill r (k + 1)
def allG (γ : Gh) (u : Nat → Value) : List Oper → Nat → Prop
  | [], _ => True
  | _ :: r, k => γ k = some (u k) ∧ allG γ u r (k + 1)
theorem allG_spec {γ : Gh} {u : Nat → Value} : ∀ {l : List Oper} {k : Nat}, (∀ i, i < l.length → γ (k + i) = some (u (k + i))) → allG γ u l k
  | [], _, _ => trivial
  | _ :: r, k, h => ⟨by simpa using h 0 (by simp), allG_spec fun i hi => by have := h (i + 1) (by simp; omega); rwa [show k + (i + 1) = k + 1 + i by omega] at this⟩
theorem stepsG_spec {P : Program} {C : Gh → World → Prop} {E : Gh → World → Gh → World → Prop} {V : Nat → Gh → World → Value → Prop} {Q : Exit → Act → World → Prop} {fill : (Nat → Value) → Act} :
    ∀ {l : List Oper} {k : Nat}, stepsG P C E V Q fill l k → ∀ i o, l[i]? = some o → stepG P C E V Q fill (k + i) o
  | [], _, _, i, o, hi => by simp at hi
  | o :: r, k, h, i, o', hi => by
    cases i with
    | zero => simp at hi; subst hi; exact h.1
    | succ i =>
      have := stepsG_spec h.2 i o' (by simpa using hi)
      rw [show k + (i + 1) = k + 1 + i by omega]
      exact this

theorem wp_region_eachG {P : Program} {id : Nat} {l : List Oper} {Q : Exit → Act → World → Prop} {a0 : Act} {w0 : World} (N : Nat) (C : Gh → World → Prop) (E : Gh → World → Gh → World → Prop) (V : Nat → Gh → World → Value → Prop)
    (hm : P.follows .mixedOrders = true) (hB : okR l N = true) (hG : noGuard (l.take N) = true) (h0 : C gh0 w0.drew) (hE : ∀ i γ w k x w' v, C γ w → C (γ.upd k x) w' → E γ w (γ.upd k x) w' → γ k = none → γ i = some v → V i γ w v → V i (γ.upd k x) w' v)
    (hstep : stepsG P C E V Q (fun u => fillR u (l.take N) 0 a0) (l.take N) 0)
    (hend : ∀ γ u w, C γ w → allG γ u (l.take N) 0 → allR (fun i => V i γ) u w (l.take N) 0 → wpList P l.toArray Q (l.drop N) (fillR u (l.take N) 0 a0) w) : (Code.region id l.toArray true).wp P Q a0 w0 := by
  simp only [okR, Bool.and_eq_true, Bool.or_eq_true, decide_eq_true_eq] at hB
  obtain ⟨⟨⟨⟨hdst, hback⟩, hN⟩, htail⟩, hseq⟩ := hB
  have hdis := distinct_of _ hdst
  have htl : (l.take N).length = N := by rw [List.length_take]; omega
  have hsz : l.toArray.size = l.length := by simp
  have hget : ∀ i, i < N → (l.take N)[i]? = l.toArray[i]? := by
    intro i hi
    rw [List.getElem?_take_of_lt hi]; simp
  have key : ∀ (f : Nat) (listed : Array Bool) (u : Nat → Value) (γ : Gh) (w : World), HeadInv .any l.toArray N listed → leftR N listed = f → C γ w → (∀ i, i < N → listed.getD i false = true → γ i = some (u i) ∧ V i γ w (u i)) → (∀ i, i < N → listed.getD i false = false → γ i = none) →
      wpAny P .any l.toArray Q (f + (l.length - N)) listed (fillR u (l.take N) 0 a0) w := by
    intro f
    induction f using Nat.strongRecOn with
    | ind f ih =>
      intro listed u γ w inv hf hC hV hgn
      by_cases hf0 : f = 0
      · subst hf0
        have hall := leftR_zero hf
        have hlisted : listed = arrR N (l.length - N) := by
          apply Array.ext_getElem?
          intro i
          have hls := inv.size
          by_cases hi : i < N
          · have h1 := hall i hi
            have his : i < listed.size := by omega
            simp [his] at h1
            rw [Array.getElem?_eq_getElem his, h1, arrR_get, if_pos hi]
          · by_cases hi2 : i < l.length
            · have h1 := inv.tail i (by omega) (by omega)
              have his : i < listed.size := by omega
              simp [his] at h1
              rw [Array.getElem?_eq_getElem his, h1, arrR_get, if_neg hi, if_pos (by omega)]
            · rw [Array.getElem?_eq_none (by omega), arrR_get, if_neg hi, if_neg (by omega)]
        have hdl : (l.drop N).length = l.length - N := List.length_drop
        have := wpAny_of_seq (md := .any) (Q' := Q) (P := P) (l.drop N) N listed (fillR u (l.take N) 0 a0) w (fun j => by simp [List.getElem?_drop]) (by rw [hdl, hlisted]; exact hseq)
          (hend γ u w hC (allG_spec fun i hi => by rw [Nat.zero_add]; rw [htl] at hi; exact (hV i hi (hall i hi)).1) (allR_spec fun i hi => by rw [Nat.zero_add]; rw [htl] at hi; exact (hV i hi (hall i hi)).2))
        rw [Nat.zero_add, ← hdl]
        exact this
      · obtain ⟨f', rfl⟩ : ∃ f', f = f' + 1 := ⟨f - 1, by omega⟩
        have hex : ∃ i, i < N ∧ listed.getD i false = false := by
          rcases Classical.em (∃ i, i < N ∧ listed.getD i false = false) with h | h
          · exact h
          · exfalso
            apply hf0
            rw [← hf, leftR, List.length_eq_zero_iff, List.filter_eq_nil_iff]
            intro i hi
            have hi := List.mem_range.1 hi
            cases hl : listed.getD i false with
            | true => simp
            | false => exact absurd ⟨i, hi, hl⟩ h
        rw [show f' + 1 + (l.length - N) = (f' + (l.length - N)) + 1 by omega]
        refine ⟨fun hnil => ?_, fun i hi => ?_⟩
        · exfalso
          suffices hno : ∀ i, i < N → listed.getD i false = false → False by
            obtain ⟨i, hiN, hil⟩ := hex
            exact hno i hiN hil
          intro i
          induction i using Nat.strongRecOn with
          | ind i ihi =>
            intro hiN hil
            have hob : (l.take N)[i]? = some ((l.take N)[i]'(by omega)) := List.getElem?_eq_getElem (by omega)
            have hb := List.all_eq_true.1 hback i (List.mem_range.2 (by omega))
            rw [hob] at hb
            have hb' := Array.all_eq_true'.1 hb
            rcases Classical.em (∃ e ∈ ((l.take N)[i]'(by omega)).after, Region.binds .any e = true ∧ listed.getD e.on false = false) with h | h
            · obtain ⟨e, he, hbe, hle⟩ := h
              have hlt : e.on < i := by have := hb' e he; rw [hbe] at this; simpa using this
              exact ihi e.on hlt (by omega) hle
            · have : i ∈ Region.ready .any l.toArray listed := mem_ready.2 ⟨getD_in (by rw [inv.size]; omega) hil, _, by rw [← hget i hiN]; exact hob, fun e he hbe => by
                cases hl : listed.getD e.on false with
                | true => rfl
                | false => exact absurd ⟨e, he, hbe, hl⟩ h⟩
              rw [hnil] at this
              cases this
        · have hiN : i < N := by
            rcases htail with h | h
            · obtain ⟨_, o, ho, _⟩ := mem_ready.1 hi
              have := (Array.getElem?_eq_some_iff.1 ho).1
              omega
            · rcases Nat.lt_or_ge i N with h1 | h1
              · exact h1
              · obtain ⟨i0, hi0, hl0⟩ := hex
                exact absurd hi (tail_waits h.1.2 h.2 (by rw [hsz]; exact h.1.1) inv _ i0 rfl hi0 (getD_in (by rw [inv.size]; omega) hl0) i h1)
          obtain ⟨hun, o, ho, hdep⟩ := mem_ready.1 hi
          have hol : (l.take N)[i]? = some o := by rw [hget i hiN]; exact ho
          have hlt : ∀ e ∈ o.after, Region.binds .any e = true → e.on < i := by
            intro e he hbe
            have hb := List.all_eq_true.1 hback i (List.mem_range.2 (by omega))
            rw [hol] at hb
            have := Array.all_eq_true'.1 hb e he
            rw [hbe] at this
            simpa using this
          have hgi : γ i = none := hgn i hiN (by
            have hun2 := hun
            simp only [Array.getD_eq_getD_getElem?] at hun2 ⊢
            cases h : listed[i]? with
            | none => rfl
            | some b => rw [h] at hun2; simpa using hun2)
          have hS := stepsG_spec hstep i o hol u γ w hC (by rw [Nat.zero_add]; exact hgi) (depsR_spec (V := fun i w v => γ i = some v ∧ V i γ w v) fun e he hbe => hV e.on (by have := hlt e (by simpa using he) hbe; omega) (hdep e (by simpa using he) hbe))
          rw [Nat.zero_add] at hS
          have next : ∀ v w', C (γ.upd i v) w' → E γ w (γ.upd i v) w' → V i (γ.upd i v) w' v → wpAny P .any l.toArray Q (f' + (l.length - N)) (listed.setIfInBounds i true) ((fillR u (l.take N) 0 a0).put o.dst v) w' := by
            intro v w' hC' hE' hVi
            rw [fillR_at u v (l.take N) 0 i a0 o hdis hol, Nat.zero_add]
            have hinv := inv.set hi hiN
            have hleft := leftR_set hiN hun
            have hV' : ∀ j, j < N → (listed.setIfInBounds i true).getD j false = true → (γ.upd i v) j = some ((fun j => if j = i then v else u j) j) ∧ V j (γ.upd i v) w' ((fun j => if j = i then v else u j) j) := by
              intro j hj hjl
              by_cases hji : j = i
              · subst hji; simpa [Gh.upd] using hVi
              · simp only [if_neg hji]
                rw [getD_set_ne false (Ne.symm hji)] at hjl
                obtain ⟨k1, k2⟩ := hV j hj hjl
                exact ⟨by simp only [Gh.upd, if_neg hji]; exact k1, hE j γ w i v w' _ hC hC' hE' hgi k1 k2⟩
            have hgn' : ∀ j, j < N → (listed.setIfInBounds i true).getD j false = false → (γ.upd i v) j = none := by
              intro j hj hjl
              by_cases hji : j = i
              · subst hji; rw [Array.getD_eq_getD_getElem?, Array.getElem?_setIfInBounds_self_of_lt (by rw [inv.size]; omega)] at hjl; cases hjl
              · rw [getD_set_ne false (Ne.symm hji)] at hjl
                simp only [Gh.upd, if_neg hji]
                exact hgn j hj hjl
            have hle : leftR N (listed.setIfInBounds i true) ≤ f' := by omega
            have hge : f' ≤ leftR N (listed.setIfInBounds i true) := by
              have : leftR N listed ≤ leftR N (listed.setIfInBounds i true) + 1 := by
                unfold leftR
                have hcount : ∀ m, ((List.range m).filter fun j => !listed.getD j false).length ≤ ((List.range m).filter fun j => !(listed.setIfInBounds i true).getD j false).length + (if i < m then 1 else 0) := by
                  intro m
                  induction m with
                  | zero => simp
                  | succ m ihm =>
                    rw [List.range_succ, List.filter_append, List.filter_append, List.length_append, List.length_append]
                    by_cases hmi : m = i
                    · subst hmi
                      have h1 : (List.filter (fun j => !listed.getD j false) [m]).length ≤ 1 := by
                        exact Nat.le_trans (List.length_filter_le _ _) (by simp)
                      rw [if_neg (by omega)] at ihm
                      rw [if_pos (by omega)]
                      omega
                    · have h1 : (List.filter (fun j => !(listed.setIfInBounds i true).getD j false) [m]) = (List.filter (fun j => !listed.getD j false) [m]) := by
                        simp only [List.filter_cons, List.filter_nil]
                        rw [getD_set_ne false (Ne.symm hmi)]
                      rw [h1]
                      split at ihm <;> split <;> omega
                have := hcount N
                split at this <;> omega
              omega
            have hex' : leftR N (listed.setIfInBounds i true) = f' := Nat.le_antisymm hle hge
            exact ih f' (by omega) (listed.setIfInBounds i true) _ _ w' hinv hex' hC' hV' hgn'
          unfold wpOp
          simp only [ho]
          have hg : o.guard = none := noGuard_spec hG hol
          rw [if_pos (by simp [Region.wanted, hg])]
          exact .inl (hS _ next)
  refine wp_region_any hm ?_
  have inv0 : HeadInv .any l.toArray N (Array.replicate l.toArray.size false) :=
    ⟨by simp, fun j oj _ hl => (by rw [getD_replicate_false] at hl; cases hl), fun t _ ht => getD_in (by simpa using ht) (getD_replicate_false _ _)⟩
  have hleft0 : leftR N (Array.replicate l.toArray.size false) = N := by
    unfold leftR
    rw [List.filter_eq_self.2 (fun i _ => by rw [getD_replicate_false]; rfl), List.length_range]
  obtain ⟨u0, hid⟩ : ∃ u0, fillR u0 (l.take N) 0 a0 = a0 :=
    ⟨fun i => match ((l.take N)[i]?).bind (·.dst) with | some d => a0.tmps.getD d undef | none => undef, fillR_id _ 0 a0 _ hdis (fun i o d hi ho => by simp [hi, ho])⟩
  have hk := key N (Array.replicate l.toArray.size false) u0 gh0 { w0 with drawn := w0.drawn + 1 } inv0 hleft0 h0 (fun i _ hl => by rw [getD_replicate_false] at hl; cases hl) (fun _ _ _ => rfl)
  rw [hid, show N + (l.length - N) = l.toArray.size by rw [hsz]; omega] at hk
  exact hk

def stepAG (P : Program) (C : Gh → World → Prop) (E : Gh → World → Gh → World → Prop) (V : Nat → Gh → World → Value → Prop) (Q : Exit → Act → World → Prop) (l : List Oper) (a0 : Act) (k : Nat) (o : Oper) : Prop :=
  ∀ (a : Act) (γ : Gh) (w : World), (∀ s, hasR l s = false → a.tmps.getD s undef = a0.tmps.getD s undef) → C γ w → γ k = none → depsA (fun i w v => γ i = some v ∧ V i γ w v) l a w o.after.toList →
    ∀ K : Act → World → Prop, (∀ v w', C (γ.upd k v) w' → E γ w (γ.upd k v) w' → V k (γ.upd k v) w' v → K (a.put o.dst v) w') → o.wp P a w K Q
def stepsAG (P : Program) (C : Gh → World → Prop) (E : Gh → World → Gh → World → Prop) (V : Nat → Gh → World → Value → Prop) (Q : Exit → Act → World → Prop) (h : List Oper) (a0 : Act) : List Oper → Nat → Prop
  | [], _ => True
  | o :: r, k => stepAG P C E V Q h a0 k o ∧ stepsAG P C E V Q h a0 r (k + 1)
theorem stepsG_of {P : Program} {C : Gh → World → Prop} {E : Gh → World → Gh → World → Prop} {V : Nat → Gh → World → Value → Prop} {Q : Exit → Act → World → Prop} {h : List Oper} {a0 : Act} (hd : distinct h) (hin : inB h a0.tmps.size = true)
    (hsl : slotB h = true) : ∀ (l : List Oper) (k : Nat), (∀ i, l[i]? = h[k + i]?) → stepsAG P C E V Q h a0 l k → stepsG P C E V Q (fun u => fillR u h 0 a0) l k
  | [], _, _, _ => trivial
  | o :: r, k, hl, hs => by
    have hi : h[k]? = some o := by simpa using (hl 0).symm
    refine ⟨fun u γ w hC hk hdep => ?_, stepsG_of hd hin hsl r (k + 1) (fun i => by have := hl (i + 1); rw [show k + 1 + i = k + (i + 1) by omega, ← this]; simp) hs.2⟩
    exact hs.1 (fillR u h 0 a0) γ w (fun s h1 => fillR_out u s h 0 a0 h1) hC hk (depsA_of hd hin (slotB_spec hsl hi) hdep)

theorem wp_region_ghost {P : Program} {id : Nat} {l : List Oper} {Q : Exit → Act → World → Prop} {a0 : Act} {w0 : World} (N : Nat) (C : Gh → World → Prop) (E : Gh → World → Gh → World → Prop) (V : Nat → Gh → World → Value → Prop)
    (hm : P.follows .mixedOrders = true) (hB : (okR l N && slotB (l.take N) && noGuard (l.take N)) = true) (hin : inB (l.take N) a0.tmps.size = true) (h0 : C gh0 w0.drew)
    (hE : ∀ i γ w k x w' v, C γ w → C (γ.upd k x) w' → E γ w (γ.upd k x) w' → γ k = none → γ i = some v → V i γ w v → V i (γ.upd k x) w' v)
    (hstep : stepsAG P C E V Q (l.take N) a0 (l.take N) 0)
    (hend : ∀ γ u w, C γ w → allG γ u (l.take N) 0 → allR (fun i => V i γ) u w (l.take N) 0 → wpList P l.toArray Q (l.drop N) (fillR u (l.take N) 0 a0) w) : (Code.region id l.toArray true).wp P Q a0 w0 := by
  rw [Bool.and_eq_true, Bool.and_eq_true] at hB
  refine wp_region_eachG N C E V hm hB.1.1 hB.2 h0 hE (stepsG_of ?_ hin hB.1.2 _ 0 (fun i => by rw [Nat.zero_add]) hstep) hend
  have h1 := hB.1.1
  simp only [okR, Bool.and_eq_true] at h1
  exact distinct_of _ h1.1.1.1.1
end Go.Proofs.YtaenedjanckaiaaGreat
