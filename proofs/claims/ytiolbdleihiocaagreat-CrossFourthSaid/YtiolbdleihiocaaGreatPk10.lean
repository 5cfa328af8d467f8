/- SxS, Gq, ExA, RefA. -/
import Derived.Test.YtiolbdleihiocaaGreatPk9
namespace Go.Proofs.YtiolbdleihiocaaGreat
set_option linter.unnecessarySimpa false
set_option linter.unusedVariables false
set_option linter.unusedSimpArgs false
/- What a function does to places, said once: by it each call of the function is an event. -/
section
open Go Go.RowKit

def Lf0.ren (ρ : Nat → Nat) : Lf0 → Lf0
  | .v x => .v x
  | .p k o => .p (ρ k) o
  | .s k o n c => .s (ρ k) o n c
def Lf.ren (ρ : Nat → Nat) : Lf → Lf
  | .b l => .b (l.ren ρ)
  | .f fn x y => .f fn (x.map (Lf0.ren ρ)) (y.map (Lf0.ren ρ))
def SC.ren (ρ : Nat → Nat) : SC → SC
  | .c l => .c (l.ren ρ)
  | .a ls => .a (ls.map (Lf.ren ρ))
def SV.ren (ρ : Nat → Nat) : SV → SV
  | .one x => .one (x.ren ρ)
  | .tup xs => .tup (xs.map (SC.ren ρ))
theorem Lf0.den_ren (β : Env) (ρ : Nat → Nat) (x : Lf0) : (x.ren ρ).den β = x.den (fun k => β (ρ k)) := by cases x <;> rfl
theorem Lf.den_ren (β : Env) (ρ : Nat → Nat) (x : Lf) : (x.ren ρ).den β = x.den (fun k => β (ρ k)) := by
  cases x with
  | b l => exact Lf0.den_ren β ρ l
  | f fn x y => simp only [Lf.ren, Lf.den, List.map_map, Function.comp_def, Lf0.den_ren]
theorem SC.den_ren (β : Env) (ρ : Nat → Nat) (x : SC) : (x.ren ρ).den β = x.den (fun k => β (ρ k)) := by
  cases x with
  | c l => exact Lf.den_ren β ρ l
  | a ls => simp only [SC.ren, SC.den, List.map_map, Function.comp_def, Lf.den_ren]
theorem SV.den_ren (β : Env) (ρ : Nat → Nat) (x : SV) : (x.ren ρ).den β = x.den (fun k => β (ρ k)) := by
  cases x with
  | one y => exact SC.den_ren β ρ y
  | tup xs => simp only [SV.ren, SV.den, List.map_map, Function.comp_def, SC.den_ren]

/-- What a function does: its places are the first ones (obs), then those that it makes (news). -/
structure Spec (P : Program) where
  f : FuncId
  en : Enters P f
  args : List SV
  obs : List Thing
  res : SV
  news : List Thing
  ok : ∀ β w, (∀ (k : Nat) (t : Thing), obs[k]? = some t → t.D w (β k)) → Calls P f (args.map (SV.den β)).toArray w fun e w' => ∃ xs : List Nat, (∀ x ∈ xs, w.heap.size ≤ x) ∧ xs.Nodup ∧ e = .returned (res.den (extE β obs.length xs)) ∧ newHold w' news xs ∧ Below w.heap.size w w'
  closed : (args.all (SV.of fun k => Nat.blt k obs.length) && res.of fun k => Nat.blt k (obs.length + news.length)) = true
/-- Where the function's places are among the caller's. -/
def atS (σ : List Nat) (m n k : Nat) : Nat := lit (bif Nat.blt k m then σ.getD k 0 else n + (k - m)) fun j => j
def needsOf (σ : List Nat) : List Thing → Nat → List (Nat × Ob)
  | [], _ => []
  | t :: r, k => (lit (σ.getD k 0) fun j => j, t.ob) :: needsOf σ r (k + 1)
theorem needsOf_hold {β : Env} {w : World} {σ : List Nat} : ∀ {l : List Thing} {i : Nat}, holdsAll β w (needsOf σ l i) → ∀ (k : Nat) (t : Thing), l[k]? = some t → t.D w (β (σ.getD (i + k) 0))
  | [], _, _, k, t, h => by simp at h
  | x :: r, i, h, k, t, hk => by
    cases k with
    | zero =>
      simp only [List.getElem?_cons_zero] at hk
      obtain rfl := Option.some.inj hk
      have := h _ (List.mem_cons_self ..)
      rw [lit_eq] at this
      exact this
    | succ k =>
      have := needsOf_hold (l := r) (i := i + 1) (fun p hp => h p (List.mem_cons_of_mem _ hp)) k t (by simpa using hk)
      rw [show i + (k + 1) = i + 1 + k by omega]
      exact this
def Spec.ev {P : Program} (S : Spec P) (σ : List Nat) (n : Nat) (hσ : (Nat.ble S.obs.length σ.length && σ.all fun k => Nat.blt k n) = true) : Ev P :=
  .call S.f S.en (fun β => (S.args.map (SV.den fun k => β (atS σ S.obs.length n k))).toArray) (needsOf σ S.obs 0) n (S.res.ren (atS σ S.obs.length n)) S.news fun β w h => by
    have hc := S.closed
    rw [Bool.and_eq_true] at hc
    have hat : ∀ k, k < S.obs.length → atS σ S.obs.length n k = σ.getD k 0 := fun k hk => by
      unfold atS
      rw [lit_eq, show Nat.blt k S.obs.length = true by rw [Nat.blt_eq]; exact hk, cond_true]
    have hat2 : ∀ k, ¬ k < S.obs.length → atS σ S.obs.length n k = n + (k - S.obs.length) := fun k hk => by
      unfold atS
      rw [lit_eq, show Nat.blt k S.obs.length = false by rw [Bool.eq_false_iff, ne_eq, Nat.blt_eq]; exact hk, cond_false]
    rw [Bool.and_eq_true, Nat.ble_eq] at hσ
    have hsn : ∀ k, k < S.obs.length → σ.getD k 0 < n := fun k hk => by
      rw [List.getD_eq_getElem?_getD]
      cases hx : σ[k]? with
      | none => rw [List.getElem?_eq_none_iff] at hx; omega
      | some y => have := List.all_eq_true.1 hσ.2 y (List.mem_of_getElem? hx); rw [Nat.blt_eq] at this; exact this
    have hargs : S.args.map (SV.den fun k => β (atS σ S.obs.length n k)) = S.args.map (SV.den fun k => β (σ.getD k 0)) := List.map_congr_left fun x hx => SV.den_congr (fun k hk => by rw [hat k (by simpa [Nat.blt_eq] using hk)]) _ (List.all_eq_true.1 hc.1 x hx)
    rw [hargs]
    refine (S.ok (fun k => β (σ.getD k 0)) w fun k t hk => ?_).mono ?_
    · have := needsOf_hold h k t hk
      rwa [Nat.zero_add] at this
    · rintro e w' ⟨xs, h1, h2, rfl, h3, h4⟩
      refine ⟨xs, h1, h2, ?_, h3, h4⟩
      rw [SV.den_ren]
      congr 1
      refine SV.den_congr (fun k hk => ?_) _ hc.2
      have hlen := (newHold_get h3).1
      rw [Nat.blt_eq] at hk
      by_cases hk2 : k < S.obs.length
      · rw [hat k hk2, extE_out (β := β) (n := n) (k := σ.getD k 0) (xs := xs) (by have := hsn k hk2; omega), extE_out (n := S.obs.length) (k := k) (xs := xs) (by omega)]
      · rw [hat2 k hk2]
        have h5 : k - S.obs.length < xs.length := by omega
        rw [extE_in (List.getElem?_eq_getElem h5)]
        have := extE_in (β := fun k => β (σ.getD k 0)) (n := S.obs.length) (List.getElem?_eq_getElem h5)
        rw [show S.obs.length + (k - S.obs.length) = k by omega] at this
        exact this

/-- Where the function's places are, told by the arguments that it meets. -/
def mt0 : Lf0 → Lf0 → List (Nat × Nat)
  | .p k _, .p j _ => [(k, j)]
  | .s k _ _ _, .s j _ _ _ => [(k, j)]
  | _, _ => []
def mtL0 : List Lf0 → List Lf0 → List (Nat × Nat)
  | x :: r, y :: s => mt0 x y ++ mtL0 r s
  | _, _ => []
def mtL : Lf → Lf → List (Nat × Nat)
  | .b x, .b y => mt0 x y
  | .f _ a b, .f _ c d => mtL0 a c ++ mtL0 b d
  | _, _ => []
def mtLs : List Lf → List Lf → List (Nat × Nat)
  | x :: r, y :: s => mtL x y ++ mtLs r s
  | _, _ => []
def mtC : SC → SC → List (Nat × Nat)
  | .c x, .c y => mtL x y
  | .a x, .a y => mtLs x y
  | _, _ => []
def mtV : SV → SV → List (Nat × Nat)
  | .one x, .one y => mtC x y
  | _, _ => []
def mtVs : List SV → List SV → List (Nat × Nat)
  | x :: r, y :: s => mtV x y ++ mtVs r s
  | _, _ => []
def sigM (l : List (Nat × Nat)) (k : Nat) : Nat := match l with
  | [] => 0
  | (i, j) :: r => bif Nat.beq i k then j else sigM r k
def sigL (l : List (Nat × Nat)) (k : Nat) : Nat → List Nat
  | 0 => []
  | m + 1 => lit (sigM l k) (fun j => j :: sigL l (k + 1) m)
def isCallB (o : Oper) : Bool := match o.op with
  | .call ⟨.value _, _, _⟩ => true
  | _ => false
/-- A call's event, its places told where it is met. -/
def Spec.e {P : Program} (S : Spec P) : Ev P := .dyn (fun o _ _ => isCallB o) fun _ xs ob =>
  lit ob.length fun n => if h : (Nat.ble S.obs.length (sigL (mtVs S.args xs) 0 S.obs.length).length && (sigL (mtVs S.args xs) 0 S.obs.length).all fun k => Nat.blt k n) = true then S.ev (sigL (mtVs S.args xs) 0 S.obs.length) n h else .eqv 0 undef undef rfl
def ptOf : SV → Nat
  | .one (.c (.b (.p k _))) => k
  | _ => 0
/-- A call of one, two, three places. -/
def dyn1 {P : Program} (f : Nat → Nat → Ev P) : Ev P := .dyn (fun o _ _ => isCallB o) fun _ xs ob => lit ob.length fun n => lit (ptOf (xs.getD 0 undefS)) fun i => f i n
def dyn2 {P : Program} (f : Nat → Nat → Nat → Ev P) : Ev P := .dyn (fun o _ _ => isCallB o) fun _ xs ob => lit ob.length fun n => lit (ptOf (xs.getD 0 undefS)) fun i => lit (ptOf (xs.getD 1 undefS)) fun k => f i n k
def dyn3 {P : Program} (f : Nat → Nat → Nat → Nat → Ev P) : Ev P := .dyn (fun o _ _ => isCallB o) fun _ xs ob => lit ob.length fun n => lit (ptOf (xs.getD 0 undefS)) fun i => lit (ptOf (xs.getD 1 undefS)) fun k => lit (ptOf (xs.getD 2 undefS)) fun j => f i n k j
/-- A new place that is to be filled. -/
def dynMk {P : Program} (t : TypeId) (N : Nat) : Ev P := .dyn (fun o _ _ => match o.op with
  | .alloc t' => Nat.beq t' t
  | _ => false) fun o _ _ => .mk (o.dst.getD 0) N
/-- From the places' numbers that a text uses to those of what is said of it. -/
def backS (m : Nat) (idx : List Nat) (k : Nat) : Nat := lit (bif Nat.blt k m then k else idx.getD (k - m) 0) fun j => j
def specS (P : Program) (fn : Func) (args : List SV) (obs : List Thing) (evs : List (Ev P)) (Ns : List (Nat × Nat)) (m : Nat) (res : SV) (news : List Thing) (idx : List Nat) (β : Env) : Eqs :=
  allS P fn args (obs.map Thing.ob) evs Ns m (res.ren (backS obs.length idx)) (idx.zip (news.map Thing.ob)) β
theorem newHold_of {β : Env} {w : World} : ∀ {idx : List Nat} {l : List Thing}, idx.length = l.length → holdsAll β w (idx.zip (l.map Thing.ob)) → newHold w l (idx.map β)
  | [], [], _, _ => trivial
  | [], _ :: _, h, _ => by simp at h
  | _ :: _, [], h, _ => by simp at h
  | i :: r, t :: l, h, k => ⟨k (i, t.ob) (by simp), newHold_of (by simpa using h) fun p hp => k p (by simp only [List.map_cons, List.zip_cons_cons]; exact List.mem_cons_of_mem _ hp)⟩
def specB (args : List SV) (obs : List Thing) (res : SV) (news : List Thing) (idx : List Nat) : Bool :=
  args.all (SV.of fun k => Nat.blt k obs.length) && (res.of fun k => Nat.blt k (obs.length + news.length)) && Nat.beq idx.length news.length
theorem spec_ok {P : Program} {f : FuncId} {fn : Func} {args : List SV} {obs : List Thing} {evs : List (Ev P)} {Ns : List (Nat × Nat)} {m : Nat} {res : SV} {news : List Thing} {idx : List Nat} (hf : P.funcs[f]? = some fn) (hm : P.follows .mixedOrders = true)
    (h : ∀ β, (specS P fn args obs evs Ns m res news idx β).map Prod.fst = (specS P fn args obs evs Ns m res news idx β).map Prod.snd) (hB : specB args obs res news idx = true) (β : Env) (w : World) (hh : ∀ (k : Nat) (t : Thing), obs[k]? = some t → t.D w (β k)) :
    Calls P f (args.map (SV.den β)).toArray w fun e w' => ∃ xs : List Nat, (∀ x ∈ xs, w.heap.size ≤ x) ∧ xs.Nodup ∧ e = .returned (res.den (extE β obs.length xs)) ∧ newHold w' news xs ∧ Below w.heap.size w w' := by
  simp only [specB, Bool.and_eq_true, Nat.beq_eq] at hB
  obtain ⟨⟨h1, h2⟩, h3⟩ := hB
  have hget : ∀ (k : Nat) (o : Ob), (obs.map Thing.ob)[k]? = some o → ∃ t, obs[k]? = some t ∧ o = t.ob := fun k o ho => by
    rw [List.getElem?_map] at ho
    cases hx : obs[k]? with
    | none => rw [hx] at ho; cases ho
    | some t => rw [hx] at ho; exact ⟨t, rfl, (Option.some.inj ho).symm⟩
  refine (sx (P := P) args (obs.map Thing.ob) evs Ns m (res.ren (backS obs.length idx)) (idx.zip (news.map Thing.ob)) hf hm (fun β => ok_of_maps (h β)) (by rw [List.length_map]; exact h1)
    (List.all_eq_true.2 fun x hx => by obtain ⟨t, _, rfl⟩ := List.mem_map.1 hx; rfl) β w (fun k hk => ?_) (fun k o ho => ?_)).mono ?_
  · rw [List.length_map] at hk
    exact (obs[k]).st.lt _ _ (hh k _ (List.getElem?_eq_getElem hk))
  · obtain ⟨t, ht, rfl⟩ := hget k o ho
    exact hh k t ht
  · rintro e w' ⟨β', q, obj, e1, rfl, e2, e3, e4, e5, g⟩
    rw [List.length_map] at e1
    have hz : (idx.zip (news.map Thing.ob)).map (fun p => β' p.1) = idx.map β' := by
      rw [show (fun p : Nat × Ob => β' p.1) = β' ∘ Prod.fst from rfl, ← List.map_map, List.map_fst_zip (by rw [List.length_map]; omega)]
    refine ⟨idx.map β', fun x hx => ?_, by rw [← hz]; exact e3, ?_, newHold_of h3 e5, g.bel⟩
    · rw [← hz] at hx
      obtain ⟨p, hp, rfl⟩ := List.mem_map.1 hx
      exact e4 p hp
    · rw [SV.den_ren]
      congr 1
      refine SV.den_congr (fun k hk => ?_) _ h2
      rw [Nat.blt_eq] at hk
      unfold backS
      rw [lit_eq]
      by_cases hk2 : k < obs.length
      · rw [show Nat.blt k obs.length = true by rw [Nat.blt_eq]; exact hk2, cond_true, extE_out (by omega)]
        exact e1 k hk2
      · rw [show Nat.blt k obs.length = false by rw [Bool.eq_false_iff, ne_eq, Nat.blt_eq]; exact hk2, cond_false]
        have h5 : k - obs.length < idx.length := by omega
        have := extE_in (β := β) (n := obs.length) (xs := idx.map β') (i := k - obs.length) (x := β' idx[k - obs.length]) (by simp [h5])
        rw [show obs.length + (k - obs.length) = k by omega] at this
        rw [this, List.getD_eq_getElem?_getD, List.getElem?_eq_getElem h5, Option.getD_some]
/-- What is said of a function whose text has been gone through. -/
def Spec.of {P : Program} {f : FuncId} {fn : Func} (en : Enters P f) (args : List SV) (obs : List Thing) (res : SV) (news : List Thing) (evs : List (Ev P)) (Ns : List (Nat × Nat)) (m : Nat) (idx : List Nat) (hf : P.funcs[f]? = some fn) (hm : P.follows .mixedOrders = true)
    (hB : specB args obs res news idx = true) (h : ∀ β, (specS P fn args obs evs Ns m res news idx β).map Prod.fst = (specS P fn args obs evs Ns m res news idx β).map Prod.snd) : Spec P :=
  ⟨f, en, args, obs, res, news, spec_ok hf hm h hB, by
    simp only [specB, Bool.and_eq_true] at hB
    rw [Bool.and_eq_true]
    exact hB.1⟩
/- The new places' numbers, told by what the text returns. -/
def mtCs : List SC → List SC → List (Nat × Nat)
  | x :: r, y :: s => mtC x y ++ mtCs r s
  | _, _ => []
def mtR : SV → SV → List (Nat × Nat)
  | .one x, .one y => mtC x y
  | .tup xs, .tup ys => mtCs xs ys
  | _, _ => []
def lits {α : Type} : List Nat → (List Nat → α) → α
  | [], k => k []
  | a :: r, k => lit a fun b => lits r fun s => k (b :: s)
theorem lits_eq {α : Type} : ∀ (l : List Nat) (k : List Nat → α), lits l k = k l
  | [], _ => rfl
  | a :: r, k => by unfold lits; rw [lit_eq, lits_eq r]
theorem sigL_len (l : List (Nat × Nat)) : ∀ (m k : Nat), (sigL l k m).length = m
  | 0, _ => rfl
  | m + 1, k => by unfold sigL; rw [lit_eq, List.length_cons, sigL_len l m]
def idxM (P : Program) (fn : Func) (args : List SV) (obs : List Thing) (evs : List (Ev P)) (Ns : List (Nat × Nat)) (m : Nat) (res : SV) : List (Nat × Nat) :=
  match fn.body with
  | some c => match fullS P fn args (obs.map Thing.ob) evs Ns m c with
    | some f => match run1 P obs.length false (results fn (tmpsS idE f.sl (sizeS fn args))) f.q f.ob [] with
      | some ⟨v, _, _, _⟩ => mtR res (tag v)
      | none => []
    | none => []
  | none => []
def specA (P : Program) (fn : Func) (args : List SV) (obs : List Thing) (evs : List (Ev P)) (Ns : List (Nat × Nat)) (m : Nat) (res : SV) (news : List Thing) (β : Env) : Eqs :=
  lits (sigL (idxM P fn args obs evs Ns m res) obs.length news.length) fun idx => specS P fn args obs evs Ns m res news idx β
def specB2 (args : List SV) (obs : List Thing) (res : SV) (news : List Thing) : Bool :=
  args.all (SV.of fun k => Nat.blt k obs.length) && res.of fun k => Nat.blt k (obs.length + news.length)
theorem spec_auto {P : Program} {f : FuncId} {fn : Func} {args : List SV} {obs : List Thing} {evs : List (Ev P)} {Ns : List (Nat × Nat)} {m : Nat} {res : SV} {news : List Thing} (hf : P.funcs[f]? = some fn) (hm : P.follows .mixedOrders = true)
    (h : ∀ β, (specA P fn args obs evs Ns m res news β).map Prod.fst = (specA P fn args obs evs Ns m res news β).map Prod.snd) (hB : specB2 args obs res news = true) (β : Env) (w : World) (hh : ∀ (k : Nat) (t : Thing), obs[k]? = some t → t.D w (β k)) :
    Calls P f (args.map (SV.den β)).toArray w fun e w' => ∃ xs : List Nat, (∀ x ∈ xs, w.heap.size ≤ x) ∧ xs.Nodup ∧ e = .returned (res.den (extE β obs.length xs)) ∧ newHold w' news xs ∧ Below w.heap.size w w' :=
  spec_ok (idx := sigL (idxM P fn args obs evs Ns m res) obs.length news.length) hf hm (fun β => by have := h β; unfold specA at this; rwa [lits_eq] at this) (by
    unfold specB
    unfold specB2 at hB
    rw [hB, sigL_len, Bool.true_and]
    exact Nat.beq_refl _) β w hh
/-- A spec whose ways have been gone through. -/
def Spec.auto {P : Program} {f : FuncId} {fn : Func} (en : Enters P f) (args : List SV) (obs : List Thing) (res : SV) (news : List Thing) (evs : List (Ev P)) (Ns : List (Nat × Nat)) (m : Nat) (hf : P.funcs[f]? = some fn) (hm : P.follows .mixedOrders = true)
    (hB : specB2 args obs res news = true) (h : ∀ β, (specA P fn args obs evs Ns m res news β).map Prod.fst = (specA P fn args obs evs Ns m res news β).map Prod.snd) : Spec P :=
  ⟨f, en, args, obs, res, news, spec_auto hf hm h hB, hB⟩
end
/- Complex numbers by fractions; what package big's Rat does, as events. -/
section
open Go Go.RowKit

theorem Sz.okR2 {k : Nat} {q : Rat} (h : Sz k q) (hk : k ≤ 4000000000) : OkR q := by
  have k1 := wl_size (Nat.le_trans h.1 hk)
  have k2 := wl_size (Nat.le_trans h.2 hk)
  refine ⟨?_, ?_⟩
  · show (dig _).length ≤ _
    omega
  · show (dig ((q.den : Int)).natAbs).length ≤ _
    omega
theorem Sz.inv {k : Nat} {x : Rat} (h : Sz k x) (h0 : x ≠ 0) : Sz k x⁻¹ := by
  rw [← divInt_inv]
  exact sz_divInt (fun e => h0 (Rat.num_eq_zero.1 e)) h.2 h.1
/-- A complex number. -/
structure GQ where
  re : Rat
  im : Rat
theorem GQ.ext2 {z w : GQ} (h : z.re = w.re) (k : z.im = w.im) : z = w := by cases z; cases w; cases h; cases k; rfl
def gadd (z w : GQ) : GQ := ⟨z.re + w.re, z.im + w.im⟩
def gsub (z w : GQ) : GQ := ⟨z.re - w.re, z.im - w.im⟩
def gmul (z w : GQ) : GQ := ⟨z.re * w.re - z.im * w.im, z.re * w.im + z.im * w.re⟩
def gneg (z : GQ) : GQ := ⟨-z.re, -z.im⟩
def gconj (z : GQ) : GQ := ⟨z.re, -z.im⟩
def gnorm (z : GQ) : Rat := z.re * z.re + z.im * z.im
def gscale (z : GQ) (x : Rat) : GQ := ⟨z.re * x, z.im * x⟩
def gdiv (z w : GQ) : GQ := gscale (gmul z (gconj w)) (gnorm w)⁻¹
def gint (n m : Int) : GQ := ⟨Rat.divInt n 1, Rat.divInt m 1⟩
def gzero (z : GQ) : Bool := decide (z.re = 0) && decide (z.im = 0)
theorem gzero_iff {z : GQ} : gzero z = true ↔ z.re = 0 ∧ z.im = 0 := by simp [gzero]
theorem rsq_nonneg (x : Rat) : 0 ≤ x * x := by
  rcases (Rat.le_total : (0 : Rat) ≤ x ∨ x ≤ 0) with h | h
  · exact Rat.mul_nonneg h h
  · have := Rat.mul_nonneg (Rat.neg_le_neg h) (Rat.neg_le_neg h)
    rwa [Rat.neg_mul, Rat.mul_neg, Rat.neg_neg] at this
theorem gnorm_ne {z : GQ} (h : gzero z = false) : gnorm z ≠ 0 := by
  intro e
  have h1 := rsq_nonneg z.re
  have h2 := rsq_nonneg z.im
  have h3 : z.re * z.re = 0 ∧ z.im * z.im = 0 := by unfold gnorm at e; constructor <;> grind
  have h4 : z.re = 0 := (Rat.mul_eq_zero.1 h3.1).elim id id
  have h5 : z.im = 0 := (Rat.mul_eq_zero.1 h3.2).elim id id
  have := gzero_iff.2 ⟨h4, h5⟩
  rw [h] at this
  cases this
def GSz (k : Nat) (z : GQ) : Prop := Sz k z.re ∧ Sz k z.im
theorem GSz.mono {i k : Nat} {z : GQ} (h : GSz i z) (hk : i ≤ k) : GSz k z := ⟨h.1.mono hk, h.2.mono hk⟩
theorem GSz.add {i j : Nat} {z w : GQ} (h : GSz i z) (k : GSz j w) : GSz (i + j + 1) (gadd z w) := ⟨h.1.add k.1, h.2.add k.2⟩
theorem GSz.sub {i j : Nat} {z w : GQ} (h : GSz i z) (k : GSz j w) : GSz (i + j + 1) (gsub z w) := ⟨h.1.sub k.1, h.2.sub k.2⟩
theorem GSz.mul {i j : Nat} {z w : GQ} (h : GSz i z) (k : GSz j w) : GSz (i + j + (i + j) + 1) (gmul z w) := ⟨(h.1.mul k.1).sub (h.2.mul k.2), (h.1.mul k.2).add (h.2.mul k.1)⟩
theorem GSz.neg {i : Nat} {z : GQ} (h : GSz i z) : GSz i (gneg z) := ⟨h.1.neg, h.2.neg⟩
theorem GSz.conj {i : Nat} {z : GQ} (h : GSz i z) : GSz i (gconj z) := ⟨h.1, h.2.neg⟩
theorem GSz.norm {i : Nat} {z : GQ} (h : GSz i z) : Sz (i + i + (i + i) + 1) (gnorm z) := (h.1.mul h.1).add (h.2.mul h.2)
theorem GSz.scale {i j : Nat} {z : GQ} {x : Rat} (h : GSz i z) (k : Sz j x) : GSz (i + j) (gscale z x) := ⟨h.1.mul k, h.2.mul k⟩
theorem GSz.div {i j : Nat} {z w : GQ} (h : GSz i z) (k : GSz j w) (h0 : gzero w = false) : GSz (i + j + (i + j) + 1 + (j + j + (j + j) + 1)) (gdiv z w) := (h.mul k.conj).scale (k.norm.inv (gnorm_ne h0))
theorem sz_small {n : Int} (h : n.natAbs < 256) : sz n ≤ 1 := by rw [sz_le]; exact h
theorem Sz.small {n : Int} (h : n.natAbs < 256) : Sz 1 (Rat.divInt n 1) := sz_divInt (by decide) (sz_small h) (sz_small (by decide))
theorem GSz.int {n m : Int} (h : n.natAbs < 256) (k : m.natAbs < 256) : GSz 1 (gint n m) := ⟨Sz.small h, Sz.small k⟩

/-- A fraction's place. -/
theorem rat_stable (x : Rat) : Stable fun w g => RatAt w g 0 x :=
  ⟨fun _ _ h => h.lt, fun _ _ _ h k => h.on k, fun _ _ _ _ _ _ _ h hs ht hne => h.touch hs ht hne⟩
def ratT (x : Rat) : Thing := ⟨fun w g => RatAt w g 0 x, rat_stable x⟩
theorem need1 {β : Env} {w : World} {k : Nat} {x : Rat} {l : List (Nat × Ob)} (h : holdsAll β w l) (hm : (k, (ratT x).ob) ∈ l) : RatAt w (β k) 0 x := h _ hm
abbrev KB : Nat := 1000000000
section
variable {x y : Rat} (i n k j : Nat)
def eFAdd (hx : Sz KB x) (hy : Sz KB y) : Ev Tryz.prog := .fill 229 Tryz.call229 (fun β => #[.pointer (some ⟨β i, 0, none⟩), .pointer (some ⟨β k, 0, none⟩), .pointer (some ⟨β j, 0, none⟩)]) [(k, (ratT x).ob), (j, (ratT y).ob)] i 4 n (fun w g => RatAt w g 0 (x + y)) (rat_stable _)
  (fun β w h hs => rAdd_any hs (need1 h (by simp)) (need1 h (by simp)) (hx.okR2 (by decide)) (hy.okR2 (by decide)))
def eFSub (hx : Sz KB x) (hy : Sz KB y) : Ev Tryz.prog := .fill 201 Tryz.call201 (fun β => #[.pointer (some ⟨β i, 0, none⟩), .pointer (some ⟨β k, 0, none⟩), .pointer (some ⟨β j, 0, none⟩)]) [(k, (ratT x).ob), (j, (ratT y).ob)] i 4 n (fun w g => RatAt w g 0 (x - y)) (rat_stable _)
  (fun β w h hs => rSub_any hs (need1 h (by simp)) (need1 h (by simp)) (hx.okR2 (by decide)) (hy.okR2 (by decide)))
def eFMul (hx : Sz KB x) (hy : Sz KB y) : Ev Tryz.prog := .fill 204 Tryz.call204 (fun β => #[.pointer (some ⟨β i, 0, none⟩), .pointer (some ⟨β k, 0, none⟩), .pointer (some ⟨β j, 0, none⟩)]) [(k, (ratT x).ob), (j, (ratT y).ob)] i 4 n (fun w g => RatAt w g 0 (x * y)) (rat_stable _)
  (fun β w h hs => rMul_any hs (need1 h (by simp)) (need1 h (by simp)) (hx.okR2 (by decide)) (hy.okR2 (by decide)))
def eFNeg : Ev Tryz.prog := .fill 234 Tryz.call234 (fun β => #[.pointer (some ⟨β i, 0, none⟩), .pointer (some ⟨β k, 0, none⟩)]) [(k, (ratT x).ob)] i 4 n (fun w g => RatAt w g 0 (-x)) (rat_stable _)
  (fun β w h hs => rNeg_any hs (need1 h (by simp)))
def eFInv (hx : Sz KB x) (h0 : x ≠ 0) : Ev Tryz.prog := .fill 246 Tryz.call246 (fun β => #[.pointer (some ⟨β i, 0, none⟩), .pointer (some ⟨β k, 0, none⟩)]) [(k, (ratT x).ob)] i 4 n (fun w g => RatAt w g 0 x⁻¹) (rat_stable _)
  (fun β w h hs => rInv_any hs (need1 h (by simp)) (hx.okR2 (by decide)) h0)
end
theorem one_new {f : FuncId} {args : Array Value} {w : World} {x : Rat} (h : Calls Tryz.prog f args w fun e w' => ∃ g, e = .returned (.pointer (some ⟨g, 0, none⟩)) ∧ w.heap.size ≤ g ∧ RatAt w' g 0 x ∧ Below w.heap.size w w') (β : Env) (n : Nat) :
    Calls Tryz.prog f args w fun e w' => ∃ xs : List Nat, (∀ x ∈ xs, w.heap.size ≤ x) ∧ xs.Nodup ∧ e = .returned ((SV.one (.c (.b (.p n 0)))).den (extE β n xs)) ∧ newHold w' [ratT x] xs ∧ Below w.heap.size w w' :=
  h.mono fun e w' ⟨g, he, h1, h2, h3⟩ => ⟨[g], by simpa using h1, by simp, by
    rw [he]
    have := extE_in (β := β) (n := n) (i := 0) (xs := [g]) rfl
    rw [Nat.add_zero] at this
    simp only [SV.den, SC.den, Lf.den, Lf0.den, this], ⟨h2, trivial⟩, h3⟩
def eNewRat (n : Nat) (a b : Int) (ha : -9223372036854775808 ≤ a ∧ a ≤ 9223372036854775807) (hb : -9223372036854775808 ≤ b ∧ b ≤ 9223372036854775807) (h0 : b ≠ 0) : Ev Tryz.prog :=
  .call 203 Tryz.call203 (fun _ => #[.int .i64 a, .int .i64 b]) [] n (.one (.c (.b (.p n 0)))) [ratT (Rat.divInt a b)] (fun β w _ => one_new (NewRat_any ha hb h0) β n)
def eRatCmp {x y : Rat} {c : Int} (k j : Nat) (hx : Sz KB x) (hy : Sz KB y) (hc : cmpQ x y = c) : Ev Tryz.prog :=
  .call 247 Tryz.call247 (fun β => #[.pointer (some ⟨β k, 0, none⟩), .pointer (some ⟨β j, 0, none⟩)]) [(k, (ratT x).ob), (j, (ratT y).ob)] 0 (tag (.int .i64 c)) []
    (fun β w h => of_pure0 ((rCmp_any (need1 h (by simp)) (need1 h (by simp)) (hx.okR2 (by decide)) (hy.okR2 (by decide))).mono fun e w' ⟨he, hb⟩ => ⟨by rw [he, hc], hb⟩) (fun _ => rfl))
def eRatSign {x : Rat} {c : Int} (k : Nat) (hc : x.num.sign = c) : Ev Tryz.prog :=
  .call 216 Tryz.call216 (fun β => #[.pointer (some ⟨β k, 0, none⟩)]) [(k, (ratT x).ob)] 0 (tag (.int .i64 c)) []
    (fun β w h => of_pure0 ((rSign_any (need1 (x := x) h (by simp))).mono fun e w' ⟨he, hb⟩ => ⟨by rw [he, hc], by rw [← hb]; exact Below.refl _ _⟩) (fun _ => rfl))
theorem int_stable (n : Int) : Stable fun w g => IntAt w g 0 n :=
  ⟨fun _ _ h => h.lt, fun _ _ _ h k => h.on k, fun _ _ _ _ _ _ _ h hs ht hne => h.touch hs ht (.inl hne)⟩
def intT (n : Int) : Thing := ⟨fun w g => IntAt w g 0 n, int_stable n⟩
theorem need2 {β : Env} {w : World} {k : Nat} {n : Int} {l : List (Nat × Ob)} (h : holdsAll β w l) (hm : (k, (intT n).ob) ∈ l) : IntAt w (β k) 0 n := h _ hm
theorem one_int {f : FuncId} {args : Array Value} {w : World} {x : Int} (h : Calls Tryz.prog f args w fun e w' => ∃ g, e = .returned (.pointer (some ⟨g, 0, none⟩)) ∧ w.heap.size ≤ g ∧ IntAt w' g 0 x ∧ Below w.heap.size w w') (β : Env) (n : Nat) :
    Calls Tryz.prog f args w fun e w' => ∃ xs : List Nat, (∀ x ∈ xs, w.heap.size ≤ x) ∧ xs.Nodup ∧ e = .returned ((SV.one (.c (.b (.p n 0)))).den (extE β n xs)) ∧ newHold w' [intT x] xs ∧ Below w.heap.size w w' :=
  h.mono fun e w' ⟨g, he, h1, h2, h3⟩ => ⟨[g], by simpa using h1, by simp, by
    rw [he]
    have := extE_in (β := β) (n := n) (i := 0) (xs := [g]) rfl
    rw [Nat.add_zero] at this
    simp only [SV.den, SC.den, Lf.den, Lf0.den, this], ⟨h2, trivial⟩, h3⟩
def eNum {x : Rat} (k n : Nat) : Ev Tryz.prog := .call 213 Tryz.call213 (fun β => #[.pointer (some ⟨β k, 0, none⟩)]) [(k, (ratT x).ob)] n (.one (.c (.b (.p n 0)))) [intT x.num] (fun β w h => one_int (rNum_any (need1 (x := x) h (by simp))) β n)
def eDenom {x : Rat} (k n : Nat) : Ev Tryz.prog := .call 215 Tryz.call215 (fun β => #[.pointer (some ⟨β k, 0, none⟩)]) [(k, (ratT x).ob)] n (.one (.c (.b (.p n 0)))) [intT x.den] (fun β w h => one_int (rDenom_any (need1 (x := x) h (by simp))) β n)
def eIntCmp {a b c : Int} (k j : Nat) (hc : cmpI a b = c) : Ev Tryz.prog :=
  .call 268 Tryz.call268 (fun β => #[.pointer (some ⟨β k, 0, none⟩), .pointer (some ⟨β j, 0, none⟩)]) [(k, (intT a).ob), (j, (intT b).ob)] 0 (tag (.int .i64 c)) []
    (fun β w h => of_pure0 ((Cmp_any (need2 (n := a) h (by simp)) (need2 (n := b) h (by simp))).mono fun e w' ⟨he, hb⟩ => ⟨by rw [he, hc], hb⟩) (fun _ => rfl))
theorem okn_sz {n : Int} (h : sz n ≤ KB) : Okn n := by
  have := wl_size h
  unfold Okn
  have h2 : KB = 1000000000 := rfl
  omega
def eSetFrac {a b : Int} (i n k j : Nat) (h0 : b ≠ 0) (ha : sz a ≤ KB) (hb : sz b ≤ KB) : Ev Tryz.prog := .fill 256 Tryz.call256 (fun β => #[.pointer (some ⟨β i, 0, none⟩), .pointer (some ⟨β k, 0, none⟩), .pointer (some ⟨β j, 0, none⟩)]) [(k, (intT a).ob), (j, (intT b).ob)] i 4 n (fun w g => RatAt w g 0 (Rat.divInt a b)) (rat_stable _)
  (fun β w h hs => SetFrac_any hs (need2 h (by simp)) (need2 h (by simp)) h0 (okn_sz ha) (okn_sz hb))
/- The same, their places told where they are met. -/
section
variable {x y : Rat}
def mkR : Ev Tryz.prog := dynMk 220 4
def fAdd (hx : Sz KB x) (hy : Sz KB y) : Ev Tryz.prog := dyn3 fun i n k j => eFAdd i n k j hx hy
def fSub (hx : Sz KB x) (hy : Sz KB y) : Ev Tryz.prog := dyn3 fun i n k j => eFSub i n k j hx hy
def fMul (hx : Sz KB x) (hy : Sz KB y) : Ev Tryz.prog := dyn3 fun i n k j => eFMul i n k j hx hy
def fNeg (x : Rat) : Ev Tryz.prog := dyn2 fun i n k => eFNeg (x := x) i n k
def fInv (hx : Sz KB x) (h0 : x ≠ 0) : Ev Tryz.prog := dyn2 fun i n k => eFInv i n k hx h0
def fSetFrac {a b : Int} (h0 : b ≠ 0) (ha : sz a ≤ KB) (hb : sz b ≤ KB) : Ev Tryz.prog := dyn3 fun i n k j => eSetFrac i n k j h0 ha hb
def nNew (a b : Int) (ha : -9223372036854775808 ≤ a ∧ a ≤ 9223372036854775807) (hb : -9223372036854775808 ≤ b ∧ b ≤ 9223372036854775807) (h0 : b ≠ 0) : Ev Tryz.prog := dyn1 fun _ n => eNewRat n a b ha hb h0
def nNum (x : Rat) : Ev Tryz.prog := dyn1 fun k n => eNum (x := x) k n
def nDenom (x : Rat) : Ev Tryz.prog := dyn1 fun k n => eDenom (x := x) k n
def nSign {c : Int} (hc : x.num.sign = c) : Ev Tryz.prog := dyn1 fun k _ => eRatSign k hc
def nCmp {c : Int} (hx : Sz KB x) (hy : Sz KB y) (hc : cmpQ x y = c) : Ev Tryz.prog := dyn2 fun k _ j => eRatCmp k j hx hy hc
def nIntCmp {a b c : Int} (hc : cmpI a b = c) : Ev Tryz.prog := dyn2 fun k _ j => eIntCmp k j hc
end
end
/- Package exact: complex numbers by fractions of any length. -/
section
open Go Go.RowKit


set_option maxRecDepth 100000
abbrev KE : Nat := 10000000
abbrev KM : Nat := 100000000
theorem sz_lit (a b : Int) (ha : a.natAbs < 18446744073709551616) (hb : b.natAbs < 18446744073709551616) (h0 : b ≠ 0) : Sz 8 (Rat.divInt a b) :=
  sz_divInt h0 (sz_le.2 (Nat.lt_of_lt_of_le ha (by decide))) (sz_le.2 (Nat.lt_of_lt_of_le hb (by decide)))
theorem sign_zero (x : Rat) : (Value.bool (x.num.sign == 0)) = .bool (decide (x = 0)) := by
  congr 1
  rw [Bool.eq_iff_iff, beq_iff_eq, decide_eq_true_iff, Int.sign_eq_zero_iff_zero, Rat.num_eq_zero]
theorem sign_lit {x : Rat} {b : Bool} (h : decide (x = 0) = b) : (Value.bool (x.num.sign == 0)) = .bool b := by rw [sign_zero, h]

def sRat {x : Rat} (hx : Sz KB x) : Spec Tryz.prog :=
  Spec.of Tryz.call212 [.one (.c (.b (.p 0 0)))] [ratT x] (.one (.c (.b (.p 0 0)))) []
    []
    [] 2000 [] Tryz.func212 hmA (by kernel_rfl) (fun β => by kernel_rfl)

def sMulR {x : Rat} (hx : Sz KB x) {y : Rat} (hy : Sz KB y) : Spec Tryz.prog :=
  Spec.of Tryz.call235 [.one (.c (.b (.p 0 0))), .one (.c (.b (.p 1 0)))] [ratT x, ratT y] (.one (.c (.b (.p 2 0)))) [ratT (x * y)]
    [mkR,
    (sRat (hx.mono (by decide))).e,
    (sRat (hy.mono (by decide))).e,
    fMul (hx.mono (by decide)) (hy.mono (by decide))]
    [] 2000 [3] Tryz.func235 hmA (by kernel_rfl) (fun β => by kernel_rfl)

def sAdd {z : GQ} (hz : GSz KM z) {w : GQ} (hw : GSz KM w) : Spec Tryz.prog :=
  Spec.of Tryz.call181 [.one (.a [.b (.p 0 0), .b (.p 1 0)]), .one (.a [.b (.p 2 0), .b (.p 3 0)])] [ratT z.re, ratT z.im, ratT w.re, ratT w.im] (.one (.a [.b (.p 4 0), .b (.p 5 0)])) [ratT ((gadd z w).re), ratT ((gadd z w).im)]
    [mkR,
    (sRat (hz.1.mono (by decide))).e,
    (sRat (hw.1.mono (by decide))).e,
    fAdd (hz.1.mono (by decide)) (hw.1.mono (by decide)),
    mkR,
    (sRat (hz.2.mono (by decide))).e,
    (sRat (hw.2.mono (by decide))).e,
    fAdd (hz.2.mono (by decide)) (hw.2.mono (by decide))]
    [(1, 17)] 2000 [8, 10] Tryz.func181 hmA (by kernel_rfl) (fun β => by kernel_rfl)

def sSub {z : GQ} (hz : GSz KM z) {w : GQ} (hw : GSz KM w) : Spec Tryz.prog :=
  Spec.of Tryz.call182 [.one (.a [.b (.p 0 0), .b (.p 1 0)]), .one (.a [.b (.p 2 0), .b (.p 3 0)])] [ratT z.re, ratT z.im, ratT w.re, ratT w.im] (.one (.a [.b (.p 4 0), .b (.p 5 0)])) [ratT ((gsub z w).re), ratT ((gsub z w).im)]
    [mkR,
    (sRat (hz.1.mono (by decide))).e,
    (sRat (hw.1.mono (by decide))).e,
    fSub (hz.1.mono (by decide)) (hw.1.mono (by decide)),
    mkR,
    (sRat (hz.2.mono (by decide))).e,
    (sRat (hw.2.mono (by decide))).e,
    fSub (hz.2.mono (by decide)) (hw.2.mono (by decide))]
    [(1, 17)] 2000 [8, 10] Tryz.func182 hmA (by kernel_rfl) (fun β => by kernel_rfl)

def sMul {z : GQ} (hz : GSz KM z) {w : GQ} (hw : GSz KM w) : Spec Tryz.prog :=
  Spec.of Tryz.call172 [.one (.a [.b (.p 0 0), .b (.p 1 0)]), .one (.a [.b (.p 2 0), .b (.p 3 0)])] [ratT z.re, ratT z.im, ratT w.re, ratT w.im] (.one (.a [.b (.p 4 0), .b (.p 5 0)])) [ratT ((gmul z w).re), ratT ((gmul z w).im)]
    [mkR,
    (sMulR (hz.1.mono (by decide)) (hw.1.mono (by decide))).e,
    (sMulR (hz.2.mono (by decide)) (hw.2.mono (by decide))).e,
    fSub ((Sz.mul hz.1 hw.1).mono (by decide)) ((Sz.mul hz.2 hw.2).mono (by decide)),
    mkR,
    (sMulR (hz.1.mono (by decide)) (hw.2.mono (by decide))).e,
    (sMulR (hz.2.mono (by decide)) (hw.1.mono (by decide))).e,
    fAdd ((Sz.mul hz.1 hw.2).mono (by decide)) ((Sz.mul hz.2 hw.1).mono (by decide))]
    [(1, 25)] 2000 [10, 14] Tryz.func172 hmA (by kernel_rfl) (fun β => by kernel_rfl)

def sScale {z : GQ} (hz : GSz KB z) {x : Rat} (hx : Sz KB x) : Spec Tryz.prog :=
  Spec.of Tryz.call245 [.one (.a [.b (.p 0 0), .b (.p 1 0)]), .one (.c (.b (.p 2 0)))] [ratT z.re, ratT z.im, ratT x] (.one (.a [.b (.p 3 0), .b (.p 4 0)])) [ratT ((gscale z x).re), ratT ((gscale z x).im)]
    [(sMulR (hz.1.mono (by decide)) (hx.mono (by decide))).e,
    (sMulR (hz.2.mono (by decide)) (hx.mono (by decide))).e]
    [(1, 9)] 2000 [5, 6] Tryz.func245 hmA (by kernel_rfl) (fun β => by kernel_rfl)

def sNorm {z : GQ} (hz : GSz KM z) : Spec Tryz.prog :=
  Spec.of Tryz.call202 [.one (.a [.b (.p 0 0), .b (.p 1 0)])] [ratT z.re, ratT z.im] (.one (.c (.b (.p 2 0)))) [ratT (gnorm z)]
    [mkR,
    (sMulR (hz.1.mono (by decide)) (hz.1.mono (by decide))).e,
    (sMulR (hz.2.mono (by decide)) (hz.2.mono (by decide))).e,
    fAdd ((Sz.mul hz.1 hz.1).mono (by decide)) ((Sz.mul hz.2 hz.2).mono (by decide))]
    [] 2000 [6] Tryz.func202 hmA (by kernel_rfl) (fun β => by kernel_rfl)

def sNeg {z : GQ} (hz : GSz KM z) : Spec Tryz.prog :=
  Spec.of Tryz.call168 [.one (.a [.b (.p 0 0), .b (.p 1 0)])] [ratT z.re, ratT z.im] (.one (.a [.b (.p 2 0), .b (.p 3 0)])) [ratT ((gneg z).re), ratT ((gneg z).im)]
    [mkR,
    (sRat (hz.1.mono (by decide))).e,
    fNeg z.re,
    mkR,
    (sRat (hz.2.mono (by decide))).e,
    fNeg z.im]
    [(1, 11)] 2000 [5, 7] Tryz.func168 hmA (by kernel_rfl) (fun β => by kernel_rfl)

def sConj {z : GQ} (hz : GSz KM z) : Spec Tryz.prog :=
  Spec.of Tryz.call170 [.one (.a [.b (.p 0 0), .b (.p 1 0)])] [ratT z.re, ratT z.im] (.one (.a [.b (.p 0 0), .b (.p 2 0)])) [ratT ((gconj z).im)]
    [(sRat (hz.1.mono (by decide))).e,
    mkR,
    (sRat (hz.2.mono (by decide))).e,
    fNeg z.im]
    [(1, 9)] 2000 [5] Tryz.func170 hmA (by kernel_rfl) (fun β => by kernel_rfl)

def sParts {z : GQ} (hz : GSz KM z) : Spec Tryz.prog :=
  Spec.of Tryz.call200 [.one (.a [.b (.p 0 0), .b (.p 1 0)])] [ratT z.re, ratT z.im] (.tup [.c (.b (.p 0 0)), .c (.b (.p 1 0))]) []
    [(sRat (hz.1.mono (by decide))).e,
    (sRat (hz.2.mono (by decide))).e]
    [] 2000 [] Tryz.func200 hmA (by kernel_rfl) (fun β => by kernel_rfl)

theorem zero_ok {z : GQ} (hz : GSz KM z) {b : Bool} (hb : gzero z = b) (β : Env) (w : World) (hh : ∀ (k : Nat) (t : Thing), [ratT z.re, ratT z.im][k]? = some t → t.D w (β k)) :
    Calls Tryz.prog 138 ([SV.one (.a [.b (.p 0 0), .b (.p 1 0)])].map (SV.den β)).toArray w fun e w' => ∃ xs : List Nat, (∀ x ∈ xs, w.heap.size ≤ x) ∧ xs.Nodup ∧ e = .returned ((tag (.bool b)).den (extE β 2 xs)) ∧ newHold w' [] xs ∧ Below w.heap.size w w' := by
  cases h1 : decide (z.re = 0) with
  | false =>
    obtain rfl : b = false := by rw [← hb]; unfold gzero; rw [h1]; rfl
    exact spec_ok (obs := [ratT z.re, ratT z.im]) (idx := []) (Ns := []) (m := 400) (evs := [(sRat (hz.1.mono (by decide))).e, nSign (x := z.re) rfl, .eqv 7 (.bool ((z.re).num.sign == 0)) (.bool false) (sign_lit h1)]) Tryz.func138 hmA (fun β => by kernel_rfl) (by kernel_rfl) β w hh
  | true =>
    cases h2 : decide (z.im = 0) with
    | false =>
      obtain rfl : b = false := by rw [← hb]; unfold gzero; rw [h1, h2]; rfl
      exact spec_ok (obs := [ratT z.re, ratT z.im]) (idx := []) (Ns := []) (m := 400) (evs := [(sRat (hz.1.mono (by decide))).e, nSign (x := z.re) rfl, .eqv 7 (.bool ((z.re).num.sign == 0)) (.bool true) (sign_lit h1), (sRat (hz.2.mono (by decide))).e, nSign (x := z.im) rfl, .eqv 13 (.bool ((z.im).num.sign == 0)) (.bool false) (sign_lit h2)]) Tryz.func138 hmA (fun β => by kernel_rfl) (by kernel_rfl) β w hh
    | true =>
      obtain rfl : b = true := by rw [← hb]; unfold gzero; rw [h1, h2]; rfl
      exact spec_ok (obs := [ratT z.re, ratT z.im]) (idx := []) (Ns := []) (m := 400) (evs := [(sRat (hz.1.mono (by decide))).e, nSign (x := z.re) rfl, .eqv 7 (.bool ((z.re).num.sign == 0)) (.bool true) (sign_lit h1), (sRat (hz.2.mono (by decide))).e, nSign (x := z.im) rfl, .eqv 13 (.bool ((z.im).num.sign == 0)) (.bool true) (sign_lit h2)]) Tryz.func138 hmA (fun β => by kernel_rfl) (by kernel_rfl) β w hh
def sZero {z : GQ} (hz : GSz KM z) {b : Bool} (hb : gzero z = b) : Spec Tryz.prog :=
  ⟨138, Tryz.call138, [.one (.a [.b (.p 0 0), .b (.p 1 0)])], [ratT z.re, ratT z.im], tag (.bool b), [], zero_ok hz hb, by kernel_rfl⟩

def sDiv {z : GQ} (hz : GSz KM z) {w : GQ} (hw : GSz KM w) (h0 : gzero w = false) : Spec Tryz.prog :=
  Spec.of Tryz.call184 [.one (.a [.b (.p 0 0), .b (.p 1 0)]), .one (.a [.b (.p 2 0), .b (.p 3 0)])] [ratT z.re, ratT z.im, ratT w.re, ratT w.im] (.one (.a [.b (.p 4 0), .b (.p 5 0)])) [ratT ((gdiv z w).re), ratT ((gdiv z w).im)]
    [(sConj (hw.mono (by decide))).e,
    (sMul (hz.mono (by decide)) ((GSz.conj hw).mono (by decide))).e,
    mkR,
    (sNorm (hw.mono (by decide))).e,
    fInv ((GSz.norm hw).mono (by decide)) (gnorm_ne h0),
    (sScale ((GSz.mul hz (GSz.conj hw)).mono (by decide)) ((Sz.inv (GSz.norm hw) (gnorm_ne h0)).mono (by decide))).e]
    [(1, 9)] 2000 [13, 14] Tryz.func184 hmA (by kernel_rfl) (fun β => by kernel_rfl)
end
/- The reference of layer 2: cut, made, Of. -/
section
open Go.RowKit

set_option maxRecDepth 100000 in
theorem rcut_any {w : World} {A : Option Addr} {n cap : Nat} {xs : List Nat} (h : Words w (.slice A n cap) xs) :
    Calls Tryz.prog 288 #[.slice A n cap] w fun e w' => e = .returned (.slice A (trim xs).length cap) ∧ w = w' := by
  have hl := h.len.1
  have hb := h.2.1
  have hcap := h.len.2
  have HX := Lib.hid h
  have HL := Lib.hid hl
  have hbn : n ≤ 17179869184 := by omega
  clear h hb hl
  go_enter Tryz.func288, Tryz.ntmps288
  go_wp2
  go_loop [3] (fun i => ∃ k : Nat, k ≤ n ∧ i = .int .i64 (k : Int) ∧ Hid (trim (xs.take k) = trim xs)) (fun i => (intOf i).toNat)
  case atStart => exact ⟨n, Nat.le_refl _, rfl, by rw [Hid, List.take_of_length_le (by rw [HL.out]; exact Nat.le_refl _)]⟩
  case round =>
    obtain ⟨k, hk, rfl, HT⟩ := hrel
    by_cases hk0 : 0 < k
    · obtain ⟨b, o, rfl, hall⟩ := HX.out.open_ (by omega)
      have hc := hall (k - 1) (by have := HL.out; omega)
      obtain ⟨x, hx⟩ : ∃ x, x = xs.getD (k - 1) 0 := ⟨_, rfl⟩
      replace hc : w.cell? ⟨b, o + (k - 1), none⟩ = some (.int .u32 (x : Int)) := by rw [hx]; exact hc
      have hk1 : (k : Int) - 1 = ((k - 1 : Nat) : Int) := by omega
      have HXX := Lib.hid hx
      have hkl : k - 1 < n := by omega
      clear hall hx
      by_cases hx0 : x = 0
      · subst hx0
        have HT2 := Lib.hid (trim_take_pred xs k hk0 (by rw [← HL.out]; exact hk) HXX.out.symm)
        go_wp2
        go_round
        case rel => exact ⟨k - 1, by omega, by go_num, by rw [Hid, HT2.out]; exact HT.out⟩
        case measure => simp [intOf]; omega
      · have hq : ((x : Int) == 0) = false := by rw [beq_eq_false_iff_ne]; omega
        have HT2 := Lib.hid (trim_take_done xs k hk0 (by rw [← HL.out]; exact hk) (by rw [← HXX.out]; exact hx0))
        clear hx0
        go_wp2
        go_ret
        refine ⟨?_, rfl⟩
        rw [← HT.out, HT2.out]
        rfl
    · obtain rfl : k = 0 := by omega
      have HT2 : Hid ((trim xs).length = 0) := by rw [Hid, ← HT.out]; rfl
      go_wp2
      go_ret
      refine ⟨?_, rfl⟩
      rw [HT2.out]
      rfl

theorem made_byte {N k : Nat} (hk : 0 < k) (hN : N < 256 ^ k) : (N / 256 ^ (k - 1) % 256 = 0 → N < 256 ^ (k - 1)) ∧ (N / 256 ^ (k - 1) % 256 ≠ 0 → (led N).length = k) := by
  obtain ⟨j, rfl⟩ : ∃ j, k = j + 1 := ⟨k - 1, by omega⟩
  rw [Nat.add_sub_cancel]
  have hP : 0 < 256 ^ j := Nat.pow_pos (by decide)
  have h1 : N / 256 ^ j < 256 := Nat.div_lt_of_lt_mul (by rw [Nat.pow_succ] at hN; exact hN)
  rw [Nat.mod_eq_of_lt h1]
  constructor
  · intro h
    rcases Nat.lt_or_ge N (256 ^ j) with h2 | h2
    · exact h2
    · have := Nat.div_pos h2 hP
      omega
  · intro h
    have h2 : 256 ^ j ≤ N := by
      rcases Nat.lt_or_ge N (256 ^ j) with h2 | h2
      · exact absurd (Nat.div_eq_of_lt h2) h
      · exact h2
    have h3 := led_len_le N (j + 1) hN
    have h4 := led_lt N
    have h5 := (Nat.pow_lt_pow_iff_right (by decide : 1 < 256)).1 (Nat.lt_of_le_of_lt h2 h4)
    omega
theorem wholeV_sg {neg : Bool} {N : Nat} (h : N ≠ 0) : wholeV (sg neg N) = .agg #[.bool neg, .string (strN (led N).reverse)] := by
  unfold wholeV sg
  cases neg
  · simp only [Bool.false_eq_true, if_false, Int.natAbs_natCast]
    rw [show decide ((N : Int) < 0) = false by simp]
    rfl
  · simp only [if_true, Int.natAbs_neg, Int.natAbs_natCast]
    rw [show decide (-(N : Int) < 0) = true by simp; omega]
    rfl
theorem wholeV_sg0 {neg : Bool} : wholeV (sg neg 0) = .agg #[.bool false, .string ⟨#[]⟩] := by
  have h : (if neg = true then -((0 : Nat) : Int) else ((0 : Nat) : Int)) = 0 := by cases neg <;> rfl
  unfold wholeV sg
  rw [h]
  show Value.agg #[.bool false, .string (mag 0)] = _
  rw [mag_zero]
  rfl
set_option maxHeartbeats 1600000 in
set_option maxRecDepth 100000 in
theorem made_any {w : World} {A : Option Addr} {n cap : Nat} {xs : List Nat} (neg : Bool) (h : Words w (.slice A n cap) xs) (hn : n ≤ 4294967296) :
    Calls Tryz.prog 258 #[.bool neg, .slice A n cap] w fun e w' => e = .returned (wholeV (sg neg (val xs))) ∧ Below w.heap.size w w' := by
  have HB := Lib.hid (below_new w (.cells #[.bool false, .string ⟨#[]⟩] 23))
  have HC := Lib.hid (BoxAt.new w #[.bool false, .string ⟨#[]⟩] 23)
  have HX := Lib.hid (h.below HB.out)
  have HZ := Lib.hid (size_alloc w (.cells #[.bool false, .string ⟨#[]⟩] 23))
  obtain ⟨N, hN⟩ : ∃ N, N = val xs := ⟨_, rfl⟩
  have HNN := Lib.hid hN
  have hdl : trim xs = dig N := by rw [hN]; exact (dig_val xs h.1).symm
  have HD := Lib.hid hdl
  obtain ⟨l, hl⟩ : ∃ l, l = (dig N).length := ⟨_, rfl⟩
  have HL := Lib.hid hl
  have hln : l ≤ n := by rw [hl, ← hdl, h.len.1]; exact trim_length_le xs
  clear h hN hdl hl
  go_enter Tryz.func258, Tryz.ntmps258
  go_wp2_with fail
  refine (rcut_any HX.out).mono ?_
  rintro e w1 ⟨rfl, rfl⟩
  have hw := HX.out.trim_
  rw [HD.out] at hw ⊢
  rw [← HL.out] at hw ⊢
  have HW := Lib.hid hw
  clear hw
  by_cases hl0 : l = 0
  · subst hl0
    have hN0 : N = 0 := (dig_nil_iff N).1 (List.eq_nil_of_length_eq_zero HL.out.symm)
    have HN0 := Lib.hid hN0
    have hp0 := HC.out.cell 0 _ rfl
    have hp1 := HC.out.cell 1 _ rfl
    have hf := HC.out.frozen
    clear hN0
    go_wp2
    have hk := (HC.out.set 0 (.bool false)).set 1 (.string ⟨#[]⟩)
    have k0 := hk.cell 0 _ rfl
    have k1 := hk.cell 1 _ rfl
    exact bodyPost_ret (v := .agg #[.bool false, .string ⟨#[]⟩]) (by simp [results, Tryz.results258, go_sem, k0, k1]) rfl ⟨by rw [← HNN.out, HN0.out, wholeV_sg0], by first | exact HB.out | exact (HB.out.setCell (Nat.le_refl _) _).setCell (Nat.le_refl _) _⟩
  · have hl00 : ((l : Int) == 0) = false := by rw [beq_eq_false_iff_ne]; omega
    have HNP : Hid (N ≠ 0) := fun e => hl0 (by rw [HL.out, e, dig_zero]; rfl)
    clear hl0
    go_wp2
    go_loop [5] (fun i => ∃ k : Nat, k ≤ 4 * l ∧ i = .int .i64 (k : Int) ∧ Hid (N < 256 ^ k)) (fun i => (intOf i).toNat)
    case atStart =>
      refine ⟨4 * l, Nat.le_refl _, by go_num, ?_⟩
      have := dig_lt N
      rw [← HL.out, p32] at this
      rw [Hid, p256, show 8 * (4 * l) = 32 * l by omega]
      exact this
    case round =>
      obtain ⟨k, hk, rfl, hNk⟩ := hrel
      have hk0 : 0 < k := by
        rcases Nat.eq_zero_or_pos k with h | h
        · subst h
          have h1 := hNk.out
          have h2 := HNP.out
          simp at h1
          exact absurd h1 h2
        · exact h
      obtain ⟨b, o, rfl, hall⟩ := HW.out.open_ (by omega)
      obtain ⟨q, hq⟩ : ∃ q, q = (k - 1) / 4 := ⟨_, rfl⟩
      obtain ⟨r, hr⟩ : ∃ r, r = (k - 1) % 4 := ⟨_, rfl⟩
      obtain ⟨s, hs⟩ : ∃ s, s = (k - 1) % 4 * 8 := ⟨_, rfl⟩
      have hc := hall q (by omega)
      obtain ⟨x, hx'⟩ : ∃ x, x = N / 4294967296 ^ q % 4294967296 := ⟨_, rfl⟩
      have hx32 : x < 4294967296 := by rw [hx']; exact Nat.mod_lt _ (by decide)
      obtain ⟨y, hy⟩ : ∃ y, y = x / 2 ^ s := ⟨_, rfl⟩
      have hsh : (x : Int) / 2 ^ s = (y : Int) := by rw [hy, Int.natCast_ediv]; simp
      have hyb : y < 4294967296 := by rw [hy]; exact Nat.lt_of_le_of_lt (Nat.div_le_self _ _) hx32
      have hbyte : y % 256 = N / 256 ^ (k - 1) % 256 := by rw [hy, hx', hq, hs]; exact byte_word N (k - 1)
      have HMB := Lib.hid (made_byte hk0 hNk.out)
      rw [← hbyte] at HMB
      have hki : (k : Int) - 1 = ((k - 1 : Nat) : Int) := by omega
      have hqi : ((k - 1 : Nat) : Int) / 4 = (q : Int) := by omega
      have hri : ((k - 1 : Nat) : Int) % 4 = (r : Int) := by omega
      have hsi : 8 * (r : Int) = (s : Int) := by omega
      have hs24 : s ≤ 24 := by omega
      have hql : q < l := by omega
      have hc2 : (w.alloc (.cells #[.bool false, .string ⟨#[]⟩] 23)).cell? ⟨b, o + q, none⟩ = some (.int .u32 (x : Int)) := by rw [hx', ← dig_getD]; exact hc
      clear hall hc hx' hy hbyte hq hr hs
      by_cases hy0 : y % 256 = 0
      · have hyi : (((y : Int) % 256) == 0) = true := by rw [beq_iff_eq]; omega
        have HK1 := Lib.hid (HMB.out.1 hy0)
        clear hy0
        go_wp2
        go_round
        case rel => exact ⟨k - 1, by omega, by go_num, HK1.out⟩
        case measure => simp [intOf]; omega
      · have hyi : (((y : Int) % 256) == 0) = false := by rw [beq_eq_false_iff_ne]; omega
        have HM := Lib.hid (HMB.out.2 hy0)
        clear hy0
        go_wp2_with (at_make; refine wpList_make_bytes rfl _ _ rfl _ _ _ _ k k rfl rfl (by omega) (by omega) (Nat.le_refl _) (by omega) ?_)
        intro w2 hbuf hb2 hz2
        have HZ2 := Lib.hid hz2
        have HCC := Lib.hid HC
        clear hz2 hyi hsh hqi hri hsi hki hyb hx32 hql hc2
        obtain ⟨m, hm⟩ : ∃ m, m = k := ⟨_, rfl⟩
        have HSZ : Hid (w.heap.size ≤ (w.alloc (.cells #[.bool false, .string ⟨#[]⟩] 23)).heap.size) := HB.out.size
        go_wp2
        go_loopw [7] (fun i wr => ∃ (j : Nat), j ≤ k ∧ i = .int .i64 (j : Int) ∧ BBuf wr (w.heap.size + 1) (List.replicate (k - j) 0 ++ (led N).reverse.drop (k - j)) ∧ Below (w.heap.size + 1) (w.alloc (.cells #[.bool false, .string ⟨#[]⟩] 23)) wr) (fun i _ => k - (intOf i).toNat)
        case atStart =>
          exact ⟨0, by omega, rfl, by rw [Nat.sub_zero, List.drop_of_length_le (by rw [List.length_reverse, HM.out]; exact Nat.le_refl _), List.append_nil]; first | exact hbuf | (rw [HZ.out] at hbuf; exact hbuf), by first | exact hb2 | (rw [HZ.out] at hb2; exact hb2)⟩
        case round =>
          obtain ⟨j, hj, rfl, hbuf', hb'⟩ := hrel
          have hblt := hbuf'.lt
          clear hbuf hb2 HZ2
          by_cases hj0 : j < k
          · have hw3 := HW.out.below (w' := wr) (by rw [HZ.out]; exact hb')
            obtain ⟨b3, o3, e3, hall⟩ := hw3.open_ (by omega)
            cases e3
            obtain ⟨q, hq⟩ : ∃ q, q = j / 4 := ⟨_, rfl⟩
            obtain ⟨r, hr⟩ : ∃ r, r = j % 4 := ⟨_, rfl⟩
            obtain ⟨s, hs⟩ : ∃ s, s = j % 4 * 8 := ⟨_, rfl⟩
            have hc := hall q (by omega)
            obtain ⟨x, hx'⟩ : ∃ x, x = N / 4294967296 ^ q % 4294967296 := ⟨_, rfl⟩
            have hx32 : x < 4294967296 := by rw [hx']; exact Nat.mod_lt _ (by decide)
            replace hc : wr.cell? ⟨b, o + q, none⟩ = some (.int .u32 (x : Int)) := by rw [hx', ← dig_getD]; exact hc
            obtain ⟨y, hy⟩ : ∃ y, y = x / 2 ^ s := ⟨_, rfl⟩
            have hsh : (x : Int) / 2 ^ s = (y : Int) := by rw [hy, Int.natCast_ediv]; simp
            have hyb : y < 4294967296 := by rw [hy]; exact Nat.lt_of_le_of_lt (Nat.div_le_self _ _) hx32
            have hbyte : y % 256 = N / 256 ^ j % 256 := by rw [hy, hx', hq, hs]; exact byte_word N j
            have HBY := Lib.hid hbyte
            have hqi : (j : Int) / 4 = (q : Int) := by omega
            have hri : (j : Int) % 4 = (r : Int) := by omega
            have hsi : 8 * (r : Int) = (s : Int) := by omega
            have hs24 : s ≤ 24 := by omega
            have hql : q < l := by omega
            have hkj : ((k : Int) - 1 - (j : Int)) = ((k - 1 - j : Nat) : Int) := by omega
            have hc2 := hbuf'.cell (k - 1 - j) (by rw [List.length_append, List.length_replicate]; omega)
            have hf := hbuf'.frozen (k - 1 - j)
            have HBF := Lib.hid (hbuf'.set (k - 1 - j) (y % 256) _ (Nat.mod_lt _ (by decide)) rfl)
            have HH := Lib.hid hb'
            clear hall hw3 hx' hy hbyte hbuf' hb' hq hr hs
            go_wp2
            go_roundw
            case rel =>
              refine ⟨j + 1, by omega, by go_num, ?_, HH.out.setCell (Nat.le_refl _) _⟩
              have h := HBF.out
              have h2 := led_back N k j HM.out hj0
              rw [← HBY.out] at h2
              rw [h2] at h
              exact h
            case measure => simp [intOf]; omega
          · obtain rfl : j = k := by omega
            rw [Nat.sub_self, List.replicate_zero, List.nil_append, List.drop_zero] at hbuf'
            have hcv := string_of_byt (hbuf'.byt (n := j) (cap := j) (by rw [List.length_reverse]; exact HM.out))
            have HCW : Hid (BoxAt wr w.heap.size #[.bool false, .string ⟨#[]⟩] 23) := by
              have := HC.out
              unfold BoxAt at this
              unfold Hid BoxAt
              rw [hb'.block _ (by omega)]
              exact this
            have HH := Lib.hid (HB.out.trans (hb'.mono (Nat.le_succ _)))
            have hp0 := HCW.out.cell 0 _ rfl
            have hp1 := HCW.out.cell 1 _ rfl
            have hf := HCW.out.frozen
            clear hbuf' hb'
            go_wp2
            have hk := (HCW.out.set 0 (.bool neg)).set 1 (.string (strN (led N).reverse))
            have k0 := hk.cell 0 _ rfl
            have k1 := hk.cell 1 _ rfl
            exact bodyPost_ret (v := .agg #[.bool neg, .string (strN (led N).reverse)]) (by simp [results, Tryz.results258, go_sem, k0, k1]) rfl ⟨by rw [← HNN.out, wholeV_sg HNP.out], (HH.out.setCell (Nat.le_refl _) _).setCell (Nat.le_refl _) _⟩
end
end Go.Proofs.YtiolbdleihiocaaGreat
