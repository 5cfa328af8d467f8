/- Osp, GsA, GsB, IntG, GsC, GsD, GsE, L4, Wof, Ops, Near, Nst. -/
import Derived.Test.YtfnmclgicjmapaaGreatPk11
set_option linter.unnecessarySimpa false
set_option linter.unusedVariables false
set_option linter.unusedSimpArgs false
section
namespace Go.Proofs.YtfnmclgicjmapaaGreat.Y
open Go Go.RowKit
set_option maxRecDepth 100000
def Ob.ren (ρ : Nat → Nat) : Ob → Ob
  | .box cs t => .box (cs.map (Lf.ren ρ)) t
  | x => x
def ptrB : Option Lf → Bool
  | some (.b (.z _ _)) => true
  | some (.b (.p _ _)) => true
  | _ => false
def Ob.plainB : Ob → Bool
  | .box cs _ => Nat.blt cs.length 4 || ptrB cs[1]?
  | .th _ => true
  | _ => false
theorem Ob.holds_ren {β : Env} {w : World} {g : Pl} {ρ : Nat → Nat} : ∀ {o : Ob}, o.plainB = true → (o.ren ρ).holds β w g → o.holds (fun k => β (ρ k)) w g
  | .box cs t, _, h => ⟨h.1, by
    rw [h.2, List.map_map]
    rw [show (Lf.den β ∘ Lf.ren ρ) = Lf.den (fun k => β (ρ k)) from funext fun x => Lf.den_ren β ρ x]⟩
  | .th _, _, h => h
theorem Ob.holds_cg {q : Nat → Bool} {β β' : Env} {w : World} {g : Pl} (hq : ∀ k, q k = true → β k = β' k) : ∀ {o : Ob}, o.plainB = true → o.of q = true → o.holds β w g → o.holds β' w g
  | .box cs t, _, h, k => ⟨k.1, by rw [k.2, all_congr h (Lf.den_congr hq)]⟩
  | .th _, _, _, k => k
structure OSpec (P : Program) where
  f : FuncId
  en : Enters P f
  args : List SV
  obs : List Ob
  res : SV
  news : List Rat
  ok : ∀ β w, (∀ (k : Nat) (o : Ob), obs[k]? = some o → o.holds β w (β k)) → Calls P f (args.map (SV.den β)).toArray w fun e w' => ∃ xs : List Pl, (∀ x ∈ xs, ∀ c, x.F c → w.heap.size ≤ c ∨ ∃ i o, obs[i]? = some o ∧ o.isTh = true ∧ (β i).F c) ∧ e = .returned (res.den (extE β obs.length xs)) ∧ newHold w' (news.map ratT) xs ∧ Below w.heap.size w w'
  closed : (args.all (SV.of fun k => Nat.blt k obs.length) && obs.all (fun x => x.of (fun k => Nat.blt k obs.length) && x.plainB) && res.of fun k => Nat.blt k (obs.length + news.length)) = true
def mtBox (o c : Ob) : List (Nat × Nat) := match o, c with
  | .box xs _, .box ys _ => mtLs xs ys
  | _, _ => []
def mtObs (obs ob : List Ob) : List (Nat × Nat) → List (Nat × Nat)
  | [] => []
  | (k, j) :: r => (match obs[k]?, ob[j]? with | some o, some c => mtBox o c | _, _ => []) ++ mtObs obs ob r
def sigO {P : Program} (S : OSpec P) (xs : List SV) (ob : List Ob) : List Nat := sigL (mtVs S.args xs ++ mtObs S.obs ob (mtVs S.args xs)) 0 S.obs.length
def needsO (σ : List Nat) (ρ : Nat → Nat) : List Ob → Nat → List (Nat × Ob)
  | [], _ => []
  | o :: r, k => (lit (σ.getD k 0) fun j => j, o.ren ρ) :: needsO σ ρ r (k + 1)
theorem needsO_at {σ : List Nat} {ρ : Nat → Nat} : ∀ {l : List Ob} {i k : Nat} {o : Ob}, l[k]? = some o → (σ.getD (i + k) 0, o.ren ρ) ∈ needsO σ ρ l i
  | x :: r, i, 0, o, h => by
    simp only [List.getElem?_cons_zero] at h
    obtain rfl := Option.some.inj h
    unfold needsO
    rw [lit_eq]
    exact List.mem_cons_self ..
  | x :: r, i, k + 1, o, h => by
    have := needsO_at (σ := σ) (ρ := ρ) (l := r) (i := i + 1) (k := k) (o := o) (by simpa using h)
    rw [show i + (k + 1) = i + 1 + k by omega]
    exact List.mem_cons_of_mem _ this
def OSpec.ev {P : Program} (S : OSpec P) (σ : List Nat) (n : Nat) (hσ : (Nat.ble S.obs.length σ.length && σ.all fun k => Nat.blt k n) = true) : Ev P :=
  .call S.f S.en (fun β => (S.args.map (SV.den fun k => β (atS σ S.obs.length n k))).toArray) (needsO σ (atS σ S.obs.length n) S.obs 0) n (S.res.ren (atS σ S.obs.length n)) (S.news.map ratT) fun β w h => by
    have hc := S.closed
    simp only [Bool.and_eq_true] at hc
    have hat : ∀ k, k < S.obs.length → atS σ S.obs.length n k = σ.getD k 0 := fun k hk => by
      unfold atS
      rw [lit_eq, show Nat.blt k S.obs.length = true by rw [Nat.blt_eq]; exact hk, cond_true]
    have hat2 : ∀ k, ¬ k < S.obs.length → atS σ S.obs.length n k = n + (k - S.obs.length) := fun k hk => by
      unfold atS
      rw [lit_eq, show Nat.blt k S.obs.length = false by rw [Bool.eq_false_iff, ne_eq, Nat.blt_eq]; exact hk, cond_false]
    rw [Bool.and_eq_true, Nat.ble_eq] at hσ
    have hsn : ∀ k, k < S.obs.length → σ.getD k 0 < n := fun k hk => by
      rw [List.getD_eq_getElem?_getD]
      cases hx : σ[k]? with
      | none => rw [List.getElem?_eq_none_iff] at hx; omega
      | some y => have := List.all_eq_true.1 hσ.2 y (List.mem_of_getElem? hx); rw [Nat.blt_eq] at this; exact this
    have hq : ∀ k, Nat.blt k S.obs.length = true → β (atS σ S.obs.length n k) = β (σ.getD k 0) := fun k hk => by rw [hat k (by simpa [Nat.blt_eq] using hk)]
    have hargs : S.args.map (SV.den fun k => β (atS σ S.obs.length n k)) = S.args.map (SV.den fun k => β (σ.getD k 0)) := List.map_congr_left fun x hx => SV.den_congr hq _ (List.all_eq_true.1 hc.1.1 x hx)
    rw [hargs]
    refine (S.ok (fun k => β (σ.getD k 0)) w fun k o hk => ?_).mono ?_
    · have ho := List.all_eq_true.1 hc.1.2 o (List.mem_of_getElem? hk)
      rw [Bool.and_eq_true] at ho
      have hlt : k < S.obs.length := (List.getElem?_eq_some_iff.1 hk).1
      have h1 : (o.ren (atS σ S.obs.length n)).holds β w (β (σ.getD k 0)) := by
        have := h _ (needsO_at (i := 0) hk)
        rwa [Nat.zero_add] at this
      exact Ob.holds_cg hq ho.2 ho.1 (Ob.holds_ren ho.2 h1)
    · rintro e w' ⟨xs, h1, rfl, h3, h4⟩
      refine ⟨xs, fun x hx c hc2 => ?_, ?_, h3, h4⟩
      · rcases h1 x hx c hc2 with h5 | ⟨i, o, h5, h6, h7⟩
        · exact .inl h5
        · refine .inr ⟨_, needsO_at (i := 0) h5, ?_, ?_⟩
          · cases o <;> first | exact h6 | cases h6
          · rw [Nat.zero_add]; exact h7
      · rw [SV.den_ren]
        congr 1
        refine SV.den_congr (fun k hk => ?_) _ hc.2
        have hlen := (newHold_get h3).1
        rw [List.length_map] at hlen
        rw [Nat.blt_eq] at hk
        by_cases hk2 : k < S.obs.length
        · rw [hat k hk2, extE_out (β := β) (n := n) (k := σ.getD k 0) (xs := xs) (by have := hsn k hk2; omega), extE_out (n := S.obs.length) (k := k) (xs := xs) (by omega)]
        · rw [hat2 k hk2]
          have h5 : k - S.obs.length < xs.length := by omega
          rw [extE_in (List.getElem?_eq_getElem h5)]
          have := extE_in (β := fun k => β (σ.getD k 0)) (n := S.obs.length) (List.getElem?_eq_getElem h5)
          rw [show S.obs.length + (k - S.obs.length) = k by omega] at this
          exact this
def OSpec.e {P : Program} (S : OSpec P) : Ev P := .dyn (fun o _ _ => isCallB o) fun _ xs ob =>
  lits (sigO S xs ob) fun σ => lit ob.length fun n => if h : (Nat.ble S.obs.length σ.length && σ.all fun k => Nat.blt k n) = true then S.ev σ n h else .eqv 0 undef undef rfl
theorem ptr_no_rat {w : World} {b : Nat} {cs : Array Value} {t : TypeId} {x : Rat} {q : Option Addr} (h : w.heap[b]? = some (.cells cs t (0, 0))) (hq : cs[1]? = some (.pointer q)) (k : RatAt w b 0 x) : False := by
  obtain ⟨A, m, cap, _, h1, _⟩ := k.2.1.open_
  have h2 := cell_lay (o := 1) h hq
  rw [Nat.zero_add, h2] at h1
  cases h1
theorem small_no_rat {w : World} {b : Nat} {cs : Array Value} {t : TypeId} {x : Rat} (h : w.heap[b]? = some (.cells cs t (0, 0))) (hs : cs.size < 4) (k : RatAt w b 0 x) : False := by
  obtain ⟨cs', t', h1, _, h2⟩ := k.1
  rw [h] at h1
  obtain ⟨rfl, _, _⟩ := Obj.cells.inj (Option.some.inj h1)
  omega
def idxO (P : Program) (fn : Func) (args : List SV) (obs : List Ob) (evs : List (Ev P)) (Ns : List (Nat × Nat)) (m : Nat) (res : SV) : List (Nat × Nat) :=
  match fn.body with
  | some c => match fullS P fn args obs evs Ns m c with
    | some f => match run1 P obs.length false (results fn (tmpsS idE f.sl (sizeS fn args))) f.q f.ob [] with
      | some ⟨v, _, _, _⟩ => mtR res (tag v)
      | none => []
    | none => []
  | none => []
def specO (P : Program) (fn : Func) (args : List SV) (obs : List Ob) (evs : List (Ev P)) (Ns : List (Nat × Nat)) (m : Nat) (res : SV) (news : List Rat) (idx : List Nat) (β : Env) : Eqs :=
  allS P fn args obs evs Ns m (res.ren (backS obs.length idx)) (idx.zip (news.map fun x => (ratT x).ob)) β
def specOA (P : Program) (fn : Func) (args : List SV) (obs : List Ob) (evs : List (Ev P)) (Ns : List (Nat × Nat)) (m : Nat) (res : SV) (news : List Rat) (β : Env) : Eqs :=
  lits (sigL (idxO P fn args obs evs Ns m res) obs.length news.length) fun idx => specO P fn args obs evs Ns m res news idx β
theorem newHold_rats {β : Env} {w : World} : ∀ {idx : List Nat} {l : List Rat}, idx.length = l.length → holdsAll β w (idx.zip (l.map fun x => (ratT x).ob)) → newHold w (l.map ratT) (idx.map β)
  | [], [], _, _ => trivial
  | [], _ :: _, h, _ => by simp at h
  | _ :: _, [], h, _ => by simp at h
  | i :: r, t :: l, h, k => ⟨k (i, (ratT t).ob) (by simp), newHold_rats (by simpa using h) fun p hp => k p (by simp only [List.map_cons, List.zip_cons_cons]; exact List.mem_cons_of_mem _ hp)⟩
theorem ospec_ok {P : Program} {f : FuncId} {fn : Func} {args : List SV} {obs : List Ob} {evs : List (Ev P)} {Ns : List (Nat × Nat)} {m : Nat} {res : SV} {news : List Rat} (hf : P.funcs[f]? = some fn) (hm : P.follows .mixedOrders = true)
    (h0 : ∀ β, (specOA P fn args obs evs Ns m res news β).map Prod.fst = (specOA P fn args obs evs Ns m res news β).map Prod.snd)
    (hB : (args.all (SV.of fun k => Nat.blt k obs.length) && obs.all (fun x => x.of (fun k => Nat.blt k obs.length) && x.plainB) && res.of fun k => Nat.blt k (obs.length + news.length)) = true)
    (β : Env) (w : World) (hh : ∀ (k : Nat) (o : Ob), obs[k]? = some o → o.holds β w (β k)) :
    Calls P f (args.map (SV.den β)).toArray w fun e w' => ∃ xs : List Pl, (∀ x ∈ xs, ∀ c, x.F c → w.heap.size ≤ c ∨ ∃ i o, obs[i]? = some o ∧ o.isTh = true ∧ (β i).F c) ∧ e = .returned (res.den (extE β obs.length xs)) ∧ newHold w' (news.map ratT) xs ∧ Below w.heap.size w w' := by
  obtain ⟨idx, hidx⟩ : ∃ idx, idx = sigL (idxO P fn args obs evs Ns m res) obs.length news.length := ⟨_, rfl⟩
  have hlen : idx.length = news.length := by rw [hidx, sigL_len]
  have h : ∀ β, (specO P fn args obs evs Ns m res news idx β).map Prod.fst = (specO P fn args obs evs Ns m res news idx β).map Prod.snd := fun β => by
    have := h0 β
    unfold specOA at this
    rw [lits_eq, ← hidx] at this
    exact this
  simp only [Bool.and_eq_true] at hB
  obtain ⟨⟨h1, h2⟩, h3⟩ := hB
  refine (sx (P := P) args obs evs Ns m (res.ren (backS obs.length idx)) (idx.zip (news.map fun x => (ratT x).ob)) hf hm (fun β => ok_of_maps (h β)) h1
    (List.all_eq_true.2 fun x hx => by
      have := List.all_eq_true.1 h2 x hx
      rw [Bool.and_eq_true] at this ⊢
      refine ⟨this.1, ?_⟩
      have h4 := this.2
      cases x <;> first | rfl | cases h4) β w hh).mono ?_
  rintro e w' ⟨β', q, obj, e1, rfl, e2, e4, e5, g⟩
  have hz : (idx.zip (news.map fun x => (ratT x).ob)).map (fun p => β' p.1) = idx.map β' := by
    rw [show (fun p : Nat × Ob => β' p.1) = β' ∘ Prod.fst from rfl, ← List.map_map, List.map_fst_zip (by rw [List.length_map]; omega)]
  refine ⟨idx.map β', fun x hx c hcF => ?_, ?_, newHold_rats hlen e5, g.bel⟩
  · rw [← hz] at hx
    obtain ⟨p, hp, rfl⟩ := List.mem_map.1 hx
    rcases e4 p hp c hcF with h5 | ⟨i, h5, h6⟩
    · exact .inl h5
    · have ho := List.getElem?_eq_getElem h5
      have hpl := List.all_eq_true.1 h2 obs[i] (List.getElem_mem h5)
      rw [Bool.and_eq_true] at hpl
      have hho := hh i _ ho
      generalize obs[i] = o at ho hpl hho
      cases o with
      | th D => exact .inr ⟨i, _, ho, rfl, h6⟩
      | box cs t =>
        exfalso
        obtain ⟨hone, hheap⟩ := hho
        have hcb := (hone.1 c).1 h6
        subst hcb
        obtain ⟨r, hr⟩ : ∃ r, p.2 = (ratT r).ob := by
          have := (List.of_mem_zip hp).2
          obtain ⟨r, _, hr⟩ := List.mem_map.1 this
          exact ⟨r, hr.symm⟩
        have hD := e5 p hp
        rw [hr] at hD
        obtain ⟨b, hb1, hb2⟩ : PR r w' (β' p.1) := hD
        have hcb := (hb1.2 _).1 hcF
        subst hcb
        have hw : w'.heap[(β i).b]? = some (.cells (cs.map (Lf.den β)).toArray t (0, 0)) := by rw [g.bel.block _ (heap_lt hheap)]; exact hheap
        have := hpl.2
        unfold Ob.plainB at this
        rw [Bool.or_eq_true, Nat.blt_eq] at this
        rcases this with this | this
        · exact small_no_rat hw (by simpa using this) hb2
        · obtain ⟨q, hq⟩ : ∃ q, (cs.map (Lf.den β))[1]? = some (.pointer q) := by
            rw [List.getElem?_map]
            unfold ptrB at this
            split at this
            · rename_i k j e; rw [e]; exact ⟨_, rfl⟩
            · rename_i k j e; rw [e]; exact ⟨_, rfl⟩
            · cases this
          exact ptr_no_rat hw (by simpa using hq) hb2
      | al r D => cases hpl.2
      | pl n => cases hpl.2
      | row cs t n sz => cases hpl.2
      | dead => cases hpl.2
  · rw [SV.den_ren]
    congr 1
    refine SV.den_congr (fun k hk => ?_) _ h3
    rw [Nat.blt_eq] at hk
    unfold backS
    rw [lit_eq]
    by_cases hk2 : k < obs.length
    · rw [show Nat.blt k obs.length = true by rw [Nat.blt_eq]; exact hk2, cond_true, extE_out (by omega)]
      exact e1 k hk2
    · rw [show Nat.blt k obs.length = false by rw [Bool.eq_false_iff, ne_eq, Nat.blt_eq]; exact hk2, cond_false]
      have h5 : k - obs.length < idx.length := by omega
      have := extE_in (β := β) (n := obs.length) (xs := idx.map β') (i := k - obs.length) (x := β' idx[k - obs.length]) (by simp [h5])
      rw [show obs.length + (k - obs.length) = k by omega] at this
      rw [this, List.getD_eq_getElem?_getD, List.getElem?_eq_getElem h5, Option.getD_some]
def OSpec.auto {P : Program} {f : FuncId} {fn : Func} (en : Enters P f) (args : List SV) (obs : List Ob) (res : SV) (news : List Rat) (evs : List (Ev P)) (Ns : List (Nat × Nat)) (m : Nat) (hf : P.funcs[f]? = some fn) (hm : P.follows .mixedOrders = true)
    (hB : (args.all (SV.of fun k => Nat.blt k obs.length) && obs.all (fun x => x.of (fun k => Nat.blt k obs.length) && x.plainB) && res.of fun k => Nat.blt k (obs.length + news.length)) = true)
    (h : ∀ β, (specOA P fn args obs evs Ns m res news β).map Prod.fst = (specOA P fn args obs evs Ns m res news β).map Prod.snd) : OSpec P :=
  ⟨f, en, args, obs, res, news, ospec_ok hf hm h hB, hB⟩
end Go.Proofs.YtfnmclgicjmapaaGreat.Y
end
section
namespace Go.Proofs.YtfnmclgicjmapaaGreat.Y
open Go Go.RowKit
set_option maxRecDepth 100000
theorem text_no_rat {w : World} {b : Nat} {c0 : Value} {s : ByteArray} {l : List Value} {t : TypeId} {x : Rat} (h : w.heap[b]? = some (.cells (c0 :: .string s :: l).toArray t (0, 0))) (k : RatAt w b 0 x) : False := by
  obtain ⟨A, m, cap, _, h1, _⟩ := k.2.1.open_
  have h2 := cell_lay (o := 1) h rfl
  rw [Nat.zero_add, h2] at h1
  cases h1
abbrev opA : List SV := [.one (.c (.b (.s 0 0 2 2)))]
def op2L (a b : Gn) : List Lf := rL a.x ++ rL a.y ++ rL b.x ++ rL b.y
def numR (z w : GQ) : List Cd := [.r z.re, .r z.im, .r w.re, .r w.im]
def five (z w : GQ) : List (Nat × Ob) := [(13, .row [.b (.z 3 0), .b (.z 4 0), .b (.z 9 0), .b (.z 10 0)] 203 2 2), (3, (ratT z.re).ob), (4, (ratT z.im).ob), (9, (ratT w.re).ob), (10, (ratT w.im).ob)]
noncomputable def opE {z w : GQ} (hz : FitG z) (hw : FitG w) : List (Ev Tryz.prog) := [.app appN, ofE hz, .app appN, ofE hw, .app appN]
theorem open2_eqs {z w : GQ} (hz : FitG z) (hw : FitG w) (β : Env) :
    (allS Tryz.prog Tryz.f357 opA [.box (op2L (.ok z hz) (.ok w hw)) 45] (opE hz hw) [] 800 (.tup [.c (.b (.r 13 2)), .c (.b (.v (.int .i64 0)))]) (five z w) β).map Prod.fst =
    (allS Tryz.prog Tryz.f357 opA [.box (op2L (.ok z hz) (.ok w hw)) 45] (opE hz hw) [] 800 (.tup [.c (.b (.r 13 2)), .c (.b (.v (.int .i64 0)))]) (five z w) β).map Prod.snd := by kernel_rfl
theorem opened_ok {z w' : GQ} (hz : FitG z) (hw : FitG w') (β : Env) (w : World) (hh : (Ob.box (op2L (.ok z hz) (.ok w' hw)) 45).holds β w (β 0)) :
    Calls Tryz.prog 357 (opA.map (SV.den β)).toArray w fun e u => ∃ xs : List Pl, (∀ x ∈ xs, ∀ c, x.F c → w.heap.size ≤ c) ∧ e = .returned ((SV.tup [.c (.b (.y 1 4 2)), .c (.b (.v (.int .i64 0)))]).den (extE β 1 xs)) ∧ newHold u [rowT 203 (numR z w')] xs ∧ Below w.heap.size w u := by
  refine (sx (P := Tryz.prog) opA [.box (op2L (.ok z hz) (.ok w' hw)) 45] (opE hz hw) [] 800 (.tup [.c (.b (.r 13 2)), .c (.b (.v (.int .i64 0)))]) (five z w') Tryz.func357 hmA (fun β => ok_of_maps (open2_eqs hz hw β)) (by kernel_rfl) (by kernel_rfl) β w (fun k o ho => ?_)).mono ?_
  · cases k with
    | zero => simp only [List.getElem?_cons_zero] at ho; obtain rfl := Option.some.inj ho; exact hh
    | succ k => simp at ho
  · rintro e u ⟨β', q, obj, e1, rfl, e2, e4, e5, g⟩
    have hnew : ∀ p ∈ five z w', ∀ c, (β' p.1).F c → c ≠ (β 0).b → w.heap.size ≤ c := fun p hp c hc hne => by
      rcases e4 p hp c hc with h | ⟨i, hi, h⟩
      · exact h
      · obtain rfl : i = 0 := by simp only [List.length_singleton] at hi; omega
        exact absurd ((hh.1.1 c).1 h) hne
    have hu : u.heap[(β 0).b]? = some (.cells ((op2L (.ok z hz) (.ok w' hw)).map (Lf.den β)).toArray 45 (0, 0)) := by rw [g.bel.block _ (heap_lt hh.2)]; exact hh.2
    have hrat : ∀ (k : Nat) (x : Rat), (k, (ratT x).ob) ∈ five z w' → ∃ b, (β' k).v 0 = some ⟨b, 0, none⟩ ∧ w.heap.size ≤ b ∧ RatAt u b 0 x := fun k x hk => by
      obtain ⟨b, hb, hx⟩ : PR x u (β' k) := e5 _ hk
      refine ⟨b, hb.1, hnew _ hk b ((hb.2 b).2 rfl) fun e => ?_, hx⟩
      rw [e] at hx
      exact text_no_rat hu hx
    obtain ⟨b1, p1, n1, k1⟩ := hrat 3 z.re (by simp [five])
    obtain ⟨b2, p2, n2, k2⟩ := hrat 4 z.im (by simp [five])
    obtain ⟨b3, p3, n3, k3⟩ := hrat 9 w'.re (by simp [five])
    obtain ⟨b4, p4, n4, k4⟩ := hrat 10 w'.im (by simp [five])
    obtain ⟨hone, cur, hcur, hcl, hn, hcm, hsz, htake⟩ := e5 (13, .row [.b (.z 3 0), .b (.z 4 0), .b (.z 9 0), .b (.z 10 0)] 203 2 2) (by simp [five])
    have hr : w.heap.size ≤ (β' 13).b := hnew _ (by simp [five]) _ ((hone.1 _).2 rfl) fun e => by
      rw [e, hu] at hcur
      have := (Obj.cells.inj (Option.some.inj hcur)).2.1
      exact absurd this (by decide)
    refine ⟨[⟨(β' 13).b, fun i => match i with | 0 => some ⟨b1, 0, none⟩ | 1 => some ⟨b2, 0, none⟩ | 2 => some ⟨b3, 0, none⟩ | 3 => some ⟨b4, 0, none⟩ | _ => some ⟨(β' 13).b, 0, none⟩, fun _ => (β' 13).c 0, fun c => c = (β' 13).b ∨ c = b1 ∨ c = b2 ∨ c = b3 ∨ c = b4, fun _ => undef⟩], fun x hx c hc => ?_, ?_, ⟨⟨⟨.inl rfl, cur, hcur, ?_⟩, ⟨⟨.inr ⟨b1, rfl, .inr (.inl rfl), k1⟩, .inr ⟨b2, rfl, .inr (.inr (.inl rfl)), k2⟩, .inr ⟨b3, rfl, .inr (.inr (.inr (.inl rfl))), k3⟩, .inr ⟨b4, rfl, .inr (.inr (.inr (.inr rfl))), k4⟩, trivial⟩, rfl⟩, fun c hc => ?_⟩, trivial⟩, g.bel⟩
    · obtain rfl := List.mem_singleton.1 hx
      rcases hc with rfl | rfl | rfl | rfl | rfl <;> assumption
    · rfl
    · have : (numR z w').length = 2 * 2 := rfl
      rw [this, htake]
      show [Value.pointer _, .pointer _, .pointer _, .pointer _] = [Value.pointer _, .pointer _, .pointer _, .pointer _]
      show [Value.pointer ((β' 3).v 0), .pointer ((β' 4).v 0), .pointer ((β' 9).v 0), .pointer ((β' 10).v 0)] = _
      rw [p1, p2, p3, p4]
      rfl
    · rcases hc with rfl | rfl | rfl | rfl | rfl
      · exact heap_lt hcur
      · exact k1.lt
      · exact k2.lt
      · exact k3.lt
      · exact k4.lt
noncomputable def sOpened {z w : GQ} (hz : FitG z) (hw : FitG w) : CSpec Tryz.prog :=
  ⟨357, Tryz.call357, opA, op2L (.ok z hz) (.ok w hw), 45, .tup [.c (.b (.y 1 4 2)), .c (.b (.v (.int .i64 0)))], [rowT 203 (numR z w)], opened_ok hz hw, by kernel_rfl⟩
end Go.Proofs.YtfnmclgicjmapaaGreat.Y
end
section
namespace Go.Proofs.YtfnmclgicjmapaaGreat.Y
open Go Go.RowKit
set_option maxRecDepth 100000
abbrev FT2 : TypeId := 261
abbrev FT1 : TypeId := 238
def FN (v : Value) (T : TypeId) (w : World) (g : Pl) : Prop := ∃ b, At1 g b ∧ w.heap[b]? = some (.cells #[v] T (0, 0))
theorem fn_stable (v : Value) (T : TypeId) : Stable (FN v T) :=
  ⟨fun w g ⟨b, h, k⟩ c hc => by rw [(h.2 c).1 hc]; exact heap_lt k, fun w w' g ⟨b, h, k⟩ hb => ⟨b, h, by rw [hb.block b (heap_lt k)]; exact k⟩,
    fun w w' g b o n m ⟨d, h, k⟩ hs ht hne => ⟨d, h, by rw [ht.block d (heap_lt k) fun e => hne ((h.2 b).2 e.symm)]; exact k⟩⟩
def funT (v : Value) (T : TypeId) : Thing := thing (FN v T) (fn_stable v T)
abbrev fnV (g : FuncId) : Value := .func (.func g) #[] #[]
abbrev fnL (g : FuncId) : Lf := .f (.func g) [] []
def rdFun (d t : Nat) (g : FuncId) (k : Nat) : Ev Tryz.prog := .rd d (.load FT2 (.tmp t)) (fun β => [.pointer ((β k).v 0)]) [(k, (funT (fnV g) FT2).ob)] 0 (.one (.c (fnL g))) [] (fun β w h ρ o ho hx => by
  obtain ⟨b, hb, hk⟩ : FN (fnV g) FT2 w (β k) := h (k, (funT (fnV g) FT2).ob) (by simp)
  have h2 : ρ (.tmp t) = .pointer (some ⟨b, 0, none⟩) := by
    rw [hb.1] at hx
    simpa [Op.operands] using hx
  have hc := cell_lay (o := 0) (u := fnV g) hk rfl
  have hagg : (isAgg FT2).run Tryz.prog w = .ok false w := by
    unfold isAgg
    simp [run_underlying Tryz.underlying261]
  have hl : (loadVar FT2 ⟨b, 0, none⟩).run Tryz.prog w = .ok (fnV g) w := by
    unfold loadVar
    simp [hagg, hc]
  refine ⟨[], w, (fun _ h => by cases h), ?_, trivial, Below.refl _ _⟩
  unfold execOp
  rw [ho]
  simp only [h2]
  simp [Instr.loadAt, Instr.sureAddr, hl, Result.andThen]
  rfl)
def dFun (g : FuncId) : Ev Tryz.prog := .dyn (fun o xs ob => match o.op with
  | .load T (.tmp _) => Nat.beq T FT2
  | _ => false) fun o xs _ => match o.op with
  | .load _ (.tmp t) => lit (ptOf (xs.getD 0 undefS)) fun k => rdFun (o.dst.getD 0) t g k
  | _ => .eqv 0 undef undef rfl
abbrev sureL : Lf := .f (.func 358) [] [.z 0 0]
abbrev madeL : Lf := .f (.func 349) [] [.p 0 0]
theorem sure_ok (g : FuncId) (β : Env) (w : World) : Calls Tryz.prog 253 (([.one (.c (fnL g))] : List SV).map (SV.den β)).toArray w fun e u => ∃ xs : List Pl, freshS β w 0 xs ∧ e = .returned ((SV.one (.c sureL)).den (extE β 0 xs)) ∧ newHold u [funT (fnV g) FT2] xs ∧ Below w.heap.size w u := by
  refine (sx (P := Tryz.prog) [.one (.c (fnL g))] [] [] [] 400 (.one (.c (.f (.func 358) [] [.p 0 0]))) [(0, .box [fnL g] FT2)] Tryz.func253 hmA (fun β => ok_of_maps (by kernel_rfl)) (by kernel_rfl) (by kernel_rfl) β w (fun k o ho => by simp at ho)).mono ?_
  rintro e u ⟨β', q, obj, e1, rfl, e2, e4, e5, gd⟩
  obtain ⟨hone, hheap⟩ := e5 (0, .box [fnL g] FT2) (by simp)
  refine ⟨[newPl (β' 0).b], fun x hx c hc => ?_, rfl, ⟨⟨_, (newPl_one _).at1, hheap⟩, trivial⟩, gd.bel⟩
  obtain rfl := List.mem_singleton.1 hx
  rw [((newPl_one _).1 c).1 hc]
  exact e4 (0, .box [fnL g] FT2) (by simp) _ ((hone.1 _).2 rfl)
def sSure (g : FuncId) : Spec Tryz.prog :=
  ⟨253, Tryz.call253, [.one (.c (fnL g))], [], .one (.c sureL), [funT (fnV g) FT2], fun β w _ => sure_ok g β w, by kernel_rfl⟩
noncomputable abbrev gA2 (z : GQ) : SV := .tup [.a (lsX (gaC z)), nI' (gaK z)]
abbrev ga0 (k : Int) : SV := .tup [.a (lsX g0C), nI' k]
abbrev gnS (a : Gn) : SV := .one (.a (rL a.x ++ rL a.y))
theorem _root_.Go.Proofs.YtfnmclgicjmapaaGreat.FitG.gsz {z : GQ} (h : FitG z) : GSz 1024 z := ⟨h.1.sz, h.2.sz⟩
noncomputable def sSureAdd {z w : GQ} (hz : FitG z) (hw : FitG w) : Spec Tryz.prog :=
  Spec.auto Tryz.call358 [nV 0, nV 2, .one (.c (.b (.z 4 0)))] (gM z ++ gM w ++ [funT (fnV 232) FT2]) (.tup [nA 5, nI' 0]) (gT (gadd z w)) [dFun 232, (sAdd (hz.gsz.mono (by decide)) (hw.gsz.mono (by decide))).e] [] 400 Tryz.func358 hmA (by kernel_rfl) (fun β => by kernel_rfl)
noncomputable def sTwoAdd {z w : GQ} (hz : FitG z) (hw : FitG w) : Spec Tryz.prog :=
  Spec.auto Tryz.call252 [gS z, gS w, .one (.c sureL)] [funT (fnV 232) FT2] (gA2 (gadd z w)) [] [(sOpened hz hw).e, dIdx 203 (numR z w), dNum 203 (numR z w), dIdx 203 (numR z w), dNum 203 (numR z w), (sSureAdd hz hw).e, (sTold ((hz.gsz.add hw.gsz).mono (by decide))).e] [(4, 13012013)] 800 Tryz.func252 hmA (by kernel_rfl) (fun β => by kernel_rfl)
noncomputable def sGAdd {z w : GQ} (hz : FitG z) (hw : FitG w) : Spec Tryz.prog :=
  Spec.auto Tryz.call85 [gS z, gS w] [] (gA2 (gadd z w)) [] [(sSure 232).e, (sTwoAdd hz hw).e] [(1, 6)] 400 Tryz.func85 hmA (by kernel_rfl) (fun β => by kernel_rfl)
noncomputable def sSureSub {z w : GQ} (hz : FitG z) (hw : FitG w) : Spec Tryz.prog :=
  Spec.auto Tryz.call358 [nV 0, nV 2, .one (.c (.b (.z 4 0)))] (gM z ++ gM w ++ [funT (fnV 254) FT2]) (.tup [nA 5, nI' 0]) (gT (gsub z w)) [dFun 254, (sSub (hz.gsz.mono (by decide)) (hw.gsz.mono (by decide))).e] [] 400 Tryz.func358 hmA (by kernel_rfl) (fun β => by kernel_rfl)
noncomputable def sTwoSub {z w : GQ} (hz : FitG z) (hw : FitG w) : Spec Tryz.prog :=
  Spec.auto Tryz.call252 [gS z, gS w, .one (.c sureL)] [funT (fnV 254) FT2] (gA2 (gsub z w)) [] [(sOpened hz hw).e, dIdx 203 (numR z w), dNum 203 (numR z w), dIdx 203 (numR z w), dNum 203 (numR z w), (sSureSub hz hw).e, (sTold ((hz.gsz.sub hw.gsz).mono (by decide))).e] [(4, 13012013)] 800 Tryz.func252 hmA (by kernel_rfl) (fun β => by kernel_rfl)
noncomputable def sGSub {z w : GQ} (hz : FitG z) (hw : FitG w) : Spec Tryz.prog :=
  Spec.auto Tryz.call88 [gS z, gS w] [] (gA2 (gsub z w)) [] [(sSure 254).e, (sTwoSub hz hw).e] [(1, 6)] 400 Tryz.func88 hmA (by kernel_rfl) (fun β => by kernel_rfl)
noncomputable def sSureMul {z w : GQ} (hz : FitG z) (hw : FitG w) : Spec Tryz.prog :=
  Spec.auto Tryz.call358 [nV 0, nV 2, .one (.c (.b (.z 4 0)))] (gM z ++ gM w ++ [funT (fnV 224) FT2]) (.tup [nA 5, nI' 0]) (gT (gmul z w)) [dFun 224, (sMul (hz.gsz.mono (by decide)) (hw.gsz.mono (by decide))).e] [] 400 Tryz.func358 hmA (by kernel_rfl) (fun β => by kernel_rfl)
noncomputable def sTwoMul {z w : GQ} (hz : FitG z) (hw : FitG w) : Spec Tryz.prog :=
  Spec.auto Tryz.call252 [gS z, gS w, .one (.c sureL)] [funT (fnV 224) FT2] (gA2 (gmul z w)) [] [(sOpened hz hw).e, dIdx 203 (numR z w), dNum 203 (numR z w), dIdx 203 (numR z w), dNum 203 (numR z w), (sSureMul hz hw).e, (sTold ((hz.gsz.mul hw.gsz).mono (by decide))).e] [(4, 13012013)] 800 Tryz.func252 hmA (by kernel_rfl) (fun β => by kernel_rfl)
noncomputable def sGMul {z w : GQ} (hz : FitG z) (hw : FitG w) : Spec Tryz.prog :=
  Spec.auto Tryz.call86 [gS z, gS w] [] (gA2 (gmul z w)) [] [(sSure 224).e, (sTwoMul hz hw).e] [(1, 6)] 400 Tryz.func86 hmA (by kernel_rfl) (fun β => by kernel_rfl)
noncomputable def sNeg1 {z : GQ} (hz : FitG z) : Spec Tryz.prog :=
  Spec.auto Tryz.call362 [nV 0] (gM z) (.tup [nA 2, nI' 0]) (gT (gneg z)) [(sNeg z).e] [] 400 Tryz.func362 hmA (by kernel_rfl) (fun β => by kernel_rfl)
noncomputable def sMadeNeg1 {z : GQ} (hz : FitG z) : OSpec Tryz.prog :=
  OSpec.auto Tryz.call349 [nV 0, nV 2, .one (.c (.b (.p 4 0)))] ([(ratM z.re).ob, (ratM z.im).ob, (ratM z.re).ob, (ratM z.im).ob, .box [fnL 362] FT1]) (.tup [nA 5, nI' 0]) [(gneg z).re, (gneg z).im] [(sNeg1 hz).e] [] 400 Tryz.func349 hmA (by kernel_rfl) (fun β => by kernel_rfl)
noncomputable def sTwoNeg {z : GQ} (hz : FitG z) : OSpec Tryz.prog :=
  OSpec.auto Tryz.call252 [gS z, gS z, .one (.c madeL)] [.box [fnL 362] FT1] (gA2 (gneg z)) [] [(sOpened hz hz).e, dIdx 203 (numR z z), dNum 203 (numR z z), dIdx 203 (numR z z), dNum 203 (numR z z), (sMadeNeg1 hz).e, (sTold (z := gneg z) (hz.gsz.neg.mono (by decide))).e] [(4, 13012013)] 800 Tryz.func252 hmA (by kernel_rfl) (fun β => by kernel_rfl)
noncomputable def sMadeNeg {z : GQ} (hz : FitG z) : Spec Tryz.prog :=
  Spec.auto Tryz.call219 [gS z, .one (.c (fnL 362))] [] (gA2 (gneg z)) [] [(sTwoNeg hz).e] [] 400 Tryz.func219 hmA (by kernel_rfl) (fun β => by kernel_rfl)
noncomputable def sGNeg {z : GQ} (hz : FitG z) : Spec Tryz.prog :=
  Spec.auto Tryz.call262 [gS z] [] (gA2 (gneg z)) [] [(sMadeNeg hz).e] [] 400 Tryz.func262 hmA (by kernel_rfl) (fun β => by kernel_rfl)
noncomputable def sConj1 {z : GQ} (hz : FitG z) : Spec Tryz.prog :=
  Spec.auto Tryz.call359 [nV 0] (gM z) (.tup [nA 2, nI' 0]) (gT (gconj z)) [(sConj z).e] [] 400 Tryz.func359 hmA (by kernel_rfl) (fun β => by kernel_rfl)
noncomputable def sMadeConj1 {z : GQ} (hz : FitG z) : OSpec Tryz.prog :=
  OSpec.auto Tryz.call349 [nV 0, nV 2, .one (.c (.b (.p 4 0)))] ([(ratM z.re).ob, (ratM z.im).ob, (ratM z.re).ob, (ratM z.im).ob, .box [fnL 359] FT1]) (.tup [nA 5, nI' 0]) [(gconj z).re, (gconj z).im] [(sConj1 hz).e] [] 400 Tryz.func349 hmA (by kernel_rfl) (fun β => by kernel_rfl)
noncomputable def sTwoConj {z : GQ} (hz : FitG z) : OSpec Tryz.prog :=
  OSpec.auto Tryz.call252 [gS z, gS z, .one (.c madeL)] [.box [fnL 359] FT1] (gA2 (gconj z)) [] [(sOpened hz hz).e, dIdx 203 (numR z z), dNum 203 (numR z z), dIdx 203 (numR z z), dNum 203 (numR z z), (sMadeConj1 hz).e, (sTold (z := gconj z) (hz.gsz.conj.mono (by decide))).e] [(4, 13012013)] 800 Tryz.func252 hmA (by kernel_rfl) (fun β => by kernel_rfl)
noncomputable def sMadeConj {z : GQ} (hz : FitG z) : Spec Tryz.prog :=
  Spec.auto Tryz.call219 [gS z, .one (.c (fnL 359))] [] (gA2 (gconj z)) [] [(sTwoConj hz).e] [] 400 Tryz.func219 hmA (by kernel_rfl) (fun β => by kernel_rfl)
noncomputable def sGConj {z : GQ} (hz : FitG z) : Spec Tryz.prog :=
  Spec.auto Tryz.call257 [gS z] [] (gA2 (gconj z)) [] [(sMadeConj hz).e] [] 400 Tryz.func257 hmA (by kernel_rfl) (fun β => by kernel_rfl)
noncomputable def sTurn1 {z : GQ} (hz : FitG z) : Spec Tryz.prog :=
  Spec.auto Tryz.call361 [nV 0] (gM z) (.tup [nA 2, nI' 0]) (gT (gmul z (gint 0 1))) [(sInt 0 1 (by decide) (by decide)).e, (sMul (hz.gsz.mono (by decide)) ((GSz.int (n := 0) (m := 1) (by decide) (by decide)).mono (by decide))).e] [(1, 3)] 400 Tryz.func361 hmA (by kernel_rfl) (fun β => by kernel_rfl)
noncomputable def sMadeTurn1 {z : GQ} (hz : FitG z) : OSpec Tryz.prog :=
  OSpec.auto Tryz.call349 [nV 0, nV 2, .one (.c (.b (.p 4 0)))] ([(ratM z.re).ob, (ratM z.im).ob, (ratM z.re).ob, (ratM z.im).ob, .box [fnL 361] FT1]) (.tup [nA 5, nI' 0]) [(gmul z (gint 0 1)).re, (gmul z (gint 0 1)).im] [(sTurn1 hz).e] [] 400 Tryz.func349 hmA (by kernel_rfl) (fun β => by kernel_rfl)
noncomputable def sTwoTurn {z : GQ} (hz : FitG z) : OSpec Tryz.prog :=
  OSpec.auto Tryz.call252 [gS z, gS z, .one (.c madeL)] [.box [fnL 361] FT1] (gA2 (gmul z (gint 0 1))) [] [(sOpened hz hz).e, dIdx 203 (numR z z), dNum 203 (numR z z), dIdx 203 (numR z z), dNum 203 (numR z z), (sMadeTurn1 hz).e, (sTold (z := gmul z (gint 0 1)) ((hz.gsz.mul (GSz.int (n := 0) (m := 1) (by decide) (by decide))).mono (by decide))).e] [(4, 13012013)] 800 Tryz.func252 hmA (by kernel_rfl) (fun β => by kernel_rfl)
noncomputable def sMadeTurn {z : GQ} (hz : FitG z) : Spec Tryz.prog :=
  Spec.auto Tryz.call219 [gS z, .one (.c (fnL 361))] [] (gA2 (gmul z (gint 0 1))) [] [(sTwoTurn hz).e] [] 400 Tryz.func219 hmA (by kernel_rfl) (fun β => by kernel_rfl)
noncomputable def sGTurn {z : GQ} (hz : FitG z) : Spec Tryz.prog :=
  Spec.auto Tryz.call261 [gS z] [] (gA2 (gmul z (gint 0 1))) [] [(sMadeTurn hz).e] [] 400 Tryz.func261 hmA (by kernel_rfl) (fun β => by kernel_rfl)
end Go.Proofs.YtfnmclgicjmapaaGreat.Y
end
section
namespace Go.Proofs.YtfnmclgicjmapaaGreat
open Go.RowKit
set_option maxRecDepth 100000 in
theorem Lsh_any {w : World} {b o c p n k : Nat} (hz : Slot w b o 2) (hx : IntAt w c p (n : Int)) (hn : (dig n).length ≤ 8589934592) (hk : k ≤ 137438953472) :
    Calls Tryz.prog 400 #[.pointer (some ⟨b, o, none⟩), .pointer (some ⟨c, p, none⟩), .int .u64 (k : Int)] w fun e w' => e = .returned (.pointer (some ⟨b, o, none⟩)) ∧ IntAt w' b o ((n * 2 ^ k : Nat) : Int) ∧ Touch w w' b o 2 := by
  obtain ⟨A, m, cap, hc0, hc1, hv, hlt⟩ := hx.open_
  rw [show decide ((n : Int) < 0) = false by simp] at hc0
  rw [Int.natAbs_natCast] at hv
  have hm := hv.len.1
  rw [← hm] at hn
  have HZ := Lib.hid hz
  have HV := Lib.hid hv
  have HC0 := Lib.hid hc0
  have HC1 := Lib.hid hc1
  clear hx hz hv hc0 hc1 hm
  go_enter Tryz.func400, Tryz.ntmps400
  go_wp2
  refine wp_region_acts 12 (fun w' => Below w.heap.size w w') (fun w w' => Below w.heap.size w w') (fun i w v => match i with
      | 0 => v = .pointer (some ⟨b, o, none⟩)
      | 1 => v = .pointer (some ⟨c, p, none⟩)
      | 2 => v = .pointer (some ⟨c, p, none⟩)
      | 3 => v = .pointer (some ⟨c, p, none⟩)
      | 4 => v = .bool false
      | 5 => v = .pointer (some ⟨c, p, none⟩)
      | 6 => v = .pointer (some ⟨c, p, none⟩)
      | 7 => v = .pointer (some ⟨c, p + 1, none⟩)
      | 8 => v = .slice A m cap
      | 9 => v = .int .u64 (k : Int)
      | 10 => v = .int .i64 (k : Int)
      | _ => ∃ A' m' c', v = .slice A' m' c' ∧ Words w (.slice A' m' c') (dig (n * 2 ^ k))) (by kernel_rfl) (by kernel_rfl) (by kernel_rfl) ((Below.refl _ _).drew) (fun _ _ => Below.refl _ _) ?_ ⟨?_, ?_, ?_, ?_, ?_, ?_, ?_, ?_, ?_, ?_, ?_, ?_, trivial⟩ ?_
  · intro i w1 w2 v hC hC2 hE hV
    match i with
    | 0 => exact hV
    | 1 => exact hV
    | 2 => exact hV
    | 3 => exact hV
    | 4 => exact hV
    | 5 => exact hV
    | 6 => exact hV
    | 7 => exact hV
    | 8 => exact hV
    | 9 => exact hV
    | 10 => exact hV
    | _ + 11 => obtain ⟨A', m', c', e, h⟩ := hV; exact ⟨A', m', c', e, h.below hE⟩
  · intro a' w' hag hC hd K hK
    have e0 : a'.tmps.getD 0 undef = .pointer (some ⟨b, o, none⟩) := hag 0 rfl
    go_step
    exact hK _ _ hC (Below.refl _ _) rfl
  · intro a' w' hag hC hd K hK
    have e1 : a'.tmps.getD 1 undef = .pointer (some ⟨c, p, none⟩) := hag 1 rfl
    go_step
    exact hK _ _ hC (Below.refl _ _) rfl
  · intro a' w' hag hC hd K hK
    have e8 : a'.tmps.getD 8 undef = .pointer (some ⟨c, p, none⟩) := hd.1
    go_step
    exact hK _ _ hC (Below.refl _ _) rfl
  · intro a' w' hag hC hd K hK
    have e9 : a'.tmps.getD 9 undef = .pointer (some ⟨c, p, none⟩) := hd.1
    go_step
    exact hK _ _ hC (Below.refl _ _) rfl
  · intro a' w' hag hC hd K hK
    have e10 : a'.tmps.getD 10 undef = .pointer (some ⟨c, p, none⟩) := hd.1
    have hcell : w'.cell? ⟨c, p, none⟩ = some (.bool false) := by rw [hC.cell (p := ⟨c, p, none⟩) hlt]; exact HC0.out
    have HC := Lib.hid hC
    clear hC
    go_step
    exact hK _ _ HC.out (Below.refl _ _) rfl
  · intro a' w' hag hC hd K hK
    have e1 : a'.tmps.getD 1 undef = .pointer (some ⟨c, p, none⟩) := hag 1 rfl
    go_step
    exact hK _ _ hC (Below.refl _ _) rfl
  · intro a' w' hag hC hd K hK
    have e12 : a'.tmps.getD 12 undef = .pointer (some ⟨c, p, none⟩) := hd.1
    go_step
    exact hK _ _ hC (Below.refl _ _) rfl
  · intro a' w' hag hC hd K hK
    have e13 : a'.tmps.getD 13 undef = .pointer (some ⟨c, p, none⟩) := hd.1
    go_step
    exact hK _ _ hC (Below.refl _ _) rfl
  · intro a' w' hag hC hd K hK
    have e14 : a'.tmps.getD 14 undef = .pointer (some ⟨c, p + 1, none⟩) := hd.1
    have hcell : w'.cell? ⟨c, p + 1, none⟩ = some (.slice A m cap) := by rw [hC.cell (p := ⟨c, p + 1, none⟩) hlt]; exact HC1.out
    have HC := Lib.hid hC
    clear hC
    go_step
    exact hK _ _ HC.out (Below.refl _ _) rfl
  · intro a' w' hag hC hd K hK
    have e2 : a'.tmps.getD 2 undef = .int .u64 (k : Int) := hag 2 rfl
    go_step
    exact hK _ _ hC (Below.refl _ _) rfl
  · intro a' w' hag hC hd K hK
    have e16 : a'.tmps.getD 16 undef = .int .u64 (k : Int) := hd.1
    go_step
    exact hK _ _ hC (Below.refl _ _) rfl
  · intro a' w' hag hC hd K hK
    have e15 : a'.tmps.getD 15 undef = .slice A m cap := hd.1
    have e17 : a'.tmps.getD 17 undef = .int .i64 (k : Int) := hd.2.1
    go_step
    refine (left_any (HV.out.below hC) hn k hk).mono ?_
    rintro e w2 ⟨v, rfl, h1, h2⟩
    obtain ⟨A', m', c', rfl⟩ := h1.form
    rw [val_dig] at h1
    exact hK _ _ (hC.trans (h2.mono hC.size)) h2 ⟨_, _, _, rfl, h1⟩
  · intro u w' hC hall
    obtain ⟨u0, u1, u2, u3, u4, u5, u6, u7, u8, u9, u10, u11, _⟩ := hall
    have u0 : u 0 = .pointer (some ⟨b, o, none⟩) := u0
    have u1 : u 1 = .pointer (some ⟨c, p, none⟩) := u1
    have u2 : u 2 = .pointer (some ⟨c, p, none⟩) := u2
    have u3 : u 3 = .pointer (some ⟨c, p, none⟩) := u3
    have u4 : u 4 = .bool false := u4
    have u5 : u 5 = .pointer (some ⟨c, p, none⟩) := u5
    have u6 : u 6 = .pointer (some ⟨c, p, none⟩) := u6
    have u7 : u 7 = .pointer (some ⟨c, p + 1, none⟩) := u7
    have u8 : u 8 = .slice A m cap := u8
    have u9 : u 9 = .int .u64 (k : Int) := u9
    have u10 : u 10 = .int .i64 (k : Int) := u10
    obtain ⟨A', m', c', eu11, hw'⟩ := u11
    have u11 : u 11 = .slice A' m' c' := eu11
    simp only [fillR, List.take_succ_cons, List.take_zero, Act.put, List.setIfInBounds_toArray, List.set_cons_succ, List.set_cons_zero, Nat.zero_add, Nat.reduceAdd, u0, u1, u2, u3, u4, u5, u6, u7, u8, u9, u10, u11]
    clear u0 u1 u2 u3 u4 u5 u6 u7 u8 u9 u10 u11
    have HW := Lib.hid hw'
    have HC := Lib.hid hC
    have hsl := HZ.out.on hC
    clear hw' hC
    go_wp2_with (go_at_call 383; refine (is_any false hsl HW.out).mono ?_; rintro e w2 ⟨rfl, h1, h2⟩)
    go_ret
    rw [val_dig] at h1
    exact ⟨rfl, h1, (Touch.of_below HC.out _ _ _).trans h2⟩
set_option maxRecDepth 100000 in
theorem Rsh_any {w : World} {b o c p n k : Nat} (hz : Slot w b o 2) (hx : IntAt w c p (n : Int)) (hk : k ≤ 1099511627776) :
    Calls Tryz.prog 401 #[.pointer (some ⟨b, o, none⟩), .pointer (some ⟨c, p, none⟩), .int .u64 (k : Int)] w fun e w' => e = .returned (.pointer (some ⟨b, o, none⟩)) ∧ IntAt w' b o ((n / 2 ^ k : Nat) : Int) ∧ Touch w w' b o 2 := by
  obtain ⟨A, m, cap, hc0, hc1, hv, hlt⟩ := hx.open_
  rw [show decide ((n : Int) < 0) = false by simp] at hc0
  rw [Int.natAbs_natCast] at hv
  have hm : m ≤ 17179869184 := by have := hv.len.1; have := hv.2.1; omega
  have HZ := Lib.hid hz
  have HV := Lib.hid hv
  have HC0 := Lib.hid hc0
  clear hx hz hv
  go_enter Tryz.func401, Tryz.ntmps401
  go_wp2_with fail
  refine (right_any HV.out hm k hk).mono ?_
  rintro e w1 ⟨v, rfl, h1, h2⟩
  obtain ⟨A1, m1, c1, rfl⟩ := h1.form
  rw [val_dig] at h1
  have hd0 : w1.cell? ⟨c, p, none⟩ = some (.bool false) := by rw [h2.cell (p := ⟨c, p, none⟩) hlt]; exact HC0.out
  have hlt1 : c < w1.heap.size := Nat.lt_of_lt_of_le hlt h2.size
  have HD0 := Lib.hid hd0
  have HW := Lib.hid h1
  have HB := Lib.hid h2
  clear h1 h2 hc0 hc1 hd0
  go_wp2
  refine wp_region_acts 16 (fun w' => Below w1.heap.size w1 w') (fun w w' => Below w.heap.size w w') (fun i w v => match i with
      | 0 => v = .pointer (some ⟨c, p, none⟩)
      | 1 => v = .pointer (some ⟨c, p, none⟩)
      | 2 => v = .pointer (some ⟨c, p, none⟩)
      | 3 => v = .bool false
      | 4 => v = .bool false
      | 5 => v = undef
      | 6 => v = undef
      | 7 => v = undef
      | 8 => v = undef
      | 9 => v = undef
      | 10 => v = undef
      | 11 => v = undef
      | 12 => v = undef
      | 13 => v = undef
      | 14 => v = undef
      | _ => v = .bool false) (by kernel_rfl) (by kernel_rfl) (by kernel_rfl) ((Below.refl _ _).drew) (fun _ _ => Below.refl _ _) ?_ ⟨?_, ?_, ?_, ?_, ?_, ?_, ?_, ?_, ?_, ?_, ?_, ?_, ?_, ?_, ?_, ?_, trivial⟩ ?_
  · intro i w1 w2 v hC hC2 hE hV
    match i with
    | 0 => exact hV
    | 1 => exact hV
    | 2 => exact hV
    | 3 => exact hV
    | 4 => exact hV
    | 5 => exact hV
    | 6 => exact hV
    | 7 => exact hV
    | 8 => exact hV
    | 9 => exact hV
    | 10 => exact hV
    | 11 => exact hV
    | 12 => exact hV
    | 13 => exact hV
    | 14 => exact hV
    | _ + 15 => exact hV
  · intro a' w' hag hC hd K hK
    have e1 : a'.tmps.getD 1 undef = .pointer (some ⟨c, p, none⟩) := hag 1 rfl
    go_step
    exact hK _ _ hC (Below.refl _ _) rfl
  · intro a' w' hag hC hd K hK
    have e15 : a'.tmps.getD 15 undef = .pointer (some ⟨c, p, none⟩) := hd.1
    go_step
    exact hK _ _ hC (Below.refl _ _) rfl
  · intro a' w' hag hC hd K hK
    have e16 : a'.tmps.getD 16 undef = .pointer (some ⟨c, p, none⟩) := hd.1
    go_step
    exact hK _ _ hC (Below.refl _ _) rfl
  · intro a' w' hag hC hd K hK
    have e17 : a'.tmps.getD 17 undef = .pointer (some ⟨c, p, none⟩) := hd.1
    have hcell : w'.cell? ⟨c, p, none⟩ = some (.bool false) := by rw [hC.cell (p := ⟨c, p, none⟩) hlt1]; exact HD0.out
    have HC := Lib.hid hC
    clear hC
    go_step
    exact hK _ _ HC.out (Below.refl _ _) rfl
  · intro a' w' hag hC hd K hK
    have e18 : a'.tmps.getD 18 undef = .bool false := hd.1
    go_step
    exact hK _ _ hC (Below.refl _ _) rfl
  · intro a' w' hag hC hd
    exact ⟨fun hw => Bool.noConfusion (hw.symm.trans (unwanted_of (j := 4) (d := 19) (b' := false) rfl rfl rfl hd.1 (by decide))), fun _ => rfl⟩
  · intro a' w' hag hC hd
    exact ⟨fun hw => Bool.noConfusion (hw.symm.trans (unwanted_of (j := 4) (d := 19) (b' := false) rfl rfl rfl hd.1 (by decide))), fun _ => rfl⟩
  · intro a' w' hag hC hd
    exact ⟨fun hw => Bool.noConfusion (hw.symm.trans (unwanted_of (j := 4) (d := 19) (b' := false) rfl rfl rfl hd.2.1 (by decide))), fun _ => rfl⟩
  · intro a' w' hag hC hd
    exact ⟨fun hw => Bool.noConfusion (hw.symm.trans (unwanted_of (j := 4) (d := 19) (b' := false) rfl rfl rfl hd.2.2.1 (by decide))), fun _ => rfl⟩
  · intro a' w' hag hC hd
    exact ⟨fun hw => Bool.noConfusion (hw.symm.trans (unwanted_of (j := 4) (d := 19) (b' := false) rfl rfl rfl hd.1 (by decide))), fun _ => rfl⟩
  · intro a' w' hag hC hd
    exact ⟨fun hw => Bool.noConfusion (hw.symm.trans (unwanted_of (j := 4) (d := 19) (b' := false) rfl rfl rfl hd.2.1 (by decide))), fun _ => rfl⟩
  · intro a' w' hag hC hd
    exact ⟨fun hw => Bool.noConfusion (hw.symm.trans (unwanted_of (j := 4) (d := 19) (b' := false) rfl rfl rfl hd.2.1 (by decide))), fun _ => rfl⟩
  · intro a' w' hag hC hd
    exact ⟨fun hw => Bool.noConfusion (hw.symm.trans (unwanted_of (j := 4) (d := 19) (b' := false) rfl rfl rfl hd.2.1 (by decide))), fun _ => rfl⟩
  · intro a' w' hag hC hd
    exact ⟨fun hw => Bool.noConfusion (hw.symm.trans (unwanted_of (j := 4) (d := 19) (b' := false) rfl rfl rfl hd.2.2.2.1 (by decide))), fun _ => rfl⟩
  · intro a' w' hag hC hd
    exact ⟨fun hw => Bool.noConfusion (hw.symm.trans (unwanted_of (j := 4) (d := 19) (b' := false) rfl rfl rfl hd.2.1 (by decide))), fun _ => rfl⟩
  · intro a' w' hag hC hd K hK
    have e19 : a'.tmps.getD 19 undef = .bool false := hd.1
    have e29 : a'.tmps.getD 29 undef = undef := hd.2.1
    go_step
    exact hK _ _ hC (Below.refl _ _) rfl
  · intro u w' hC hall
    obtain ⟨u0, u1, u2, u3, u4, u5, u6, u7, u8, u9, u10, u11, u12, u13, u14, u15, _⟩ := hall
    have u0 : u 0 = .pointer (some ⟨c, p, none⟩) := u0
    have u1 : u 1 = .pointer (some ⟨c, p, none⟩) := u1
    have u2 : u 2 = .pointer (some ⟨c, p, none⟩) := u2
    have u3 : u 3 = .bool false := u3
    have u4 : u 4 = .bool false := u4
    have u5 : u 5 = undef := u5
    have u6 : u 6 = undef := u6
    have u7 : u 7 = undef := u7
    have u8 : u 8 = undef := u8
    have u9 : u 9 = undef := u9
    have u10 : u 10 = undef := u10
    have u11 : u 11 = undef := u11
    have u12 : u 12 = undef := u12
    have u13 : u 13 = undef := u13
    have u14 : u 14 = undef := u14
    have u15 : u 15 = .bool false := u15
    simp only [fillR, List.take_succ_cons, List.take_zero, Act.put, List.setIfInBounds_toArray, List.set_cons_succ, List.set_cons_zero, Nat.zero_add, Nat.reduceAdd, u0, u1, u2, u3, u4, u5, u6, u7, u8, u9, u10, u11, u12, u13, u14, u15]
    clear u0 u1 u2 u3 u4 u5 u6 u7 u8 u9 u10 u11 u12 u13 u14 u15
    have HC := Lib.hid hC
    have hc1 : w'.cell? ⟨c, p, none⟩ = some (.bool false) := by rw [hC.cell (p := ⟨c, p, none⟩) hlt1]; exact HD0.out
    have hsl := (HZ.out.on HB.out).on hC
    have hw2 := HW.out.below hC
    clear hC
    go_wp2_with (go_at_call 383; refine (is_any false hsl hw2).mono ?_; rintro e w2 ⟨rfl, h1, h2⟩)
    go_ret
    rw [val_dig] at h1
    exact ⟨rfl, h1, ((Touch.of_below HB.out _ _ _).trans (Touch.of_below HC.out _ _ _)).trans h2⟩
theorem newton_up (n R : Nat) (hR : 0 < R) : n < ((n / R + R) / 2 + 1) * ((n / R + R) / 2 + 1) := by
  have h1 : n < R * (n / R + 1) := by have := Nat.lt_mul_div_succ n hR; simpa [Nat.mul_add] using this
  generalize n / R = q at h1
  generalize hs : (q + R) / 2 = s
  have h2 : q + 1 + R ≤ 2 * (s + 1) := by omega
  refine Nat.lt_of_lt_of_le h1 ?_
  rcases Nat.le_total R (s + 1) with h | h
  · obtain ⟨d, hd⟩ := Nat.exists_eq_add_of_le h
    rw [hd] at h2 ⊢
    have h3 : q + 1 ≤ R + 2 * d := by omega
    calc R * (q + 1) ≤ R * (R + 2 * d) := Nat.mul_le_mul_left _ h3
      _ ≤ (R + d) * (R + d) := by rw [Nat.mul_add, Nat.add_mul, Nat.mul_add, Nat.mul_add, Nat.mul_comm d R, Nat.mul_left_comm, Nat.two_mul]; omega
  · obtain ⟨d, hd⟩ := Nat.exists_eq_add_of_le h
    have h3 : q + 1 + 2 * d ≤ R := by omega
    rw [hd] at h2 ⊢
    have h4 : q + 1 + d ≤ s + 1 := by omega
    calc (s + 1 + d) * (q + 1) = (s + 1) * (q + 1) + d * (q + 1) := by rw [Nat.add_mul]
      _ ≤ (s + 1) * (q + 1) + d * (s + 1) := Nat.add_le_add_left (Nat.mul_le_mul_left _ (by omega)) _
      _ = (s + 1) * (q + 1 + d) := by rw [Nat.mul_add (s + 1) (q + 1) d, Nat.mul_comm d]
      _ ≤ (s + 1) * (s + 1) := Nat.mul_le_mul_left _ h4
theorem newton_end (n R : Nat) (hR : 0 < R) (h : R ≤ (n / R + R) / 2) : R * R ≤ n := by
  have h1 : R ≤ n / R := by omega
  exact Nat.le_trans (Nat.mul_le_mul_left _ h1) (Nat.mul_div_le n R)
theorem newton_pos (n R : Nat) (hn : 0 < n) (hR : 0 < R) (h : (n / R + R) / 2 < R) : 0 < (n / R + R) / 2 := by
  rcases Nat.lt_or_ge R 2 with h2 | h2
  · obtain rfl : R = 1 := by omega
    rw [Nat.div_one] at h ⊢
    omega
  · generalize n / R = q at h ⊢
    omega
theorem okn_nat {m k : Nat} (h : m ≤ k) (hk : (dig k).length ≤ 4294967296) : Okn (m : Int) := by
  unfold Okn
  rw [Int.natAbs_natCast]
  exact Nat.le_trans (dig_len_mono _ _ h) hk
theorem cmpI_lt {a b : Nat} (h : a < b) : cmpI (a : Int) (b : Int) = -1 := by
  unfold cmpI
  rw [if_pos (by omega)]
theorem cmpI_ge {a b : Nat} (h : b ≤ a) : cmpI (a : Int) (b : Int) = 0 ∨ cmpI (a : Int) (b : Int) = 1 := by
  unfold cmpI
  rw [if_neg (by omega)]
  by_cases k : (b : Int) < (a : Int)
  · rw [if_pos k]; exact .inr rfl
  · rw [if_neg k]; exact .inl rfl
theorem root_start {n L : Nat} (hn : 0 < n) (h : Bits n L) : 2 ^ (L / 2 + 1) ≤ 4 * n ∧ n < (2 ^ (L / 2 + 1) + 1) * (2 ^ (L / 2 + 1) + 1) := by
  have hL : 0 < L := by
    rcases Nat.eq_zero_or_pos L with h0 | h0
    · subst h0; have := h.1; simp at this; omega
    · exact h0
  have h1 := h.2 hL
  have h2 := h.1
  constructor
  · have h3 : 2 ^ (L / 2 + 1) ≤ 2 ^ (L - 1 + 2) := Nat.pow_le_pow_right (by decide) (by omega)
    rw [show 2 ^ (L - 1 + 2) = 2 ^ (L - 1) * 4 from by rw [Nat.pow_add]] at h3
    exact Nat.le_trans h3 (by rw [Nat.mul_comm]; exact Nat.mul_le_mul_left _ h1)
  · have h3 : 2 ^ L ≤ 2 ^ (L / 2 + 1) * 2 ^ (L / 2 + 1) := by
      rw [← Nat.pow_add]
      exact Nat.pow_le_pow_right (by decide) (by omega)
    have h4 : 2 ^ (L / 2 + 1) * 2 ^ (L / 2 + 1) ≤ (2 ^ (L / 2 + 1) + 1) * (2 ^ (L / 2 + 1) + 1) := Nat.mul_le_mul (Nat.le_succ _) (Nat.le_succ _)
    omega
set_option maxHeartbeats 1600000 in
set_option maxRecDepth 100000 in
theorem Sqrt_any {w : World} {b o c p n : Nat} (hz : Slot w b o 2) (hx : IntAt w c p (n : Int)) (hn : (dig (5 * n)).length ≤ 4294967296) :
    Calls Tryz.prog 354 #[.pointer (some ⟨b, o, none⟩), .pointer (some ⟨c, p, none⟩)] w fun e w' => e = .returned (.pointer (some ⟨b, o, none⟩)) ∧ (∃ r : Nat, r * r ≤ n ∧ n < (r + 1) * (r + 1) ∧ IntAt w' b o (r : Int)) ∧ Touch w w' b o 2 := by
  have HZ := Lib.hid hz
  have HN := Lib.hid hn
  rcases Nat.eq_zero_or_pos n with h0 | h0
  · subst h0
    have HX : Hid (IntAt w c p 0) := Lib.hid hx
    clear hz hx hn
    go_enter Tryz.func354, Tryz.ntmps354
    go_wp2_with fail
    refine (sign_any HX.out).mono ?_
    rw [Int.sign_zero]
    rintro e w1 ⟨rfl, rfl⟩
    go_wp2_with fail
    refine (is_any false HZ.out (Words.nil w)).mono ?_
    rintro e w2 ⟨rfl, h1, h2⟩
    have H1 := Lib.hid h1
    have H2 := Lib.hid h2
    clear h1 h2
    go_wp2
    go_ret
    exact ⟨rfl, ⟨0, Nat.le_refl _, by decide, H1.out⟩, H2.out⟩
  · have HX := Lib.hid hx
    have H0 := Lib.hid h0
    have hs : ((n : Nat) : Int).sign = 1 := Int.sign_eq_one_of_pos (by omega)
    clear hz hx hn
    go_enter Tryz.func354, Tryz.ntmps354
    go_wp2_with fail
    refine (sign_any HX.out).mono ?_
    rw [hs]
    rintro e w1 ⟨rfl, rfl⟩
    clear hs h0
    go_wp2_with fail
    have HA := Lib.hid ((Below.refl w.heap.size w).alloc (Nat.le_refl _) (.cells #[.bool false, .slice none 0 0] 169))
    have HS := Lib.hid (IntAt.new w).slot
    refine (NewInt_any (n := 1) (by decide)).mono ?_
    rintro e w2 ⟨g1, rfl, hg1, h1, hb1⟩
    have H1 := Lib.hid h1
    have HS2 := Lib.hid (HS.out.on hb1)
    have HB2 := Lib.hid (HA.out.trans (hb1.mono HA.out.size))
    clear h1 hb1 hg1
    go_wp2_with fail
    refine (BitLen_any (HX.out.on HB2.out)).mono ?_
    rintro e w3 ⟨L, rfl, hL, hLb, hb2⟩
    rw [Int.natAbs_natCast] at hL
    obtain ⟨q, hq⟩ : ∃ q, q = L / 2 := ⟨_, rfl⟩
    have hqi : (L : Int) / 2 = (q : Int) := by omega
    have hqi2 : (L : Int).tdiv 2 = (q : Int) := by rw [Int.tdiv_eq_ediv_of_nonneg (by omega)]; exact hqi
    obtain ⟨k, hk⟩ : ∃ k, k = q + 1 := ⟨_, rfl⟩
    have hki : (q : Int) + 1 = (k : Int) := by omega
    have hkb : k ≤ 274877906945 := by omega
    have hrs := root_start H0.out hL
    rw [← hq, ← hk] at hrs
    have HR := Lib.hid hrs
    have H1b := Lib.hid (H1.out.on hb2)
    have HS3 := Lib.hid (HS2.out.on hb2)
    have HB3 := Lib.hid (HB2.out.trans (hb2.mono HB2.out.size))
    have HKL : Hid (k ≤ 137438953472) := by
      have h5 : (dig n).length ≤ 4294967296 := Nat.le_trans (dig_len_mono n (5 * n) (by omega)) HN.out
      have h6 := dig_lt n
      rw [p32] at h6
      obtain ⟨E, hE⟩ : ∃ E : Nat, E = 137438953472 := ⟨_, rfl⟩
      have h7 : n < 2 ^ E := Nat.lt_of_lt_of_le h6 (Nat.pow_le_pow_right (by decide) (by omega))
      have h8 : L ≤ E := by
        rcases Nat.lt_or_ge E L with h9 | h9
        · have h10 := hL.2 (by omega)
          have h11 : 2 ^ E ≤ 2 ^ (L - 1) := Nat.pow_le_pow_right (by decide) (by omega)
          exact absurd (Nat.lt_of_lt_of_le h7 (Nat.le_trans h11 h10)) (Nat.lt_irrefl _)
        · exact h9
      clear h6 h7 hrs
      show k ≤ 137438953472
      omega
    clear hb2 hL hrs hq hk
    go_wp2_with fail
    refine (Lsh_any (n := 1) (k := k) HS3.out H1b.out (Nat.le_trans (dig_len_mono 1 (5 * n) (by have := H0.out; omega)) (Nat.le_trans HN.out (by decide))) HKL.out).mono ?_
    rintro e w4 ⟨rfl, h2, h3⟩
    rw [Nat.one_mul] at h2
    have H2 := Lib.hid h2
    have HB4 := Lib.hid (HB3.out.trans (h3.below (B := w.heap.size) (Nat.le_refl _) HB3.out.size))
    clear h2 h3
    go_wp2
    go_loopg [5, 6] (2 ^ k) (fun m rv sv wr => ∃ (g R : Nat), rv = .pointer (some ⟨g, 0, none⟩) ∧ R ≤ m ∧ Hid (w.heap.size ≤ g) ∧ Hid (0 < R) ∧ Hid (R ≤ 4 * n) ∧ Hid (n < (R + 1) * (R + 1)) ∧ Hid (IntAt wr g 0 (R : Int)) ∧ Hid (Below w.heap.size w wr))
    case atStart => exact ⟨w.heap.size, 2 ^ k, rfl, Nat.le_refl _, Nat.le_refl _, Nat.pow_pos (by decide), HR.out.1, HR.out.2, H2.out, HB4.out⟩
    case round =>
      obtain ⟨g, R, rfl, hRm, hg, hR0, hR4, hRn, hr, hb⟩ := hrel
      clear H1 HS HS2 HB2 HS3 HB3 H1b H2 HB4 HA
      go_wp2_with fail
      have hA : Below wr.heap.size wr (wr.alloc (.cells #[.bool false, .slice none 0 0] 169)) := (Below.refl _ _).alloc (Nat.le_refl _) _
      have hS := (IntAt.new wr).slot
      have hxr := HX.out.on hb.out
      refine (Quo_any hS (hxr.on hA) (hr.out.on hA) (by have := hR0.out; omega) (okn_nat (k := 5 * n) (by omega) HN.out)).mono ?_
      rintro e w5 ⟨rfl, h1, h2⟩
      have hq : ((n : Nat) : Int).tdiv ((R : Nat) : Int) = ((n / R : Nat) : Int) := rfl
      rw [hq] at h1
      have B5 := hA.trans (h2.below (B := wr.heap.size) (Nat.le_refl _) hA.size)
      have HB5 := Lib.hid B5
      have H5 := Lib.hid h1
      clear hA hS hxr h1 h2 B5 hq
      go_wp2_with fail
      have hdn : n / R ≤ n := Nat.div_le_self _ _
      refine (Add_any H5.out.slot H5.out (hr.out.on HB5.out) (okn_nat (k := 5 * n) (by omega) HN.out) (okn_nat (k := 5 * n) (by have := hR4.out; omega) HN.out)).mono ?_
      rintro e w6 ⟨rfl, h1, h2⟩
      rw [show ((n / R : Nat) : Int) + ((R : Nat) : Int) = ((n / R + R : Nat) : Int) by omega] at h1
      have HB6 := Lib.hid (HB5.out.trans (h2.below (B := wr.heap.size) (Nat.le_refl _) HB5.out.size))
      have H6 := Lib.hid h1
      clear h1 h2 hdn
      go_wp2_with fail
      refine (Rsh_any (k := 1) H6.out.slot H6.out (by decide)).mono ?_
      rintro e w7 ⟨rfl, h1, h2⟩
      rw [Nat.pow_one] at h1
      obtain ⟨S, hS⟩ : ∃ S, S = (n / R + R) / 2 := ⟨_, rfl⟩
      rw [← hS] at h1
      have HB7 := Lib.hid (HB6.out.trans (h2.below (B := wr.heap.size) (Nat.le_refl _) HB6.out.size))
      have H7 := Lib.hid h1
      have HSS := Lib.hid hS
      clear h1 h2 hS
      go_wp2_with fail
      refine (Cmp_any H7.out (hr.out.on HB7.out)).mono ?_
      rintro e w8 ⟨rfl, hb8⟩
      have HB8 := Lib.hid (HB7.out.trans (hb8.mono HB7.out.size))
      have H8 := Lib.hid (H7.out.on hb8)
      clear hb8
      rcases Nat.lt_or_ge S R with hlt | hge
      · rw [cmpI_lt hlt]
        go_wp2
        go_roundg S
        case measure => exact Nat.lt_of_lt_of_le hlt hRm
        case rel =>
          have e := HSS.out
          refine ⟨wr.heap.size, S, rfl, Nat.le_refl _, hb.out.size, ?_, ?_, ?_, H8.out, hb.out.trans (HB8.out.mono hb.out.size)⟩
          · rw [Hid, e]; exact newton_pos n R H0.out hR0.out (e ▸ hlt)
          · exact Nat.le_trans (Nat.le_of_lt hlt) hR4.out
          · rw [Hid, e]; exact newton_up n R hR0.out
      · have hend : R * R ≤ n := newton_end n R hR0.out (HSS.out ▸ hge)
        have HE := Lib.hid hend
        have hzz : Slot w8 b o 2 := (HZ.out.on hb.out).on HB8.out
        have HZ8 := Lib.hid hzz
        have HR8 := Lib.hid (hr.out.on HB8.out)
        have HT := Lib.hid (hb.out.trans (HB8.out.mono hb.out.size))
        clear hend hzz
        rcases cmpI_ge hge with h9 | h9
        all_goals
          rw [h9]
          go_wp2_with fail
          refine (set_any HZ8.out HR8.out).mono ?_
          rintro e w9 ⟨rfl, h1, h2⟩
          have K1 := Lib.hid h1
          have K2 := Lib.hid ((Touch.of_below HT.out b o 2).trans h2)
          clear h1 h2
          go_wp2
          go_ret
          exact ⟨rfl, ⟨R, HE.out, hRn.out, K1.out⟩, K2.out⟩
end Go.Proofs.YtfnmclgicjmapaaGreat
end
section
namespace Go.Proofs.YtfnmclgicjmapaaGreat.Y
open Go Go.RowKit
set_option maxRecDepth 100000
noncomputable def sDiv1 {z w : GQ} (hz : FitG z) (hw : FitG w) (h0 : gzero w = false) : Spec Tryz.prog :=
  Spec.auto Tryz.call256 [nV 0, nV 2] (gM z ++ gM w) (.tup [nA 4, nI' 0]) (gT (gdiv z w)) [(sZero h0).e, (sDiv (hz.gsz.mono (by decide)) (hw.gsz.mono (by decide)) h0).e] [] 400 Tryz.func256 hmA (by kernel_rfl) (fun β => by kernel_rfl)
noncomputable def sDiv0 (z : GQ) {w : GQ} (h0 : gzero w = true) : Spec Tryz.prog :=
  Spec.auto Tryz.call256 [nV 0, nV 2] (gM z ++ gM w) (.tup [nA 2, nI' 5]) [] [(sZero h0).e] [] 400 Tryz.func256 hmA (by kernel_rfl) (fun β => by kernel_rfl)
noncomputable def sTwoDiv {z w : GQ} (hz : FitG z) (hw : FitG w) (h0 : gzero w = false) : Spec Tryz.prog :=
  Spec.auto Tryz.call252 [gS z, gS w, .one (.c (fnL 256))] [] (gA2 (gdiv z w)) [] [(sOpened hz hw).e, dIdx 203 (numR z w), dNum 203 (numR z w), dIdx 203 (numR z w), dNum 203 (numR z w), (sDiv1 hz hw h0).e, (sTold ((hz.gsz.div hw.gsz h0).mono (by decide))).e] [(4, 12012013)] 800 Tryz.func252 hmA (by kernel_rfl) (fun β => by kernel_rfl)
noncomputable def sTwoDiv0 {z w : GQ} (hz : FitG z) (hw : FitG w) (h0 : gzero w = true) : Spec Tryz.prog :=
  Spec.auto Tryz.call252 [gS z, gS w, .one (.c (fnL 256))] [] (ga0 5) [] [(sOpened hz hw).e, dIdx 203 (numR z w), dNum 203 (numR z w), dIdx 203 (numR z w), dNum 203 (numR z w), (sDiv0 z h0).e] [(4, 10012013)] 800 Tryz.func252 hmA (by kernel_rfl) (fun β => by kernel_rfl)
noncomputable def sGDiv {z w : GQ} (hz : FitG z) (hw : FitG w) (h0 : gzero w = false) : Spec Tryz.prog :=
  Spec.auto Tryz.call90 [gS z, gS w] [] (gA2 (gdiv z w)) [] [(sTwoDiv hz hw h0).e] [] 400 Tryz.func90 hmA (by kernel_rfl) (fun β => by kernel_rfl)
noncomputable def sGDiv0 {z w : GQ} (hz : FitG z) (hw : FitG w) (h0 : gzero w = true) : Spec Tryz.prog :=
  Spec.auto Tryz.call90 [gS z, gS w] [] (ga0 5) [] [(sTwoDiv0 hz hw h0).e] [] 400 Tryz.func90 hmA (by kernel_rfl) (fun β => by kernel_rfl)
abbrev bxI (n : Int) : Ob := .box [.b (.v (.int .i64 n))] 3
abbrev powL (k : Nat) : Lf := .f (.func 220) [] [.p k 0]
noncomputable def sPow1 {z : GQ} (h0 : gzero z = true) : OSpec Tryz.prog :=
  OSpec.auto Tryz.call220 [nV 0, .one (.c (.b (.p 2 0)))] [(ratM z.re).ob, (ratM z.im).ob, bxI (-1)] (.tup [nA 0, nI' 5]) [] [(sZero h0).e] [(6, 3)] 800 Tryz.func220 hmA (by kernel_rfl) (fun β => by kernel_rfl)
noncomputable def sMadePow1 {z : GQ} (h0 : gzero z = true) : OSpec Tryz.prog :=
  OSpec.auto Tryz.call349 [nV 0, nV 2, .one (.c (.b (.p 4 0)))] [(ratM z.re).ob, (ratM z.im).ob, (ratM z.re).ob, (ratM z.im).ob, .box [powL 5] FT1, bxI (-1)] (.tup [nA 0, nI' 5]) [] [(sPow1 h0).e] [] 400 Tryz.func349 hmA (by kernel_rfl) (fun β => by kernel_rfl)
noncomputable def sTwoPow {z : GQ} (hz : FitG z) (h0 : gzero z = true) : OSpec Tryz.prog :=
  OSpec.auto Tryz.call252 [gS z, gS z, .one (.c madeL)] [.box [powL 1] FT1, bxI (-1)] (ga0 5) [] [(sOpened hz hz).e, dIdx 203 (numR z z), dNum 203 (numR z z), dIdx 203 (numR z z), dNum 203 (numR z z), (sMadePow1 h0).e] [(4, 12012013)] 800 Tryz.func252 hmA (by kernel_rfl) (fun β => by kernel_rfl)
noncomputable def sMadePow {z : GQ} (hz : FitG z) (h0 : gzero z = true) : OSpec Tryz.prog :=
  OSpec.auto Tryz.call219 [gS z, .one (.c (powL 0))] [bxI (-1)] (ga0 5) [] [(sTwoPow hz h0).e] [] 400 Tryz.func219 hmA (by kernel_rfl) (fun β => by kernel_rfl)
noncomputable def sGPow {z : GQ} (hz : FitG z) (h0 : gzero z = true) : Spec Tryz.prog :=
  Spec.auto Tryz.call55 [gS z, .one (nI' (-1))] [] (ga0 5) [] [(sMadePow hz h0).e] [] 400 Tryz.func55 hmA (by kernel_rfl) (fun β => by kernel_rfl)
theorem root_uniq {n a b : Nat} (h1 : a * a ≤ n) (h2 : n < (a + 1) * (a + 1)) (k1 : b * b ≤ n) (k2 : n < (b + 1) * (b + 1)) : a = b := by
  rcases Nat.lt_trichotomy a b with h | h | h
  · have : (a + 1) * (a + 1) ≤ b * b := Nat.mul_le_mul h h
    omega
  · exact h
  · have : (b + 1) * (b + 1) ≤ a * a := Nat.mul_le_mul h h
    omega
def eSqrt {m : Int} {n r : Nat} (i p k : Nat) (hm : m = (n : Int)) (h1 : r * r ≤ n) (h2 : n < (r + 1) * (r + 1)) (hn : (dig (5 * n)).length ≤ 4294967296) : Ev Tryz.prog := .fill 354 Tryz.call354 (fun β => #[.pointer (some ⟨(β i).b, 0, none⟩), .pointer ((β k).v 0)]) [(k, (intT m).ob)] i 2 p (intT (r : Int))
  (fun β w h ho hs => by
    obtain ⟨b, hb, kb⟩ := needI (n := m) (k := k) h (by simp)
    simp only [hb.1]
    rw [hm] at kb
    refine (Sqrt_any hs kb hn).mono fun e w' ⟨he, ⟨r', k1, k2, k3⟩, k4⟩ => ?_
    rw [root_uniq h1 h2 k1 k2]
    exact ⟨he, ⟨_, ho.at1, k3⟩, k4⟩)
def fSqrt {m : Int} {n r : Nat} (hm : m = (n : Int)) (h1 : r * r ≤ n) (h2 : n < (r + 1) * (r + 1)) (hn : (dig (5 * n)).length ≤ 4294967296) : Ev Tryz.prog := dyn2 fun i p k => eSqrt i p k hm h1 h2 hn
def mkI : Ev Tryz.prog := dynMk 169 2
theorem dig_small {n : Nat} (h : n < 4294967296) : (dig n).length ≤ 4294967296 := Nat.le_trans (dig_len_le n 1 (by omega)) (by decide)
theorem cmp_root {x y : Rat} {t : Bool} (h : decide (x = y) = t) : Value.bool (cmpQ x y == 0) = .bool t := by
  rw [← h]
  congr 1
  rw [Bool.eq_iff_iff, beq_iff_eq, decide_eq_true_iff]
  unfold cmpQ
  constructor
  · intro h
    by_cases a : x < y
    · rw [if_pos a] at h; exact absurd h (by decide)
    · by_cases b : y < x
      · rw [if_neg a, if_pos b] at h; exact absurd h (by decide)
      · exact Rat.le_antisymm (Rat.not_lt.1 b) (Rat.not_lt.1 a)
  · rintro rfl
    rw [if_neg Rat.lt_irrefl, if_neg Rat.lt_irrefl]
theorem nat_sign {m : Int} {n : Nat} (h : m = (n : Int)) : Value.bool (decide (m.sign < 0)) = .bool false := by
  rw [h]
  cases n <;> rfl
structure RootD (x : Rat) (n d a b : Nat) : Prop where
  hn : x.num = (n : Int)
  hd : (x.den : Int) = (d : Int)
  a1 : a * a ≤ n
  a2 : n < (a + 1) * (a + 1)
  b1 : b * b ≤ d
  b2 : d < (b + 1) * (b + 1)
  sn : 5 * n < 4294967296
  sd : 5 * d < 4294967296
  b0 : (b : Int) ≠ 0
  sa : sz (a : Int) ≤ 100
  sb : sz (b : Int) ≤ 100
def sRoot {x : Rat} (hx : Sz KB x) {n d a b : Nat} (h : RootD x n d a b) {t : Bool} (ht : decide (Rat.divInt a b * Rat.divInt a b = x) = t) : Spec Tryz.prog :=
  Spec.auto Tryz.call228 [rV 0] [ratT x] (.tup [.c (.b (.z 1 0)), .c (.b (.v (.bool t)))]) [ratT (Rat.divInt a b)]
    [nSign (x := x) rfl, .eqv 9 (.bool (decide (x.num.sign < 0))) (.bool false) (nat_sign h.hn), mkI, nNum x, fSqrt h.hn h.a1 h.a2 (dig_small h.sn), mkI, nDenom x, fSqrt h.hd h.b1 h.b2 (dig_small h.sd), mkR, fSetFrac h.b0 (Nat.le_trans h.sa (by decide)) (Nat.le_trans h.sb (by decide)),
      mkR, fMul ((sz_divInt h.b0 h.sa h.sb).mono (by decide)) ((sz_divInt h.b0 h.sa h.sb).mono (by decide)), nCmp (c := cmpQ (Rat.divInt a b * Rat.divInt a b) x) (((sz_divInt h.b0 h.sa h.sb).mul (sz_divInt h.b0 h.sa h.sb)).mono (by decide)) hx rfl, .eqv 29 (.bool (cmpQ (Rat.divInt a b * Rat.divInt a b) x == 0)) (.bool t) (cmp_root ht)]
    [] 800 Tryz.func228 hmA (by kernel_rfl) (fun β => by kernel_rfl)
abbrev z20 : GQ := gint 2 0
theorem z20_fit : FitG z20 := fit_int (by decide) (by decide)
abbrev nrm20 : Rat := (gmul z20 (gconj z20)).re
abbrev rt20 : Rat := Rat.divInt (2 : Nat) (1 : Nat)
abbrev half12 : Rat := Rat.divInt 1 2
abbrev mid20 : Rat := (rt20 + z20.re) * half12
theorem root_nrm20 : RootD nrm20 4 1 2 1 := ⟨by kernel_rfl, by kernel_rfl, by decide, by decide, by decide, by decide, by decide, by decide, by decide, by rw [sz_le]; decide, by rw [sz_le]; decide⟩
theorem root_mid20 : RootD mid20 2 1 1 1 := ⟨by kernel_rfl, by kernel_rfl, by decide, by decide, by decide, by decide, by decide, by decide, by decide, by rw [sz_le]; decide, by rw [sz_le]; decide⟩
theorem sz_half : Sz 8 half12 := sz_lit 1 2 (by decide) (by decide) (by decide)
theorem sz_rt20 : Sz 8 rt20 := sz_lit 2 1 (by decide) (by decide) (by decide)
noncomputable def sSqrt20 : Spec Tryz.prog :=
  Spec.auto Tryz.call225 [nV 0] (gM z20) (.tup [nA 0, nI' 7]) []
    [(sParts z20).e, (sConj z20).e, (sMul (z20_fit.gsz.mono (by decide)) (z20_fit.gsz.conj.mono (by decide))).e, (sParts (gmul z20 (gconj z20))).e,
      (sRoot ((z20_fit.gsz.mul z20_fit.gsz.conj).1.mono (by decide)) root_nrm20 (t := true) (by kernel_rfl)).e, nNew 1 2 (by decide) (by decide) (by decide), mkR, mkR, fAdd (sz_rt20.mono (by decide)) (z20_fit.gsz.1.mono (by decide)), fMul ((sz_rt20.add z20_fit.gsz.1).mono (by decide)) (sz_half.mono (by decide)),
      (sRoot (((sz_rt20.add z20_fit.gsz.1).mul sz_half).mono (by decide)) root_mid20 (t := false) (by kernel_rfl)).e] [(2, 10)] 1200 Tryz.func225 hmA (by kernel_rfl) (fun β => by kernel_rfl)
noncomputable def sMadeSqrt20 : OSpec Tryz.prog :=
  OSpec.auto Tryz.call349 [nV 0, nV 2, .one (.c (.b (.p 4 0)))] ([(ratM z20.re).ob, (ratM z20.im).ob, (ratM z20.re).ob, (ratM z20.im).ob, .box [fnL 225] FT1]) (.tup [nA 0, nI' 7]) [] [sSqrt20.e] [] 400 Tryz.func349 hmA (by kernel_rfl) (fun β => by kernel_rfl)
noncomputable def sTwoSqrt20 : OSpec Tryz.prog :=
  OSpec.auto Tryz.call252 [gS z20, gS z20, .one (.c madeL)] [.box [fnL 225] FT1] (ga0 7) [] [(sOpened z20_fit z20_fit).e, dIdx 203 (numR z20 z20), dNum 203 (numR z20 z20), dIdx 203 (numR z20 z20), dNum 203 (numR z20 z20), sMadeSqrt20.e] [(4, 11012013)] 800 Tryz.func252 hmA (by kernel_rfl) (fun β => by kernel_rfl)
noncomputable def sMadeS20 : Spec Tryz.prog :=
  Spec.auto Tryz.call219 [gS z20, .one (.c (fnL 225))] [] (ga0 7) [] [sTwoSqrt20.e] [] 400 Tryz.func219 hmA (by kernel_rfl) (fun β => by kernel_rfl)
noncomputable def sGSqrt20 : Spec Tryz.prog :=
  Spec.auto Tryz.call56 [gS z20] [] (ga0 7) [] [sMadeS20.e] [] 400 Tryz.func56 hmA (by kernel_rfl) (fun β => by kernel_rfl)
end Go.Proofs.YtfnmclgicjmapaaGreat.Y
end
section
namespace Go.Proofs.YtfnmclgicjmapaaGreat.Y
open Go Go.RowKit
set_option maxRecDepth 100000
def alOf (ob : List Ob) (j : Nat) : Nat := match ob[j]? with
  | some (.al i _) => i
  | _ => 0
def dynRf {P : Program} (f : Nat → Nat → Nat → Nat → Ev P) : Ev P := .dyn (fun o _ _ => isCallB o) fun _ xs ob => lit ob.length fun n => lit (ptOf (xs.getD 0 undefS)) fun j => lit (alOf ob j) fun i => lit (ptOf (xs.getD 2 undefS)) fun k => f i j n k
theorem one_at {g : Pl} {b : Nat} (h : g.one) (k : At1 g b) : b = g.b := ((k.2 g.b).1 ((h.1 _).2 rfl)).symm
def eRQuo {x y : Rat} (i j n k : Nat) (hx : Sz KB x) (hy : Sz KB y) (h0 : y ≠ 0) : Ev Tryz.prog := .refill 233 Tryz.call233 (fun β => #[.pointer ((β j).v 0), .pointer ((β j).v 0), .pointer ((β k).v 0)]) [(j, (ratT x).ob), (k, (ratT y).ob)] i j 4 n (ratT (x / y))
  (fun β w h hji ho hs => by
    obtain ⟨a, ha, ka⟩ := needP (x := x) (k := j) h (by simp)
    obtain ⟨b, hb, kb⟩ := needP (x := y) (k := k) h (by simp)
    have e := one_at ho (hji ▸ ha)
    subst e
    simp only [ha.1, hb.1]
    exact fillP ho (rQuo_any hs ka kb (hx.okR2 (by decide)) (hy.okR2 (by decide)) h0))
def rQuo {x y : Rat} (hx : Sz KB x) (hy : Sz KB y) (h0 : y ≠ 0) : Ev Tryz.prog := dynRf fun i j n k => eRQuo i j n k hx hy h0
def sEReal (x : Rat) : Spec Tryz.prog :=
  Spec.auto Tryz.call231 [rV 0] [ratT x] (.one (.a [.b (.z 0 0), .b (.v (.pointer none))])) [] [] [] 100 Tryz.func231 hmA (by kernel_rfl) (fun β => by kernel_rfl)
def sEInt (n m : Int) (hn : -9223372036854775808 ≤ n ∧ n ≤ 9223372036854775807) (hm : -9223372036854775808 ≤ m ∧ m ≤ 9223372036854775807) : Spec Tryz.prog :=
  Spec.auto Tryz.call222 [.one (.c (.b (.v (.int .i64 n)))), .one (.c (.b (.v (.int .i64 m))))] [] (nV 0) [ratT (Rat.divInt n 1), ratT (Rat.divInt m 1)]
    [nNew n 1 hn (by decide) (by decide), nNew m 1 hm (by decide) (by decide)] [] 400 Tryz.func222 hmA (by kernel_rfl) (fun β => by kernel_rfl)
abbrev z34 : GQ := gint (-3) 4
theorem z34_fit : FitG z34 := fit_int (by decide) (by decide)
abbrev nrm34 : Rat := (gmul z34 (gconj z34)).re
abbrev rt34 : Rat := Rat.divInt (5 : Nat) (1 : Nat)
abbrev mid34 : Rat := (rt34 + z34.re) * half12
abbrev a34 : Rat := Rat.divInt (1 : Nat) (1 : Nat)
abbrev b34 : Rat := z34.im * half12
abbrev q34 : GQ := ⟨b34 / a34, 0⟩
abbrev i01 : GQ := ⟨Rat.divInt 0 1, Rat.divInt 1 1⟩
abbrev s34 : GQ := gadd ⟨a34, 0⟩ (gmul q34 i01)
theorem root_nrm34 : RootD nrm34 25 1 5 1 := ⟨by kernel_rfl, by kernel_rfl, by decide, by decide, by decide, by decide, by decide, by decide, by decide, by rw [sz_le]; decide, by rw [sz_le]; decide⟩
theorem root_mid34 : RootD mid34 1 1 1 1 := ⟨by kernel_rfl, by kernel_rfl, by decide, by decide, by decide, by decide, by decide, by decide, by decide, by rw [sz_le]; decide, by rw [sz_le]; decide⟩
theorem sz_rt34 : Sz 8 rt34 := sz_lit 5 1 (by decide) (by decide) (by decide)
theorem sz_a34 : Sz 8 a34 := sz_lit 1 1 (by decide) (by decide) (by decide)
theorem a34_ne : a34 ≠ 0 := by
  have : decide (a34 = 0) = false := by kernel_rfl
  exact of_decide_eq_false this
theorem sz_b34 : Sz KB b34 := (z34_fit.gsz.2.mul sz_half).mono (by decide)
theorem sz_q34 : GSz 2048 q34 := ⟨((z34_fit.gsz.2.mul sz_half).div sz_a34 a34_ne).mono (by decide), sz_zero.mono (by decide)⟩
theorem sz_i01 : GSz 8 i01 := ⟨sz_lit 0 1 (by decide) (by decide) (by decide), sz_lit 1 1 (by decide) (by decide) (by decide)⟩
theorem sz_a340 : GSz 8 ⟨a34, 0⟩ := ⟨sz_a34, sz_zero.mono (by decide)⟩
noncomputable def sSqrt34 : Spec Tryz.prog :=
  Spec.auto Tryz.call225 [nV 0] (gM z34) (.tup [nA 2, nI' 0]) (gT s34)
    [(sParts z34).e, (sConj z34).e, (sMul (z34_fit.gsz.mono (by decide)) (z34_fit.gsz.conj.mono (by decide))).e, (sParts (gmul z34 (gconj z34))).e,
      (sRoot ((z34_fit.gsz.mul z34_fit.gsz.conj).1.mono (by decide)) root_nrm34 (t := true) (by kernel_rfl)).e, nNew 1 2 (by decide) (by decide) (by decide), mkR, mkR, fAdd (sz_rt34.mono (by decide)) (z34_fit.gsz.1.mono (by decide)), fMul ((sz_rt34.add z34_fit.gsz.1).mono (by decide)) (sz_half.mono (by decide)),
      (sRoot (((sz_rt34.add z34_fit.gsz.1).mul sz_half).mono (by decide)) root_mid34 (t := true) (by kernel_rfl)).e, nSign (x := a34) (c := 1) (by kernel_rfl), mkR, fMul (z34_fit.gsz.2.mono (by decide)) (sz_half.mono (by decide)),
      (sEReal a34).e, rQuo sz_b34 (sz_a34.mono (by decide)) a34_ne, (sEReal (b34 / a34)).e, (sEInt 0 1 (by decide) (by decide)).e, (sMul (sz_q34.mono (by decide)) (sz_i01.mono (by decide))).e, (sAdd (sz_a340.mono (by decide)) ((sz_q34.mul sz_i01).mono (by decide))).e] [(2, 10)] 1200 Tryz.func225 hmA (by kernel_rfl) (fun β => by kernel_rfl)
theorem s34_eq : s34 = gint 1 2 := by
  have h1 : decide (s34.re = (gint 1 2).re) = true := by kernel_rfl
  have h2 : decide (s34.im = (gint 1 2).im) = true := by kernel_rfl
  exact congr (congrArg GQ.mk (of_decide_eq_true h1)) (of_decide_eq_true h2)
abbrev z12 : GQ := gint 1 2
theorem z12_fit : FitG z12 := fit_int (by decide) (by decide)
noncomputable def sMadeSqrt34 : OSpec Tryz.prog :=
  OSpec.auto Tryz.call349 [nV 0, nV 2, .one (.c (.b (.p 4 0)))] ([(ratM z34.re).ob, (ratM z34.im).ob, (ratM z34.re).ob, (ratM z34.im).ob, .box [fnL 225] FT1]) (.tup [nA 5, nI' 0]) [s34.re, s34.im] [sSqrt34.e] [] 400 Tryz.func349 hmA (by kernel_rfl) (fun β => by kernel_rfl)
noncomputable def sTwoSqrt34 : OSpec Tryz.prog :=
  OSpec.auto Tryz.call252 [gS z34, gS z34, .one (.c madeL)] [.box [fnL 225] FT1] (gA2 s34) [] [(sOpened z34_fit z34_fit).e, dIdx 203 (numR z34 z34), dNum 203 (numR z34 z34), dIdx 203 (numR z34 z34), dNum 203 (numR z34 z34), sMadeSqrt34.e, (sTold (z := s34) (by rw [s34_eq]; exact z12_fit.gsz.mono (by decide))).e] [(4, 13012013)] 800 Tryz.func252 hmA (by kernel_rfl) (fun β => by kernel_rfl)
noncomputable def sMadeS34 : Spec Tryz.prog :=
  Spec.auto Tryz.call219 [gS z34, .one (.c (fnL 225))] [] (gA2 s34) [] [sTwoSqrt34.e] [] 400 Tryz.func219 hmA (by kernel_rfl) (fun β => by kernel_rfl)
noncomputable def sGSqrt34 : Spec Tryz.prog :=
  Spec.auto Tryz.call56 [gS z34] [] (gA2 s34) [] [sMadeS34.e] [] 400 Tryz.func56 hmA (by kernel_rfl) (fun β => by kernel_rfl)
end Go.Proofs.YtfnmclgicjmapaaGreat.Y
end
section
namespace Go.Proofs.YtfnmclgicjmapaaGreat.Y
open Go Go.RowKit
set_option maxRecDepth 100000
theorem sq_parts (r : Rat) : (r * r).num = r.num * r.num ∧ ((r * r).den : Int) = (r.den : Int) * r.den := by
  have hd := r.den_pos
  have h0 : (r.den : Int) * r.den ≠ 0 := Int.mul_ne_zero (den_ne r) (den_ne r)
  have hp : ¬ ((r.den : Int) * r.den < 0) := Int.not_lt.2 (Int.mul_nonneg (by omega) (by omega))
  have hg : Nat.gcd (r.num * r.num).natAbs ((r.den : Int) * r.den).natAbs = 1 := by
    rw [Int.natAbs_mul, Int.natAbs_mul, Int.natAbs_natCast]
    have h := r.reduced
    exact Nat.Coprime.mul_left (Nat.Coprime.mul_right h h) (Nat.Coprime.mul_right h h)
  obtain ⟨_, _, _, h4, h5⟩ := divInt_parts (r.num * r.num) ((r.den : Int) * r.den) h0 1 (by rw [if_neg hp, hg]; rfl)
  rw [Int.ediv_one] at h4 h5
  rw [← divInt_mul]
  exact ⟨h4, h5⟩
theorem pow_dig (m : Nat) : (4294967296 : Nat) ^ (m + 1) = 256 ^ (4 * m) * 4294967296 := by
  rw [Nat.pow_succ, Nat.pow_mul]
theorem dig_big {n k : Nat} (h : n < 256 ^ k) (hk : k ≤ 8000) : (dig (5 * n)).length ≤ 4294967296 := by
  obtain ⟨m, hm⟩ : ∃ m : Nat, m = 2000 := ⟨_, rfl⟩
  have hkm : k ≤ 4 * m := by omega
  refine Nat.le_trans (dig_len_le (5 * n) (m + 1) ?_) (by omega)
  have h1 : 256 ^ k ≤ 256 ^ (4 * m) := Nat.pow_le_pow_right (by decide) hkm
  rw [pow_dig]
  generalize (256 : Nat) ^ (4 * m) = z at h1
  omega
abbrev KS : Nat := 4000
structure RootB (x : Rat) (n d a b : Nat) : Prop where
  hn : x.num = (n : Int)
  hd : (x.den : Int) = (d : Int)
  a1 : a * a ≤ n
  a2 : n < (a + 1) * (a + 1)
  b1 : b * b ≤ d
  b2 : d < (b + 1) * (b + 1)
  ln : (dig (5 * n)).length ≤ 4294967296
  ld : (dig (5 * d)).length ≤ 4294967296
  b0 : (b : Int) ≠ 0
  sa : sz (a : Int) ≤ KS
  sb : sz (b : Int) ≤ KS
def Spec.newsAs {P : Program} (S : Spec P) (l : List Thing) (h : S.news = l) : Spec P :=
  ⟨S.f, S.en, S.args, S.obs, S.res, l, fun β w hh => by rw [← h]; exact S.ok β w hh, by rw [← h]; exact S.closed⟩
def sRootB {x : Rat} (hx : Sz KB x) {n d a b : Nat} (h : RootB x n d a b) {t : Bool} (ht : decide (Rat.divInt a b * Rat.divInt a b = x) = t) : Spec Tryz.prog :=
  Spec.auto Tryz.call228 [rV 0] [ratT x] (.tup [.c (.b (.z 1 0)), .c (.b (.v (.bool t)))]) [ratT (Rat.divInt a b)]
    [nSign (x := x) rfl, .eqv 9 (.bool (decide (x.num.sign < 0))) (.bool false) (nat_sign h.hn), mkI, nNum x, fSqrt h.hn h.a1 h.a2 h.ln, mkI, nDenom x, fSqrt h.hd h.b1 h.b2 h.ld, mkR, fSetFrac h.b0 (Nat.le_trans h.sa (by decide)) (Nat.le_trans h.sb (by decide)),
      mkR, fMul ((sz_divInt h.b0 h.sa h.sb).mono (by decide)) ((sz_divInt h.b0 h.sa h.sb).mono (by decide)), nCmp (c := cmpQ (Rat.divInt a b * Rat.divInt a b) x) (((sz_divInt h.b0 h.sa h.sb).mul (sz_divInt h.b0 h.sa h.sb)).mono (by decide)) hx rfl, .eqv 29 (.bool (cmpQ (Rat.divInt a b * Rat.divInt a b) x == 0)) (.bool t) (cmp_root ht)]
    [] 800 Tryz.func228 hmA (by kernel_rfl) (fun β => by kernel_rfl)
theorem nat_abs {n : Int} (h : 0 ≤ n) : ((n.natAbs : Nat) : Int) = n := Int.natAbs_of_nonneg h
theorem rootB_sq {x r : Rat} (hx : x = r * r) (h0 : 0 ≤ r.num) (hr : Sz KS r) : RootB x (r.num.natAbs * r.num.natAbs) (r.den * r.den) r.num.natAbs r.den := by
  have hs := sq_parts r
  have s1 : r.num.natAbs < 256 ^ KS := sz_le.1 hr.1
  have s2 : r.den < 256 ^ KS := by have := sz_le.1 hr.2; rwa [Int.natAbs_natCast] at this
  obtain ⟨K, hK⟩ : ∃ K : Nat, K = KS := ⟨_, rfl⟩
  have key : ∀ n : Nat, n < 256 ^ KS → n * n < 256 ^ (K + K) := fun n h => by
    rw [Nat.pow_add, hK]
    exact Nat.mul_lt_mul'' h h
  have hk2 : K + K ≤ 8000 := by rw [hK]; decide
  refine ⟨?_, ?_, Nat.le_refl _, Nat.mul_lt_mul'' (Nat.lt_succ_self _) (Nat.lt_succ_self _), Nat.le_refl _, Nat.mul_lt_mul'' (Nat.lt_succ_self _) (Nat.lt_succ_self _), dig_big (key _ s1) hk2, dig_big (key _ s2) hk2, den_ne r, ?_, hr.2⟩
  · rw [hx, hs.1, Int.natCast_mul, nat_abs h0]
  · rw [hx, hs.2, Int.natCast_mul]
  · rw [nat_abs h0]; exact hr.1
theorem divInt_abs {r : Rat} (h0 : 0 ≤ r.num) : Rat.divInt ((r.num.natAbs : Nat) : Int) ((r.den : Nat) : Int) = r := by
  rw [nat_abs h0, Rat.num_divInt_den]
def sRootQ {x r : Rat} (hx : x = r * r) (h0 : 0 ≤ r.num) (hr : Sz KS r) : Spec Tryz.prog :=
  (sRootB (x := x) (t := true) (by rw [hx]; exact (hr.mul hr).mono (by decide)) (rootB_sq hx h0 hr) (by rw [divInt_abs h0, hx]; exact decide_eq_true rfl)).newsAs [ratT r] (by
    show [ratT (Rat.divInt ((r.num.natAbs : Nat) : Int) ((r.den : Nat) : Int))] = _
    rw [divInt_abs h0])
def absQ (x : Rat) : Rat := if 0 ≤ x.num then x else -x
theorem absQ_nn (x : Rat) : 0 ≤ (absQ x).num := by
  unfold absQ
  split
  · assumption
  · rw [Rat.neg_num]; omega
theorem absQ_or (x : Rat) : absQ x = x ∨ absQ x = -x := by
  unfold absQ
  split
  · exact .inl rfl
  · exact .inr rfl
theorem absQ_sq (x : Rat) : absQ x * absQ x = x * x := by
  rcases absQ_or x with e | e <;> rw [e] <;> grind
theorem absQ_sz {k : Nat} {x : Rat} (h : Sz k x) : Sz k (absQ x) := by
  rcases absQ_or x with e | e <;> rw [e]
  · exact h
  · exact h.neg
theorem half2 : half12 + half12 = 1 := of_decide_eq_true (by kernel_rfl : decide (half12 + half12 = 1) = true)
theorem gnorm_nn (u : GQ) : 0 ≤ (gnorm u).num := by
  have : 0 ≤ gnorm u := by
    unfold gnorm
    have h1 : ∀ x : Rat, 0 ≤ x * x := fun x => by
      rcases Rat.le_total (a := 0) (b := x) with h | h
      · exact Rat.mul_nonneg h h
      · have := Rat.mul_nonneg (a := -x) (b := -x) (by grind) (by grind)
        grind
    exact Rat.add_nonneg (h1 _) (h1 _)
  exact Rat.num_nonneg.2 this
section
variable (u : GQ)
abbrev sqZ : GQ := gmul u u
abbrev sqA : Rat := absQ u.re
abbrev sqB : Rat := absQ u.im
abbrev sqQ : GQ := ⟨(sqZ u).im * half12 / sqA u, 0⟩
def sqW : GQ := if sqA u = 0 then gmul ⟨sqB u, 0⟩ i01 else gadd ⟨sqA u, 0⟩ (gmul (sqQ u) i01)
theorem sq_nrm : (gmul (sqZ u) (gconj (sqZ u))).re = gnorm u * gnorm u := by
  simp only [sqZ, gmul, gconj, gnorm]
  grind
theorem sq_mid : (gnorm u + (sqZ u).re) * half12 = sqA u * sqA u := by
  have := half2
  rw [absQ_sq]
  simp only [sqZ, gmul, gnorm]
  generalize half12 = h at this
  grind
theorem i01_parts : i01 = ⟨0, 1⟩ := by
  have h1 : decide (Rat.divInt 0 1 = 0) = true := by kernel_rfl
  have h2 : decide (Rat.divInt 1 1 = 1) = true := by kernel_rfl
  exact congr (congrArg GQ.mk (of_decide_eq_true h1)) (of_decide_eq_true h2)
theorem sqW_or : sqW u = u ∨ sqW u = gneg u := by
  have hh := half2
  unfold sqW
  rw [i01_parts]
  split
  · rename_i h0
    have h0 : absQ u.re = 0 := h0
    have h0 : u.re = 0 := by rcases absQ_or u.re with e | e <;> rw [e] at h0 <;> grind
    rcases absQ_or u.im with e | e
    · refine .inl (GQ.ext2 ?_ ?_) <;> (simp only [gmul, sqB, e]; grind)
    · refine .inr (GQ.ext2 ?_ ?_) <;> (simp only [gmul, gneg, sqB, e]; grind)
  · rename_i h0
    rcases absQ_or u.re with e | e
    · simp only [sqA, e] at h0 ⊢
      refine .inl (GQ.ext2 ?_ ?_)
      · simp only [gadd, gmul, sqQ]; grind
      · simp only [gadd, gmul, sqQ, sqZ, sqA, e]
        generalize half12 = h at hh ⊢
        grind
    · simp only [sqA, e] at h0 ⊢
      refine .inr (GQ.ext2 ?_ ?_)
      · simp only [gadd, gmul, gneg, sqQ]; grind
      · simp only [gadd, gmul, gneg, sqQ, sqZ, sqA, e]
        generalize half12 = h at hh ⊢
        grind
end
theorem fit_sz {k : Nat} {x : Rat} (h : Sz k x) (hk : k ≤ 1024) : Fit x := ⟨Nat.le_trans h.1 hk, by
  have := Nat.le_trans h.2 hk
  unfold sz at this
  rwa [Int.natAbs_natCast] at this⟩
theorem fitG_of {k : Nat} {z : GQ} (h : GSz k z) (hk : k ≤ 1024) : FitG z := ⟨fit_sz h.1 hk, fit_sz h.2 hk⟩
theorem sign_ne {x : Rat} {t : Bool} (h : decide (x = 0) = !t) : Value.bool (!(x.num.sign == 0)) = .bool t := by
  have := sign_num x (b := !t) h
  rw [Value.bool.injEq] at this
  rw [this, Bool.not_not]
section
variable {u : GQ} (hu : GSz 64 u)
include hu
theorem sqZ_sz : GSz 257 (sqZ u) := hu.mul hu
theorem sqN_sz : Sz KS (gnorm u) := hu.norm.mono (by decide)
theorem sqA_sz : Sz 64 (sqA u) := absQ_sz hu.1
theorem sqB_sz : Sz 64 (sqB u) := absQ_sz hu.2
theorem sqH_sz : Sz 265 ((sqZ u).im * half12) := (sqZ_sz hu).2.mul sz_half
theorem sqQ_sz (h : sqA u ≠ 0) : GSz 400 (sqQ u) := ⟨((sqH_sz hu).div (sqA_sz hu) h).mono (by decide), sz_zero.mono (by decide)⟩
theorem sqA0_sz : GSz 64 ⟨sqA u, 0⟩ := ⟨sqA_sz hu, sz_zero.mono (by decide)⟩
theorem sqB0_sz : GSz 64 ⟨sqB u, 0⟩ := ⟨sqB_sz hu, sz_zero.mono (by decide)⟩
theorem sqW_sz : GSz 64 (sqW u) := by
  rcases sqW_or u with e | e <;> rw [e]
  · exact hu
  · exact hu.neg
end
theorem sq_b {u : GQ} (h : sqA u = 0) : gnorm u = sqB u * sqB u := by
  have h : absQ u.re = 0 := h
  have h0 : u.re = 0 := by rcases absQ_or u.re with e | e <;> rw [e] at h <;> grind
  rw [absQ_sq]
  simp only [gnorm, h0]
  grind
noncomputable def sqE {u : GQ} (hu : GSz 64 u) : List (Ev Tryz.prog) :=
  [(sParts (sqZ u)).e, (sConj (sqZ u)).e, (sMul ((sqZ_sz hu).mono (by decide)) ((sqZ_sz hu).conj.mono (by decide))).e, (sParts (gmul (sqZ u) (gconj (sqZ u)))).e,
    (sRootQ (sq_nrm u) (gnorm_nn u) (sqN_sz hu)).e, nNew 1 2 (by decide) (by decide) (by decide), mkR, mkR, fAdd ((sqN_sz hu).mono (by decide)) ((sqZ_sz hu).1.mono (by decide)), fMul (((sqN_sz hu).add (sqZ_sz hu).1).mono (by decide)) (sz_half.mono (by decide)),
    (sRootQ (sq_mid u) (absQ_nn u.re) ((sqA_sz hu).mono (by decide))).e, nSign (x := sqA u) rfl]
noncomputable def sSqrtSqA {u : GQ} (hu : GSz 64 u) (h : sqA u ≠ 0) : Spec Tryz.prog :=
  Spec.auto Tryz.call225 [nV 0] (gM (sqZ u)) (.tup [nA 2, nI' 0]) (gT (gadd ⟨sqA u, 0⟩ (gmul (sqQ u) i01)))
    (sqE hu ++ [.eqv 52 (.bool (!((sqA u).num.sign == 0))) (.bool true) (sign_ne (decide_eq_false h)), mkR, fMul ((sqZ_sz hu).2.mono (by decide)) (sz_half.mono (by decide)), (sEReal (sqA u)).e, rQuo ((sqH_sz hu).mono (by decide)) ((sqA_sz hu).mono (by decide)) h, (sEReal ((sqZ u).im * half12 / sqA u)).e, (sEInt 0 1 (by decide) (by decide)).e,
      (sMul ((sqQ_sz hu h).mono (by decide)) (sz_i01.mono (by decide))).e, (sAdd ((sqA0_sz hu).mono (by decide)) (((sqQ_sz hu h).mul sz_i01).mono (by decide))).e]) [(2, 10)] 1200 Tryz.func225 hmA (by kernel_rfl) (fun β => by kernel_rfl)
noncomputable def sSqrtSqB {u : GQ} (hu : GSz 64 u) (h : sqA u = 0) : Spec Tryz.prog :=
  Spec.auto Tryz.call225 [nV 0] (gM (sqZ u)) (.tup [nA 2, nI' 0]) (gT (gmul ⟨sqB u, 0⟩ i01))
    (sqE hu ++ [.eqv 52 (.bool (!((sqA u).num.sign == 0))) (.bool false) (sign_ne (decide_eq_true h)), (sRootQ (sq_b h) (absQ_nn u.im) ((sqB_sz hu).mono (by decide))).e, (sEReal (sqB u)).e, (sEInt 0 1 (by decide) (by decide)).e,
      (sMul ((sqB0_sz hu).mono (by decide)) (sz_i01.mono (by decide))).e]) [(2, 10)] 1200 Tryz.func225 hmA (by kernel_rfl) (fun β => by kernel_rfl)
noncomputable def sSqrtSq {u : GQ} (hu : GSz 64 u) : Spec Tryz.prog :=
  ⟨225, Tryz.call225, [nV 0], gM (sqZ u), .tup [nA 2, nI' 0], gT (sqW u), fun β w hh => by
    by_cases h : sqA u = 0
    · rw [show sqW u = gmul ⟨sqB u, 0⟩ i01 from if_pos h]
      exact (sSqrtSqB hu h).ok β w hh
    · rw [show sqW u = gadd ⟨sqA u, 0⟩ (gmul (sqQ u) i01) from if_neg h]
      exact (sSqrtSqA hu h).ok β w hh, by kernel_rfl⟩
noncomputable def sMadeSqrtSq {u : GQ} (hu : GSz 64 u) : OSpec Tryz.prog :=
  OSpec.auto Tryz.call349 [nV 0, nV 2, .one (.c (.b (.p 4 0)))] ([(ratM (sqZ u).re).ob, (ratM (sqZ u).im).ob, (ratM (sqZ u).re).ob, (ratM (sqZ u).im).ob, .box [fnL 225] FT1]) (.tup [nA 5, nI' 0]) [(sqW u).re, (sqW u).im] [(sSqrtSq hu).e] [] 400 Tryz.func349 hmA (by kernel_rfl) (fun β => by kernel_rfl)
noncomputable def sTwoSqrtSq {u : GQ} (hu : GSz 64 u) : OSpec Tryz.prog :=
  OSpec.auto Tryz.call252 [gS (sqZ u), gS (sqZ u), .one (.c madeL)] [.box [fnL 225] FT1] (gA2 (sqW u)) [] [(sOpened (fitG_of (sqZ_sz hu) (by decide)) (fitG_of (sqZ_sz hu) (by decide))).e, dIdx 203 (numR (sqZ u) (sqZ u)), dNum 203 (numR (sqZ u) (sqZ u)), dIdx 203 (numR (sqZ u) (sqZ u)), dNum 203 (numR (sqZ u) (sqZ u)), (sMadeSqrtSq hu).e, (sTold (z := sqW u) ((sqW_sz hu).mono (by decide))).e] [(4, 13012013)] 800 Tryz.func252 hmA (by kernel_rfl) (fun β => by kernel_rfl)
noncomputable def sMadeSSq {u : GQ} (hu : GSz 64 u) : Spec Tryz.prog :=
  Spec.auto Tryz.call219 [gS (sqZ u), .one (.c (fnL 225))] [] (gA2 (sqW u)) [] [(sTwoSqrtSq hu).e] [] 400 Tryz.func219 hmA (by kernel_rfl) (fun β => by kernel_rfl)
noncomputable def sGSqrtSq {u : GQ} (hu : GSz 64 u) : Spec Tryz.prog :=
  Spec.auto Tryz.call56 [gS (sqZ u)] [] (gA2 (sqW u)) [] [(sMadeSSq hu).e] [] 400 Tryz.func56 hmA (by kernel_rfl) (fun β => by kernel_rfl)
end Go.Proofs.YtfnmclgicjmapaaGreat.Y
end
section
namespace Go.Proofs.YtfnmclgicjmapaaGreat.Y
open Go Go.RowKit
set_option maxRecDepth 100000
def sNum4 (k : Int) : Spec Tryz.prog := Spec.auto Tryz.call217 [.one (nI' k)] [] (.one (nI' k)) [] [] [] 400 Tryz.func217 hmA (by kernel_rfl) (fun β => by kernel_rfl)
theorem geq_self2 (x y : R4) : (x.eq x && (y.eq y && true)) = true := geq_self x y
noncomputable abbrev fA (x : Rat) : List Lf := [.b (.v (.bool (ansB x))), .b (.v (.string (ansS x))), .b (.v (.bool false)), .b (.v (.string (ansD x)))]
theorem fA_fit {x : Rat} (h : Fit x) : fA x = fC x ∧ ansK x = 0 := by
  unfold fA fC
  rw [(ansF_fit h).1, (ansF_fit h).2.1, (ansF_fit h).2.2.1]
  exact ⟨rfl, (ansF_fit h).2.2.2⟩
theorem gint01 : gint 0 1 = ⟨0, 1⟩ := gq_lit (by kernel_rfl) (by kernel_rfl)
def sGM (g : Gp) {r : Bool} (h : g.B = r) : Spec Tryz.prog :=
  (sGMay g.a.a g.b.a).as [g.C] (tB' r) (by
    show [SV.one (.a (g.a.a.C ++ g.b.a.C))] = [SV.one (.a (rL g.a.r ++ rL g.b.r))]
    rw [show g.a.a.C = rL g.a.r from g.a.e, show g.b.a.C = rL g.b.r from g.b.e]) (congrArg tB' h)
noncomputable def sProd {z w : GQ} (hz : FitG z) (hw : FitG w) : Spec Tryz.prog :=
  Spec.auto Tryz.call360 [gS z, gS w] [] (.tup [.c (.b (.z 0 0)), .c (.b (.z 1 0)), nI' 0]) (gT (gmul (gconj z) w))
    [(sOpened hz hw).e, dIdx 203 (numR z w), dNum 203 (numR z w), (sConj z).e, dIdx 203 (numR z w), dNum 203 (numR z w), (sMul (hz.gsz.conj.mono (by decide)) (hw.gsz.mono (by decide))).e, (sParts (gmul (gconj z) w)).e] [(4, 14)] 800 Tryz.func360 hmA (by kernel_rfl) (fun β => by kernel_rfl)
noncomputable def sDot {z w : GQ} (hz : FitG z) (hw : FitG w) : Spec Tryz.prog :=
  Spec.auto Tryz.call258 [gS z, gS w] [] (.tup [.a (fA (gmul (gconj z) w).re), nI' (ansK (gmul (gconj z) w).re)]) [] [(sProd hz hw).e, (sFrac ((hz.gsz.conj.mul hw.gsz).1.mono (by decide))).e] [] 800 Tryz.func258 hmA (by kernel_rfl) (fun β => by kernel_rfl)
noncomputable def sCross {z w : GQ} (hz : FitG z) (hw : FitG w) : Spec Tryz.prog :=
  Spec.auto Tryz.call259 [gS z, gS w] [] (.tup [.a (fA (gmul (gconj z) w).im), nI' (ansK (gmul (gconj z) w).im)]) [] [(sProd hz hw).e, (sFrac ((hz.gsz.conj.mul hw.gsz).2.mono (by decide))).e] [] 800 Tryz.func259 hmA (by kernel_rfl) (fun β => by kernel_rfl)
noncomputable def sGNorm {z : GQ} (hz : FitG z) : Spec Tryz.prog :=
  Spec.auto Tryz.call260 [gS z] [] (.tup [.a (fA (gmul (gconj z) z).re), nI' (ansK (gmul (gconj z) z).re)]) [] [(sDot hz hz).e] [] 400 Tryz.func260 hmA (by kernel_rfl) (fun β => by kernel_rfl)
end Go.Proofs.YtfnmclgicjmapaaGreat.Y
end
section
namespace Go.Proofs.YtfnmclgicjmapaaGreat
open Go.RowKit
def pv (g : Nat) : Value := .pointer (some ⟨g, 0, none⟩)
theorem ptr_info : (Tryz.prog.info? 162).map (fun i => (i.zero, i.size, i.bytes)) = some (some (.pointer none), 1, 8) := by kernel_rfl
def PRow (w : World) (base : Nat) (v : Value) (zs : List Nat) : Prop := w.ownsRow base 162 1 v zs.length (zs.map pv)
theorem PRow.nil (w : World) (base : Nat) : PRow w base (.slice none 0 0) [] := by simpa [PRow] using World.ownsRow_nil w base 162 1
theorem PRow.alloc {w : World} {base : Nat} {v : Value} {zs : List Nat} (h : PRow w base v zs) (o : Obj) : PRow (w.alloc o) base v zs := World.ownsRow.alloc h o
theorem PRow.open_ {w : World} {base : Nat} {v : Value} {zs : List Nat} (h : PRow w base v zs) (h0 : 0 < zs.length) :
    ∃ g cap, v = .slice (some ⟨g, 0, none⟩) zs.length cap ∧ base ≤ g ∧ g < w.heap.size ∧ ∀ i, i < zs.length → w.cell? ⟨g, i, none⟩ = some (pv (zs.getD i 0)) := by
  obtain ⟨hlen, h2⟩ := h
  rcases h2 with ⟨rfl, h1⟩ | ⟨g, cap, cur, rfl, hg, hh, hc, _, hcs, ht⟩
  · omega
  · refine ⟨g, cap, rfl, hg, heap_some_lt hh, fun i hi => ?_⟩
    have h3 : (cur.toList.take (zs.length * 1))[i]? = (zs.map pv)[i]? := by rw [ht]
    rw [List.getElem?_take_of_lt (by omega), List.getElem?_map, List.getElem?_eq_getElem hi] at h3
    rw [cell_of_row _ _ _ _ _ _ hh, ← Array.getElem?_toList, h3, getD_in hi]
    rfl
theorem wpList_append_ptr {ops : Array Oper} {rest : List Oper} {o : Oper} {a : Act} {w : World} {Q : Exit → Act → World → Prop} (hg : o.guard = none) (s x : Operand)
    (ho : o.op = .call { callee := .builtin .append, args := #[s, x], argTypes := #[373, 373] })
    (base : Nat) (v : Value) (zs : List Nat) (hs : a.eval s = v) (hown : PRow w base v zs) (ad : Addr) (c : Nat) (y : Nat) (hx : a.eval x = .slice (some ad) 1 c) (hcell : w.cell? ad = some (pv y))
    (hlen : zs.length ≤ 17179869184) (hbase : base ≤ w.heap.size)
    (hK : ∀ v' w', PRow w' base v' (zs ++ [y]) → Below base w w' → w.grownBy w' v.ownBlock → wpList Tryz.prog ops Q rest (a.put o.dst v') w') : wpList Tryz.prog ops Q (o :: rest) a w := by
  obtain ⟨i0, hi, hz0, hz1, hz2⟩ := info_parts ptr_info
  refine wpList_append_own w hg s x 373 ho base 162 i0 (.pointer none) 1 8 Tryz.underlying373 hi hz0 hz1 hz2 rfl (by decide) v zs.length (zs.map pv) hs hown ad 1 c [pv y] hx rfl ?_ ?_ (by simp only [maxLen]; omega) (by omega) hbase ?_
  · intro j u hj
    cases j with
    | zero =>
      simp at hj
      subst hj
      simpa [Addr.add] using hcell
    | succ j => simp at hj
  · intro u hu
    simp at hu
    subst hu
    rfl
  · intro v' w' h1 h2 _
    refine hK v' w' (by simpa [PRow] using h1) ((Below.refl _ _).grown h2 hbase fun k hk => ?_) h2
    · rcases hown.2 with ⟨rfl, _⟩ | ⟨g, cap, cur, rfl, hb, _⟩
      · simp [Value.ownBlock] at hk
      · simp [Value.ownBlock] at hk
        omega
def OfPost (b : Bool) (s : ByteArray) (w : World) (e : Ending) (w' : World) : Prop :=
  ((WholeOk b s ∧ ∃ h cap p, e = .returned (.tuple #[.slice (some ⟨h, 0, none⟩) 1 cap, .bool true]) ∧ w'.cell? ⟨h, 0, none⟩ = some (.pointer (some ⟨p, 0, none⟩)) ∧ IntAt w' p 0 (numOf b s)) ∨
    (¬ WholeOk b s ∧ e = .returned (.tuple #[.slice none 0 0, .bool false]))) ∧ Below w.heap.size w w'
set_option maxHeartbeats 1600000 in
set_option maxRecDepth 100000 in
theorem of_one {w0 : World} {a cap : Nat} (b : Bool) (s : ByteArray) (hs : s.size ≤ 4294967296) {T : TypeId} (ha : BoxAt w0 a #[.bool b, .string s] T) :
    Calls Tryz.prog 377 #[.slice (some ⟨a, 0, none⟩) 1 cap] w0 (OfPost b s w0) := by
  have hcv := fun (w : World) => run_bytes_of_string (P := Tryz.prog) w 9 315 5 s Tryz.underlying9 Tryz.underlying315 Tryz.underlying5
  have HS := Lib.hid hs
  have HS2 : Hid (s.size ≤ maxLen) := by unfold Hid maxLen; omega
  have HX := Lib.hid ha
  have hc0 := ha.cell 0 (.bool b) rfl
  have hc1 := ha.cell 1 (.string s) rfl
  clear hs ha
  go_enter Tryz.func377, Tryz.ntmps377
  go_wp2
  go_loopw [4, 10] (fun v i wr => Below w0.heap.size w0 wr ∧ ((v = .slice none 0 0 ∧ i = .int .i64 0) ∨ (WholeOk b s ∧ i = .int .i64 1 ∧ ∃ h cap p, v = .slice (some ⟨h, 0, none⟩) 1 cap ∧ wr.cell? ⟨h, 0, none⟩ = some (.pointer (some ⟨p, 0, none⟩)) ∧ IntAt wr p 0 (numOf b s)))) (fun _ i _ => 1 - (intOf i).toNat)
  case atStart => exact ⟨Below.refl _ _, .inl ⟨rfl, rfl⟩⟩
  case round =>
    obtain ⟨hb, h | h⟩ := hrel
    · obtain ⟨rfl, rfl⟩ := h
      have HBR := Lib.hid hb
      have hd0 := (HX.out.on hb).cell 0 (.bool b) rfl
      have hd1 := (HX.out.on hb).cell 1 (.string s) rfl
      have HN := Lib.hid (BoxAt.new wr #[.bool b, .string s] 23)
      have HBN := Lib.hid (below_new wr (.cells #[.bool b, .string s] 23))
      clear hb hc0 hc1
      go_wp2_with fail
      refine (Check_any b s HS2.out).mono ?_
      rintro e w1 ⟨k, rfl, hk, hb⟩
      have HB1 := Lib.hid ((HBR.out.trans (HBN.out.mono HBR.out.size)).trans (hb.mono (Nat.le_trans HBR.out.size HBN.out.size)))
      have HN1 := Lib.hid (HN.out.on hb)
      have hl1 : wr.heap.size < w1.heap.size := HN1.out.lt
      clear hb hd0 hd1
      by_cases ho : WholeOk b s
      · obtain rfl : k = 0 := hk.elim (fun h => h.1) (fun h => absurd ho h.2)
        have HO := Lib.hid ho
        have hn0 := HN1.out.cell 0 (.bool b) rfl
        have hn1 := HN1.out.cell 1 (.string s) rfl
        clear hk ho
        go_wp2_with fail
        generalize hW2 : w1.alloc (.cells #[.bool false, .slice none 0 0] 169) = W2
        have hi : IntAt W2 w1.heap.size 0 0 := by rw [← hW2]; exact IntAt.new _
        have hx : BoxAt W2 wr.heap.size #[.bool b, .string s] 23 := by rw [← hW2]; exact HN1.out.on (below_new _ _)
        have hb : Below w1.heap.size w1 W2 := by rw [← hW2]; exact below_new _ _
        have hsz : w1.heap.size + 1 = W2.heap.size := by rw [← hW2]; simp
        have hby := byt_row (W := W2) s (grownCap W2 s.size 0 5) (grownCap W2 s.size 0 5) (w1.heap.size + 1) ((bytesRow s (grownCap W2 s.size 0 5)).size, (bytesRow s (grownCap W2 s.size 0 5)).size + 1) hsz
        have hbl := below_row W2 (bytesRow s (grownCap W2 s.size 0 5)) 5 ((bytesRow s (grownCap W2 s.size 0 5)).size, (bytesRow s (grownCap W2 s.size 0 5)).size + 1)
        clear hW2
        generalize grownCap W2 s.size 0 5 = c at hby hbl ⊢
        generalize (W2.alloc (.cells (bytesRow s c) 5 ((bytesRow s c).size, (bytesRow s c).size + 1))).drew = W3 at hby hbl ⊢
        refine (SetBytes_any (hi.on hbl).slot hby HS.out).mono ?_
        rintro e w4 ⟨rfl, h1, h2⟩
        rw [List.reverse_reverse] at h1
        have HT := Lib.hid (h2.below (B := w1.heap.size) (Nat.le_refl _) (by have := hbl.size; omega))
        have HB4 := Lib.hid ((hb.trans (hbl.mono hb.size)).trans HT.out)
        have hd0 : w4.cell? ⟨wr.heap.size, 0, none⟩ = some (.bool b) := by rw [HB4.out.cell (by simp; omega)]; exact HN1.out.cell 0 _ rfl
        have HI := Lib.hid h1
        have HBB := Lib.hid (HB1.out.trans (HB4.out.mono HB1.out.size))
        clear h1 h2 hi hx hb hsz hby hbl hn0 hn1
        cases b
        · have HV : Hid (IntAt w4 w1.heap.size 0 (numOf false s)) := by
            have := HI.out
            simpa [Hid, numOf, sg, num] using this
          go_wp2_with (at_builtin; refine wpList_append_ptr rfl (.tmp 32) (.tmp 34) rfl w0.heap.size _ [] rfl ((PRow.nil _ _).alloc _) ⟨w4.heap.size, 0, none⟩ 1 w1.heap.size rfl (cell_new0 _ _ _) ?_ ?_ ?_)
          · exact Nat.zero_le _
          · have := HBB.out.size; simp; omega
          intro v' w6 hrow hb6 hgr
          obtain ⟨h, cap2, rfl, _, hlt, hcc⟩ := hrow.open_ (by simp)
          have HC := Lib.hid (hcc 0 (by simp))
          have HB6 := Lib.hid ((HBB.out.trans ((below_new w4 (.cells #[.pointer (some ⟨w1.heap.size, 0, none⟩)] 162)).mono HBB.out.size)).trans hb6)
          have HV6 := Lib.hid ((HV.out.on (below_new w4 (.cells #[.pointer (some ⟨w1.heap.size, 0, none⟩)] 162))).on (Below.grown (Below.refl _ _) hgr (Nat.le_refl _) (fun k hk => by simp [Value.ownBlock] at hk)))
          clear hrow hb6 hgr hcc
          go_wp2
          go_roundw
          case rel => exact ⟨HB6.out, .inr ⟨HO.out, by go_num, h, cap2, _, rfl, HC.out, HV6.out⟩⟩
          case measure => simp [intOf]
        · go_wp2_with fail
          refine (neg_any HI.out.slot HI.out).mono ?_
          rintro e w5 ⟨rfl, h1, h2⟩
          have HV : Hid (IntAt w5 w1.heap.size 0 (numOf true s)) := by
            have := h1
            simpa [Hid, numOf, sg, num] using this
          have HB5 := Lib.hid (HBB.out.trans (h2.below (B := w0.heap.size) (by have := HB1.out.size; omega) HBB.out.size))
          clear h1 h2 hd0
          go_wp2_with (at_builtin; refine wpList_append_ptr rfl (.tmp 32) (.tmp 34) rfl w0.heap.size _ [] rfl ((PRow.nil _ _).alloc _) ⟨w5.heap.size, 0, none⟩ 1 w1.heap.size rfl (cell_new0 _ _ _) ?_ ?_ ?_)
          · exact Nat.zero_le _
          · have := HB5.out.size; simp; omega
          intro v' w6 hrow hb6 hgr
          obtain ⟨h, cap2, rfl, _, hlt, hcc⟩ := hrow.open_ (by simp)
          have HC := Lib.hid (hcc 0 (by simp))
          have HB6 := Lib.hid ((HB5.out.trans ((below_new w5 (.cells #[.pointer (some ⟨w1.heap.size, 0, none⟩)] 162)).mono HB5.out.size)).trans hb6)
          have HV6 := Lib.hid ((HV.out.on (below_new w5 (.cells #[.pointer (some ⟨w1.heap.size, 0, none⟩)] 162))).on (Below.grown (Below.refl _ _) hgr (Nat.le_refl _) (fun k hk => by simp [Value.ownBlock] at hk)))
          clear hrow hb6 hgr hcc
          go_wp2
          go_roundw
          case rel => exact ⟨HB6.out, .inr ⟨HO.out, by go_num, h, cap2, _, rfl, HC.out, HV6.out⟩⟩
          case measure => simp [intOf]
      · obtain rfl : k = 2 := hk.elim (fun h => absurd h.2 ho) (fun h => h.1)
        have HO := Lib.hid ho
        clear hk ho
        go_wp2
        go_ret2
        exact ⟨.inr ⟨HO.out, rfl⟩, HB1.out⟩
    · obtain ⟨ho, rfl, h, cap2, p, rfl, hc, hi⟩ := h
      have HO := Lib.hid ho
      have HC := Lib.hid hc
      have HI := Lib.hid hi
      have HB := Lib.hid hb
      clear ho hc hi hb hc0 hc1
      go_wp2
      go_ret2
      exact ⟨.inl ⟨HO.out, h, cap2, p, rfl, HC.out, HI.out⟩, HB.out⟩
end Go.Proofs.YtfnmclgicjmapaaGreat
end
section
namespace Go.Proofs.YtfnmclgicjmapaaGreat
open Go.RowKit
theorem fracV_num {b c : Bool} {s t : ByteArray} {x : Rat} (h : FracParts b s c t x) : WholeOk b s ∧ numOf b s = x.num := by
  have h1 := (isFrac_parts h.isFrac).1
  obtain ⟨rfl, rfl, _, _⟩ := agg4 h.val
  exact ⟨h1, numOf_mag _⟩
theorem fracV_inj {x y : Rat} (h : fracV x = fracV y) : x = y := by
  obtain ⟨h1, h2, _, h4⟩ := agg4 h
  have e1 : x.num = y.num := sg_inj h1 (mag_inj h2)
  have e2 : x.den = y.den := mag_inj h4
  exact Rat.ext e1 e2
end Go.Proofs.YtfnmclgicjmapaaGreat
end
section
namespace Go.Proofs.YtfnmclgicjmapaaGreat
open Go.RowKit
theorem sz_i64 {n : Int} (h : -9223372036854775808 ≤ n ∧ n ≤ 9223372036854775807) : sz n ≤ 8 := by
  rw [sz_le]
  have : n.natAbs ≤ 9223372036854775808 := by omega
  exact Nat.lt_of_le_of_lt this (by decide)
theorem okn_i64 {n : Int} (h : -9223372036854775808 ≤ n ∧ n ≤ 9223372036854775807) : Okn n := okn_size (Nat.le_trans (sz_i64 h) (by decide))
end Go.Proofs.YtfnmclgicjmapaaGreat
end
section
namespace Go.Proofs.YtfnmclgicjmapaaGreat
open Go.RowKit
theorem sz_half : Sz 1 (Rat.divInt 1 2) := sz_divInt (by decide) (sz_le.2 (by decide)) (sz_le.2 (by decide))
end Go.Proofs.YtfnmclgicjmapaaGreat
end
