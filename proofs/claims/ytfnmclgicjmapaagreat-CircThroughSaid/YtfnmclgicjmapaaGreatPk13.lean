/- Osp, GsB, L4, CiA, CiB, GsC, GsD, Wof, Ops, Near, Txt, GsT, CiC, CiD, CiE. -/
import Derived.Test.YtfnmclgicjmapaaGreatPk12
set_option linter.unnecessarySimpa false
set_option linter.unusedVariables false
set_option linter.unusedSimpArgs false
section
namespace Go.Proofs.YtfnmclgicjmapaaGreat.Y
open Go Go.RowKit
set_option maxRecDepth 100000
def Ob.ren (ρ : Nat → Nat) : Ob → Ob
  | .box cs t => .box (cs.map (Lf.ren ρ)) t
  | x => x
def ptrB : Option Lf → Bool
  | some (.b (.z _ _)) => true
  | some (.b (.p _ _)) => true
  | _ => false
def Ob.plainB : Ob → Bool
  | .box cs _ => Nat.blt cs.length 4 || ptrB cs[1]?
  | .th _ => true
  | _ => false
theorem Ob.holds_ren {β : Env} {w : World} {g : Pl} {ρ : Nat → Nat} : ∀ {o : Ob}, o.plainB = true → (o.ren ρ).holds β w g → o.holds (fun k => β (ρ k)) w g
  | .box cs t, _, h => ⟨h.1, by
    rw [h.2, List.map_map]
    rw [show (Lf.den β ∘ Lf.ren ρ) = Lf.den (fun k => β (ρ k)) from funext fun x => Lf.den_ren β ρ x]⟩
  | .th _, _, h => h
theorem Ob.holds_cg {q : Nat → Bool} {β β' : Env} {w : World} {g : Pl} (hq : ∀ k, q k = true → β k = β' k) : ∀ {o : Ob}, o.plainB = true → o.of q = true → o.holds β w g → o.holds β' w g
  | .box cs t, _, h, k => ⟨k.1, by rw [k.2, all_congr h (Lf.den_congr hq)]⟩
  | .th _, _, _, k => k
structure OSpec (P : Program) where
  f : FuncId
  en : Enters P f
  args : List SV
  obs : List Ob
  res : SV
  news : List Rat
  ok : ∀ β w, (∀ (k : Nat) (o : Ob), obs[k]? = some o → o.holds β w (β k)) → Calls P f (args.map (SV.den β)).toArray w fun e w' => ∃ xs : List Pl, (∀ x ∈ xs, ∀ c, x.F c → w.heap.size ≤ c ∨ ∃ i o, obs[i]? = some o ∧ o.isTh = true ∧ (β i).F c) ∧ e = .returned (res.den (extE β obs.length xs)) ∧ newHold w' (news.map ratT) xs ∧ Below w.heap.size w w'
  closed : (args.all (SV.of fun k => Nat.blt k obs.length) && obs.all (fun x => x.of (fun k => Nat.blt k obs.length) && x.plainB) && res.of fun k => Nat.blt k (obs.length + news.length)) = true
def mtBox (o c : Ob) : List (Nat × Nat) := match o, c with
  | .box xs _, .box ys _ => mtLs xs ys
  | _, _ => []
def mtObs (obs ob : List Ob) : List (Nat × Nat) → List (Nat × Nat)
  | [] => []
  | (k, j) :: r => (match obs[k]?, ob[j]? with | some o, some c => mtBox o c | _, _ => []) ++ mtObs obs ob r
def sigO {P : Program} (S : OSpec P) (xs : List SV) (ob : List Ob) : List Nat := sigL (mtVs S.args xs ++ mtObs S.obs ob (mtVs S.args xs)) 0 S.obs.length
def needsO (σ : List Nat) (ρ : Nat → Nat) : List Ob → Nat → List (Nat × Ob)
  | [], _ => []
  | o :: r, k => (lit (σ.getD k 0) fun j => j, o.ren ρ) :: needsO σ ρ r (k + 1)
theorem needsO_at {σ : List Nat} {ρ : Nat → Nat} : ∀ {l : List Ob} {i k : Nat} {o : Ob}, l[k]? = some o → (σ.getD (i + k) 0, o.ren ρ) ∈ needsO σ ρ l i
  | x :: r, i, 0, o, h => by
    simp only [List.getElem?_cons_zero] at h
    obtain rfl := Option.some.inj h
    unfold needsO
    rw [lit_eq]
    exact List.mem_cons_self ..
  | x :: r, i, k + 1, o, h => by
    have := needsO_at (σ := σ) (ρ := ρ) (l := r) (i := i + 1) (k := k) (o := o) (by simpa using h)
    rw [show i + (k + 1) = i + 1 + k by omega]
    exact List.mem_cons_of_mem _ this
def OSpec.ev {P : Program} (S : OSpec P) (σ : List Nat) (n : Nat) (hσ : (Nat.ble S.obs.length σ.length && σ.all fun k => Nat.blt k n) = true) : Ev P :=
  .call S.f S.en (fun β => (S.args.map (SV.den fun k => β (atS σ S.obs.length n k))).toArray) (needsO σ (atS σ S.obs.length n) S.obs 0) n (S.res.ren (atS σ S.obs.length n)) (S.news.map ratT) fun β w h => by
    have hc := S.closed
    simp only [Bool.and_eq_true] at hc
    have hat : ∀ k, k < S.obs.length → atS σ S.obs.length n k = σ.getD k 0 := fun k hk => by
      unfold atS
      rw [lit_eq, show Nat.blt k S.obs.length = true by rw [Nat.blt_eq]; exact hk, cond_true]
    have hat2 : ∀ k, ¬ k < S.obs.length → atS σ S.obs.length n k = n + (k - S.obs.length) := fun k hk => by
      unfold atS
      rw [lit_eq, show Nat.blt k S.obs.length = false by rw [Bool.eq_false_iff, ne_eq, Nat.blt_eq]; exact hk, cond_false]
    rw [Bool.and_eq_true, Nat.ble_eq] at hσ
    have hsn : ∀ k, k < S.obs.length → σ.getD k 0 < n := fun k hk => by
      rw [List.getD_eq_getElem?_getD]
      cases hx : σ[k]? with
      | none => rw [List.getElem?_eq_none_iff] at hx; omega
      | some y => have := List.all_eq_true.1 hσ.2 y (List.mem_of_getElem? hx); rw [Nat.blt_eq] at this; exact this
    have hq : ∀ k, Nat.blt k S.obs.length = true → β (atS σ S.obs.length n k) = β (σ.getD k 0) := fun k hk => by rw [hat k (by simpa [Nat.blt_eq] using hk)]
    have hargs : S.args.map (SV.den fun k => β (atS σ S.obs.length n k)) = S.args.map (SV.den fun k => β (σ.getD k 0)) := List.map_congr_left fun x hx => SV.den_congr hq _ (List.all_eq_true.1 hc.1.1 x hx)
    rw [hargs]
    refine (S.ok (fun k => β (σ.getD k 0)) w fun k o hk => ?_).mono ?_
    · have ho := List.all_eq_true.1 hc.1.2 o (List.mem_of_getElem? hk)
      rw [Bool.and_eq_true] at ho
      have hlt : k < S.obs.length := (List.getElem?_eq_some_iff.1 hk).1
      have h1 : (o.ren (atS σ S.obs.length n)).holds β w (β (σ.getD k 0)) := by
        have := h _ (needsO_at (i := 0) hk)
        rwa [Nat.zero_add] at this
      exact Ob.holds_cg hq ho.2 ho.1 (Ob.holds_ren ho.2 h1)
    · rintro e w' ⟨xs, h1, rfl, h3, h4⟩
      refine ⟨xs, fun x hx c hc2 => ?_, ?_, h3, h4⟩
      · rcases h1 x hx c hc2 with h5 | ⟨i, o, h5, h6, h7⟩
        · exact .inl h5
        · refine .inr ⟨_, needsO_at (i := 0) h5, ?_, ?_⟩
          · cases o <;> first | exact h6 | cases h6
          · rw [Nat.zero_add]; exact h7
      · rw [SV.den_ren]
        congr 1
        refine SV.den_congr (fun k hk => ?_) _ hc.2
        have hlen := (newHold_get h3).1
        rw [List.length_map] at hlen
        rw [Nat.blt_eq] at hk
        by_cases hk2 : k < S.obs.length
        · rw [hat k hk2, extE_out (β := β) (n := n) (k := σ.getD k 0) (xs := xs) (by have := hsn k hk2; omega), extE_out (n := S.obs.length) (k := k) (xs := xs) (by omega)]
        · rw [hat2 k hk2]
          have h5 : k - S.obs.length < xs.length := by omega
          rw [extE_in (List.getElem?_eq_getElem h5)]
          have := extE_in (β := fun k => β (σ.getD k 0)) (n := S.obs.length) (List.getElem?_eq_getElem h5)
          rw [show S.obs.length + (k - S.obs.length) = k by omega] at this
          exact this
def OSpec.e {P : Program} (S : OSpec P) : Ev P := .dyn (fun o _ _ => isCallB o) fun _ xs ob =>
  lits (sigO S xs ob) fun σ => lit ob.length fun n => if h : (Nat.ble S.obs.length σ.length && σ.all fun k => Nat.blt k n) = true then S.ev σ n h else .eqv 0 undef undef rfl
theorem ptr_no_rat {w : World} {b : Nat} {cs : Array Value} {t : TypeId} {x : Rat} {q : Option Addr} (h : w.heap[b]? = some (.cells cs t (0, 0))) (hq : cs[1]? = some (.pointer q)) (k : RatAt w b 0 x) : False := by
  obtain ⟨A, m, cap, _, h1, _⟩ := k.2.1.open_
  have h2 := cell_lay (o := 1) h hq
  rw [Nat.zero_add, h2] at h1
  cases h1
theorem small_no_rat {w : World} {b : Nat} {cs : Array Value} {t : TypeId} {x : Rat} (h : w.heap[b]? = some (.cells cs t (0, 0))) (hs : cs.size < 4) (k : RatAt w b 0 x) : False := by
  obtain ⟨cs', t', h1, _, h2⟩ := k.1
  rw [h] at h1
  obtain ⟨rfl, _, _⟩ := Obj.cells.inj (Option.some.inj h1)
  omega
def idxO (P : Program) (fn : Func) (args : List SV) (obs : List Ob) (evs : List (Ev P)) (Ns : List (Nat × Nat)) (m : Nat) (res : SV) : List (Nat × Nat) :=
  match fn.body with
  | some c => match fullS P fn args obs evs Ns m c with
    | some f => match run1 P obs.length false (results fn (tmpsS idE f.sl (sizeS fn args))) f.q f.ob [] with
      | some ⟨v, _, _, _⟩ => mtR res (tag v)
      | none => []
    | none => []
  | none => []
def specO (P : Program) (fn : Func) (args : List SV) (obs : List Ob) (evs : List (Ev P)) (Ns : List (Nat × Nat)) (m : Nat) (res : SV) (news : List Rat) (idx : List Nat) (β : Env) : Eqs :=
  allS P fn args obs evs Ns m (res.ren (backS obs.length idx)) (idx.zip (news.map fun x => (ratT x).ob)) β
def specOA (P : Program) (fn : Func) (args : List SV) (obs : List Ob) (evs : List (Ev P)) (Ns : List (Nat × Nat)) (m : Nat) (res : SV) (news : List Rat) (β : Env) : Eqs :=
  lits (sigL (idxO P fn args obs evs Ns m res) obs.length news.length) fun idx => specO P fn args obs evs Ns m res news idx β
theorem newHold_rats {β : Env} {w : World} : ∀ {idx : List Nat} {l : List Rat}, idx.length = l.length → holdsAll β w (idx.zip (l.map fun x => (ratT x).ob)) → newHold w (l.map ratT) (idx.map β)
  | [], [], _, _ => trivial
  | [], _ :: _, h, _ => by simp at h
  | _ :: _, [], h, _ => by simp at h
  | i :: r, t :: l, h, k => ⟨k (i, (ratT t).ob) (by simp), newHold_rats (by simpa using h) fun p hp => k p (by simp only [List.map_cons, List.zip_cons_cons]; exact List.mem_cons_of_mem _ hp)⟩
theorem ospec_ok {P : Program} {f : FuncId} {fn : Func} {args : List SV} {obs : List Ob} {evs : List (Ev P)} {Ns : List (Nat × Nat)} {m : Nat} {res : SV} {news : List Rat} (hf : P.funcs[f]? = some fn) (hm : P.follows .mixedOrders = true)
    (h0 : ∀ β, (specOA P fn args obs evs Ns m res news β).map Prod.fst = (specOA P fn args obs evs Ns m res news β).map Prod.snd)
    (hB : (args.all (SV.of fun k => Nat.blt k obs.length) && obs.all (fun x => x.of (fun k => Nat.blt k obs.length) && x.plainB) && res.of fun k => Nat.blt k (obs.length + news.length)) = true)
    (β : Env) (w : World) (hh : ∀ (k : Nat) (o : Ob), obs[k]? = some o → o.holds β w (β k)) :
    Calls P f (args.map (SV.den β)).toArray w fun e w' => ∃ xs : List Pl, (∀ x ∈ xs, ∀ c, x.F c → w.heap.size ≤ c ∨ ∃ i o, obs[i]? = some o ∧ o.isTh = true ∧ (β i).F c) ∧ e = .returned (res.den (extE β obs.length xs)) ∧ newHold w' (news.map ratT) xs ∧ Below w.heap.size w w' := by
  obtain ⟨idx, hidx⟩ : ∃ idx, idx = sigL (idxO P fn args obs evs Ns m res) obs.length news.length := ⟨_, rfl⟩
  have hlen : idx.length = news.length := by rw [hidx, sigL_len]
  have h : ∀ β, (specO P fn args obs evs Ns m res news idx β).map Prod.fst = (specO P fn args obs evs Ns m res news idx β).map Prod.snd := fun β => by
    have := h0 β
    unfold specOA at this
    rw [lits_eq, ← hidx] at this
    exact this
  simp only [Bool.and_eq_true] at hB
  obtain ⟨⟨h1, h2⟩, h3⟩ := hB
  refine (sx (P := P) args obs evs Ns m (res.ren (backS obs.length idx)) (idx.zip (news.map fun x => (ratT x).ob)) hf hm (fun β => ok_of_maps (h β)) h1
    (List.all_eq_true.2 fun x hx => by
      have := List.all_eq_true.1 h2 x hx
      rw [Bool.and_eq_true] at this ⊢
      refine ⟨this.1, ?_⟩
      have h4 := this.2
      cases x <;> first | rfl | cases h4) β w hh).mono ?_
  rintro e w' ⟨β', q, obj, e1, rfl, e2, e4, e5, g⟩
  have hz : (idx.zip (news.map fun x => (ratT x).ob)).map (fun p => β' p.1) = idx.map β' := by
    rw [show (fun p : Nat × Ob => β' p.1) = β' ∘ Prod.fst from rfl, ← List.map_map, List.map_fst_zip (by rw [List.length_map]; omega)]
  refine ⟨idx.map β', fun x hx c hcF => ?_, ?_, newHold_rats hlen e5, g.bel⟩
  · rw [← hz] at hx
    obtain ⟨p, hp, rfl⟩ := List.mem_map.1 hx
    rcases e4 p hp c hcF with h5 | ⟨i, h5, h6⟩
    · exact .inl h5
    · have ho := List.getElem?_eq_getElem h5
      have hpl := List.all_eq_true.1 h2 obs[i] (List.getElem_mem h5)
      rw [Bool.and_eq_true] at hpl
      have hho := hh i _ ho
      generalize obs[i] = o at ho hpl hho
      cases o with
      | th D => exact .inr ⟨i, _, ho, rfl, h6⟩
      | box cs t =>
        exfalso
        obtain ⟨hone, hheap⟩ := hho
        have hcb := (hone.1 c).1 h6
        subst hcb
        obtain ⟨r, hr⟩ : ∃ r, p.2 = (ratT r).ob := by
          have := (List.of_mem_zip hp).2
          obtain ⟨r, _, hr⟩ := List.mem_map.1 this
          exact ⟨r, hr.symm⟩
        have hD := e5 p hp
        rw [hr] at hD
        obtain ⟨b, hb1, hb2⟩ : PR r w' (β' p.1) := hD
        have hcb := (hb1.2 _).1 hcF
        subst hcb
        have hw : w'.heap[(β i).b]? = some (.cells (cs.map (Lf.den β)).toArray t (0, 0)) := by rw [g.bel.block _ (heap_lt hheap)]; exact hheap
        have := hpl.2
        unfold Ob.plainB at this
        rw [Bool.or_eq_true, Nat.blt_eq] at this
        rcases this with this | this
        · exact small_no_rat hw (by simpa using this) hb2
        · obtain ⟨q, hq⟩ : ∃ q, (cs.map (Lf.den β))[1]? = some (.pointer q) := by
            rw [List.getElem?_map]
            unfold ptrB at this
            split at this
            · rename_i k j e; rw [e]; exact ⟨_, rfl⟩
            · rename_i k j e; rw [e]; exact ⟨_, rfl⟩
            · cases this
          exact ptr_no_rat hw (by simpa using hq) hb2
      | al r D => cases hpl.2
      | pl n => cases hpl.2
      | row cs t n sz => cases hpl.2
      | dead => cases hpl.2
  · rw [SV.den_ren]
    congr 1
    refine SV.den_congr (fun k hk => ?_) _ h3
    rw [Nat.blt_eq] at hk
    unfold backS
    rw [lit_eq]
    by_cases hk2 : k < obs.length
    · rw [show Nat.blt k obs.length = true by rw [Nat.blt_eq]; exact hk2, cond_true, extE_out (by omega)]
      exact e1 k hk2
    · rw [show Nat.blt k obs.length = false by rw [Bool.eq_false_iff, ne_eq, Nat.blt_eq]; exact hk2, cond_false]
      have h5 : k - obs.length < idx.length := by omega
      have := extE_in (β := β) (n := obs.length) (xs := idx.map β') (i := k - obs.length) (x := β' idx[k - obs.length]) (by simp [h5])
      rw [show obs.length + (k - obs.length) = k by omega] at this
      rw [this, List.getD_eq_getElem?_getD, List.getElem?_eq_getElem h5, Option.getD_some]
def OSpec.auto {P : Program} {f : FuncId} {fn : Func} (en : Enters P f) (args : List SV) (obs : List Ob) (res : SV) (news : List Rat) (evs : List (Ev P)) (Ns : List (Nat × Nat)) (m : Nat) (hf : P.funcs[f]? = some fn) (hm : P.follows .mixedOrders = true)
    (hB : (args.all (SV.of fun k => Nat.blt k obs.length) && obs.all (fun x => x.of (fun k => Nat.blt k obs.length) && x.plainB) && res.of fun k => Nat.blt k (obs.length + news.length)) = true)
    (h : ∀ β, (specOA P fn args obs evs Ns m res news β).map Prod.fst = (specOA P fn args obs evs Ns m res news β).map Prod.snd) : OSpec P :=
  ⟨f, en, args, obs, res, news, ospec_ok hf hm h hB, hB⟩
end Go.Proofs.YtfnmclgicjmapaaGreat.Y
end
section
namespace Go.Proofs.YtfnmclgicjmapaaGreat.Y
open Go Go.RowKit
set_option maxRecDepth 100000
theorem _root_.Go.Proofs.YtfnmclgicjmapaaGreat.FitG.gsz {z : GQ} (h : FitG z) : GSz 1024 z := ⟨h.1.sz, h.2.sz⟩
end Go.Proofs.YtfnmclgicjmapaaGreat.Y
end
section
namespace Go.Proofs.YtfnmclgicjmapaaGreat.Y
open Go Go.RowKit
set_option maxRecDepth 100000
noncomputable abbrev fA (x : Rat) : List Lf := [.b (.v (.bool (ansB x))), .b (.v (.string (ansS x))), .b (.v (.bool false)), .b (.v (.string (ansD x)))]
theorem fA_fit {x : Rat} (h : Fit x) : fA x = fC x ∧ ansK x = 0 := by
  unfold fA fC
  rw [(ansF_fit h).1, (ansF_fit h).2.1, (ansF_fit h).2.2.1]
  exact ⟨rfl, (ansF_fit h).2.2.2⟩
def sGM (g : Gp) {r : Bool} (h : g.B = r) : Spec Tryz.prog :=
  (sGMay g.a.a g.b.a).as [g.C] (tB' r) (by
    show [SV.one (.a (g.a.a.C ++ g.b.a.C))] = [SV.one (.a (rL g.a.r ++ rL g.b.r))]
    rw [show g.a.a.C = rL g.a.r from g.a.e, show g.b.a.C = rL g.b.r from g.b.e]) (congrArg tB' h)
end Go.Proofs.YtfnmclgicjmapaaGreat.Y
end
section
namespace Go.Proofs.YtfnmclgicjmapaaGreat.Y
open Go Go.RowKit
set_option maxRecDepth 100000
def rdEq (d t : Nat) (x : Rat) (k : Nat) : Ev Tryz.prog := .rd d (.binOp .eql 164 (.tmp t) (.const (.pointer none)) 164) (fun β => [.pointer ((β k).v 0), .pointer none]) [(k, (ratT x).ob)] 0 (.one (.c (.b (.v (.bool false))))) [] (fun β w h ρ o ho hx => by
  obtain ⟨a, ha, ka⟩ := needP (x := x) (k := k) h (by simp)
  have h2 : ρ (.tmp t) = .pointer (some ⟨a, 0, none⟩) ∧ ρ (.const (.pointer none)) = .pointer none := by
    rw [ha.1] at hx
    simpa [Op.operands] using hx
  refine ⟨[], w, (fun _ h => by cases h), ?_, trivial, Below.refl _ _⟩
  unfold execOp
  rw [ho]
  simp only [h2.1, h2.2]
  kernel_rfl)
def dEq (x : Rat) : Ev Tryz.prog := .dyn (fun o _ _ => match o.op with
  | .binOp .eql a (.tmp _) (.const (.pointer none)) _ => Nat.beq a 164
  | _ => false) fun o xs _ => match o.op with
  | .binOp _ _ (.tmp t) _ _ => lit (ptOf (xs.getD 0 undefS)) fun k => rdEq (o.dst.getD 0) t x k
  | _ => .eqv 0 undef undef rfl
theorem zero_div : (Rat.divInt 0 1 : Rat) = 0 := of_decide_eq_true (by kernel_rfl : decide ((Rat.divInt 0 1 : Rat) = 0) = true)
def rdNew0 (d n : Nat) : Ev Tryz.prog := .rd d (.alloc 171) (fun _ => []) [] n (.one (.c (.b (.z n 0)))) [ratT (Rat.divInt 0 1)] (fun β w h ρ o ho hx => by
  refine ⟨[newPl w.heap.size], w.alloc (.cells #[.bool false, .slice none 0 0, .bool false, .slice none 0 0] 171), fun x hx c hc => ?_, ?_, ⟨⟨_, (newPl_one _).at1, ?_⟩, trivial⟩, below_new w _⟩
  · obtain rfl := List.mem_singleton.1 hx
    rw [((newPl_one _).1 c).1 hc]
    exact .inl (Nat.le_refl _)
  · rw [extE_z]
    unfold execOp
    rw [ho]
    kernel_rfl
  · rw [zero_div]
    exact RatAt.new w)
def nZero : Ev Tryz.prog := .dyn (fun o _ _ => match o.op with
  | .alloc t' => Nat.beq t' 171
  | _ => false) fun o _ ob => lit ob.length fun n => rdNew0 (o.dst.getD 0) n
abbrev KC : Nat := 1000000
structure RQ where
  a : Rat
  b : GQ
  c : Rat
structure RSz (k : Nat) (r : RQ) : Prop where
  a : Sz k r.a
  b : GSz k r.b
  c : Sz k r.c
theorem RSz.mono {i k : Nat} {r : RQ} (h : RSz i r) (hk : i ≤ k) : RSz k r := ⟨h.a.mono hk, h.b.mono hk, h.c.mono hk⟩
abbrev rgV (k : Nat) : SV := .one (.a [.b (.z k 0), .b (.z (k + 1) 0), .b (.z (k + 2) 0), .b (.z (k + 3) 0)])
abbrev rgM (r : RQ) : List Thing := [ratT r.a, ratM r.b.re, ratM r.b.im, ratM r.c]
abbrev rgT (r : RQ) : List Thing := [ratT r.a, ratT r.b.re, ratT r.b.im, ratT r.c]
def rpow (r : RQ) : Rat := gnorm r.b - r.a * r.c
def sPower {r : RQ} (h : RSz KC r) : Spec Tryz.prog :=
  Spec.auto Tryz.call296 [rgV 0] (rgM r) (rV 4) [ratT (rpow r)] [mkR, (sNorm (h.b.mono (by decide))).e, (sMulR (h.a.mono (by decide)) (h.c.mono (by decide))).e, fSub (h.b.norm.mono (by decide)) ((h.a.mul h.c).mono (by decide))] [(1, 11)] 400 Tryz.func296 hmA (by kernel_rfl) (fun β => by kernel_rfl)
def rbyQ (i j : Bool) (r : RQ) : Rat := bif i then (bif j then r.b.im else r.b.re) else r.a
def rnm (r : RQ) (x : Rat) : RQ := ⟨r.a * x⁻¹, gscale r.b x⁻¹, r.c * x⁻¹⟩
theorem rby_sz {k : Nat} {r : RQ} (h : RSz k r) (i j : Bool) : Sz k (rbyQ i j r) := by
  cases i
  · exact h.a
  · cases j
    · exact h.b.1
    · exact h.b.2
theorem rnm_sz {k : Nat} {r : RQ} (h : RSz k r) {x : Rat} (hx : Sz k x) (h0 : x ≠ 0) : RSz (k + k) (rnm r x) :=
  ⟨h.a.mul (hx.inv h0), ⟨h.b.1.mul (hx.inv h0), h.b.2.mul (hx.inv h0)⟩, h.c.mul (hx.inv h0)⟩
def rnE {r : RQ} (h : RSz KC r) {x : Rat} (hx : Sz KC x) (h0 : x ≠ 0) : List (Ev Tryz.prog) :=
  [mkR, fInv (hx.mono (by decide)) h0, (sMulR (h.a.mono (by decide)) ((hx.inv h0).mono (by decide))).e, (sScale (h.b.mono (by decide)) ((hx.inv h0).mono (by decide))).e, (sMulR (h.c.mono (by decide)) ((hx.inv h0).mono (by decide))).e]
def sRNormal {r : RQ} (h : RSz KC r) {i j : Bool} (hi : decide (r.a = 0) = i) (hj : decide (r.b.re = 0) = j) (h0 : rbyQ i j r ≠ 0) : Spec Tryz.prog :=
  ⟨368, Tryz.call368, [rgV 0], rgM r, rgV 4, rgT (rnm r (rbyQ i j r)), fun β w hh => by
    cases i
    · exact spec_auto (args := [rgV 0]) (obs := rgM r) (res := rgV 4) (news := rgT (rnm r (rbyQ false j r))) (evs := [(sParts r.b).e, nSign (x := r.a) rfl, .eqv 27 (.bool (r.a.num.sign == 0)) (.bool false) (sign_lit hi), nSign (x := r.a) rfl, .eqv 27 (.bool (r.a.num.sign == 0)) (.bool false) (sign_lit hi)] ++ rnE h (rby_sz h false j) h0) (Ns := [(10, 13)]) (m := 800) Tryz.func368 hmA (fun β => by kernel_rfl) (by kernel_rfl) β w hh
    · cases j
      · exact spec_auto (args := [rgV 0]) (obs := rgM r) (res := rgV 4) (news := rgT (rnm r (rbyQ true false r))) (evs := [(sParts r.b).e, nSign (x := r.a) rfl, .eqv 27 (.bool (r.a.num.sign == 0)) (.bool true) (sign_lit hi), nSign (x := r.b.re) rfl, .eqv 27 (.bool (r.b.re.num.sign == 0)) (.bool false) (sign_lit hj)] ++ rnE h (rby_sz h true false) h0) (Ns := [(10, 13)]) (m := 800) Tryz.func368 hmA (fun β => by kernel_rfl) (by kernel_rfl) β w hh
      · exact spec_auto (args := [rgV 0]) (obs := rgM r) (res := rgV 4) (news := rgT (rnm r (rbyQ true true r))) (evs := [(sParts r.b).e, nSign (x := r.a) rfl, .eqv 27 (.bool (r.a.num.sign == 0)) (.bool true) (sign_lit hi), nSign (x := r.b.re) rfl, .eqv 27 (.bool (r.b.re.num.sign == 0)) (.bool true) (sign_lit hj)] ++ rnE h (rby_sz h true true) h0) (Ns := [(10, 13)]) (m := 800) Tryz.func368 hmA (fun β => by kernel_rfl) (by kernel_rfl) β w hh, by kernel_rfl⟩
def FitC (m : RQ) : Prop := Fit m.a ∧ FitG m.b ∧ Fit m.c
open Classical in
noncomputable def ciR (m : RQ) (x : Rat) : R4 := if FitC m then fR x else r40
open Classical in
noncomputable def ciK (m : RQ) : Int := if FitC m then 0 else 4
noncomputable abbrev ciC (m : RQ) : List Lf := rL (ciR m m.a) ++ rL (ciR m m.b.re) ++ rL (ciR m m.b.im) ++ rL (ciR m m.c)
abbrev cC (m : RQ) : List Lf := rL (fR m.a) ++ rL (fR m.b.re) ++ rL (fR m.b.im) ++ rL (fR m.c)
abbrev c0C : List Lf := rL r40 ++ rL r40 ++ rL r40 ++ rL r40
theorem ci_fit {m : RQ} (h : FitC m) : ciC m = cC m ∧ ciK m = 0 := by
  have e : ∀ x, ciR m x = fR x := fun x => if_pos h
  exact ⟨by rw [ciC, e, e, e, e], if_pos h⟩
theorem ci_not {m : RQ} (h : ¬ FitC m) : ciC m = c0C ∧ ciK m = 4 := by
  have e : ∀ x, ciR m x = r40 := fun x => if_neg h
  exact ⟨by rw [ciC, e, e, e, e], if_neg h⟩
noncomputable abbrev ciA (m : RQ) : SV := .tup [.a (ciC m), nI' (ciK m)]
theorem ansK_fit {x : Rat} (h : Fit x) : (ansK x != 0) = false := by rw [(ansF_fit h).2.2.2]; rfl
theorem ansK_not {x : Rat} (h : ¬ Fit x) : (ansK x != 0) = true := by rw [show ansK x = 4 from if_neg h]; rfl
section
variable {r : RQ} (h : RSz KC r) {i j : Bool} (hi : decide (r.a = 0) = i) (hj : decide (r.b.re = 0) = j) (h0 : rbyQ i j r ≠ 0)
include h hi hj h0
noncomputable def rtE : List (Ev Tryz.prog) :=
  have hn := rnm_sz h (rby_sz h i j) h0
  [(sRNormal h hi hj h0).e, (sFrac (hn.a.mono (by decide))).e, (sTold (z := gscale r.b (rbyQ i j r)⁻¹) (hn.b.mono (by decide))).e, (sFrac (hn.c.mono (by decide))).e]
theorem rtold_ok (β : Env) (w : World) (hh : ∀ (k : Nat) (t : Thing), (rgM r)[k]? = some t → t.D w (β k)) :
    Calls Tryz.prog 286 (([rgV 0] : List SV).map (SV.den β)).toArray w fun e w' => ∃ xs : List Pl, freshS β w 4 xs ∧ e = .returned ((ciA (rnm r (rbyQ i j r))).den (extE β 4 xs)) ∧ newHold w' [] xs ∧ Below w.heap.size w w' := by
  by_cases h1 : Fit (rnm r (rbyQ i j r)).a
  · by_cases h2 : FitG (rnm r (rbyQ i j r)).b
    · by_cases h3 : Fit (rnm r (rbyQ i j r)).c
      · have e : ciA (rnm r (rbyQ i j r)) = .tup [.a (fA (rnm r (rbyQ i j r)).a ++ gaC (rnm r (rbyQ i j r)).b ++ fA (rnm r (rbyQ i j r)).c), nI' 0] := by
          rw [ciA, (ci_fit ⟨h1, h2, h3⟩).1, (ci_fit ⟨h1, h2, h3⟩).2, (fA_fit h1).1, (ga_fit h2).1, (fA_fit h3).1]
          rfl
        rw [e]
        exact spec_auto (args := [rgV 0]) (obs := rgM r) (news := []) (evs := rtE h hi hj h0 ++ [.eqv 31 (.bool (ansK (rnm r (rbyQ i j r)).a != 0)) (.bool false) (ansK_ne (ansK_fit h1)), .eqv 34 (.bool (gaK (rnm r (rbyQ i j r)).b != 0)) (.bool false) (gaK_ne (gaK_fit h2)), .eqv 38 (.bool (ansK (rnm r (rbyQ i j r)).c != 0)) (.bool false) (ansK_ne (ansK_fit h3))]) (Ns := []) (m := 800) Tryz.func286 hmA (fun β => by kernel_rfl) (by kernel_rfl) β w hh
      · rw [ciA, (ci_not (m := rnm r (rbyQ i j r)) fun e => h3 e.2.2).1, (ci_not (m := rnm r (rbyQ i j r)) fun e => h3 e.2.2).2]
        exact spec_auto (args := [rgV 0]) (obs := rgM r) (news := []) (evs := rtE h hi hj h0 ++ [.eqv 31 (.bool (ansK (rnm r (rbyQ i j r)).a != 0)) (.bool false) (ansK_ne (ansK_fit h1)), .eqv 34 (.bool (gaK (rnm r (rbyQ i j r)).b != 0)) (.bool false) (gaK_ne (gaK_fit h2)), .eqv 38 (.bool (ansK (rnm r (rbyQ i j r)).c != 0)) (.bool true) (ansK_ne (ansK_not h3))]) (Ns := []) (m := 800) Tryz.func286 hmA (fun β => by kernel_rfl) (by kernel_rfl) β w hh
    · rw [ciA, (ci_not (m := rnm r (rbyQ i j r)) fun e => h2 e.2.1).1, (ci_not (m := rnm r (rbyQ i j r)) fun e => h2 e.2.1).2]
      exact spec_auto (args := [rgV 0]) (obs := rgM r) (news := []) (evs := rtE h hi hj h0 ++ [.eqv 31 (.bool (ansK (rnm r (rbyQ i j r)).a != 0)) (.bool false) (ansK_ne (ansK_fit h1)), .eqv 34 (.bool (gaK (rnm r (rbyQ i j r)).b != 0)) (.bool true) (gaK_ne (gaK_not h2))]) (Ns := []) (m := 800) Tryz.func286 hmA (fun β => by kernel_rfl) (by kernel_rfl) β w hh
  · rw [ciA, (ci_not (m := rnm r (rbyQ i j r)) fun e => h1 e.1).1, (ci_not (m := rnm r (rbyQ i j r)) fun e => h1 e.1).2]
    exact spec_auto (args := [rgV 0]) (obs := rgM r) (news := []) (evs := rtE h hi hj h0 ++ [.eqv 31 (.bool (ansK (rnm r (rbyQ i j r)).a != 0)) (.bool true) (ansK_ne (ansK_not h1))]) (Ns := []) (m := 800) Tryz.func286 hmA (fun β => by kernel_rfl) (by kernel_rfl) β w hh
noncomputable def sRTold : Spec Tryz.prog :=
  ⟨286, Tryz.call286, [rgV 0], rgM r, ciA (rnm r (rbyQ i j r)), [], rtold_ok h hi hj h0, by kernel_rfl⟩
end
theorem sgn_le {n : Int} {t : Bool} (h : decide (n ≤ 0) = t) : Value.bool (decide (n ≤ 0)) = .bool t := by rw [h]
noncomputable def sMade1 {r : RQ} (h : RSz KC r) (hp : decide ((rpow r).num.sign ≤ 0) = false) {i j : Bool} (hi : decide (r.a = 0) = i) (hj : decide (r.b.re = 0) = j) (h0 : rbyQ i j r ≠ 0) : Spec Tryz.prog :=
  Spec.auto Tryz.call293 [rgV 0] (rgM r) (ciA (rnm r (rbyQ i j r))) [] [(sPower h).e, nSign (x := rpow r) rfl, .eqv 7 (.bool (decide ((rpow r).num.sign ≤ 0))) (.bool false) (sgn_le hp), (sRTold h hi hj h0).e] [] 400 Tryz.func293 hmA (by kernel_rfl) (fun β => by kernel_rfl)
def rby (r : RQ) : Rat := rbyQ (decide (r.a = 0)) (decide (r.b.re = 0)) r
def rone (r : RQ) : RQ := rnm r (rby r)
theorem rby_ne {r : RQ} (hp : decide ((rpow r).num.sign ≤ 0) = false) : rby r ≠ 0 := by
  intro e
  unfold rby rbyQ at e
  have hs := of_decide_eq_false hp
  cases h1 : decide (r.a = 0) with
  | false => rw [h1] at e; exact of_decide_eq_false h1 e
  | true => cases h2 : decide (r.b.re = 0) with
    | false => rw [h1, h2] at e; exact of_decide_eq_false h2 e
    | true =>
      rw [h1, h2] at e
      have ha := of_decide_eq_true h1
      have hr := of_decide_eq_true h2
      have hi : r.b.im = 0 := e
      apply hs
      have : rpow r = 0 := by
        unfold rpow gnorm
        rw [ha, hr, hi]
        grind
      rw [this]
      decide
noncomputable def sMade2 {r : RQ} (h : RSz KC r) (hp : decide ((rpow r).num.sign ≤ 0) = false) : Spec Tryz.prog := sMade1 h hp rfl rfl (rby_ne hp)
def ofG {z : GQ} (h : FitG z) : Spec Tryz.prog := sOf (.ok z.re h.1) (.ok z.im h.2)
section
variable {a : Rat} {b : GQ} {c : Rat} (ha : Fit a) (hb : FitG b) (hc : Fit c)
abbrev mkA (a : Rat) (b : GQ) (c : Rat) : List SV := [.one (.a (fC a)), gS b, .one (.a (fC c))]
include ha hb hc in
theorem mk_sz : RSz KC ⟨a, b, c⟩ := ⟨ha.sz.mono (by decide), hb.gsz.mono (by decide), hc.sz.mono (by decide)⟩
noncomputable def sCMake (hp : decide ((rpow ⟨a, b, c⟩).num.sign ≤ 0) = false) : Spec Tryz.prog :=
  Spec.auto Tryz.call123 (mkA a b c) [] (ciA (rone ⟨a, b, c⟩)) [] [(ofG hb).e, (sRatIn ha).e, (sRatIn hc).e, dEq a, dEq c, (sMade2 (mk_sz ha hb hc) hp).e] [(2, 6)] 400 Tryz.func123 hmA (by kernel_rfl) (fun β => by kernel_rfl)
theorem one_sz : Sz 8 (Rat.divInt 1 1) := sz_lit 1 1 (by decide) (by decide) (by decide)
include hb hc in
end
section
variable {n z : GQ} (hn : FitG n) (hz : FitG z)
theorem zero_sz : Sz 8 (Rat.divInt 0 1) := sz_lit 0 1 (by decide) (by decide) (by decide)
include hn hz in
end
end Go.Proofs.YtfnmclgicjmapaaGreat.Y
end
section
namespace Go.Proofs.YtfnmclgicjmapaaGreat.Y
open Go Go.RowKit
set_option maxRecDepth 100000
def cirV (a b b' c : R4) : Array Value := #[.bool a.b, .string a.s, .bool a.c, .string a.t, .bool b.b, .string b.s, .bool b.c, .string b.t, .bool b'.b, .string b'.s, .bool b'.c, .string b'.t, .bool c.b, .string c.s, .bool c.c, .string c.t]
def frV (a : R4) : Array Value := #[.bool a.b, .string a.s, .bool a.c, .string a.t]
theorem eqCi {w : World} (n : Nat) (a b b' c p q q' s : R4) : (Op.equalIn (n + 5) 126 (.agg (cirV a b b' c)) (.agg (cirV p q q' s))).run Tryz.prog w = .ok (a.eq p && (geq b b' q q' && (c.eq s && true))) w := by
  unfold cirV
  rw [run_equalIn_agg _ _ _ _ _ (by kernel_rfl) (by kernel_rfl)]
  refine run_eqF_cons (a := .agg (frV a)) (b := .agg (frV p)) (by kernel_rfl) (by kernel_rfl) (by kernel_rfl) (eqF (n + 1) _ _ _ _ _ _ _ _) ?_
  refine run_eqF_cons (a := .agg (gV b b')) (b := .agg (gV q q')) (by kernel_rfl) (by kernel_rfl) (by kernel_rfl) (eqG n _ _ _ _) ?_
  refine run_eqF_cons (a := .agg (frV c)) (b := .agg (frV s)) (by kernel_rfl) (by kernel_rfl) (by kernel_rfl) (eqF (n + 1) _ _ _ _ _ _ _ _) ?_
  kernel_rfl
def eqEvC (a b b' c p q q' s : R4) (r : Bool) (h : (a.eq p && (geq b b' q q' && (c.eq s && true))) = r) : Ev Tryz.prog :=
  eqEv 126 (cirV a b b' c) (cirV p q q' s) r (by kernel_rfl) (fun w => by rw [← h]; exact eqCi 9995 ..)
theorem ceq_self (a b b' c : R4) : (a.eq a && (geq b b' b b' && (c.eq c && true))) = true := by
  rw [R4.eq_iff.2 rfl, R4.eq_iff.2 rfl, geq_self]; rfl
def eqC1 (a b b' c : R4) : Ev Tryz.prog := eqEvC a b b' c a b b' c true (ceq_self ..)
def sCOver {z : GQ} {x : Rat} (hz : GSz KC z) (hx : Sz KC x) (h0 : x ≠ 0) : Spec Tryz.prog :=
  Spec.auto Tryz.call369 [gS z, .one (.a (fC x))] [] (gS ⟨z.re / x, z.im / x⟩) [] [(sR3Over (hz.1.mono (by decide)) (hx.mono (by decide)) h0).e, (sR3Over (hz.2.mono (by decide)) (hx.mono (by decide)) h0).e] [(1, 9)] 400 Tryz.func369 hmA (by kernel_rfl) (fun β => by kernel_rfl)
def rqd (r : RQ) (x : Rat) : RQ := ⟨r.a / x, ⟨r.b.re / x, r.b.im / x⟩, r.c / x⟩
theorem rqd_eq (r : RQ) (x : Rat) : rqd r x = rnm r x := by
  unfold rqd rnm gscale
  rw [Rat.div_def, Rat.div_def, Rat.div_def, Rat.div_def]
def cnE {r : RQ} (h : RSz KC r) {x : Rat} (hx : Sz KC x) (h0 : x ≠ 0) : List (Ev Tryz.prog) :=
  [(sR3Over (h.a.mono (by decide)) (hx.mono (by decide)) h0).e, (sCOver h.b hx h0).e, (sR3Over (h.c.mono (by decide)) (hx.mono (by decide)) h0).e]
def rS (r : RQ) : SV := .one (.a (cC r))
def sCNormal {r : RQ} (h : RSz KC r) {i j : Bool} (hi : decide (r.a = 0) = i) (hj : decide (r.b.re = 0) = j) (h0 : rbyQ i j r ≠ 0) : Spec Tryz.prog :=
  ⟨289, Tryz.call289, [.one (.a (fC r.a)), gS r.b, .one (.a (fC r.c))], [], .one (.a (cC (rqd r (rbyQ i j r)))), [], fun β w hh => by
    cases i
    · exact spec_auto (evs := [(sR3Sign (x := r.a) rfl).e, .eqv 11 (.bool (r.a.num.sign == 0)) (.bool false) (sign_lit hi), (sR3Sign (x := r.a) rfl).e, .eqv 16 (.bool (r.a.num.sign == 0)) (.bool false) (sign_lit hi)] ++ cnE h (rby_sz h false j) h0) (Ns := [(6, 10)]) (m := 800) Tryz.func289 hmA (fun β => by kernel_rfl) (by kernel_rfl) β w hh
    · cases j
      · exact spec_auto (evs := [(sR3Sign (x := r.a) rfl).e, .eqv 11 (.bool (r.a.num.sign == 0)) (.bool true) (sign_lit hi), (sR3Sign (x := r.b.re) rfl).e, .eqv 16 (.bool (r.b.re.num.sign == 0)) (.bool false) (sign_lit hj)] ++ cnE h (rby_sz h true false) h0) (Ns := [(6, 10)]) (m := 800) Tryz.func289 hmA (fun β => by kernel_rfl) (by kernel_rfl) β w hh
      · exact spec_auto (evs := [(sR3Sign (x := r.a) rfl).e, .eqv 11 (.bool (r.a.num.sign == 0)) (.bool true) (sign_lit hi), (sR3Sign (x := r.b.re) rfl).e, .eqv 16 (.bool (r.b.re.num.sign == 0)) (.bool true) (sign_lit hj)] ++ cnE h (rby_sz h true true) h0) (Ns := [(6, 10)]) (m := 800) Tryz.func289 hmA (fun β => by kernel_rfl) (by kernel_rfl) β w hh, by kernel_rfl⟩
def sCFits (m : RQ) {b : Bool} (hb : b = true ↔ FitC m) : Spec Tryz.prog :=
  ⟨370, Tryz.call370, [.one (.a (cC m))], [], tB' b, [], fun β w hh => by
    by_cases h1 : Fit m.a
    · by_cases h2 : FitG m.b
      · have h3 : b = true ↔ Fit m.c := hb.trans ⟨fun h => h.2.2, fun h => ⟨h1, h2, h⟩⟩
        cases b <;> exact spec_auto (evs := [eFFit (iff_true_of h1), (sR4Fits m.b (iff_true_of h2)).e, eFFit h3]) (Ns := []) (m := 400) Tryz.func370 hmA (fun β => by kernel_rfl) (by kernel_rfl) β w hh
      · obtain rfl := eq_false_of hb fun h => h2 h.2.1
        exact spec_auto (evs := [eFFit (iff_true_of h1), (sR4Fits m.b (iff_false_of h2)).e]) (Ns := []) (m := 400) Tryz.func370 hmA (fun β => by kernel_rfl) (by kernel_rfl) β w hh
    · obtain rfl := eq_false_of hb fun h => h1 h.1
      exact spec_auto (evs := [eFFit (iff_false_of h1)]) (Ns := []) (m := 400) Tryz.func370 hmA (fun β => by kernel_rfl) (by kernel_rfl) β w hh, by kernel_rfl⟩
noncomputable def sCTold (m : RQ) : Spec Tryz.prog :=
  ⟨290, Tryz.call290, [.one (.a (cC m))], [], ciA m, [], fun β w hh => by
    by_cases h : FitC m
    · rw [ciA, (ci_fit h).1, (ci_fit h).2]
      exact spec_auto (evs := [(sCFits m (iff_true_of h)).e]) (Ns := []) (m := 400) Tryz.func290 hmA (fun β => by kernel_rfl) (by kernel_rfl) β w hh
    · rw [ciA, (ci_not h).1, (ci_not h).2]
      exact spec_auto (evs := [(sCFits m (iff_false_of h)).e]) (Ns := []) (m := 400) Tryz.func290 hmA (fun β => by kernel_rfl) (by kernel_rfl) β w hh, by kernel_rfl⟩
def sNum11 (k : Int) : Spec Tryz.prog := Spec.auto Tryz.call118 [.one (nI' k)] [] (.one (nI' k)) [] [] [] 400 Tryz.func118 hmA (by kernel_rfl) (fun β => by kernel_rfl)
inductive Fn where
  | ok (x : Rat) (h : Fit x)
  | no (f : Fr) (h : f.a.B = false)
def Fn.fr : Fn → Fr
  | .ok x h => frX x h
  | .no f _ => f
def Fn.r (a : Fn) : R4 := a.fr.r
abbrev zA : SV := .tup [.a c0C, nI' 2]
end Go.Proofs.YtfnmclgicjmapaaGreat.Y
end
section
namespace Go.Proofs.YtfnmclgicjmapaaGreat.Y
open Go Go.RowKit
set_option maxRecDepth 100000
abbrev z20 : GQ := gint 2 0
end Go.Proofs.YtfnmclgicjmapaaGreat.Y
end
section
namespace Go.Proofs.YtfnmclgicjmapaaGreat.Y
open Go Go.RowKit
set_option maxRecDepth 100000
def alOf (ob : List Ob) (j : Nat) : Nat := match ob[j]? with
  | some (.al i _) => i
  | _ => 0
theorem one_at {g : Pl} {b : Nat} (h : g.one) (k : At1 g b) : b = g.b := ((k.2 g.b).1 ((h.1 _).2 rfl)).symm
end Go.Proofs.YtfnmclgicjmapaaGreat.Y
end
section
namespace Go.Proofs.YtfnmclgicjmapaaGreat
open Go.RowKit
def pv (g : Nat) : Value := .pointer (some ⟨g, 0, none⟩)
theorem ptr_info : (Tryz.prog.info? 162).map (fun i => (i.zero, i.size, i.bytes)) = some (some (.pointer none), 1, 8) := by kernel_rfl
def PRow (w : World) (base : Nat) (v : Value) (zs : List Nat) : Prop := w.ownsRow base 162 1 v zs.length (zs.map pv)
theorem PRow.nil (w : World) (base : Nat) : PRow w base (.slice none 0 0) [] := by simpa [PRow] using World.ownsRow_nil w base 162 1
theorem PRow.alloc {w : World} {base : Nat} {v : Value} {zs : List Nat} (h : PRow w base v zs) (o : Obj) : PRow (w.alloc o) base v zs := World.ownsRow.alloc h o
theorem PRow.open_ {w : World} {base : Nat} {v : Value} {zs : List Nat} (h : PRow w base v zs) (h0 : 0 < zs.length) :
    ∃ g cap, v = .slice (some ⟨g, 0, none⟩) zs.length cap ∧ base ≤ g ∧ g < w.heap.size ∧ ∀ i, i < zs.length → w.cell? ⟨g, i, none⟩ = some (pv (zs.getD i 0)) := by
  obtain ⟨hlen, h2⟩ := h
  rcases h2 with ⟨rfl, h1⟩ | ⟨g, cap, cur, rfl, hg, hh, hc, _, hcs, ht⟩
  · omega
  · refine ⟨g, cap, rfl, hg, heap_some_lt hh, fun i hi => ?_⟩
    have h3 : (cur.toList.take (zs.length * 1))[i]? = (zs.map pv)[i]? := by rw [ht]
    rw [List.getElem?_take_of_lt (by omega), List.getElem?_map, List.getElem?_eq_getElem hi] at h3
    rw [cell_of_row _ _ _ _ _ _ hh, ← Array.getElem?_toList, h3, getD_in hi]
    rfl
theorem wpList_append_ptr {ops : Array Oper} {rest : List Oper} {o : Oper} {a : Act} {w : World} {Q : Exit → Act → World → Prop} (hg : o.guard = none) (s x : Operand)
    (ho : o.op = .call { callee := .builtin .append, args := #[s, x], argTypes := #[373, 373] })
    (base : Nat) (v : Value) (zs : List Nat) (hs : a.eval s = v) (hown : PRow w base v zs) (ad : Addr) (c : Nat) (y : Nat) (hx : a.eval x = .slice (some ad) 1 c) (hcell : w.cell? ad = some (pv y))
    (hlen : zs.length ≤ 17179869184) (hbase : base ≤ w.heap.size)
    (hK : ∀ v' w', PRow w' base v' (zs ++ [y]) → Below base w w' → w.grownBy w' v.ownBlock → wpList Tryz.prog ops Q rest (a.put o.dst v') w') : wpList Tryz.prog ops Q (o :: rest) a w := by
  obtain ⟨i0, hi, hz0, hz1, hz2⟩ := info_parts ptr_info
  refine wpList_append_own w hg s x 373 ho base 162 i0 (.pointer none) 1 8 Tryz.underlying373 hi hz0 hz1 hz2 rfl (by decide) v zs.length (zs.map pv) hs hown ad 1 c [pv y] hx rfl ?_ ?_ (by simp only [maxLen]; omega) (by omega) hbase ?_
  · intro j u hj
    cases j with
    | zero =>
      simp at hj
      subst hj
      simpa [Addr.add] using hcell
    | succ j => simp at hj
  · intro u hu
    simp at hu
    subst hu
    rfl
  · intro v' w' h1 h2 _
    refine hK v' w' (by simpa [PRow] using h1) ((Below.refl _ _).grown h2 hbase fun k hk => ?_) h2
    · rcases hown.2 with ⟨rfl, _⟩ | ⟨g, cap, cur, rfl, hb, _⟩
      · simp [Value.ownBlock] at hk
      · simp [Value.ownBlock] at hk
        omega
def OfPost (b : Bool) (s : ByteArray) (w : World) (e : Ending) (w' : World) : Prop :=
  ((WholeOk b s ∧ ∃ h cap p, e = .returned (.tuple #[.slice (some ⟨h, 0, none⟩) 1 cap, .bool true]) ∧ w'.cell? ⟨h, 0, none⟩ = some (.pointer (some ⟨p, 0, none⟩)) ∧ IntAt w' p 0 (numOf b s)) ∨
    (¬ WholeOk b s ∧ e = .returned (.tuple #[.slice none 0 0, .bool false]))) ∧ Below w.heap.size w w'
set_option maxHeartbeats 1600000 in
set_option maxRecDepth 100000 in
theorem of_one {w0 : World} {a cap : Nat} (b : Bool) (s : ByteArray) (hs : s.size ≤ 4294967296) {T : TypeId} (ha : BoxAt w0 a #[.bool b, .string s] T) :
    Calls Tryz.prog 377 #[.slice (some ⟨a, 0, none⟩) 1 cap] w0 (OfPost b s w0) := by
  have hcv := fun (w : World) => run_bytes_of_string (P := Tryz.prog) w 9 315 5 s Tryz.underlying9 Tryz.underlying315 Tryz.underlying5
  have HS := Lib.hid hs
  have HS2 : Hid (s.size ≤ maxLen) := by unfold Hid maxLen; omega
  have HX := Lib.hid ha
  have hc0 := ha.cell 0 (.bool b) rfl
  have hc1 := ha.cell 1 (.string s) rfl
  clear hs ha
  go_enter Tryz.func377, Tryz.ntmps377
  go_wp2
  go_loopw [4, 10] (fun v i wr => Below w0.heap.size w0 wr ∧ ((v = .slice none 0 0 ∧ i = .int .i64 0) ∨ (WholeOk b s ∧ i = .int .i64 1 ∧ ∃ h cap p, v = .slice (some ⟨h, 0, none⟩) 1 cap ∧ wr.cell? ⟨h, 0, none⟩ = some (.pointer (some ⟨p, 0, none⟩)) ∧ IntAt wr p 0 (numOf b s)))) (fun _ i _ => 1 - (intOf i).toNat)
  case atStart => exact ⟨Below.refl _ _, .inl ⟨rfl, rfl⟩⟩
  case round =>
    obtain ⟨hb, h | h⟩ := hrel
    · obtain ⟨rfl, rfl⟩ := h
      have HBR := Lib.hid hb
      have hd0 := (HX.out.on hb).cell 0 (.bool b) rfl
      have hd1 := (HX.out.on hb).cell 1 (.string s) rfl
      have HN := Lib.hid (BoxAt.new wr #[.bool b, .string s] 23)
      have HBN := Lib.hid (below_new wr (.cells #[.bool b, .string s] 23))
      clear hb hc0 hc1
      go_wp2_with fail
      refine (Check_any b s HS2.out).mono ?_
      rintro e w1 ⟨k, rfl, hk, hb⟩
      have HB1 := Lib.hid ((HBR.out.trans (HBN.out.mono HBR.out.size)).trans (hb.mono (Nat.le_trans HBR.out.size HBN.out.size)))
      have HN1 := Lib.hid (HN.out.on hb)
      have hl1 : wr.heap.size < w1.heap.size := HN1.out.lt
      clear hb hd0 hd1
      by_cases ho : WholeOk b s
      · obtain rfl : k = 0 := hk.elim (fun h => h.1) (fun h => absurd ho h.2)
        have HO := Lib.hid ho
        have hn0 := HN1.out.cell 0 (.bool b) rfl
        have hn1 := HN1.out.cell 1 (.string s) rfl
        clear hk ho
        go_wp2_with fail
        generalize hW2 : w1.alloc (.cells #[.bool false, .slice none 0 0] 169) = W2
        have hi : IntAt W2 w1.heap.size 0 0 := by rw [← hW2]; exact IntAt.new _
        have hx : BoxAt W2 wr.heap.size #[.bool b, .string s] 23 := by rw [← hW2]; exact HN1.out.on (below_new _ _)
        have hb : Below w1.heap.size w1 W2 := by rw [← hW2]; exact below_new _ _
        have hsz : w1.heap.size + 1 = W2.heap.size := by rw [← hW2]; simp
        have hby := byt_row (W := W2) s (grownCap W2 s.size 0 5) (grownCap W2 s.size 0 5) (w1.heap.size + 1) ((bytesRow s (grownCap W2 s.size 0 5)).size, (bytesRow s (grownCap W2 s.size 0 5)).size + 1) hsz
        have hbl := below_row W2 (bytesRow s (grownCap W2 s.size 0 5)) 5 ((bytesRow s (grownCap W2 s.size 0 5)).size, (bytesRow s (grownCap W2 s.size 0 5)).size + 1)
        clear hW2
        generalize grownCap W2 s.size 0 5 = c at hby hbl ⊢
        generalize (W2.alloc (.cells (bytesRow s c) 5 ((bytesRow s c).size, (bytesRow s c).size + 1))).drew = W3 at hby hbl ⊢
        refine (SetBytes_any (hi.on hbl).slot hby HS.out).mono ?_
        rintro e w4 ⟨rfl, h1, h2⟩
        rw [List.reverse_reverse] at h1
        have HT := Lib.hid (h2.below (B := w1.heap.size) (Nat.le_refl _) (by have := hbl.size; omega))
        have HB4 := Lib.hid ((hb.trans (hbl.mono hb.size)).trans HT.out)
        have hd0 : w4.cell? ⟨wr.heap.size, 0, none⟩ = some (.bool b) := by rw [HB4.out.cell (by simp; omega)]; exact HN1.out.cell 0 _ rfl
        have HI := Lib.hid h1
        have HBB := Lib.hid (HB1.out.trans (HB4.out.mono HB1.out.size))
        clear h1 h2 hi hx hb hsz hby hbl hn0 hn1
        cases b
        · have HV : Hid (IntAt w4 w1.heap.size 0 (numOf false s)) := by
            have := HI.out
            simpa [Hid, numOf, sg, num] using this
          go_wp2_with (at_builtin; refine wpList_append_ptr rfl (.tmp 32) (.tmp 34) rfl w0.heap.size _ [] rfl ((PRow.nil _ _).alloc _) ⟨w4.heap.size, 0, none⟩ 1 w1.heap.size rfl (cell_new0 _ _ _) ?_ ?_ ?_)
          · exact Nat.zero_le _
          · have := HBB.out.size; simp; omega
          intro v' w6 hrow hb6 hgr
          obtain ⟨h, cap2, rfl, _, hlt, hcc⟩ := hrow.open_ (by simp)
          have HC := Lib.hid (hcc 0 (by simp))
          have HB6 := Lib.hid ((HBB.out.trans ((below_new w4 (.cells #[.pointer (some ⟨w1.heap.size, 0, none⟩)] 162)).mono HBB.out.size)).trans hb6)
          have HV6 := Lib.hid ((HV.out.on (below_new w4 (.cells #[.pointer (some ⟨w1.heap.size, 0, none⟩)] 162))).on (Below.grown (Below.refl _ _) hgr (Nat.le_refl _) (fun k hk => by simp [Value.ownBlock] at hk)))
          clear hrow hb6 hgr hcc
          go_wp2
          go_roundw
          case rel => exact ⟨HB6.out, .inr ⟨HO.out, by go_num, h, cap2, _, rfl, HC.out, HV6.out⟩⟩
          case measure => simp [intOf]
        · go_wp2_with fail
          refine (neg_any HI.out.slot HI.out).mono ?_
          rintro e w5 ⟨rfl, h1, h2⟩
          have HV : Hid (IntAt w5 w1.heap.size 0 (numOf true s)) := by
            have := h1
            simpa [Hid, numOf, sg, num] using this
          have HB5 := Lib.hid (HBB.out.trans (h2.below (B := w0.heap.size) (by have := HB1.out.size; omega) HBB.out.size))
          clear h1 h2 hd0
          go_wp2_with (at_builtin; refine wpList_append_ptr rfl (.tmp 32) (.tmp 34) rfl w0.heap.size _ [] rfl ((PRow.nil _ _).alloc _) ⟨w5.heap.size, 0, none⟩ 1 w1.heap.size rfl (cell_new0 _ _ _) ?_ ?_ ?_)
          · exact Nat.zero_le _
          · have := HB5.out.size; simp; omega
          intro v' w6 hrow hb6 hgr
          obtain ⟨h, cap2, rfl, _, hlt, hcc⟩ := hrow.open_ (by simp)
          have HC := Lib.hid (hcc 0 (by simp))
          have HB6 := Lib.hid ((HB5.out.trans ((below_new w5 (.cells #[.pointer (some ⟨w1.heap.size, 0, none⟩)] 162)).mono HB5.out.size)).trans hb6)
          have HV6 := Lib.hid ((HV.out.on (below_new w5 (.cells #[.pointer (some ⟨w1.heap.size, 0, none⟩)] 162))).on (Below.grown (Below.refl _ _) hgr (Nat.le_refl _) (fun k hk => by simp [Value.ownBlock] at hk)))
          clear hrow hb6 hgr hcc
          go_wp2
          go_roundw
          case rel => exact ⟨HB6.out, .inr ⟨HO.out, by go_num, h, cap2, _, rfl, HC.out, HV6.out⟩⟩
          case measure => simp [intOf]
      · obtain rfl : k = 2 := hk.elim (fun h => absurd h.2 ho) (fun h => h.1)
        have HO := Lib.hid ho
        clear hk ho
        go_wp2
        go_ret2
        exact ⟨.inr ⟨HO.out, rfl⟩, HB1.out⟩
    · obtain ⟨ho, rfl, h, cap2, p, rfl, hc, hi⟩ := h
      have HO := Lib.hid ho
      have HC := Lib.hid hc
      have HI := Lib.hid hi
      have HB := Lib.hid hb
      clear ho hc hi hb hc0 hc1
      go_wp2
      go_ret2
      exact ⟨.inl ⟨HO.out, h, cap2, p, rfl, HC.out, HI.out⟩, HB.out⟩
end Go.Proofs.YtfnmclgicjmapaaGreat
end
section
namespace Go.Proofs.YtfnmclgicjmapaaGreat
open Go.RowKit
theorem fracV_num {b c : Bool} {s t : ByteArray} {x : Rat} (h : FracParts b s c t x) : WholeOk b s ∧ numOf b s = x.num := by
  have h1 := (isFrac_parts h.isFrac).1
  obtain ⟨rfl, rfl, _, _⟩ := agg4 h.val
  exact ⟨h1, numOf_mag _⟩
theorem fracV_inj {x y : Rat} (h : fracV x = fracV y) : x = y := by
  obtain ⟨h1, h2, _, h4⟩ := agg4 h
  have e1 : x.num = y.num := sg_inj h1 (mag_inj h2)
  have e2 : x.den = y.den := mag_inj h4
  exact Rat.ext e1 e2
end Go.Proofs.YtfnmclgicjmapaaGreat
end
section
namespace Go.Proofs.YtfnmclgicjmapaaGreat
open Go.RowKit
theorem sz_i64 {n : Int} (h : -9223372036854775808 ≤ n ∧ n ≤ 9223372036854775807) : sz n ≤ 8 := by
  rw [sz_le]
  have : n.natAbs ≤ 9223372036854775808 := by omega
  exact Nat.lt_of_le_of_lt this (by decide)
theorem okn_i64 {n : Int} (h : -9223372036854775808 ≤ n ∧ n ≤ 9223372036854775807) : Okn n := okn_size (Nat.le_trans (sz_i64 h) (by decide))
end Go.Proofs.YtfnmclgicjmapaaGreat
end
section
namespace Go.Proofs.YtfnmclgicjmapaaGreat
open Go.RowKit
set_option maxHeartbeats 1600000 in
set_option maxRecDepth 100000 in
theorem WText_any {w0 : World} (b : Bool) (s : ByteArray) (hs : s.size ≤ 4294967296) :
    Calls Tryz.prog 302 #[.agg #[.bool b, .string s]] w0 fun e w' => ∃ u k, e = .returned (.tuple #[.string u, .int .i64 k]) ∧ (WholeOk b s ∧ u = textN (numOf b s) ∧ k = 0 ∨ ¬ WholeOk b s ∧ u = ⟨#[]⟩ ∧ k = 2) ∧ Below w0.heap.size w0 w' := by
  have HS := Lib.hid hs
  have h1 := below_new w0 (.cells #[.bool b, .string s] 23)
  have h2 := below_new (w0.alloc (.cells #[.bool b, .string s] 23)) (.cells #[.bool b, .string s] 23)
  have HB := Lib.hid (h1.trans (h2.mono h1.size))
  have HX := Lib.hid (BoxAt.new_at (w := w0.alloc (.cells #[.bool b, .string s] 23)) #[.bool b, .string s] 23 (size_alloc w0 _).symm)
  clear hs h1 h2
  go_enter Tryz.func302, Tryz.ntmps302
  go_wp2_with fail
  refine (of_one b s HS.out HX.out).mono ?_
  rintro e w1 ⟨h, hb⟩
  have HB1 := Lib.hid (HB.out.trans (hb.mono HB.out.size))
  clear hb
  rcases h with ⟨ho, g, cap, p, rfl, hc, hi⟩ | ⟨ho, rfl⟩
  · have HO := Lib.hid ho
    have HI := Lib.hid hi
    have KT : Hid (Okt (numOf b s)) := by
      have h3 : (mag (numOf b s).natAbs).size ≤ 16384 := by rw [(numOf_ok ho).2.1]; exact ho.2
      have := wl_size h3
      unfold Hid Okt
      omega
    clear ho hi
    go_wp2_with fail
    refine (String_any HI.out KT.out).mono ?_
    rintro e w2 ⟨rfl, hb⟩
    have HB2 := Lib.hid (HB1.out.trans (hb.mono HB1.out.size))
    clear hb hc
    go_wp2
    go_ret2
    exact ⟨_, _, rfl, .inl ⟨HO.out, rfl, rfl⟩, HB2.out⟩
  · have HO := Lib.hid ho
    clear ho
    go_wp2
    go_ret2
    exact ⟨_, _, rfl, .inr ⟨HO.out, rfl, rfl⟩, HB1.out⟩
theorem textN_len (n : Int) : (textN n).size ≤ 32 * (dig n.natAbs).length + 1 := by
  rw [textN_size]
  unfold txt
  have := dd_len_words n.natAbs
  split
  · simp
  · rw [List.length_reverse, List.length_append]
    split <;> simp <;> omega
theorem textN_small {n : Int} (h : (mag n.natAbs).size ≤ 16384) : (textN n).size ≤ 200000 := by
  have h1 := textN_len n
  have h2 := wl_size h
  omega
def textQ (x : Rat) : ByteArray := if x.den = 1 then textN x.num else textN x.num ++ (⟨#[47]⟩ ++ textN (x.den : Int))
def TextAns (va : Value) (u : ByteArray) (k : Int) : Prop := (∃ x, Fit x ∧ va = fracV x ∧ u = textQ x ∧ k = 0) ∨ (¬ IsFrac va ∧ u = ⟨#[]⟩ ∧ k = 2)
theorem parts_den {b c : Bool} {s t : ByteArray} {x : Rat} (h : FracParts b s c t x) : c = false ∧ t = mag x.den ∧ WholeOk false t ∧ numOf false t = (x.den : Int) := by
  have h2 := (isFrac_parts h.isFrac).2.1
  obtain ⟨rfl, rfl, rfl, rfl⟩ := agg4 h.val
  refine ⟨rfl, rfl, h2, ?_⟩
  have := numOf_mag (x.den : Int)
  rwa [show decide ((x.den : Int) < 0) = false by simp, Int.natAbs_natCast] at this
set_option maxHeartbeats 3200000 in
set_option maxRecDepth 100000 in
theorem FText_any {w0 : World} (b c : Bool) (s t : ByteArray) (hs : s.size ≤ maxLen) (ht : t.size ≤ maxLen) :
    Calls Tryz.prog 144 #[.agg #[.bool b, .string s, .bool c, .string t]] w0 fun e w' => ∃ u k, e = .returned (.tuple #[.string u, .int .i64 k]) ∧ TextAns (.agg #[.bool b, .string s, .bool c, .string t]) u k ∧ Below w0.heap.size w0 w' := by
  have HS := Lib.hid hs
  have HT := Lib.hid ht
  have HW0 := Lib.hid (below_new w0 (.cells #[.bool b, .string s, .bool c, .string t] 25))
  have HX0 := Lib.hid (BoxAt.new w0 #[.bool b, .string s, .bool c, .string t] 25)
  clear hs ht
  go_enter Tryz.func144, Tryz.ntmps144
  go_wp2_with fail
  refine (May_any b c s t HS.out HT.out).mono ?_
  rintro e w1 ⟨r, rfl, hr, hb⟩
  have HX1 := Lib.hid (HX0.out.on hb)
  have HW1 := Lib.hid (HW0.out.trans (hb.mono HW0.out.size))
  have HR := Lib.hid hr
  clear hb hr
  cases r
  · go_wp2
    go_ret2
    exact ⟨_, _, rfl, .inr ⟨fun h => Bool.noConfusion (HR.out.2 h), rfl, rfl⟩, HW1.out⟩
  obtain ⟨x, hx⟩ := parts_of (by first | exact HR.out.1 rfl | exact HR.out.1 trivial)
  have HX := Lib.hid hx
  obtain ⟨rfl, ht2, ho2, hn2⟩ := parts_den hx
  have HT2 := Lib.hid ht2
  have HO2 := Lib.hid ho2
  have HN2 := Lib.hid hn2
  have hc0 := HX1.out.cell 0 (.bool b) rfl
  have hc1 := HX1.out.cell 1 (.string s) rfl
  clear hx HR ht2 ho2 hn2
  go_wp2_with fail
  refine (WText_any b s HX.out.hs).mono ?_
  rintro e w2 ⟨un, k, rfl, hu, hb⟩
  have HU : Hid (un = textN x.num) := by
    obtain ⟨h1, h2⟩ := fracV_num HX.out
    rcases hu with h | h
    · rw [← h2]; exact h.2.1
    · exact absurd h1 h.1
  have HX2 := Lib.hid (HX1.out.on hb)
  have HW2 := Lib.hid (HW1.out.trans (hb.mono HW1.out.size))
  clear hu hb hc0 hc1
  go_wp2
  refine wp_region_acts 4 (fun w' => Below w0.heap.size w0 w' ∧ BoxAt w' w0.heap.size #[.bool b, .string s, .bool false, .string t] 25) (fun w w' => Below w.heap.size w w') (fun i w v => match i with
      | 0 => v = .pointer (some ⟨w0.heap.size, 2, none⟩)
      | 1 => v = .agg #[.bool false, .string t]
      | 2 => ∃ g, v = .pointer (some ⟨g, 0, none⟩) ∧ IntAt w g 0 1
      | _ => ∃ s', v = .agg #[.bool false, .string s'] ∧ Hid (s' = mag 1)) (by kernel_rfl) (by kernel_rfl) (by kernel_rfl) ⟨HW2.out.drew, HX2.out⟩ (fun _ _ => (Below.refl _ _)) ?_ ⟨?_, ?_, ?_, ?_, trivial⟩ ?_
  · intro i w1 w2 v hC hC2 hE hV
    match i with
    | 0 => exact hV
    | 1 => exact hV
    | 2 => obtain ⟨g, e, h⟩ := hV; exact ⟨g, e, h.on hE⟩
    | _ + 3 => exact hV
  · intro a' w' hag hC hd K hK
    have e1 : a'.tmps.getD 1 undef = .pointer (some ⟨w0.heap.size, 0, none⟩) := hag 1 rfl
    go_step
    exact hK _ _ hC ((Below.refl _ _)) rfl
  · intro a' w' hag hC hd K hK
    have e17 : a'.tmps.getD 17 undef = .pointer (some ⟨w0.heap.size, 2, none⟩) := hd.1
    have hc0 := hC.2.cell 2 (.bool false) rfl
    have hc1 := hC.2.cell 3 (.string t) rfl
    have HK := Lib.hid (hK (.agg #[.bool false, .string t]) _ hC (Below.refl _ _) rfl)
    clear hK hC
    go_step
    exact HK.out
  · intro a' w' hag hC hd K hK
    go_step
    refine (NewInt_any (n := 1) (by decide)).mono ?_
    rintro e w2 ⟨g, rfl, hg, h1, h2⟩
    exact hK _ _ ⟨hC.1.trans (h2.mono hC.1.size), hC.2.on h2⟩ h2 ⟨_, rfl, h1⟩
  · intro a' w' hag hC hd K hK
    obtain ⟨g19, e19, h19⟩ := hd.1
    have e19 : a'.tmps.getD 19 undef = .pointer (some ⟨g19, 0, none⟩) := e19
    go_step
    refine (back_agg h19 (okn_i64 (by decide))).mono ?_
    rintro e w2 ⟨p, s', rfl, h1, h2, hb⟩
    have hp : p = false := by rw [h1.out]; rfl
    subst hp
    exact hK _ _ ⟨hC.1.trans (hb.mono hC.1.size), hC.2.on hb⟩ hb ⟨s', rfl, h2⟩
  · intro u w' hC hall
    obtain ⟨u0, u1, u2, u3, _⟩ := hall
    have u0 : u 0 = .pointer (some ⟨w0.heap.size, 2, none⟩) := u0
    have u1 : u 1 = .agg #[.bool false, .string t] := u1
    obtain ⟨s20, eu3, hs20⟩ := u3
    have u3 : u 3 = .agg #[.bool false, .string s20] := eu3
    simp only [fillR, List.take_succ_cons, List.take_zero, Act.put, List.setIfInBounds_toArray, List.set_cons_succ, List.set_cons_zero, Nat.zero_add, Nat.reduceAdd, u0, u1, u3]
    clear u0 u1 u3
    have HC := Lib.hid hC.1
    have HX3 := Lib.hid hC.2
    clear hC
    by_cases hd : t.toList = s20.toList
    · have HD : Hid (x.den = 1) := by
        have h1 := toList_inj.1 hd
        rw [HT2.out, hs20.out] at h1
        exact mag_inj h1
      go_wp2
      go_ret2
      exact ⟨_, _, rfl, .inl ⟨x, HX.out.fit, HX.out.val, by rw [textQ, if_pos HD.out]; exact HU.out, rfl⟩, HC.out⟩
    · have HD : Hid (¬ x.den = 1) := fun e => hd (by rw [HT2.out, hs20.out, e])
      have hc0 := HX3.out.cell 2 (.bool false) rfl
      have hc1 := HX3.out.cell 3 (.string t) rfl
      go_wp2_with fail
      refine (WText_any false t HX.out.ht).mono ?_
      rintro e w4 ⟨u2, k2, rfl, hu, hb⟩
      have HU2 : Hid (u2 = textN (x.den : Int)) := by
        rcases hu with h | h
        · rw [← HN2.out]; exact h.2.1
        · exact absurd HO2.out h.1
      have HB := Lib.hid (HC.out.trans (hb.mono HC.out.size))
      have hu1 : un.size ≤ 200000 := by rw [HU.out]; exact textN_small (Nat.le_trans HX.out.fit.1 (by decide))
      have hu2 : u2.size ≤ 200000 := by rw [HU2.out]; exact textN_small (by rw [Int.natAbs_natCast]; exact Nat.le_trans HX.out.fit.2 (by decide))
      have hu3 : ((⟨#[47]⟩ : ByteArray) ++ u2).size ≤ 200001 := by rw [ByteArray.size_append]; show 1 + u2.size ≤ _; omega
      clear hu hb hc0 hc1
      go_wp2
      go_ret2
      exact ⟨_, _, rfl, .inl ⟨x, HX.out.fit, HX.out.val, by rw [textQ, if_neg HD.out, ← HU.out, ← HU2.out], rfl⟩, HB.out⟩
end Go.Proofs.YtfnmclgicjmapaaGreat
end
section
namespace Go.Proofs.YtfnmclgicjmapaaGreat.Y
open Go Go.RowKit
set_option maxRecDepth 100000
def sFText {x : Rat} (h : Fit x) {u : ByteArray} (hu : textQ x = u) : Spec Tryz.prog :=
  ⟨144, Tryz.call144, [.one (.a (fC x))], [], .tup [.c (.b (.v (.string u))), nI' 0], [], fun β w hh => by
    refine (FText_any (decide (x.num < 0)) false (mag x.num.natAbs) (mag x.den) (Nat.le_trans h.1 (by decide)) (Nat.le_trans h.2 (by decide))).mono ?_
    rintro e w' ⟨v, k, rfl, ⟨y, _, hy, rfl, rfl⟩ | ⟨hn, _⟩, hb⟩
    · obtain rfl : x = y := fracV_inj hy
      rw [hu]
      exact ⟨[], (fun _ h => by cases h), rfl, trivial, hb⟩
    · exact absurd (fitF x h) hn, by kernel_rfl⟩
theorem f12 : FitG (gint 1 2) := fit_int (by decide) (by decide)
end Go.Proofs.YtfnmclgicjmapaaGreat.Y
end
section
namespace Go.Proofs.YtfnmclgicjmapaaGreat.Y
open Go Go.RowKit
set_option maxRecDepth 100000
def z4 : List Lf := [.b (.v (.bool false)), .b (.v (.slice none 0 0)), .b (.v (.bool false)), .b (.v (.slice none 0 0))]
theorem RatAt.zero {w : World} {b : Nat} (hb : w.heap[b]? = some (.cells #[.bool false, .slice none 0 0, .bool false, .slice none 0 0] 171 (0, 0))) : RatAt w b 0 0 := by
  refine ⟨⟨_, _, hb, by decide, by simp⟩, ⟨⟨_, _, hb, by decide, by simp⟩, ?_, .slice none 0 0, ?_, ?_⟩, 0, ⟨⟨_, _, hb, by decide, by simp⟩, ?_, .slice none 0 0, ?_, ?_⟩, .inr ⟨rfl, rfl⟩⟩
  · rw [cell_of_row _ _ _ _ _ _ hb]; rfl
  · rw [cell_of_row _ _ _ _ _ _ hb]; rfl
  · rw [show (0 : Rat).num = 0 from rfl, Int.natAbs_zero, dig_zero]; exact Words.nil _
  · rw [cell_of_row _ _ _ _ _ _ hb]; rfl
  · rw [cell_of_row _ _ _ _ _ _ hb]; rfl
  · rw [Int.natAbs_zero, dig_zero]; exact Words.nil _
theorem okr0 : Sz KB (0 : Rat) := sz_zero.mono (by decide)
def eSum0 {y : Rat} (i n k : Nat) (hy : Sz KB y) : Ev Tryz.prog := .refill 154 Tryz.call154 (fun β => #[.pointer (some ⟨(β i).b, 0, none⟩), .pointer (some ⟨(β i).b, 0, none⟩), .pointer ((β k).v 0)]) [(i, .box z4 171), (k, (ratT y).ob)] i i 4 n (ratT (0 + y))
  (fun β w h hji ho hs => by
    have hb : (Ob.box z4 171).holds β w (β i) := h (i, .box z4 171) (by simp)
    obtain ⟨b, hb2, kb⟩ := needP (x := y) (k := k) h (by simp)
    simp only [hb2.1]
    exact fillP ho (rAdd_any hs (RatAt.zero hb.2) kb (okr0.okR2 (by decide)) (hy.okR2 (by decide))))
def eSumP {x y : Rat} (i j n k : Nat) (hx : Sz KB x) (hy : Sz KB y) : Ev Tryz.prog := .refill 154 Tryz.call154 (fun β => #[.pointer (some ⟨(β i).b, 0, none⟩), .pointer (some ⟨(β i).b, 0, none⟩), .pointer ((β k).v 0)]) [(j, (ratT x).ob), (k, (ratT y).ob)] i j 4 n (ratT (x + y))
  (fun β w h hji ho hs => by
    obtain ⟨a, ha, ka⟩ := needP (x := x) (k := j) h (by simp)
    obtain ⟨b, hb, kb⟩ := needP (x := y) (k := k) h (by simp)
    have e := one_at ho (hji ▸ ha)
    subst e
    simp only [hb.1]
    exact fillP ho (rAdd_any hs ka kb (hx.okR2 (by decide)) (hy.okR2 (by decide))))
def eSumZ {x y : Rat} (i j n k : Nat) (hx : Sz KB x) (hy : Sz KB y) : Ev Tryz.prog := .refill 154 Tryz.call154 (fun β => #[.pointer ((β j).v 0), .pointer ((β j).v 0), .pointer ((β k).v 0)]) [(j, (ratT x).ob), (k, (ratT y).ob)] i j 4 n (ratT (x + y))
  (fun β w h hji ho hs => by
    obtain ⟨a, ha, ka⟩ := needP (x := x) (k := j) h (by simp)
    obtain ⟨b, hb, kb⟩ := needP (x := y) (k := k) h (by simp)
    have e := one_at ho (hji ▸ ha)
    subst e
    simp only [ha.1, hb.1]
    exact fillP ho (rAdd_any hs ka kb (hx.okR2 (by decide)) (hy.okR2 (by decide))))
def sum0 {y : Rat} (hy : Sz KB y) : Ev Tryz.prog := .dyn (fun o _ _ => isCallB o) fun _ xs ob => lit ob.length fun n => lit (ptOf (xs.getD 0 undefS)) fun i => lit (ptOf (xs.getD 2 undefS)) fun k => eSum0 i n k hy
def sumN {x y : Rat} (hx : Sz KB x) (hy : Sz KB y) : Ev Tryz.prog := .dyn (fun o _ _ => isCallB o) fun _ xs ob => lit ob.length fun n => lit (ptOf (xs.getD 2 undefS)) fun k => match xs.getD 0 undefS with
  | .one (.c (.b (.p i _))) => lit i fun i => lit ((findA i ob 0).getD 0) fun j => eSumP i j n k hx hy
  | .one (.c (.b (.z j _))) => lit j fun j => lit (alOf ob j) fun i => eSumZ i j n k hx hy
  | _ => .eqv 0 undef undef rfl
def roQ : Pt → Nat → Rat
  | .inf, 0 => Rat.divInt 1 1
  | .inf, _ => Rat.divInt 0 1
  | .fin z, 0 => gnorm z
  | .fin z, 1 => z.re
  | .fin z, 2 => z.im
  | .fin _, _ => Rat.divInt 1 1
abbrev roT (p : Pt) : List Thing := [ratT (roQ p 0), ratT (roQ p 1), ratT (roQ p 2), ratT (roQ p 3)]
def sRow {p : Pt} (hp : FitP p) : Spec Tryz.prog :=
  ⟨366, Tryz.call366, [pV 0 p], pM p, .one (.a [.b (.z 2 0), .b (.z 3 0), .b (.z 4 0), .b (.z 5 0)]), roT p, fun β w hh => by
    cases p with
    | inf => exact spec_auto (args := [pV 0 .inf]) (obs := pM .inf) (res := .one (.a [.b (.z 2 0), .b (.z 3 0), .b (.z 4 0), .b (.z 5 0)])) (news := roT .inf) (evs := [nNew 1 1 (by decide) (by decide) (by decide), nZero, nZero, nZero]) (Ns := []) (m := 400) Tryz.func366 hmA (fun β => by kernel_rfl) (by kernel_rfl) β w hh
    | fin z => exact spec_auto (args := [pV 0 (.fin z)]) (obs := pM (.fin z)) (res := .one (.a [.b (.z 2 0), .b (.z 3 0), .b (.z 4 0), .b (.z 5 0)])) (news := roT (.fin z)) (evs := [(sParts z).e, (sNorm (fitG_sz hp |>.mono (by decide))).e, nNew 1 1 (by decide) (by decide) (by decide)]) (Ns := []) (m := 400) Tryz.func366 hmA (fun β => by kernel_rfl) (by kernel_rfl) β w hh, by cases p <;> kernel_rfl⟩
abbrev KD5 : Nat := 5000
theorem ro_sz {p : Pt} (hp : FitP p) (n : Nat) : Sz KD5 (roQ p n) := by
  cases p with
  | inf => match n with
    | 0 => exact one_sz.mono (by decide)
    | n + 1 => exact zero_sz.mono (by decide)
  | fin z =>
    have h : GSz 1024 z := fitG_sz hp
    match n with
    | 0 => exact h.norm.mono (by decide)
    | 1 => exact h.1.mono (by decide)
    | 2 => exact h.2.mono (by decide)
    | n + 3 => exact one_sz.mono (by decide)
section
variable {f g h : Nat → Rat} (hf : ∀ n, Sz KD5 (f n)) (hg : ∀ n, Sz KD5 (g n)) (hh : ∀ n, Sz KD5 (h n))
def trm (f g h : Nat → Rat) (s : Int) (a b c : Nat) : Rat := Rat.divInt s 1 * (f a * (g b * h c))
def detE (f g h : Nat → Rat) (i j k : Nat) : Rat := 0 + trm f g h 1 i j k + trm f g h 1 j k i + trm f g h 1 k i j + trm f g h (-1) i k j + trm f g h (-1) j i k + trm f g h (-1) k j i
abbrev KT : Nat := 15008
include hf hg hh in
theorem trm1_sz (a b c : Nat) : Sz KT (trm f g h 1 a b c) := ((sz_lit 1 1 (by decide) (by decide) (by decide)).mul ((hf a).mul ((hg b).mul (hh c)))).mono (by decide)
include hf hg hh in
theorem trmN_sz (a b c : Nat) : Sz KT (trm f g h (-1) a b c) := ((sz_lit (-1) 1 (by decide) (by decide) (by decide)).mul ((hf a).mul ((hg b).mul (hh c)))).mono (by decide)
def tmE (s : Int) (hs : -9223372036854775808 ≤ s ∧ s ≤ 9223372036854775807) (hz : Sz 8 (Rat.divInt s 1)) (a b c : Nat) : List (Ev Tryz.prog) :=
  [nNew s 1 hs (by decide) (by decide), (sMulR ((hg b).mono (by decide)) ((hh c).mono (by decide))).e, (sMulR ((hf a).mono (by decide)) (((hg b).mul (hh c)).mono (by decide))).e, (sMulR (hz.mono (by decide)) (((hf a).mul ((hg b).mul (hh c))).mono (by decide))).e]
theorem one8 : Sz 8 (Rat.divInt 1 1) := sz_lit 1 1 (by decide) (by decide) (by decide)
theorem mone8 : Sz 8 (Rat.divInt (-1) 1) := sz_lit (-1) 1 (by decide) (by decide) (by decide)
include hf hg hh in
theorem det_szs (i j k : Nat) : Sz (1 + KT + 1) (0 + trm f g h 1 i j k) ∧ Sz (1 + KT + 1 + KT + 1) (0 + trm f g h 1 i j k + trm f g h 1 j k i) ∧ Sz (1 + KT + 1 + KT + 1 + KT + 1) (0 + trm f g h 1 i j k + trm f g h 1 j k i + trm f g h 1 k i j) ∧
    Sz (1 + KT + 1 + KT + 1 + KT + 1 + KT + 1) (0 + trm f g h 1 i j k + trm f g h 1 j k i + trm f g h 1 k i j + trm f g h (-1) i k j) ∧ Sz (1 + KT + 1 + KT + 1 + KT + 1 + KT + 1 + KT + 1) (0 + trm f g h 1 i j k + trm f g h 1 j k i + trm f g h 1 k i j + trm f g h (-1) i k j + trm f g h (-1) j i k) ∧ Sz 100000 (detE f g h i j k) := by
  have a1 := sz_zero.add (trm1_sz hf hg hh i j k)
  have a2 := a1.add (trm1_sz hf hg hh j k i)
  have a3 := a2.add (trm1_sz hf hg hh k i j)
  have a4 := a3.add (trmN_sz hf hg hh i k j)
  have a5 := a4.add (trmN_sz hf hg hh j i k)
  have a6 := a5.add (trmN_sz hf hg hh k j i)
  exact ⟨a1, a2, a3, a4, a5, a6.mono (by decide)⟩
abbrev iV (n : Nat) : SV := .one (.c (.b (.v (.int .i64 (n : Int)))))
abbrev rowO (f g h : Nat → Rat) : List Ob := [(ratT (f 0)).ob, (ratT (f 1)).ob, (ratT (f 2)).ob, (ratT (f 3)).ob, (ratT (g 0)).ob, (ratT (g 1)).ob, (ratT (g 2)).ob, (ratT (g 3)).ob, (ratT (h 0)).ob, (ratT (h 1)).ob, (ratT (h 2)).ob, (ratT (h 3)).ob,
  .box [.b (.z 0 0), .b (.z 1 0), .b (.z 2 0), .b (.z 3 0), .b (.z 4 0), .b (.z 5 0), .b (.z 6 0), .b (.z 7 0), .b (.z 8 0), .b (.z 9 0), .b (.z 10 0), .b (.z 11 0)] 364]
def detEv (i j k : Nat) : List (Ev Tryz.prog) :=
  have z := det_szs hf hg hh i j k
  tmE hf hg hh 1 (by decide) one8 i j k ++ [sum0 ((trm1_sz hf hg hh i j k).mono (by decide))] ++ tmE hf hg hh 1 (by decide) one8 j k i ++ [sumN (z.1.mono (by decide)) ((trm1_sz hf hg hh j k i).mono (by decide))] ++
    tmE hf hg hh 1 (by decide) one8 k i j ++ [sumN (z.2.1.mono (by decide)) ((trm1_sz hf hg hh k i j).mono (by decide))] ++ tmE hf hg hh (-1) (by decide) mone8 i k j ++ [sumN (z.2.2.1.mono (by decide)) ((trmN_sz hf hg hh i k j).mono (by decide))] ++
    tmE hf hg hh (-1) (by decide) mone8 j i k ++ [sumN (z.2.2.2.1.mono (by decide)) ((trmN_sz hf hg hh j i k).mono (by decide))] ++ tmE hf hg hh (-1) (by decide) mone8 k j i ++ [sumN (z.2.2.2.2.1.mono (by decide)) ((trmN_sz hf hg hh k j i).mono (by decide))]
noncomputable def sDet123 : OSpec Tryz.prog :=
  OSpec.auto Tryz.call367 [iV 1, iV 2, iV 3, .one (.c (.b (.p 12 0)))] (rowO f g h) (rV 13) [detE f g h 1 2 3] (detEv hf hg hh 1 2 3) [(5, 23)] 3000 Tryz.func367 hmA (by kernel_rfl) (fun β => by kernel_rfl)
noncomputable def sDet023 : OSpec Tryz.prog :=
  OSpec.auto Tryz.call367 [iV 0, iV 2, iV 3, .one (.c (.b (.p 12 0)))] (rowO f g h) (rV 13) [detE f g h 0 2 3] (detEv hf hg hh 0 2 3) [(5, 23)] 3000 Tryz.func367 hmA (by kernel_rfl) (fun β => by kernel_rfl)
noncomputable def sDet013 : OSpec Tryz.prog :=
  OSpec.auto Tryz.call367 [iV 0, iV 1, iV 3, .one (.c (.b (.p 12 0)))] (rowO f g h) (rV 13) [detE f g h 0 1 3] (detEv hf hg hh 0 1 3) [(5, 23)] 3000 Tryz.func367 hmA (by kernel_rfl) (fun β => by kernel_rfl)
noncomputable def sDet012 : OSpec Tryz.prog :=
  OSpec.auto Tryz.call367 [iV 0, iV 1, iV 2, .one (.c (.b (.p 12 0)))] (rowO f g h) (rV 13) [detE f g h 0 1 2] (detEv hf hg hh 0 1 2) [(5, 23)] 3000 Tryz.func367 hmA (by kernel_rfl) (fun β => by kernel_rfl)
end
end Go.Proofs.YtfnmclgicjmapaaGreat.Y
end
section
namespace Go.Proofs.YtfnmclgicjmapaaGreat.Y
open Go Go.RowKit
set_option maxRecDepth 100000
theorem rat_self {x : Rat} (h : x ≠ 0) : x * x⁻¹ = 1 := Rat.mul_inv_cancel x h
theorem rby_one {r : RQ} (h0 : rby r ≠ 0) : rby (rone r) = 1 := by
  unfold rone
  generalize hx : rby r = x at h0 ⊢
  unfold rby rbyQ at hx
  have key : ∀ y : Rat, y = 0 → y * x⁻¹ = 0 := fun y e => by rw [e, Rat.zero_mul]
  cases h1 : decide (r.a = 0) with
  | false =>
    rw [h1] at hx
    have e : (rnm r x).a = 1 := by show r.a * x⁻¹ = 1; rw [show r.a = x from hx]; exact rat_self h0
    unfold rby rbyQ
    rw [show decide ((rnm r x).a = 0) = false by rw [e]; decide]
    exact e
  | true =>
    have ha : (rnm r x).a = 0 := key _ (of_decide_eq_true h1)
    cases h2 : decide (r.b.re = 0) with
    | false =>
      rw [h1, h2] at hx
      have e : (rnm r x).b.re = 1 := by show r.b.re * x⁻¹ = 1; rw [show r.b.re = x from hx]; exact rat_self h0
      unfold rby rbyQ
      rw [show decide ((rnm r x).a = 0) = true by rw [ha]; decide, show decide ((rnm r x).b.re = 0) = false by rw [e]; decide]
      exact e
    | true =>
      rw [h1, h2] at hx
      have hr : (rnm r x).b.re = 0 := key _ (of_decide_eq_true h2)
      have e : (rnm r x).b.im = 1 := by show r.b.im * x⁻¹ = 1; rw [show r.b.im = x from hx]; exact rat_self h0
      unfold rby rbyQ
      rw [show decide ((rnm r x).a = 0) = true by rw [ha]; decide, show decide ((rnm r x).b.re = 0) = true by rw [hr]; decide]
      exact e
theorem rone_rone {r : RQ} (h0 : rby r ≠ 0) : rone (rone r) = rone r := by
  have h1 : (1 : Rat)⁻¹ = 1 := of_decide_eq_true (by kernel_rfl : decide ((1 : Rat)⁻¹ = 1) = true)
  have h : ∀ s : RQ, rnm s 1 = s := fun s => by
    unfold rnm gscale
    rw [h1, Rat.mul_one, Rat.mul_one, Rat.mul_one, Rat.mul_one]
  have : rone (rone r) = rnm (rone r) 1 := by rw [← rby_one h0]; rfl
  rw [this, h]
theorem sq_sum {x y : Rat} (h : x * x + y * y = 0) : x = 0 ∧ y = 0 := by
  have hn : ∀ z : Rat, 0 ≤ z * z := fun z => by
    rcases Rat.le_total (a := 0) (b := z) with h | h
    · exact Rat.mul_nonneg h h
    · have := Rat.mul_nonneg (a := -z) (b := -z) (by grind) (by grind)
      grind
  have h1 := hn x
  have h2 := hn y
  have e1 : x * x = 0 := by grind
  have e2 : y * y = 0 := by grind
  exact ⟨by rcases Rat.mul_eq_zero.1 e1 with h | h <;> exact h, by rcases Rat.mul_eq_zero.1 e2 with h | h <;> exact h⟩
theorem tri_no {a b u1 u2 v1 v2 : Rat} (hu : ¬ (u1 = 0 ∧ u2 = 0)) (hv : ¬ (v1 = 0 ∧ v2 = 0)) (hd : ¬ (u1 - v1 = 0 ∧ u2 - v2 = 0))
    (k1 : u1 * v2 - u2 * v1 = 0) (k2 : (2 * (a * u1 + b * u2) + (u1 * u1 + u2 * u2)) * v2 = (2 * (a * v1 + b * v2) + (v1 * v1 + v2 * v2)) * u2)
    (k3 : (2 * (a * u1 + b * u2) + (u1 * u1 + u2 * u2)) * v1 = (2 * (a * v1 + b * v2) + (v1 * v1 + v2 * v2)) * u1) : False := by
  have a1 : (a * u1 + b * u2) * (v1 * v1 + v2 * v2) = (a * v1 + b * v2) * (u1 * v1 + u2 * v2) := by
    have : (a * u1 + b * u2) * (v1 * v1 + v2 * v2) - (a * v1 + b * v2) * (u1 * v1 + u2 * v2) = (a * v2 - b * v1) * (u1 * v2 - u2 * v1) := by grind
    rw [k1, Rat.mul_zero] at this
    grind
  have a2 : (a * u1 + b * u2) * (u1 * v1 + u2 * v2) = (a * v1 + b * v2) * (u1 * u1 + u2 * u2) := by
    have : (a * u1 + b * u2) * (u1 * v1 + u2 * v2) - (a * v1 + b * v2) * (u1 * u1 + u2 * u2) = (a * u2 - b * u1) * (u1 * v2 - u2 * v1) := by grind
    rw [k1, Rat.mul_zero] at this
    grind
  have b1 : (2 * (a * u1 + b * u2) + (u1 * u1 + u2 * u2)) * (v1 * v1 + v2 * v2) = (2 * (a * v1 + b * v2) + (v1 * v1 + v2 * v2)) * (u1 * v1 + u2 * v2) := by
    have : (2 * (a * u1 + b * u2) + (u1 * u1 + u2 * u2)) * (v1 * v1 + v2 * v2) = ((2 * (a * u1 + b * u2) + (u1 * u1 + u2 * u2)) * v1) * v1 + ((2 * (a * u1 + b * u2) + (u1 * u1 + u2 * u2)) * v2) * v2 := by grind
    rw [this, k3, k2]
    grind
  have b2 : (2 * (a * u1 + b * u2) + (u1 * u1 + u2 * u2)) * (u1 * v1 + u2 * v2) = (2 * (a * v1 + b * v2) + (v1 * v1 + v2 * v2)) * (u1 * u1 + u2 * u2) := by
    have : (2 * (a * u1 + b * u2) + (u1 * u1 + u2 * u2)) * (u1 * v1 + u2 * v2) = ((2 * (a * u1 + b * u2) + (u1 * u1 + u2 * u2)) * v1) * u1 + ((2 * (a * u1 + b * u2) + (u1 * u1 + u2 * u2)) * v2) * u2 := by grind
    rw [this, k3, k2]
    grind
  generalize hα : a * u1 + b * u2 = α at *
  generalize hβ : a * v1 + b * v2 = β at *
  generalize hS : u1 * u1 + u2 * u2 = S at *
  generalize hT : v1 * v1 + v2 * v2 = T at *
  generalize hP : u1 * v1 + u2 * v2 = Q at *
  have hS0 : S ≠ 0 := fun e => hu (sq_sum (by rw [hS]; exact e))
  have hT0 : T ≠ 0 := fun e => hv (sq_sum (by rw [hT]; exact e))
  have c1 : T * (S - Q) = 0 := by grind
  have c2 : S * (Q - T) = 0 := by grind
  have d1 : S - Q = 0 := (Rat.mul_eq_zero.1 c1).resolve_left hT0
  have d2 : Q - T = 0 := (Rat.mul_eq_zero.1 c2).resolve_left hS0
  exact hd (sq_sum (by grind))
theorem lit1 : (Rat.divInt 1 1 : Rat) = 1 := of_decide_eq_true (by kernel_rfl : decide ((Rat.divInt 1 1 : Rat) = 1) = true)
theorem litN : (Rat.divInt (-1) 1 : Rat) = -1 := of_decide_eq_true (by kernel_rfl : decide ((Rat.divInt (-1) 1 : Rat) = -1) = true)
theorem litH : (Rat.divInt (-1) 2 : Rat) = -(Rat.divInt 1 2) := of_decide_eq_true (by kernel_rfl : decide ((Rat.divInt (-1) 2 : Rat) = -(Rat.divInt 1 2)) = true)
theorem litH0 : (Rat.divInt (-1) 2 : Rat) ≠ 0 := of_decide_eq_true (by kernel_rfl : decide ((Rat.divInt (-1) 2 : Rat) ≠ 0) = true)
abbrev hlf : Rat := Rat.divInt (-1) 2
def detR (f g h : Nat → Rat) (i j k : Nat) : Rat := f i * (g j * h k - g k * h j) - f j * (g i * h k - g k * h i) + f k * (g i * h j - g j * h i)
theorem det_eq (f g h : Nat → Rat) (i j k : Nat) : detE f g h i j k = detR f g h i j k := by
  unfold detE detR trm
  rw [lit1, litN]
  grind
def thrQ (p q r : Pt) : RQ := ⟨detE (roQ p) (roQ q) (roQ r) 1 2 3, ⟨detE (roQ p) (roQ q) (roQ r) 0 2 3 * hlf, detE (roQ p) (roQ q) (roQ r) 0 1 3 * hlf⟩, -(detE (roQ p) (roQ q) (roQ r) 0 1 2)⟩
theorem thr_dets {p q r : Pt} (h1 : p ≠ q) (h2 : q ≠ r) (h3 : p ≠ r) : ¬ (detE (roQ p) (roQ q) (roQ r) 1 2 3 = 0 ∧ detE (roQ p) (roQ q) (roQ r) 0 2 3 = 0 ∧ detE (roQ p) (roQ q) (roQ r) 0 1 3 = 0) := by
  rw [det_eq, det_eq, det_eq]
  unfold detR
  have ne : ∀ {z w : GQ}, Pt.fin z ≠ Pt.fin w → ¬ (z.re = w.re ∧ z.im = w.im) := fun h e => h (congrArg Pt.fin (GQ.ext2 e.1 e.2))
  rintro ⟨k1, k2, k3⟩
  cases p with
  | inf => cases q with
    | inf => exact h1 rfl
    | fin w => cases r with
      | inf => exact h3 rfl
      | fin t =>
        simp only [roQ, lit1, zero_div] at k1 k2 k3
        exact ne h2 ⟨by grind, by grind⟩
  | fin z => cases q with
    | inf => cases r with
      | inf => exact h2 rfl
      | fin t =>
        simp only [roQ, lit1, zero_div] at k1 k2 k3
        exact ne h3 ⟨by grind, by grind⟩
    | fin w => cases r with
      | inf =>
        simp only [roQ, lit1, zero_div] at k1 k2 k3
        exact ne h1 ⟨by grind, by grind⟩
      | fin t =>
        simp only [roQ, lit1, gnorm] at k1 k2 k3
        refine tri_no (a := z.re) (b := z.im) (u1 := w.re - z.re) (u2 := w.im - z.im) (v1 := t.re - z.re) (v2 := t.im - z.im) (fun e => ne h1 ⟨by grind, by grind⟩) (fun e => ne h3 ⟨by grind, by grind⟩) (fun e => ne h2 ⟨by grind, by grind⟩) ?_ ?_ ?_
        · grind
        · grind
        · grind
theorem thr_ne {p q r : Pt} (h1 : p ≠ q) (h2 : q ≠ r) (h3 : p ≠ r) : rby (thrQ p q r) ≠ 0 := by
  intro e
  have h := thr_dets h1 h2 h3
  unfold rby rbyQ thrQ at e
  dsimp only at e
  have hh : ∀ x : Rat, x * hlf = 0 → x = 0 := fun x e => (Rat.mul_eq_zero.1 e).resolve_right litH0
  cases k1 : decide (detE (roQ p) (roQ q) (roQ r) 1 2 3 = 0) with
  | false => rw [k1] at e; exact of_decide_eq_false k1 e
  | true => cases k2 : decide (detE (roQ p) (roQ q) (roQ r) 0 2 3 * hlf = 0) with
    | false => rw [k1, k2] at e; exact of_decide_eq_false k2 e
    | true =>
      rw [k1, k2] at e
      exact h ⟨of_decide_eq_true k1, hh _ (of_decide_eq_true k2), hh _ e⟩
section
variable {p q r : Pt} (hp : FitP p) (hq : FitP q) (hr : FitP r)
theorem hlf_sz : Sz 8 hlf := sz_lit (-1) 2 (by decide) (by decide) (by decide)
include hp hq hr in
theorem dt_sz (i j k : Nat) : Sz 100000 (detE (roQ p) (roQ q) (roQ r) i j k) := (det_szs (ro_sz hp) (ro_sz hq) (ro_sz hr) i j k).2.2.2.2.2
include hp hq hr in
theorem thr_sz : RSz 300000 (thrQ p q r) :=
  ⟨(dt_sz hp hq hr 1 2 3).mono (by decide), ⟨((dt_sz hp hq hr 0 2 3).mul hlf_sz).mono (by decide), ((dt_sz hp hq hr 0 1 3).mul hlf_sz).mono (by decide)⟩, (dt_sz hp hq hr 0 1 2).neg.mono (by decide)⟩
noncomputable def sEThrough (h0 : rby (thrQ p q r) ≠ 0) : Spec Tryz.prog :=
  Spec.auto Tryz.call285 [pV 0 p, pV 2 q, pV 4 r] (pM p ++ pM q ++ pM r) (rgV 6) (rgT (rone (thrQ p q r)))
    [(sRow hp).e, (sRow hq).e, (sRow hr).e, nNew (-1) 2 (by decide) (by decide) (by decide), (sDet123 (ro_sz hp) (ro_sz hq) (ro_sz hr)).e, (sDet023 (ro_sz hp) (ro_sz hq) (ro_sz hr)).e, (sMulR ((dt_sz hp hq hr 0 2 3).mono (by decide)) (hlf_sz.mono (by decide))).e,
      (sDet013 (ro_sz hp) (ro_sz hq) (ro_sz hr)).e, (sMulR ((dt_sz hp hq hr 0 1 3).mono (by decide)) (hlf_sz.mono (by decide))).e, mkR, (sDet012 (ro_sz hp) (ro_sz hq) (ro_sz hr)).e, fNeg (detE (roQ p) (roQ q) (roQ r) 0 1 2), (sRNormal ((thr_sz hp hq hr).mono (by decide)) rfl rfl h0).e]
    [(1, 8)] 3000 Tryz.func285 hmA (by kernel_rfl) (fun β => by kernel_rfl)
end
abbrev rowL (f : Nat → Rat) : List Lf := fC (f 0) ++ fC (f 1) ++ fC (f 2) ++ fC (f 3)
theorem sz1_le : sz 1 ≤ 1000000000 := Nat.le_trans (m := 1) (sz_le.2 (by decide)) (by decide)
theorem sz2_le : sz 2 ≤ 1000000000 := Nat.le_trans (m := 1) (sz_le.2 (by decide)) (by decide)
def sR3Small (n m : Int) (hn : -9223372036854775808 ≤ n ∧ n ≤ 9223372036854775807) (hm : -9223372036854775808 ≤ m ∧ m ≤ 9223372036854775807) (h0 : m ≠ 0) (sn : sz n ≤ 1000000000) (sm : sz m ≤ 1000000000) : Spec Tryz.prog :=
  Spec.auto Tryz.call24 [.one (svI n), .one (svI m)] [] (.one (.a (fC (Rat.divInt n m)))) [] [eWOf n hn, eWOf m hm, eFOf sn sm h0] [] 400 Tryz.func24 hmA (by kernel_rfl) (fun β => by kernel_rfl)
def sCRow {p : Pt} (hp : FitP p) : Spec Tryz.prog :=
  ⟨287, Tryz.call287, [svP p], [], .one (.a (rowL (roQ p))), [], fun β w hh => by
    cases p with
    | inf => exact spec_auto (evs := [(sR3Int 1 (by decide)).e, (sR3Int 0 (by decide)).e, (sR3Int 0 (by decide)).e, (sR3Int 0 (by decide)).e]) (Ns := [(3, 11)]) (m := 400) Tryz.func287 hmA (fun β => by kernel_rfl) (by kernel_rfl) β w hh
    | fin z => exact spec_auto (evs := [(sR4Norm (fitG_sz hp |>.mono (by decide))).e, (sR3Int 1 (by decide)).e]) (Ns := [(3, 11)]) (m := 400) Tryz.func287 hmA (fun β => by kernel_rfl) (by kernel_rfl) β w hh, by cases p <;> kernel_rfl⟩
section
variable {f g h : Nat → Rat} (hf : ∀ n, Sz KD5 (f n)) (hg : ∀ n, Sz KD5 (g n)) (hh : ∀ n, Sz KD5 (h n))
def drE (a b c d e : Nat) : List (Ev Tryz.prog) :=
  [(sR3Times (((hg b)).mono (by decide)) ((hh c).mono (by decide))).e, (sR3Times ((hg d).mono (by decide)) ((hh e).mono (by decide))).e, (sR3Minus (((hg b).mul (hh c)).mono (by decide)) (((hg d).mul (hh e)).mono (by decide))).e, (sR3Times ((hf a).mono (by decide)) ((((hg b).mul (hh c)).sub ((hg d).mul (hh e))).mono (by decide))).e]
include hf hg hh in
theorem dr_sz (a b c d e : Nat) : Sz 30000 (f a * (g b * h c - g d * h e)) := ((hf a).mul (((hg b).mul (hh c)).sub ((hg d).mul (hh e)))).mono (by decide)
def drEv (i j k : Nat) : List (Ev Tryz.prog) :=
  drE hf hg hh i j k k j ++ drE hf hg hh j i k k i ++ drE hf hg hh k i j j i ++ [(sR3Minus ((dr_sz hf hg hh i j k k j).mono (by decide)) ((dr_sz hf hg hh j i k k i).mono (by decide))).e, (sR3Plus (((dr_sz hf hg hh i j k k j).sub (dr_sz hf hg hh j i k k i)).mono (by decide)) ((dr_sz hf hg hh k i j j i).mono (by decide))).e]
abbrev drA (f g h : Nat → Rat) : SV := .one (.a (rowL f ++ rowL g ++ rowL h))
def drN : List (Nat × Nat) := [(1, 25), (2, 25), (3, 25), (4, 5)]
def sRD123 : Spec Tryz.prog := Spec.auto Tryz.call288 [drA f g h, iV 1, iV 2, iV 3] [] (.one (.a (fC (detR f g h 1 2 3)))) [] (drEv hf hg hh 1 2 3) drN 1600 Tryz.func288 hmA (by kernel_rfl) (fun β => by kernel_rfl)
def sRD023 : Spec Tryz.prog := Spec.auto Tryz.call288 [drA f g h, iV 0, iV 2, iV 3] [] (.one (.a (fC (detR f g h 0 2 3)))) [] (drEv hf hg hh 0 2 3) drN 1600 Tryz.func288 hmA (by kernel_rfl) (fun β => by kernel_rfl)
def sRD013 : Spec Tryz.prog := Spec.auto Tryz.call288 [drA f g h, iV 0, iV 1, iV 3] [] (.one (.a (fC (detR f g h 0 1 3)))) [] (drEv hf hg hh 0 1 3) drN 1600 Tryz.func288 hmA (by kernel_rfl) (fun β => by kernel_rfl)
def sRD012 : Spec Tryz.prog := Spec.auto Tryz.call288 [drA f g h, iV 0, iV 1, iV 2] [] (.one (.a (fC (detR f g h 0 1 2)))) [] (drEv hf hg hh 0 1 2) drN 1600 Tryz.func288 hmA (by kernel_rfl) (fun β => by kernel_rfl)
end
def thrR (p q r : Pt) : RQ := ⟨detR (roQ p) (roQ q) (roQ r) 1 2 3, ⟨-(detR (roQ p) (roQ q) (roQ r) 0 2 3 * Rat.divInt 1 2), -(detR (roQ p) (roQ q) (roQ r) 0 1 3 * Rat.divInt 1 2)⟩, -(detR (roQ p) (roQ q) (roQ r) 0 1 2)⟩
theorem thrR_eq (p q r : Pt) : thrR p q r = thrQ p q r := by
  unfold thrR thrQ
  rw [det_eq, det_eq, det_eq, det_eq, hlf, litH]
  congr 1
  congr 1
  · grind
  · grind
section
variable {p q r : Pt} (hp : FitP p) (hq : FitP q) (hr : FitP r)
theorem hf_sz : Sz 8 (Rat.divInt 1 2) := sz_lit 1 2 (by decide) (by decide) (by decide)
include hp hq hr in
theorem dq_sz (i j k : Nat) : Sz 100000 (detR (roQ p) (roQ q) (roQ r) i j k) := by rw [← det_eq]; exact dt_sz hp hq hr i j k
include hp hq hr in
theorem thrR_sz : RSz KC (thrR p q r) := by rw [thrR_eq]; exact (thr_sz hp hq hr).mono (by decide)
def sCNorm2 (h0 : rby (thrR p q r) ≠ 0) : Spec Tryz.prog :=
  (sCNormal (thrR_sz hp hq hr) rfl rfl h0).conv (.one (.a (cC (rone (thrR p q r))))) (congrArg rS (rqd_eq (thrR p q r) (rby (thrR p q r))))
noncomputable def sCThrough (h1 : ptB p q = false) (h2 : ptB q r = false) (h3 : ptB p r = false) (h0 : rby (thrR p q r) ≠ 0) : Spec Tryz.prog :=
  (Spec.auto Tryz.call119 [svP p, svP q, svP r] [] (.tup [.a (cC (rone (thrR p q r))), nI' 0]) []
    [eqEvPt h1, eqEvPt h2, eqEvPt h3, (sCRow hp).e, (sCRow hq).e, (sCRow hr).e, (sR3Small 1 2 (by decide) (by decide) (by decide) sz1_le sz2_le).e,
      (sRD023 (ro_sz hp) (ro_sz hq) (ro_sz hr)).e, (sR3Times ((dq_sz hp hq hr 0 2 3).mono (by decide)) (hf_sz.mono (by decide))).e, (sR3Neg (detR (roQ p) (roQ q) (roQ r) 0 2 3 * Rat.divInt 1 2)).e,
      (sRD013 (ro_sz hp) (ro_sz hq) (ro_sz hr)).e, (sR3Times ((dq_sz hp hq hr 0 1 3).mono (by decide)) (hf_sz.mono (by decide))).e, (sR3Neg (detR (roQ p) (roQ q) (roQ r) 0 1 3 * Rat.divInt 1 2)).e,
      (sRD123 (ro_sz hp) (ro_sz hq) (ro_sz hr)).e, (sRD012 (ro_sz hp) (ro_sz hq) (ro_sz hr)).e, (sR3Neg (detR (roQ p) (roQ q) (roQ r) 0 1 2)).e, (sCNorm2 hp hq hr h0).e]
    [(3, 8), (5, 12), (6, 7)] 3000 Tryz.func119 hmA (by kernel_rfl) (fun β => by kernel_rfl)).conv (.tup [.a (cC (rone (thrQ p q r))), nI' 0]) (congrArg (fun x => SV.tup [.a (cC (rone x)), nI' 0]) (thrR_eq p q r))
noncomputable def sCThroughT {t1 t2 t3 : Bool} (h1 : ptB p q = t1) (h2 : ptB q r = t2) (h3 : ptB p r = t3) (h : (t1 || (t2 || t3)) = true) : Spec Tryz.prog :=
  ⟨119, Tryz.call119, [svP p, svP q, svP r], [], .tup [.a c0C, nI' 181], [], fun β w hh => by
    cases t1
    · cases t2
      · cases t3
        · cases h
        · exact spec_auto (evs := [eqEvPt h1, eqEvPt h2, eqEvPt h3]) (Ns := []) (m := 400) Tryz.func119 hmA (fun β => by kernel_rfl) (by kernel_rfl) β w hh
      · exact spec_auto (evs := [eqEvPt h1, eqEvPt h2]) (Ns := []) (m := 400) Tryz.func119 hmA (fun β => by kernel_rfl) (by kernel_rfl) β w hh
    · exact spec_auto (evs := [eqEvPt h1]) (Ns := []) (m := 400) Tryz.func119 hmA (fun β => by kernel_rfl) (by kernel_rfl) β w hh, by kernel_rfl⟩
end
end Go.Proofs.YtfnmclgicjmapaaGreat.Y
end
section
namespace Go.Proofs.YtfnmclgicjmapaaGreat.Y
open Go Go.RowKit
set_option maxRecDepth 100000
def sETwice {x : Rat} (hx : Sz KB x) : Spec Tryz.prog :=
  Spec.auto Tryz.call375 [rV 0] [ratT x] (rV 1) [ratT (x + x)] [mkR, fAdd hx hx] [] 400 Tryz.func375 hmA (by kernel_rfl) (fun β => by kernel_rfl)
abbrev KS3 : Nat := 10000000
noncomputable def sSum3 {x y z : Rat} (hx : Sz KS3 x) (hy : Sz KS3 y) (hz : Sz KS3 z) : OSpec Tryz.prog :=
  OSpec.auto Tryz.call374 [.one (.c (.b (.s 3 0 3 3)))] [(ratT x).ob, (ratT y).ob, (ratT z).ob, .box [.b (.z 0 0), .b (.z 1 0), .b (.z 2 0)] 164] (rV 4) [0 + x + y + z]
    [sum0 (hx.mono (by decide)), sumN ((sz_zero.add hx).mono (by decide)) (hy.mono (by decide)), sumN (((sz_zero.add hx).add hy).mono (by decide)) (hz.mono (by decide))] [] 800 Tryz.func374 hmA (by kernel_rfl) (fun β => by kernel_rfl)
def valQ (r : RQ) (z : GQ) : Rat := 0 + r.a * gnorm z + ((gmul r.b z).re + (gmul r.b z).re) + r.c
noncomputable def sValue {r : RQ} {z : GQ} (h : RSz KC r) (hz : GSz KC z) : Spec Tryz.prog :=
  Spec.auto Tryz.call297 [rgV 0, nV 4] (rgT r ++ gM z) (rV 6) [ratT (valQ r z)]
    [(sMul (h.b.mono (by decide)) (hz.mono (by decide))).e, (sParts (gmul r.b z)).e, (sNorm (hz.mono (by decide))).e, (sMulR (h.a.mono (by decide)) (hz.norm.mono (by decide))).e, (sETwice ((h.b.mul hz).1.mono (by decide))).e,
      (sSum3 ((h.a.mul hz.norm).mono (by decide)) (((h.b.mul hz).1.add (h.b.mul hz).1).mono (by decide)) (h.c.mono (by decide))).e] [(2, 12)] 800 Tryz.func297 hmA (by kernel_rfl) (fun β => by kernel_rfl)
def sidQ (r : RQ) : Pt → Rat
  | .inf => r.a
  | .fin z => valQ r z
noncomputable def sESide {r : RQ} {p : Pt} (h : RSz KC r) (hp : FitP p) : Spec Tryz.prog :=
  ⟨300, Tryz.call300, [rgV 0, pV 4 p], rgT r ++ pM p, .one (nI' (sidQ r p).num.sign), [], fun β w hh => by
    cases p with
    | inf => exact spec_auto (args := [rgV 0, pV 4 .inf]) (obs := rgT r ++ pM .inf) (evs := [nSign (x := r.a) rfl]) (Ns := []) (m := 400) Tryz.func300 hmA (fun β => by kernel_rfl) (by kernel_rfl) β w hh
    | fin z => exact spec_auto (args := [rgV 0, pV 4 (.fin z)]) (obs := rgT r ++ pM (.fin z)) (evs := [(sValue h (fitG_sz hp |>.mono (by decide))).e, nSign (x := valQ r z) rfl]) (Ns := []) (m := 400) Tryz.func300 hmA (fun β => by kernel_rfl) (by kernel_rfl) β w hh, by cases p <;> kernel_rfl⟩
theorem cmp_self (x : Rat) : cmpQ x x = 0 := by
  have h : (!(cmpQ x x == 0)) = false ∨ (!(cmpQ x x == 0)) = true := by cases (!(cmpQ x x == 0)) <;> simp
  unfold cmpQ
  simp
theorem gsub_self (z : GQ) : gzero (gsub z z) = true := by
  rw [gz_true]
  refine GQ.ext2 ?_ ?_ <;> (simp only [gsub, g0]; grind)
noncomputable def sRSame {r : RQ} (h : RSz KC r) : Spec Tryz.prog :=
  Spec.auto Tryz.call373 [rgV 0, rgV 4] (rgT r ++ rgT r) (tB' true) [] [nCmp (h.a.mono (by decide)) (h.a.mono (by decide)) (cmp_self r.a), (sSame (h.b.mono (by decide)) (h.b.mono (by decide)) (gsub_self r.b)).e, nCmp (h.c.mono (by decide)) (h.c.mono (by decide)) (cmp_self r.c)] [] 400 Tryz.func373 hmA (by kernel_rfl) (fun β => by kernel_rfl)
structure MayC (r : RQ) : Prop where
  fit : FitC r
  pow : decide ((rpow r).num.sign ≤ 0) = false
  one : rone r = r
theorem MayC.sz {r : RQ} (h : MayC r) : RSz KC r := mk_sz h.fit.1 h.fit.2.1 h.fit.2.2
def Spec.newsTo {P : Program} (S : Spec P) (l : List Thing) (h : S.news = l) : Spec P :=
  ⟨S.f, S.en, S.args, S.obs, S.res, l, fun β w hh => by rw [← h]; exact S.ok β w hh, by rw [← h]; exact S.closed⟩
noncomputable def sRNorm1 {r : RQ} (h : MayC r) : Spec Tryz.prog :=
  (sRNormal h.sz rfl rfl (rby_ne h.pow)).newsTo (rgT r) (by show rgT (rone r) = rgT r; rw [h.one])
noncomputable def sWheel {r : RQ} (h : MayC r) : Spec Tryz.prog :=
  Spec.auto Tryz.call295 [.one (.a (cC r))] [] (.tup [.a [.b (.z 0 0), .b (.z 1 0), .b (.z 2 0), .b (.z 3 0)], .c (.b (.v (.bool true)))]) (rgT r)
    [(ofG h.fit.2.1).e, (sRatIn h.fit.1).e, (sRatIn h.fit.2.2).e, dEq r.a, dEq r.c, (sPower h.sz).e, nSign (x := rpow r) rfl, .eqv 37 (.bool (decide ((rpow r).num.sign ≤ 0))) (.bool false) (sgn_le h.pow), (sRNorm1 h).e, (sRSame h.sz).e] [(2, 9), (5, 5)] 1200 Tryz.func295 hmA (by kernel_rfl) (fun β => by kernel_rfl)
noncomputable def sCCheck {r : RQ} (h : MayC r) : Spec Tryz.prog :=
  Spec.auto Tryz.call136 [.one (.a (cC r))] [] (.one (nI' 0)) [] [(sWheel h).e] [] 400 Tryz.func136 hmA (by kernel_rfl) (fun β => by kernel_rfl)
theorem sgn_lt {n : Int} {t : Bool} (h : decide (n < 0) = t) : Value.bool (decide (n < 0)) = .bool t := by rw [h]
noncomputable def sdE {r : RQ} {p : Pt} (h : MayC r) (hp : FitP p) : List (Ev Tryz.prog) := [(sWheel h).e, (sSpotP p hp).e, (sESide h.sz hp).e]
noncomputable def sCSideN {r : RQ} {p : Pt} (h : MayC r) (hp : FitP p) (hs : decide ((sidQ r p).num.sign < 0) = true) : Spec Tryz.prog :=
  Spec.auto Tryz.call137 [.one (.a (cC r)), svP p] [] (.tup [nI' (-1), nI' 0]) [] (sdE h hp ++ [.eqv 32 (.bool (decide ((sidQ r p).num.sign < 0))) (.bool true) (sgn_lt hs)]) [] 400 Tryz.func137 hmA (by kernel_rfl) (fun β => by kernel_rfl)
end Go.Proofs.YtfnmclgicjmapaaGreat.Y
end
