/- CiF, Join, CiG, Open, OpnB, Yd, G1, CmA, CtA. -/
import Derived.Shelf.Strings.Builder1
import Derived.Shelf.Strings.Builder2
import Derived.Shelf.Strings.OnBuilder
import Derived.ProofKit
import Derived.OpenShut
import Derived.ShutString
import Derived.ChangeOld
import Derived.Below
import Derived.Test.YtfnmclgicjmapaaGreatPk13
set_option linter.unnecessarySimpa false
set_option linter.unusedVariables false
set_option linter.unusedSimpArgs false
section
namespace Go.Proofs.YtfnmclgicjmapaaGreat.Y
open Go Go.RowKit
set_option maxRecDepth 100000
theorem den_three (β : Env) (n : Nat) (b : Bool) (p q : Pl) : (SV.one (.a [.b (.v (.bool b)), .b (.z n 0), .b (.z (n + 1) 0)])).den (extE β n [p, q]) = .agg #[.bool b, .pointer (p.v 0), .pointer (q.v 0)] := by
  have h1 := extE_in (β := β) (n := n) (i := 0) (xs := [p, q]) rfl
  have h2 := extE_in (β := β) (n := n) (i := 1) (xs := [p, q]) rfl
  rw [Nat.add_zero] at h1
  simp [SV.den, SC.den, Lf.den, Lf0.den, h1, h2]
def rdPlace (d t : Nat) (e : TypeId) (cs : List Cd) (o : Nat) (b : Bool) (x y : Rat) (hb : cs[o]? = some (.v (.bool b))) (hx : cs[o + 1]? = some (.r x)) (hy : cs[o + 2]? = some (.r y)) (k n : Nat) : Ev Tryz.prog :=
  .rd d (.load 205 (.tmp t)) (fun β => [.pointer (some ⟨(β k).b, o, none⟩)]) [(k, (rowT e cs).ob)] n (.one (.a [.b (.v (.bool b)), .b (.z n 0), .b (.z (n + 1) 0)])) [ratM x, ratM y] (fun β w h ρ op ho hx' => by
    have h1 : RW e cs w (β k) := h (k, (rowT e cs).ob) (by simp)
    have h2 : ρ (.tmp t) = .pointer (some ⟨(β k).b, o, none⟩) := by simpa [Op.operands] using hx'
    have p1 := cdOk_at h1.2.1.1 hx
    have p2 := cdOk_at h1.2.1.1 hy
    rw [Nat.zero_add] at p1 p2
    refine ⟨[cellPl (β k) (o + 1), cellPl (β k) (o + 2)], w, fun g hg c hc => .inr ⟨(k, (rowT e cs).ob), by simp, rfl, ?_⟩, ?_, ⟨cellPl_or p1, cellPl_or p2, trivial⟩, Below.refl _ _⟩
    · rcases List.mem_cons.1 hg with rfl | hg
      · exact cellPl_F p1 hc
      · obtain rfl := List.mem_singleton.1 hg
        exact cellPl_F p2 hc
    · have hr : w.rangeAt (β k).b o [.bool b, .pointer ((β k).v (o + 1)), .pointer ((β k).v (o + 2))] := fun j v hv => by
        match j, hv with
        | 0, hv => simp only [List.getElem?_cons_zero] at hv; obtain rfl := Option.some.inj hv; exact rw_cell h1 hb
        | 1, hv => simp only [List.getElem?_cons_succ, List.getElem?_cons_zero] at hv; obtain rfl := Option.some.inj hv; exact rw_cell h1 hx
        | 2, hv => simp only [List.getElem?_cons_succ, List.getElem?_cons_zero] at hv; obtain rfl := Option.some.inj hv; exact rw_cell h1 hy
        | j + 3, hv => simp at hv
      have hl := run_loadAt_mid (P := Tryz.prog) w (β k).b o 205 _ _ hr Tryz.underlying205 (by kernel_rfl) (by kernel_rfl)
      rw [den_three]
      unfold execOp
      rw [ho]
      simp only [h2]
      simp [hl, Result.andThen]
      exact ⟨rfl, rfl⟩)
def dPlace (e : TypeId) (cs : List Cd) : Ev Tryz.prog := .dyn (fun o xs ob => match o.op with
  | .load T (.tmp _) => Nat.beq T 205 && isAd (xs.getD 0 undefS) && (match ob[(adOf (xs.getD 0 undefS)).1]? with | some (.th _) => true | _ => false)
  | _ => false) fun o xs ob => match o.op with
  | .load _ (.tmp t) => lit (adOf (xs.getD 0 undefS)).1 fun k => lit (adOf (xs.getD 0 undefS)).2 fun off => lit ob.length fun n => match hb : cs[off]?, hx : cs[off + 1]?, hy : cs[off + 2]? with
    | some (.v (.bool b)), some (.r x), some (.r y) => rdPlace (o.dst.getD 0) t e cs off b x y hb hx hy k n
    | _, _, _ => .eqv 0 undef undef rfl
  | _ => .eqv 0 undef undef rfl
def rdIdxP (d t : Nat) (e : TypeId) (cs : List Cd) (ix : Operand) (n j : Nat) (hj : Nat.blt j n = true) (k : Nat) : Ev Tryz.prog :=
  .rd d (.indexAddr 285 (.tmp t) ix) (fun β => [.slice ((β k).v cs.length) n ((β k).c cs.length), .int .i64 (j : Int)]) [(k, (rowT e cs).ob)] 0 (.one (.c (.b (.p k (j * 3))))) [] (fun β w h ρ op ho hx' => by
    have h1 : RW e cs w (β k) := h (k, (rowT e cs).ob) (by simp)
    have h2 : ρ (.tmp t) = .slice (some ⟨(β k).b, 0, none⟩) n ((β k).c cs.length) ∧ ρ ix = .int .i64 (j : Int) := by
      rw [h1.2.1.2] at hx'
      simpa [Op.operands] using hx'
    rw [Nat.blt_eq] at hj
    refine ⟨[], w, (fun _ h => by cases h), ?_, trivial, Below.refl _ _⟩
    rw [extE_nil]
    unfold execOp
    rw [ho]
    simp only [h2.1, h2.2]
    have hi := run_indexAt_slice (P := Tryz.prog) w 285 ⟨(β k).b, 0, none⟩ n ((β k).c cs.length) .i64 (j : Int) (by kernel_rfl)
    have hsz : (sizeOf (Tryz.prog.elem 285)).run Tryz.prog w = .ok 3 w := by kernel_rfl
    rw [if_pos ⟨by omega, by omega⟩, hsz, Result.andThen_ok, Int.toNat_natCast] at hi
    have ha : (⟨(β k).b, 0, none⟩ : Addr).add (j * 3) = ⟨(β k).b, j * 3, none⟩ := by
      simp [Addr.add]
      exact fun h => h.symm
    rw [ha] at hi
    simp only [Sem.run_bind, hi, Result.andThen_ok]
    rfl)
def dIdxP (e : TypeId) (cs : List Cd) : Ev Tryz.prog := .dyn (fun o xs ob => match o.op with
  | .indexAddr _ (.tmp _) _ => isY (xs.getD 0 undefS)
  | _ => false) fun o xs ob => match o.op with
  | .indexAddr _ (.tmp t) ix => lit (yOf (xs.getD 0 undefS)).1 fun k => lit (yOf (xs.getD 0 undefS)).2 fun n => lit (intS (xs.getD 1 undefS)) fun j => if h : Nat.blt j n = true then rdIdxP (o.dst.getD 0) t e cs ix n j h k else .eqv 0 undef undef rfl
  | _ => .eqv 0 undef undef rfl
theorem place_some : (Tryz.prog.info? 205).isSome = true := by kernel_rfl
noncomputable def appP : AppT Tryz.prog :=
  ⟨285, 205, (Tryz.prog.info? 205).get place_some, .agg #[.bool false, .pointer none, .pointer none], 3, 24, Tryz.underlying285, (Option.some_get place_some).symm, by kernel_rfl, by kernel_rfl, by kernel_rfl, rfl, by decide, by decide⟩
def plCd (p : Pt) : List Cd := [.v (.bool (pI p)), .r (pG p).re, .r (pG p).im]
abbrev pl3 (p q r : Pt) : List Cd := plCd p ++ plCd q ++ plCd r
abbrev sp3A : List SV := [.one (.c (.b (.s 0 0 3 3)))]
def sp3L (p q r : Rw) : List Lf := lsX p.C ++ lsX q.C ++ lsX r.C
abbrev PLT : TypeId := 205
def sp3O (p q r : Pt) : List (Nat × Ob) :=
  [(18, .row [.b (.v (.bool (pI p))), .b (.z 2 0), .b (.z 3 0), .b (.v (.bool (pI q))), .b (.z 8 0), .b (.z 9 0), .b (.v (.bool (pI r))), .b (.z 14 0), .b (.z 15 0)] PLT 3 3),
    (2, (ratM (pG p).re).ob), (3, (ratM (pG p).im).ob), (8, (ratM (pG q).re).ob), (9, (ratM (pG q).im).ob), (14, (ratM (pG r).re).ob), (15, (ratM (pG r).im).ob)]
noncomputable def sp3E {p q r : Pt} (hp : FitP p) (hq : FitP q) (hr : FitP r) : List (Ev Tryz.prog) := [(sSpotP p hp).e, .app appP, (sSpotP q hq).e, .app appP, (sSpotP r hr).e, .app appP]
theorem sp3_eqs {p q r : Pt} (hp : FitP p) (hq : FitP q) (hr : FitP r) (β : Env) :
    (allS Tryz.prog Tryz.f284 sp3A [.box (sp3L p.w q.w r.w) 47] (sp3E hp hq hr) [] 800 (.tup [.c (.b (.r 18 3)), .c (.b (.v (.bool true)))]) (sp3O p q r) β).map Prod.fst =
    (allS Tryz.prog Tryz.f284 sp3A [.box (sp3L p.w q.w r.w) 47] (sp3E hp hq hr) [] 800 (.tup [.c (.b (.r 18 3)), .c (.b (.v (.bool true)))]) (sp3O p q r) β).map Prod.snd := by kernel_rfl
theorem pt_no_rat {w : World} {b : Nat} {c0 : Value} {b1 : Bool} {l : List Value} {t : TypeId} {x : Rat} (h : w.heap[b]? = some (.cells (c0 :: .bool b1 :: l).toArray t (0, 0))) (k : RatAt w b 0 x) : False := by
  obtain ⟨A, m, cap, _, h1, _⟩ := k.2.1.open_
  have h2 := cell_lay (o := 1) h rfl
  rw [Nat.zero_add, h2] at h1
  cases h1
theorem or_cd {w : World} {g G : Pl} {x : Rat} {i : Nat} (h : OR0 x w g) (hv : G.v i = g.v 0) (hF : ∀ c, g.F c → G.F c) : cdP w G i (.r x) := by
  rcases h with ⟨h1, _, h3⟩ | ⟨b, h1, h2⟩
  · exact .inl ⟨hv.trans h1, h3⟩
  · exact .inr ⟨b, hv.trans h1.1, hF b ((h1.2 b).2 rfl), h2⟩
theorem spots3_ok {p q r : Pt} (hp : FitP p) (hq : FitP q) (hr : FitP r) (β : Env) (w : World) (hh : (Ob.box (sp3L p.w q.w r.w) 47).holds β w (β 0)) :
    Calls Tryz.prog 284 (sp3A.map (SV.den β)).toArray w fun e u => ∃ xs : List Pl, (∀ x ∈ xs, ∀ c, x.F c → w.heap.size ≤ c) ∧ e = .returned ((SV.tup [.c (.b (.y 1 9 3)), .c (.b (.v (.bool true)))]).den (extE β 1 xs)) ∧ newHold u [rowT PLT (pl3 p q r)] xs ∧ Below w.heap.size w u := by
  refine (sx (P := Tryz.prog) sp3A [.box (sp3L p.w q.w r.w) 47] (sp3E hp hq hr) [] 800 (.tup [.c (.b (.r 18 3)), .c (.b (.v (.bool true)))]) (sp3O p q r) Tryz.func284 hmA (fun β => ok_of_maps (sp3_eqs hp hq hr β)) (by kernel_rfl) (by kernel_rfl) β w (fun k o ho => ?_)).mono ?_
  · cases k with
    | zero => simp only [List.getElem?_cons_zero] at ho; obtain rfl := Option.some.inj ho; exact hh
    | succ k => simp at ho
  · rintro e u ⟨β', q', obj, e1, rfl, e2, e4, e5, g⟩
    have hnew : ∀ y ∈ sp3O p q r, ∀ c, (β' y.1).F c → c ≠ (β 0).b → w.heap.size ≤ c := fun y hy c hc hne => by
      rcases e4 y hy c hc with h | ⟨i, hi, h⟩
      · exact h
      · obtain rfl : i = 0 := by simp only [List.length_singleton] at hi; omega
        exact absurd ((hh.1.1 c).1 h) hne
    have hu : u.heap[(β 0).b]? = some (.cells ((sp3L p.w q.w r.w).map (Lf.den β)).toArray 47 (0, 0)) := by rw [g.bel.block _ (heap_lt hh.2)]; exact hh.2
    have hrat : ∀ (k : Nat) (x : Rat), (k, (ratM x).ob) ∈ sp3O p q r → OR0 x u (β' k) ∧ ∀ c, (β' k).F c → w.heap.size ≤ c := fun k x hk => by
      have h : OR0 x u (β' k) := e5 _ hk
      refine ⟨h, fun c hc => ?_⟩
      rcases h with ⟨_, h2, _⟩ | ⟨b, hb, hx⟩
      · exact absurd hc (h2 c)
      · have ec := (hb.2 c).1 hc
        subst ec
        refine hnew _ hk c hc fun e => ?_
        rw [e] at hx
        exact pt_no_rat hu hx
    obtain ⟨o2, n2⟩ := hrat 2 (pG p).re (by simp [sp3O])
    obtain ⟨o3, n3⟩ := hrat 3 (pG p).im (by simp [sp3O])
    obtain ⟨o8, n8⟩ := hrat 8 (pG q).re (by simp [sp3O])
    obtain ⟨o9, n9⟩ := hrat 9 (pG q).im (by simp [sp3O])
    obtain ⟨o14, n14⟩ := hrat 14 (pG r).re (by simp [sp3O])
    obtain ⟨o15, n15⟩ := hrat 15 (pG r).im (by simp [sp3O])
    obtain ⟨hone, cur, hcur, hcl, hn, hcm, hsz, htake⟩ := e5 (18, .row [.b (.v (.bool (pI p))), .b (.z 2 0), .b (.z 3 0), .b (.v (.bool (pI q))), .b (.z 8 0), .b (.z 9 0), .b (.v (.bool (pI r))), .b (.z 14 0), .b (.z 15 0)] PLT 3 3) (by simp [sp3O])
    have hb18 : w.heap.size ≤ (β' 18).b := hnew _ (by simp [sp3O]) _ ((hone.1 _).2 rfl) fun e => by
      rw [e, hu] at hcur
      have := (Obj.cells.inj (Option.some.inj hcur)).2.1
      exact absurd this (by decide)
    refine ⟨[⟨(β' 18).b, fun i => match i with | 1 => (β' 2).v 0 | 2 => (β' 3).v 0 | 4 => (β' 8).v 0 | 5 => (β' 9).v 0 | 7 => (β' 14).v 0 | 8 => (β' 15).v 0 | 9 => some ⟨(β' 18).b, 0, none⟩ | _ => none, fun _ => (β' 18).c 0,
      fun c => c = (β' 18).b ∨ (β' 2).F c ∨ (β' 3).F c ∨ (β' 8).F c ∨ (β' 9).F c ∨ (β' 14).F c ∨ (β' 15).F c, fun _ => undef⟩], fun x hx c hc => ?_, rfl, ⟨⟨⟨.inl rfl, cur, hcur, ?_⟩, ⟨⟨trivial, or_cd o2 rfl fun c hc => .inr (.inl hc), or_cd o3 rfl fun c hc => .inr (.inr (.inl hc)), trivial, or_cd o8 rfl fun c hc => .inr (.inr (.inr (.inl hc))), or_cd o9 rfl fun c hc => .inr (.inr (.inr (.inr (.inl hc)))), trivial, or_cd o14 rfl fun c hc => .inr (.inr (.inr (.inr (.inr (.inl hc))))), or_cd o15 rfl fun c hc => .inr (.inr (.inr (.inr (.inr (.inr hc))))), trivial⟩, rfl⟩, fun c hc => ?_⟩, trivial⟩, g.bel⟩
    · obtain rfl := List.mem_singleton.1 hx
      rcases hc with rfl | hc | hc | hc | hc | hc | hc
      · exact hb18
      · exact n2 c hc
      · exact n3 c hc
      · exact n8 c hc
      · exact n9 c hc
      · exact n14 c hc
      · exact n15 c hc
    · have : (pl3 p q r).length = 3 * 3 := rfl
      rw [this, htake]
      rfl
    · rcases hc with rfl | hc | hc | hc | hc | hc | hc
      · exact heap_lt hcur
      · exact (or_stable _).lt u _ o2 c hc
      · exact (or_stable _).lt u _ o3 c hc
      · exact (or_stable _).lt u _ o8 c hc
      · exact (or_stable _).lt u _ o9 c hc
      · exact (or_stable _).lt u _ o14 c hc
      · exact (or_stable _).lt u _ o15 c hc
noncomputable def sSpots3 {p q r : Pt} (hp : FitP p) (hq : FitP q) (hr : FitP r) : CSpec Tryz.prog :=
  ⟨284, Tryz.call284, sp3A, sp3L p.w q.w r.w, 47, .tup [.c (.b (.y 1 9 3)), .c (.b (.v (.bool true)))], [rowT PLT (pl3 p q r)], spots3_ok hp hq hr, by kernel_rfl⟩
theorem spotsNo_ok (p q r : Pp) (h : (p.B && (q.B && r.B)) = false) (β : Env) (w : World) (hh : (Ob.box (sp3L p.w q.w r.w) 47).holds β w (β 0)) :
    Calls Tryz.prog 284 (sp3A.map (SV.den β)).toArray w fun e w' => e = .returned (.tuple #[.slice none 0 0, .bool false]) ∧ Below w.heap.size w w' := by
  cases h1 : p.B with
  | false => exact bspec_ok [(sSpotW p h1).e] [] 800 Tryz.func284 hmA (fun β => by kernel_rfl) (by kernel_rfl) (fun β => rfl) β w hh
  | true => cases h2 : q.B with
    | false => exact bspec_ok [(sSpotW p h1).e, .app appP, (sSpotW q h2).e] [] 800 Tryz.func284 hmA (fun β => by kernel_rfl) (by kernel_rfl) (fun β => rfl) β w hh
    | true => cases h3 : r.B with
      | false => exact bspec_ok [(sSpotW p h1).e, .app appP, (sSpotW q h2).e, .app appP, (sSpotW r h3).e] [] 800 Tryz.func284 hmA (fun β => by kernel_rfl) (by kernel_rfl) (fun β => rfl) β w hh
      | true => rw [h1, h2, h3] at h; cases h
noncomputable def sSpotsNo (p q r : Pp) (h : (p.B && (q.B && r.B)) = false) : BSpec Tryz.prog :=
  ⟨284, Tryz.call284, sp3A, sp3L p.w q.w r.w, 47, .tuple #[.slice none 0 0, .bool false], spotsNo_ok p q r h, by kernel_rfl, fun _ => rfl⟩
section
variable {p q r : Pt} (hp : FitP p) (hq : FitP q) (hr : FitP r)
include hp hq hr in
theorem thr1_sz (h0 : rby (thrQ p q r) ≠ 0) : RSz KC (rone (thrQ p q r)) := (rnm_sz (thr_sz hp hq hr) (rby_sz (thr_sz hp hq hr) _ _) h0).mono (by decide)
theorem thr1_ne (h0 : rby (thrQ p q r) ≠ 0) : rby (rone (thrQ p q r)) ≠ 0 := by
  rw [rby_one h0]
  decide
noncomputable def sRTold2 (h0 : rby (thrQ p q r) ≠ 0) : Spec Tryz.prog :=
  (sRTold (thr1_sz hp hq hr h0) rfl rfl (thr1_ne h0)).conv (ciA (rone (thrQ p q r))) (congrArg ciA (rone_rone h0))
abbrev idP (p q r : Pt) : List (Ev Tryz.prog) := [dIdxP PLT (pl3 p q r), dPlace PLT (pl3 p q r)]
noncomputable def sCiThrough (h1 : ptB p q = false) (h2 : ptB q r = false) (h3 : ptB p r = false) (h0 : rby (thrQ p q r) ≠ 0) : Spec Tryz.prog :=
  Spec.auto Tryz.call116 [svP p, svP q, svP r] [] (ciA (rone (thrQ p q r))) [] ([(sSpots3 hp hq hr).e, eqEvPt h1, eqEvPt h2, eqEvPt h3] ++ idP p q r ++ idP p q r ++ idP p q r ++ [(sEThrough hp hq hr h0).e, (sRTold2 hp hq hr h0).e])
    [(6, 13)] 1200 Tryz.func116 hmA (by kernel_rfl) (fun β => by kernel_rfl)
noncomputable def sCiThroughT {t1 t2 t3 : Bool} (h1 : ptB p q = t1) (h2 : ptB q r = t2) (h3 : ptB p r = t3) (h : (t1 || (t2 || t3)) = true) : Spec Tryz.prog :=
  ⟨116, Tryz.call116, [svP p, svP q, svP r], [], .tup [.a c0C, nI' 181], [], fun β w hh => by
    cases t1
    · cases t2
      · cases t3
        · cases h
        · exact spec_auto (evs := [(sSpots3 hp hq hr).e, eqEvPt h1, eqEvPt h2, eqEvPt h3]) (Ns := []) (m := 800) Tryz.func116 hmA (fun β => by kernel_rfl) (by kernel_rfl) β w hh
      · exact spec_auto (evs := [(sSpots3 hp hq hr).e, eqEvPt h1, eqEvPt h2]) (Ns := []) (m := 800) Tryz.func116 hmA (fun β => by kernel_rfl) (by kernel_rfl) β w hh
    · exact spec_auto (evs := [(sSpots3 hp hq hr).e, eqEvPt h1]) (Ns := []) (m := 800) Tryz.func116 hmA (fun β => by kernel_rfl) (by kernel_rfl) β w hh, by kernel_rfl⟩
end
noncomputable def sCiThroughNo (p q r : Pp) (h : (p.B && (q.B && r.B)) = false) : Spec Tryz.prog :=
  Spec.auto Tryz.call116 [.one (.a (lsX p.w.C)), .one (.a (lsX q.w.C)), .one (.a (lsX r.w.C))] [] zA [] [(sSpotsNo p q r h).e] [] 800 Tryz.func116 hmA (by kernel_rfl) (fun β => by kernel_rfl)
end Go.Proofs.YtfnmclgicjmapaaGreat.Y
end
section
namespace Go.Proofs.YtfnmclgicjmapaaGreat
open Go Go.Shelf Go.RowKit
open Go.Proofs.YtfnmclgicjmapaaGreat.Y
set_option maxRecDepth 100000
def joinRen : Go.Shelf.Ren := ⟨fun | 156 => 365 | 165 => 402 | 166 => 403 | 169 => 404 | 240 => 411 | 241 => 412 | 276 => 413 | 277 => 414 | n => n, fun | 31 => 361 | 9 => 9 | 3 => 3 | 4 => 4 | 0 => 0 | 20 => 20 | 72 => 396 | 76 => 400 | 70 => 394 | 37 => 315 | 75 => 399 | 127 => 407 | 164 => 408 | 5 => 5 | 80 => 376 | n => n, fun | n => n⟩
theorem joinLays : Go.Proofs.Lays.n156 Tryz.prog joinRen := {
  mixed := by kernel_rfl
  f156 := Tryz.func365.trans (congrArg some (by kernel_rfl))
  f165 := Tryz.func402.trans (congrArg some (by kernel_rfl))
  f166 := Tryz.func403.trans (congrArg some (by kernel_rfl))
  f169 := Tryz.func404.trans (congrArg some (by kernel_rfl))
  f240 := Tryz.func411.trans (congrArg some (by kernel_rfl))
  f241 := Tryz.func412.trans (congrArg some (by kernel_rfl))
  f276 := Tryz.func413.trans (congrArg some (by kernel_rfl))
  f277 := Tryz.func414.trans (congrArg some (by kernel_rfl))
  t0 := Tryz.underlying0
  a0 := Tryz.isAgg0
  z0 := Tryz.sizeOf0
  v0 := Tryz.zeroValue0
  t3 := Tryz.underlying3
  a3 := Tryz.isAgg3
  z3 := Tryz.sizeOf3
  v3 := Tryz.zeroValue3
  t4 := Tryz.underlying4
  a4 := Tryz.isAgg4
  z4 := Tryz.sizeOf4
  v4 := Tryz.zeroValue4
  t9 := Tryz.underlying9
  a9 := Tryz.isAgg9
  z9 := Tryz.sizeOf9
  v9 := Tryz.zeroValue9
  t20 := Tryz.underlying20
  a20 := Tryz.isAgg20
  z20 := Tryz.sizeOf20
  v20 := Tryz.zeroValue20
  t31 := Tryz.underlying361
  a31 := Tryz.isAgg361
  z31 := Tryz.sizeOf361
  v31 := Tryz.zeroValue361
  t37 := Tryz.underlying315
  a37 := Tryz.isAgg315
  z37 := Tryz.sizeOf315
  v37 := Tryz.zeroValue315
  t70 := Tryz.underlying394
  a70 := Tryz.isAgg394
  z70 := Tryz.sizeOf394
  v70 := Tryz.zeroValue394
  t72 := Tryz.underlying396
  a72 := Tryz.isAgg396
  z72 := Tryz.sizeOf396
  v72 := Tryz.zeroValue396
  t75 := Tryz.underlying399
  a75 := Tryz.isAgg399
  z75 := Tryz.sizeOf399
  v75 := Tryz.zeroValue399
  t76 := Tryz.underlying400
  a76 := Tryz.isAgg400
  z76 := Tryz.sizeOf400
  v76 := Tryz.zeroValue400
  t127 := Tryz.underlying407
  a127 := Tryz.isAgg407
  z127 := Tryz.sizeOf407
  v127 := Tryz.zeroValue407
  t164 := Tryz.underlying408
  a164 := Tryz.isAgg408
  z164 := Tryz.sizeOf408
  v164 := Tryz.zeroValue408 }
theorem joinExtra : Builder.Extra Tryz.prog joinRen := {
  sizeBuilder := by kernel_rfl
  liesBuilder := by kernel_rfl
  t5 := Tryz.underlying5
  a5 := Tryz.isAgg5
  z5 := Tryz.sizeOf5
  v5 := Tryz.zeroValue5
  infoByte := by kernel_rfl
  cellsByte := by kernel_rfl
  sizeByte := by kernel_rfl
  neB5 := by decide }
theorem join_ok (bk o c : Nat) (xs : List ByteArray) (sep : ByteArray) (w : World) (hcells : ∀ (j : Nat) x, xs[j]? = some x → w.cell? ⟨bk, o + j, none⟩ = some (.string x)) (hbk : bk < w.heap.size) (hN : xs.length ≤ 140737488355328) (hcap : xs.length ≤ c) (hlen : (Lib.join (xs.map (·.data.toList)) sep.data.toList).length ≤ 140737488355328) :
    Calls Tryz.prog 365 #[.slice (some ⟨bk, o, none⟩) xs.length c, .string sep] w fun e w' => e = .returned (.string ⟨(Lib.join (xs.map (·.data.toList)) sep.data.toList).toArray⟩) ∧ Below w.heap.size w w' := Any.strings_Join joinLays joinExtra bk o c xs sep w hcells hbk hN hcap hlen
theorem join3_ok (a b c sep r : ByteArray) (hr : (⟨(Lib.join [a.data.toList, b.data.toList, c.data.toList] sep.data.toList).toArray⟩ : ByteArray) = r) (hl : (Lib.join [a.data.toList, b.data.toList, c.data.toList] sep.data.toList).length ≤ 140737488355328) (β : Env) (w : World) (hh : (Ob.box [.b (.v (.string a)), .b (.v (.string b)), .b (.v (.string c))] 9).holds β w (β 0)) :
    Calls Tryz.prog 365 (([.one (.c (.b (.s 0 0 3 3))), .one (.c (.b (.v (.string sep))))] : List SV).map (SV.den β)).toArray w fun e w' => e = .returned (.string r) ∧ Below w.heap.size w w' := by
  rw [← hr]
  refine join_ok (β 0).b 0 3 [a, b, c] sep w (fun j x hx => ?_) (heap_lt hh.2) (show 3 ≤ 140737488355328 by decide) (Nat.le_refl _) hl
  refine cell_lay hh.2 ?_
  rw [Nat.zero_add]
  match j, hx with
  | 0, hx => simp only [List.getElem?_cons_zero] at hx; obtain rfl := Option.some.inj hx; rfl
  | 1, hx => simp only [List.getElem?_cons_succ, List.getElem?_cons_zero] at hx; obtain rfl := Option.some.inj hx; rfl
  | 2, hx => simp only [List.getElem?_cons_succ, List.getElem?_cons_zero] at hx; obtain rfl := Option.some.inj hx; rfl
  | j + 3, hx => simp at hx
def sJoin3 (a b c sep r : ByteArray) (hr : (⟨(Lib.join [a.data.toList, b.data.toList, c.data.toList] sep.data.toList).toArray⟩ : ByteArray) = r) (hl : (Lib.join [a.data.toList, b.data.toList, c.data.toList] sep.data.toList).length ≤ 140737488355328) : BSpec Tryz.prog :=
  ⟨365, Tryz.call365, [.one (.c (.b (.s 0 0 3 3))), .one (.c (.b (.v (.string sep))))], [.b (.v (.string a)), .b (.v (.string b)), .b (.v (.string c))], 9, .string r, join3_ok a b c sep r hr hl, by kernel_rfl, fun _ => rfl⟩
end Go.Proofs.YtfnmclgicjmapaaGreat
end
section
namespace Go.Proofs.YtfnmclgicjmapaaGreat.Y
open Go Go.RowKit
set_option maxRecDepth 100000
abbrev pl2 (p0 p1 : Pt) : List Cd := plCd p0 ++ plCd p1
abbrev sp2A : List SV := [.one (.c (.b (.s 0 0 2 2)))]
def sp2L (p0 p1 : Rw) : List Lf := lsX p0.C ++ lsX p1.C
def sp2O (p0 p1 : Pt) : List (Nat × Ob) := [(12, .row [.b (.v (.bool (pI p0))), .b (.z 2 0), .b (.z 3 0), .b (.v (.bool (pI p1))), .b (.z 8 0), .b (.z 9 0)] PLT 2 3), (2, (ratM (pG p0).re).ob), (3, (ratM (pG p0).im).ob), (8, (ratM (pG p1).re).ob), (9, (ratM (pG p1).im).ob)]
noncomputable def sp2E {p0 p1 : Pt} (hp0 : FitP p0) (hp1 : FitP p1) : List (Ev Tryz.prog) := [(sSpotP p0 hp0).e, .app appP, (sSpotP p1 hp1).e, .app appP]
theorem sp2_eqs {p0 p1 : Pt} (hp0 : FitP p0) (hp1 : FitP p1) (β : Env) : (allS Tryz.prog Tryz.f284 sp2A [.box (sp2L p0.w p1.w) 47] (sp2E hp0 hp1) [] 800 (.tup [.c (.b (.r 12 2)), .c (.b (.v (.bool true)))]) (sp2O p0 p1) β).map Prod.fst = (allS Tryz.prog Tryz.f284 sp2A [.box (sp2L p0.w p1.w) 47] (sp2E hp0 hp1) [] 800 (.tup [.c (.b (.r 12 2)), .c (.b (.v (.bool true)))]) (sp2O p0 p1) β).map Prod.snd := by kernel_rfl
theorem spots2_ok {p0 p1 : Pt} (hp0 : FitP p0) (hp1 : FitP p1) (β : Env) (w : World) (hh : (Ob.box (sp2L p0.w p1.w) 47).holds β w (β 0)) :
    Calls Tryz.prog 284 (sp2A.map (SV.den β)).toArray w fun e u => ∃ xs : List Pl, (∀ x ∈ xs, ∀ c, x.F c → w.heap.size ≤ c) ∧ e = .returned ((SV.tup [.c (.b (.y 1 6 2)), .c (.b (.v (.bool true)))]).den (extE β 1 xs)) ∧ newHold u [rowT PLT (pl2 p0 p1)] xs ∧ Below w.heap.size w u := by
  refine (sx (P := Tryz.prog) sp2A [.box (sp2L p0.w p1.w) 47] (sp2E hp0 hp1) [] 800 (.tup [.c (.b (.r 12 2)), .c (.b (.v (.bool true)))]) (sp2O p0 p1) Tryz.func284 hmA (fun β => ok_of_maps (sp2_eqs hp0 hp1 β)) (by kernel_rfl) (by kernel_rfl) β w (fun k o ho => ?_)).mono ?_
  · cases k with
    | zero => simp only [List.getElem?_cons_zero] at ho; obtain rfl := Option.some.inj ho; exact hh
    | succ k => simp at ho
  · rintro e u ⟨β', q', obj, e1, rfl, e2, e4, e5, g⟩
    have hnew : ∀ y ∈ sp2O p0 p1, ∀ c, (β' y.1).F c → c ≠ (β 0).b → w.heap.size ≤ c := fun y hy c hc hne => by
      rcases e4 y hy c hc with h | ⟨i, hi, h⟩
      · exact h
      · obtain rfl : i = 0 := by simp only [List.length_singleton] at hi; omega
        exact absurd ((hh.1.1 c).1 h) hne
    have hu : u.heap[(β 0).b]? = some (.cells ((sp2L p0.w p1.w).map (Lf.den β)).toArray 47 (0, 0)) := by rw [g.bel.block _ (heap_lt hh.2)]; exact hh.2
    have hrat : ∀ (k : Nat) (x : Rat), (k, (ratM x).ob) ∈ sp2O p0 p1 → OR0 x u (β' k) ∧ ∀ c, (β' k).F c → w.heap.size ≤ c := fun k x hk => by
      have h : OR0 x u (β' k) := e5 _ hk
      refine ⟨h, fun c hc => ?_⟩
      rcases h with ⟨_, h2, _⟩ | ⟨b, hb, hx⟩
      · exact absurd hc (h2 c)
      · have ec := (hb.2 c).1 hc
        subst ec
        refine hnew _ hk c hc fun e => ?_
        rw [e] at hx
        exact pt_no_rat hu hx
    obtain ⟨o2, n2⟩ := hrat 2 (pG p0).re (by simp [sp2O])
    obtain ⟨o3, n3⟩ := hrat 3 (pG p0).im (by simp [sp2O])
    obtain ⟨o8, n8⟩ := hrat 8 (pG p1).re (by simp [sp2O])
    obtain ⟨o9, n9⟩ := hrat 9 (pG p1).im (by simp [sp2O])
    obtain ⟨hone, cur, hcur, hcl, hn, hcm, hsz, htake⟩ := e5 (12, .row [.b (.v (.bool (pI p0))), .b (.z 2 0), .b (.z 3 0), .b (.v (.bool (pI p1))), .b (.z 8 0), .b (.z 9 0)] PLT 2 3) (by simp [sp2O])
    have hbR : w.heap.size ≤ (β' 12).b := hnew _ (by simp [sp2O]) _ ((hone.1 _).2 rfl) fun e => by
      rw [e, hu] at hcur
      have := (Obj.cells.inj (Option.some.inj hcur)).2.1
      exact absurd this (by decide)
    refine ⟨[⟨(β' 12).b, fun i => match i with | 1 => (β' 2).v 0 | 2 => (β' 3).v 0 | 4 => (β' 8).v 0 | 5 => (β' 9).v 0 | 6 => some ⟨(β' 12).b, 0, none⟩ | _ => none, fun _ => (β' 12).c 0, fun c => c = (β' 12).b ∨ (β' 2).F c ∨ (β' 3).F c ∨ (β' 8).F c ∨ (β' 9).F c, fun _ => undef⟩], fun x hx c hc => ?_, rfl, ⟨⟨⟨.inl rfl, cur, hcur, ?_⟩, ⟨⟨trivial, or_cd o2 rfl fun c hc => .inr (.inl hc), or_cd o3 rfl fun c hc => .inr (.inr (.inl hc)), trivial, or_cd o8 rfl fun c hc => .inr (.inr (.inr (.inl hc))), or_cd o9 rfl fun c hc => .inr (.inr (.inr (.inr (hc)))), trivial⟩, rfl⟩, fun c hc => ?_⟩, trivial⟩, g.bel⟩
    · obtain rfl := List.mem_singleton.1 hx
      rcases hc with rfl | hc | hc | hc | hc
      · exact hbR
      · exact n2 c hc
      · exact n3 c hc
      · exact n8 c hc
      · exact n9 c hc
    · have : (pl2 p0 p1).length = 2 * 3 := rfl
      rw [this, htake]
      rfl
    · rcases hc with rfl | hc | hc | hc | hc
      · exact heap_lt hcur
      · exact (or_stable _).lt u _ o2 c hc
      · exact (or_stable _).lt u _ o3 c hc
      · exact (or_stable _).lt u _ o8 c hc
      · exact (or_stable _).lt u _ o9 c hc
noncomputable def sSpots2 {p0 p1 : Pt} (hp0 : FitP p0) (hp1 : FitP p1) : CSpec Tryz.prog :=
  ⟨284, Tryz.call284, sp2A, sp2L p0.w p1.w, 47, .tup [.c (.b (.y 1 6 2)), .c (.b (.v (.bool true)))], [rowT PLT (pl2 p0 p1)], spots2_ok hp0 hp1, by kernel_rfl⟩
theorem sgn_ne {n : Int} {t : Bool} (h : (!(n == 0)) = t) : Value.bool (!(n == 0)) = .bool t := by rw [h]
noncomputable def sOn1 {r : RQ} {p : Pt} (h : RSz KC r) (hp : FitP p) {t : Bool} (ht : (!((sidQ r p).num.sign == 0)) = t) : OSpec Tryz.prog :=
  OSpec.auto Tryz.call299 [pV 0 p, .one (.c (.b (.p 6 0)))] [(ratM (pG p).re).ob, (ratM (pG p).im).ob, (ratT r.a).ob, (ratT r.b.re).ob, (ratT r.b.im).ob, (ratT r.c).ob, .box [.b (.z 2 0), .b (.z 3 0), .b (.z 4 0), .b (.z 5 0)] 289] (tB' t) []
    [(sESide h hp).e, .eqv 7 (.bool (!((sidQ r p).num.sign == 0))) (.bool t) (sgn_ne ht)] [] 400 Tryz.func299 hmA (by cases p <;> kernel_rfl) (fun β => by cases p <;> kernel_rfl)
section
variable {r : RQ} {p q : Pt} (h : RSz KC r) (hp : FitP p) (hq : FitP q) (h1 : (!((sidQ r p).num.sign == 0)) = false) (h2 : (!((sidQ r q).num.sign == 0)) = false)
abbrev onO (r : RQ) (l : List Cd) : List Ob := [(rowT PLT l).ob, (ratT r.a).ob, (ratT r.b.re).ob, (ratT r.b.im).ob, (ratT r.c).ob, .box [.b (.z 1 0), .b (.z 2 0), .b (.z 3 0), .b (.z 4 0)] 289]
abbrev onF : SV := .one (.c (.f (.func 299) [] [.p 5 0]))
noncomputable def sIdx2 : OSpec Tryz.prog :=
  OSpec.auto Tryz.call376 [.one (.c (.b (.y 0 6 2))), onF] (onO r (pl2 p q)) (.one (nI' (-1))) []
    [dIdxP PLT (pl2 p q), dPlace PLT (pl2 p q), (sOn1 h hp h1).e, dIdxP PLT (pl2 p q), dPlace PLT (pl2 p q), (sOn1 h hq h2).e] [] 800 Tryz.func376 hmA (by kernel_rfl) (fun β => by kernel_rfl)
noncomputable def sHas2 : OSpec Tryz.prog :=
  OSpec.auto Tryz.call298 [.one (.c (.b (.y 0 6 2))), onF] (onO r (pl2 p q)) (tB' false) [] [(sIdx2 h hp hq h1 h2).e] [] 400 Tryz.func298 hmA (by kernel_rfl) (fun β => by kernel_rfl)
end
theorem on2_eqs {r : RQ} {p q : Pt} (h : MayC r) (hp : FitP p) (hq : FitP q) (h1 : (!((sidQ r p).num.sign == 0)) = false) (h2 : (!((sidQ r q).num.sign == 0)) = false) (β : Env) (w : World) (hh : (Ob.box (sp2L p.w q.w) 47).holds β w (β 0)) :
    Calls Tryz.prog 134 (([.one (.a (cC r)), .one (.c (.b (.s 0 0 2 2)))] : List SV).map (SV.den β)).toArray w fun e w' => e = .returned (.tuple #[.bool true, .int .i64 0]) ∧ Below w.heap.size w w' :=
  bspec_ok [(sWheel h).e, (sSpots2 hp hq).e, (sHas2 h.sz hp hq h1 h2).e] [] 800 Tryz.func134 hmA (fun β => by kernel_rfl) (by kernel_rfl) (fun β => rfl) β w hh
def sOn2 {r : RQ} {p q : Pt} (h : MayC r) (hp : FitP p) (hq : FitP q) (h1 : (!((sidQ r p).num.sign == 0)) = false) (h2 : (!((sidQ r q).num.sign == 0)) = false) : BSpec Tryz.prog :=
  ⟨134, Tryz.call134, [.one (.a (cC r)), .one (.c (.b (.s 0 0 2 2)))], sp2L p.w q.w, 47, .tuple #[.bool true, .int .i64 0], on2_eqs h hp hq h1 h2, by kernel_rfl, fun _ => rfl⟩
abbrev ptI (n m : Int) : Pt := .fin (gint n m)
theorem ptI_fit {n m : Int} (h : n.natAbs < 256) (k : m.natAbs < 256) : FitP (ptI n m) := fit_int h k
theorem ptI_ne {n m n' m' : Int} (h : ¬ (n = n' ∧ m = m')) : ptI n m ≠ ptI n' m' := pI_ne h
def uQ : RQ := ⟨Rat.divInt 1 1, gint 0 0, Rat.divInt (-1) 1⟩
theorem rq_lit {r s : RQ} (h1 : decide (r.a = s.a) = true) (h2 : decide (r.b.re = s.b.re) = true) (h3 : decide (r.b.im = s.b.im) = true) (h4 : decide (r.c = s.c) = true) : r = s := by
  obtain ⟨a, ⟨b, b'⟩, c⟩ := r
  obtain ⟨d, ⟨e, e'⟩, f⟩ := s
  obtain rfl : a = d := of_decide_eq_true h1
  obtain rfl : b = e := of_decide_eq_true h2
  obtain rfl : b' = e' := of_decide_eq_true h3
  obtain rfl : c = f := of_decide_eq_true h4
  rfl
theorem u_may : MayC uQ := ⟨⟨sz_lit1 (by decide), fit_int (by decide) (by decide), sz_lit1 (by decide)⟩, by kernel_rfl, rq_lit (by kernel_rfl) (by kernel_rfl) (by kernel_rfl) (by kernel_rfl)⟩
abbrev u1 : Pt := ptI 1 0
abbrev u2 : Pt := ptI 0 1
abbrev u3 : Pt := ptI (-1) 0
theorem u1_fit : FitP u1 := ptI_fit (by decide) (by decide)
theorem u2_fit : FitP u2 := ptI_fit (by decide) (by decide)
theorem u3_fit : FitP u3 := ptI_fit (by decide) (by decide)
theorem u_thr : rone (thrQ u1 u2 u3) = uQ := rq_lit (by kernel_rfl) (by kernel_rfl) (by kernel_rfl) (by kernel_rfl)
theorem n12 : u1 ≠ u2 := ptI_ne (by decide)
theorem n23 : u2 ≠ u3 := ptI_ne (by decide)
theorem n13 : u1 ≠ u3 := ptI_ne (by decide)
theorem ci_eq {r s : RQ} (e : r = s) (h : FitC s) : ciA r = .tup [.a (cC s), nI' 0] := by
  rw [e, ciA, (ci_fit h).1, (ci_fit h).2]
noncomputable def kThrough : Spec Tryz.prog := (sCiThrough u1_fit u2_fit u3_fit (ptB_ne' n12) (ptB_ne' n23) (ptB_ne' n13) (thr_ne n12 n23 n13)).conv (.tup [.a (cC uQ), nI' 0]) (ci_eq u_thr u_may.fit)
noncomputable def kSide : Spec Tryz.prog := sCSideN u_may (p := ptI 0 0) (ptI_fit (by decide) (by decide)) (by kernel_rfl)
abbrev m1 : Rat := Rat.divInt 2 1
abbrev m3 : Rat := Rat.divInt (-2) 1
theorem m_one : rone ⟨m1, gint 0 0, m3⟩ = uQ := rq_lit (by kernel_rfl) (by kernel_rfl) (by kernel_rfl) (by kernel_rfl)
noncomputable def kMake : Spec Tryz.prog := (sCMake (a := m1) (b := gint 0 0) (c := m3) (sz_lit1 (by decide)) (fit_int (by decide) (by decide)) (sz_lit1 (by decide)) (by kernel_rfl)).conv (.tup [.a (cC uQ), nI' 0]) (ci_eq m_one u_may.fit)
abbrev tx0 : ByteArray := ⟨#[48]⟩
abbrev tx1 : ByteArray := ⟨#[49]⟩
abbrev txN : ByteArray := ⟨#[45, 49]⟩
abbrev txU : ByteArray := ⟨#[49, 32, 48, 32, 45, 49]⟩
noncomputable def kGText : Spec Tryz.prog :=
  Spec.auto Tryz.call216 [gS (gint 0 0)] [] (.tup [.c (.b (.v (.string tx0))), nI' 0]) [] [(sGM (gpX (gint 0 0) fit00) (r := true) rfl).e, (sFText (u := tx0) fit00.1 (by kernel_rfl)).e, (sFText (u := tx0) fit00.2 (by kernel_rfl)).e] [] 400 Tryz.func216 hmA (by kernel_rfl) (fun β => by kernel_rfl)
noncomputable def kText : Spec Tryz.prog :=
  Spec.auto Tryz.call282 [.one (.a (cC uQ))] [] (.tup [.c (.b (.v (.string txU))), nI' 0]) []
    [(sCCheck u_may).e, (sFText (u := tx1) u_may.fit.1 (by kernel_rfl)).e, kGText.e, (sFText (u := txN) u_may.fit.2.2 (by kernel_rfl)).e, (sJoin3 tx1 tx0 txN ⟨#[32]⟩ txU (by kernel_rfl) (by decide)).e] [] 400 Tryz.func282 hmA (by kernel_rfl) (fun β => by kernel_rfl)
def sAt11 (n m : Int) (hn : -9223372036854775808 ≤ n ∧ n ≤ 9223372036854775807 := by decide) (hm : -9223372036854775808 ≤ m ∧ m ≤ 9223372036854775807 := by decide) : Spec Tryz.prog :=
  Spec.auto Tryz.call281 [.one (svI n), .one (svI m)] [] (svP (ptI n m)) [] [(sR4Int n m hn hm).e] [] 400 Tryz.func281 hmA (by kernel_rfl) (fun β => by kernel_rfl)
def sUnit : Spec Tryz.prog :=
  Spec.auto Tryz.call283 [] [] (.one (.a (cC uQ))) [] [(sR3Int 1 (by decide)).e, (sR4Int 0 0).e, (sR3Int (-1) (by decide)).e] [] 400 Tryz.func283 hmA (by kernel_rfl) (fun β => by kernel_rfl)
noncomputable def kOn : BSpec Tryz.prog := sOn2 u_may (p := ptI 0 (-1)) (q := ptI 1 0) (ptI_fit (by decide) (by decide)) (ptI_fit (by decide) (by decide)) (by kernel_rfl) (by kernel_rfl)
def eqU : Ev Tryz.prog := eqC1 (fR uQ.a) (fR uQ.b.re) (fR uQ.b.im) (fR uQ.c)
noncomputable def sWorks11 : Spec Tryz.prog :=
  Spec.auto Tryz.call115 [] [] (tB' true) []
    [(sAt11 1 0).e, (sAt11 0 1).e, (sAt11 (-1) 0).e, kThrough.e, (sAt11 0 0).e, kSide.e, (sR3Int 2 (by decide)).e, (sR4Int 0 0).e, (sR3Int (-2) (by decide)).e, kMake.e, kText.e, (sAt11 0 (-1)).e, (sAt11 1 0).e, kOn.e,
      (sNum11 0).e, sUnit.e, eqU, (sNum11 0).e, (sNum11 0).e, eqU, (sNum11 0).e, (sNum11 0).e] [(2, 8), (5, 10), (6, 45)] 3000 Tryz.func115 hmA (by kernel_rfl) (fun β => by kernel_rfl)
end Go.Proofs.YtfnmclgicjmapaaGreat.Y
end
section
namespace Go.Proofs.YtfnmclgicjmapaaGreat
open Go.ChangeShapes Go.WideShapes Go.ChangeAt Go.RowKit
theorem cellsOf_bool : Tryz.prog.cellsOf 4 = 1 := by kernel_rfl
theorem cellsOf_string : Tryz.prog.cellsOf 9 = 1 := by kernel_rfl
theorem cellsOf_whole : Tryz.prog.cellsOf 23 = 2 := by kernel_rfl
theorem cellsOf_frac : Tryz.prog.cellsOf 25 = 4 := by kernel_rfl
section
variable {H : Type} {enc : TypeId × Value → H} {w : World} {base : Nat} {spare : Nat → Bool} {held : Bool}
set_option maxRecDepth 100000 in
theorem trod_whole {fuel : Nat} {cs : List Value} {x : DataW H × List MemPlace} (h : DataW.trod enc Tryz.prog w base spare held fuel 23 cs = some x) :
    ∃ (b : Bool) (s : ByteArray), cs = [.bool b, .string s] ∧ s.size ≤ maxLen := by
  obtain ⟨xs, n, rfl, _, hlen, hxl, hf⟩ := DataW.trod_struct Tryz.underlying23 h
  rw [cellsOf_whole] at hlen
  have hx0 : xs[0]? = some (xs[0]'(by rw [hxl]; decide)) := List.getElem?_eq_getElem _
  have hx1 : xs[1]? = some (xs[1]'(by rw [hxl]; decide)) := List.getElem?_eq_getElem _
  have h0 : DataW.trod enc Tryz.prog w base spare held n 4 ((cs.drop 0).take (Tryz.prog.cellsOf 4)) = some _ := (hf 0 _ rfl).trans hx0
  have h1 : DataW.trod enc Tryz.prog w base spare held n 9 ((cs.drop 1).take (Tryz.prog.cellsOf 9)) = some _ := (hf 1 _ rfl).trans hx1
  rw [cellsOf_bool] at h0
  rw [cellsOf_string] at h1
  match cs, hlen with
  | [a, b], _ =>
    obtain ⟨p, e0, _⟩ := DataW.trod_bool Tryz.underlying4 h0
    obtain ⟨s, e1, _, hs⟩ := DataW.trod_string Tryz.underlying9 h1
    cases e0
    cases e1
    exact ⟨p, s, rfl, hs⟩
set_option maxRecDepth 100000 in
theorem trod_frac {fuel : Nat} {cs : List Value} {x : DataW H × List MemPlace} (h : DataW.trod enc Tryz.prog w base spare held fuel 25 cs = some x) :
    ∃ (b c : Bool) (s t : ByteArray), cs = [.bool b, .string s, .bool c, .string t] ∧ s.size ≤ maxLen ∧ t.size ≤ maxLen := by
  obtain ⟨xs, n, rfl, _, hlen, hxl, hf⟩ := DataW.trod_struct Tryz.underlying25 h
  rw [cellsOf_frac] at hlen
  have hx0 : xs[0]? = some (xs[0]'(by rw [hxl]; decide)) := List.getElem?_eq_getElem _
  have hx1 : xs[1]? = some (xs[1]'(by rw [hxl]; decide)) := List.getElem?_eq_getElem _
  have h0 : DataW.trod enc Tryz.prog w base spare held n 23 ((cs.drop 0).take (Tryz.prog.cellsOf 23)) = some _ := (hf 0 _ rfl).trans hx0
  have h1 : DataW.trod enc Tryz.prog w base spare held n 23 ((cs.drop 2).take (Tryz.prog.cellsOf 23)) = some _ := (hf 1 _ rfl).trans hx1
  rw [cellsOf_whole] at h0 h1
  match cs, hlen with
  | [a, b, c, d], _ =>
    obtain ⟨p, s, e0, hs⟩ := trod_whole h0
    obtain ⟨q, t, e1, ht⟩ := trod_whole h1
    cases e0
    cases e1
    exact ⟨p, q, s, t, rfl, hs, ht⟩
end
end Go.Proofs.YtfnmclgicjmapaaGreat
end
section
namespace Go.Proofs.YtfnmclgicjmapaaGreat
open Go Go.ChangeShapes Go.WideShapes Go.ChangeAt Go.RowKit
theorem cellsOf_gauss : Tryz.prog.cellsOf 45 = 8 := by kernel_rfl
theorem cellsOf_point : Tryz.prog.cellsOf 47 = 9 := by kernel_rfl
theorem cellsOf_p3 : Tryz.prog.cellsOf 124 = 27 := by kernel_rfl
theorem okWide_array {P : Program} {w : World} {r : Reach} {base : Nat} {t e : TypeId} {v : Value} {n : Nat} (ht : P.underlying t = some (.array n e)) (h : Value.okWide P w r base t v) : ∃ cs, v = .agg cs ∧ cs.size = P.cellsOf t := by
  simp only [Value.okWide, ht] at h
  obtain ⟨cs, h1, h2, _⟩ := h
  exact ⟨cs, h1, h2⟩
theorem chunk {α : Type} (cs : List α) (a b : Nat) : cs.drop a = (cs.drop a).take b ++ cs.drop (a + b) := by
  rw [← List.drop_drop, List.take_append_drop]
def R4.ok (x : R4) : Prop := x.s.size ≤ maxLen ∧ x.t.size ≤ maxLen
section
variable {H : Type} {enc : TypeId × Value → H} {w : World} {base : Nat} {spare : Nat → Bool} {held : Bool}
theorem trod_r4 {fuel : Nat} {cs : List Value} {x : DataW H × List MemPlace} (h : DataW.trod enc Tryz.prog w base spare held fuel 25 cs = some x) : ∃ r : R4, cs = r.V ∧ r.ok := by
  obtain ⟨b, c, s, t, e, h1, h2⟩ := trod_frac h
  exact ⟨⟨b, s, c, t⟩, e, h1, h2⟩
set_option maxRecDepth 100000 in
theorem trod_gauss {fuel : Nat} {cs : List Value} {x : DataW H × List MemPlace} (h : DataW.trod enc Tryz.prog w base spare held fuel 45 cs = some x) : ∃ r s : R4, cs = r.V ++ s.V ∧ r.ok ∧ s.ok := by
  obtain ⟨xs, n, rfl, _, hlen, hxl, hf⟩ := DataW.trod_struct Tryz.underlying45 h
  rw [cellsOf_gauss] at hlen
  have hx0 : xs[0]? = some (xs[0]'(by rw [hxl]; decide)) := List.getElem?_eq_getElem _
  have hx1 : xs[1]? = some (xs[1]'(by rw [hxl]; decide)) := List.getElem?_eq_getElem _
  have h0 : DataW.trod enc Tryz.prog w base spare held n 25 ((cs.drop 0).take (Tryz.prog.cellsOf 25)) = some _ := (hf 0 _ rfl).trans hx0
  have h1 : DataW.trod enc Tryz.prog w base spare held n 25 ((cs.drop 4).take (Tryz.prog.cellsOf 25)) = some _ := (hf 1 _ rfl).trans hx1
  rw [cellsOf_frac] at h0 h1
  obtain ⟨r, e0, k0⟩ := trod_r4 h0
  obtain ⟨s, e1, k1⟩ := trod_r4 h1
  refine ⟨r, s, ?_, k0, k1⟩
  have := chunk cs 0 4
  rw [e0, List.drop_zero] at this
  rw [this, chunk cs (0 + 4) 4, e1, List.drop_of_length_le (by omega), List.append_nil]
set_option maxRecDepth 100000 in
theorem trod_point {fuel : Nat} {cs : List Value} {x : DataW H × List MemPlace} (h : DataW.trod enc Tryz.prog w base spare held fuel 47 cs = some x) : ∃ (i : Bool) (r s : R4), cs = .bool i :: (r.V ++ s.V) ∧ r.ok ∧ s.ok := by
  obtain ⟨xs, n, rfl, _, hlen, hxl, hf⟩ := DataW.trod_struct Tryz.underlying47 h
  rw [cellsOf_point] at hlen
  have hx0 : xs[0]? = some (xs[0]'(by rw [hxl]; decide)) := List.getElem?_eq_getElem _
  have hx1 : xs[1]? = some (xs[1]'(by rw [hxl]; decide)) := List.getElem?_eq_getElem _
  have h0 : DataW.trod enc Tryz.prog w base spare held n 4 ((cs.drop 0).take (Tryz.prog.cellsOf 4)) = some _ := (hf 0 _ rfl).trans hx0
  have h1 : DataW.trod enc Tryz.prog w base spare held n 45 ((cs.drop 1).take (Tryz.prog.cellsOf 45)) = some _ := (hf 1 _ rfl).trans hx1
  rw [cellsOf_bool] at h0
  rw [cellsOf_gauss] at h1
  obtain ⟨r, s, e1, k1⟩ := trod_gauss h1
  have e3 : cs.drop 1 = r.V ++ s.V := by
    have := chunk cs 1 8
    rw [e1] at this
    rw [this, List.drop_of_length_le (show cs.length ≤ 1 + 8 by omega), List.append_nil]
  have e2 : cs = cs.take 1 ++ (r.V ++ s.V) := by rw [← e3, List.take_append_drop]
  match hc : (cs.take 1), (show (cs.take 1).length = 1 by rw [List.length_take]; omega) with
  | [a], _ =>
    rw [List.drop_zero, hc] at h0
    obtain ⟨i, e0, _⟩ := DataW.trod_bool Tryz.underlying4 h0
    refine ⟨i, r, s, ?_, k1⟩
    rw [hc] at e2
    rw [e2]
    cases e0
    rfl
set_option maxRecDepth 100000 in
theorem open_p3 {r : Reach} {b0 : Nat} {v : Value} {d : DataW H} {p : List MemPlace} (hv : Value.okWide Tryz.prog w r b0 124 v) (h : DataW.Trod enc Tryz.prog w base spare held 124 v d p) :
    ∃ (i j k : Bool) (a b c d e f : R4), v = .agg ((.bool i :: (a.V ++ b.V)) ++ (.bool j :: (c.V ++ d.V)) ++ (.bool k :: (e.V ++ f.V))).toArray ∧ (a.ok ∧ b.ok) ∧ (c.ok ∧ d.ok) ∧ e.ok ∧ f.ok := by
  obtain ⟨cs, rfl, hsz⟩ := okWide_array Tryz.underlying124 hv
  obtain ⟨fuel, hf⟩ := h
  obtain ⟨l⟩ := cs
  obtain ⟨xs, n, rfl, _, hlen, hxl, hg⟩ := DataW.trod_array Tryz.underlying124 hf
  simp only [Value.cells] at hlen hg
  rw [cellsOf_p3] at hlen
  rw [cellsOf_point] at hg
  have key : ∀ i, i < 3 → ∃ (j : Bool) (r s : R4), (l.drop (i * 9)).take 9 = .bool j :: (r.V ++ s.V) ∧ r.ok ∧ s.ok := fun i hi => by
    have hx : xs[i]? = some (xs[i]'(by rw [hxl]; exact hi)) := List.getElem?_eq_getElem _
    exact trod_point ((hg i hi).trans hx)
  obtain ⟨i0, a0, b0, e0, k0⟩ := key 0 (by decide)
  obtain ⟨i1, a1, b1, e1, k1⟩ := key 1 (by decide)
  obtain ⟨i2, a2, b2, e2, k2⟩ := key 2 (by decide)
  refine ⟨i0, i1, i2, a0, b0, a1, b1, a2, b2, ?_, k0, k1, k2⟩
  have c0 := chunk l (0 * 9) 9
  have c1 := chunk l (1 * 9) 9
  have c2 := chunk l (2 * 9) 9
  rw [e2, List.drop_of_length_le (show l.length ≤ 2 * 9 + 9 by omega), List.append_nil] at c2
  rw [e1, show 1 * 9 + 9 = 2 * 9 by rfl, c2] at c1
  rw [e0, show 0 * 9 + 9 = 1 * 9 by rfl, c1, show 0 * 9 = 0 by rfl, List.drop_zero] at c0
  rw [c0]
  simp only [List.append_assoc, List.cons_append]
end
end Go.Proofs.YtfnmclgicjmapaaGreat
end
section
namespace Go.Proofs.YtfnmclgicjmapaaGreat.Y
open Go Go.RowKit
theorem spec_yes {P : Program} (S : Spec P) (ho : S.obs = []) (hr : S.res = .one (.c (.b (.v (.bool true))))) (w : World) : Calls P S.f (S.args.map (SV.den idE)).toArray w fun e w' => e = .returned (.bool true) ∧ Below w.heap.size w w' := by
  refine (S.ok idE w (by rw [ho]; intro k t h; simp at h)).mono ?_
  rintro e w' ⟨xs, _, rfl, _, hb⟩
  exact ⟨by rw [hr]; rfl, hb⟩
end Go.Proofs.YtfnmclgicjmapaaGreat.Y
end
section
namespace Go.Proofs.YtfnmclgicjmapaaGreat.Y
open Go Go.RowKit
set_option maxRecDepth 100000
abbrev I64 (n : Int) : Prop := -9223372036854775808 ≤ n ∧ n ≤ 9223372036854775807
theorem sz_i64 {n : Int} (h : I64 n) : Sz 8 (Rat.divInt n 1) := sz_lit n 1 (by omega) (by decide) (by decide)
end Go.Proofs.YtfnmclgicjmapaaGreat.Y
end
section
namespace Go.Proofs.YtfnmclgicjmapaaGreat.Y
open Go Go.RowKit
set_option maxRecDepth 100000
inductive T1 where
  | lo
  | mid
  | hi
def T1.at (s : ByteArray) : T1 → Prop
  | .lo => decide ((100 : Int) < (s.size : Int)) = false
  | .mid => decide ((100 : Int) < (s.size : Int)) = true ∧ decide ((s.size : Int) ≤ 1024) = true
  | .hi => decide ((100 : Int) < (s.size : Int)) = true ∧ decide ((s.size : Int) ≤ 1024) = false
def T1.yes : T1 → Bool
  | .mid => true
  | _ => false
theorem T1.all (s : ByteArray) : ∃ k : T1, k.at s := by
  cases h : decide ((100 : Int) < (s.size : Int)) with
  | false => exact ⟨.lo, h⟩
  | true => cases h2 : decide ((s.size : Int) ≤ 1024) with
    | true => exact ⟨.mid, h, h2⟩
    | false => exact ⟨.hi, h, h2⟩
theorem bl_lit {b r : Bool} (h : b = r) : Value.bool b = .bool r := by rw [h]
def yT1 (d1 d2 : Nat) (s : ByteArray) : (k : T1) → k.at s → List (Ev Tryz.prog)
  | .lo, h => [.eqv d1 (.bool (decide ((100 : Int) < (s.size : Int)))) (.bool false) (bl_lit h)]
  | .mid, h => [.eqv d1 (.bool (decide ((100 : Int) < (s.size : Int)))) (.bool true) (bl_lit h.1), .eqv d2 (.bool (decide ((s.size : Int) ≤ 1024))) (.bool true) (bl_lit h.2)]
  | .hi, h => [.eqv d1 (.bool (decide ((100 : Int) < (s.size : Int)))) (.bool true) (bl_lit h.1), .eqv d2 (.bool (decide ((s.size : Int) ≤ 1024))) (.bool false) (bl_lit h.2)]
def Lg1 (x : R4) (r : Bool) : Prop := ∃ a b : T1, a.at x.s ∧ b.at x.t ∧ (a.yes || b.yes) = r
theorem Lg1.all (x : R4) : ∃ r, Lg1 x r := by
  obtain ⟨a, ha⟩ := T1.all x.s
  obtain ⟨b, hb⟩ := T1.all x.t
  exact ⟨_, a, b, ha, hb, rfl⟩
def sLongF (x : R4) {r : Bool} (h : Lg1 x r) : Spec Tryz.prog :=
  ⟨121, Tryz.call121, [.one (.a (rL x))], [], tB' r, [], fun β w hh => by
    obtain ⟨a, b, ha, hb, rfl⟩ := h
    cases a with
    | mid => exact spec_auto (evs := yT1 7 13 x.s .mid ha) (Ns := []) (m := 400) Tryz.func121 hmA (fun β => by kernel_rfl) (by kernel_rfl) β w hh
    | lo => cases b <;> exact spec_auto (evs := yT1 7 13 x.s .lo ha ++ yT1 20 26 x.t _ hb) (Ns := []) (m := 400) Tryz.func121 hmA (fun β => by kernel_rfl) (by kernel_rfl) β w hh
    | hi => cases b <;> exact spec_auto (evs := yT1 7 13 x.s .hi ha ++ yT1 20 26 x.t _ hb) (Ns := []) (m := 400) Tryz.func121 hmA (fun β => by kernel_rfl) (by kernel_rfl) β w hh, by kernel_rfl⟩
theorem long1_ok {x0 y0 : R4} {rx0 ry0 : Bool} (hx0 : Lg1 x0 rx0) (hy0 : Lg1 y0 ry0) (β : Env) (w : World) (hh : (Ob.box (rL x0 ++ rL y0) 45).holds β w (β 0)) :
    Calls Tryz.prog 122 (([.one (.c (.b (.s 0 0 1 1)))] : List SV).map (SV.den β)).toArray w fun e w' => e = .returned (.bool (rx0 || ry0)) ∧ Below w.heap.size w w' := by
  cases rx0 with
  | true => exact bspec_ok [(sLongF x0 hx0).e] [] 1200 Tryz.func122 hmA (fun β => by kernel_rfl) (by kernel_rfl) (fun β => rfl) β w hh
  | false =>
  cases ry0 with
  | true => exact bspec_ok [(sLongF x0 hx0).e, (sLongF y0 hy0).e] [] 1200 Tryz.func122 hmA (fun β => by kernel_rfl) (by kernel_rfl) (fun β => rfl) β w hh
  | false =>
  exact bspec_ok [(sLongF x0 hx0).e, (sLongF y0 hy0).e] [] 1200 Tryz.func122 hmA (fun β => by kernel_rfl) (by kernel_rfl) (fun β => rfl) β w hh
def sLongG1 {x0 y0 : R4} {rx0 ry0 : Bool} (hx0 : Lg1 x0 rx0) (hy0 : Lg1 y0 ry0) {r : Bool} (h : (rx0 || ry0) = r) : BSpec Tryz.prog :=
  ⟨122, Tryz.call122, [.one (.c (.b (.s 0 0 1 1)))], rL x0 ++ rL y0, 45, .bool r, fun β w hh => by rw [← h]; exact long1_ok hx0 hy0 β w hh, by kernel_rfl, fun _ => rfl⟩
def eqC0 : Ev Tryz.prog := eqC1 r40 r40 r40 r40
end Go.Proofs.YtfnmclgicjmapaaGreat.Y
end
section
namespace Go.Proofs.YtfnmclgicjmapaaGreat.Y
open Go Go.RowKit
set_option maxRecDepth 100000
abbrev P3T : TypeId := 124
theorem off3_ok {p q r : Rw} {a a' b b' c c' : Bool} (ha : Lg1 p.x a) (ha' : Lg1 p.y a') (hb : Lg1 q.x b) (hb' : Lg1 q.y b') (hc : Lg1 r.x c) (hc' : Lg1 r.y c') (β : Env) (w : World) (hh : (Ob.box (sp3L p q r) P3T).holds β w (β 0)) :
    Calls Tryz.prog 114 (sp3A.map (SV.den β)).toArray w fun e w' => e = .returned (.bool ((a || a') || ((b || b') || (c || c')))) ∧ Below w.heap.size w w' := by
  cases h1 : (a || a') with
  | true => exact bspec_ok [(sLongG1 ha ha' h1).e] [] 1200 Tryz.func114 hmA (fun β => by kernel_rfl) (by kernel_rfl) (fun β => rfl) β w hh
  | false => cases h2 : (b || b') with
    | true => exact bspec_ok [(sLongG1 ha ha' h1).e, (sLongG1 hb hb' h2).e] [] 1200 Tryz.func114 hmA (fun β => by kernel_rfl) (by kernel_rfl) (fun β => rfl) β w hh
    | false => cases h3 : (c || c') <;> exact bspec_ok [(sLongG1 ha ha' h1).e, (sLongG1 hb hb' h2).e, (sLongG1 hc hc' h3).e] [] 1200 Tryz.func114 hmA (fun β => by kernel_rfl) (by kernel_rfl) (fun β => rfl) β w hh
structure Off11 (p q r : Rw) (t : Bool) : Prop where
  is : ∃ a a' b b' c c' : Bool, Lg1 p.x a ∧ Lg1 p.y a' ∧ Lg1 q.x b ∧ Lg1 q.y b' ∧ Lg1 r.x c ∧ Lg1 r.y c' ∧ ((a || a') || ((b || b') || (c || c'))) = t
theorem Off11.all (p q r : Rw) : ∃ t, Off11 p q r t := by
  obtain ⟨a, ha⟩ := Lg1.all p.x
  obtain ⟨a', ha'⟩ := Lg1.all p.y
  obtain ⟨b, hb⟩ := Lg1.all q.x
  obtain ⟨b', hb'⟩ := Lg1.all q.y
  obtain ⟨c, hc⟩ := Lg1.all r.x
  obtain ⟨c', hc'⟩ := Lg1.all r.y
  exact ⟨_, ⟨a, a', b, b', c, c', ha, ha', hb, hb', hc, hc', rfl⟩⟩
def sOff11 (p q r : Rw) {t : Bool} (h : Off11 p q r t) : BSpec Tryz.prog :=
  ⟨114, Tryz.call114, sp3A, sp3L p q r, P3T, .bool t, fun β w hh => by
    obtain ⟨a, a', b, b', c, c', ha, ha', hb, hb', hc, hc', e⟩ := h.is
    rw [← e]
    exact off3_ok ha ha' hb hb' hc hc' β w hh, by kernel_rfl, fun _ => rfl⟩
def sMay11 (p : Pp) {b : Bool} (h : p.B = b) : Spec Tryz.prog :=
  Spec.auto Tryz.call117 [.one (.a (lsX p.w.C))] [] (tB' b) [] [(sR7May p h).e] [] 400 Tryz.func117 hmA (by kernel_rfl) (fun β => by kernel_rfl)
def sMay11P (p : Pt) (h : FitP p) : Spec Tryz.prog :=
  (sMay11 (ppt p h) (b := true) (ppt_B p h)).as [svP p] (tB' true) (by cases p <;> rfl) rfl
noncomputable def sIs11P (m : RQ) : Spec Tryz.prog :=
  Spec.auto Tryz.call120 [.one (.a (ciC m)), .one (nI' (ciK m)), .one (.a (cC m)), .one (nI' 0)] [] (tB' true) []
    [(sCTold m).e, eqC1 (ciR m m.a) (ciR m m.b.re) (ciR m m.b.im) (ciR m m.c), (sNum11 (ciK m)).e, .eqv 23 (.bool (ciK m == ciK m)) (.bool true) (ieq_self _)] [] 400 Tryz.func120 hmA (by kernel_rfl) (fun β => by kernel_rfl)
def sIs11T : Spec Tryz.prog :=
  Spec.auto Tryz.call120 [.one (.a c0C), .one (nI' 181), .one (.a c0C), .one (nI' 181)] [] (tB' true) [] [eqC0, (sNum11 181).e] [] 400 Tryz.func120 hmA (by kernel_rfl) (fun β => by kernel_rfl)
abbrev ctA (p q r : Rw) : List SV := [.one (.a (sp3L p q r))]
noncomputable def ct1 (p q r : Rw) (h : Off11 p q r true) : Spec Tryz.prog :=
  Spec.auto Tryz.call12 (ctA p q r) [] (tB' true) [] [(sOff11 p q r h).e, sWorks11.e] [] 2000 Tryz.func12 hmA (by kernel_rfl) (fun β => by kernel_rfl)
noncomputable def ct2a (p q r : Pp) (h : Off11 p.w q.w r.w false) (h1 : p.B = false) : Spec Tryz.prog :=
  Spec.auto Tryz.call12 (ctA p.w q.w r.w) [] (tB' true) [] [(sOff11 p.w q.w r.w h).e, (sCiThroughNo p q r (by rw [h1]; rfl)).e, (sMay11 p h1).e, eqC0, (sNum11 2).e, sWorks11.e] [] 2000 Tryz.func12 hmA (by kernel_rfl) (fun β => by kernel_rfl)
noncomputable def ct2b (p q r : Pp) (h : Off11 p.w q.w r.w false) (h1 : p.B = true) (h2 : q.B = false) : Spec Tryz.prog :=
  Spec.auto Tryz.call12 (ctA p.w q.w r.w) [] (tB' true) [] [(sOff11 p.w q.w r.w h).e, (sCiThroughNo p q r (by rw [h1, h2]; rfl)).e, (sMay11 p h1).e, (sMay11 q h2).e, eqC0, (sNum11 2).e, sWorks11.e] [] 2000 Tryz.func12 hmA (by kernel_rfl) (fun β => by kernel_rfl)
noncomputable def ct2c (p q r : Pp) (h : Off11 p.w q.w r.w false) (h1 : p.B = true) (h2 : q.B = true) (h3 : r.B = false) : Spec Tryz.prog :=
  Spec.auto Tryz.call12 (ctA p.w q.w r.w) [] (tB' true) [] [(sOff11 p.w q.w r.w h).e, (sCiThroughNo p q r (by rw [h1, h2, h3]; rfl)).e, (sMay11 p h1).e, (sMay11 q h2).e, (sMay11 r h3).e, eqC0, (sNum11 2).e, sWorks11.e] [] 2000 Tryz.func12 hmA (by kernel_rfl) (fun β => by kernel_rfl)
section
variable {p q r : Pt} (hp : FitP p) (hq : FitP q) (hr : FitP r) (h : Off11 p.w q.w r.w false)
noncomputable def ct3 {t1 t2 t3 : Bool} (h1 : ptB p q = t1) (h2 : ptB q r = t2) (h3 : ptB p r = t3) (k : (t1 || (t2 || t3)) = true) : Spec Tryz.prog :=
  Spec.auto Tryz.call12 (ctA p.w q.w r.w) [] (tB' true) [] [(sOff11 p.w q.w r.w h).e, (sCiThroughT hp hq hr h1 h2 h3 k).e, (sMay11P p hp).e, (sMay11P q hq).e, (sMay11P r hr).e, (sCThroughT h1 h2 h3 k).e, sIs11T.e, sWorks11.e] [] 2000 Tryz.func12 hmA (by kernel_rfl) (fun β => by kernel_rfl)
noncomputable def ct4 (h1 : ptB p q = false) (h2 : ptB q r = false) (h3 : ptB p r = false) (h0 : rby (thrQ p q r) ≠ 0) (h0' : rby (thrR p q r) ≠ 0) : Spec Tryz.prog :=
  Spec.auto Tryz.call12 (ctA p.w q.w r.w) [] (tB' true) [] [(sOff11 p.w q.w r.w h).e, (sCiThrough hp hq hr h1 h2 h3 h0).e, (sMay11P p hp).e, (sMay11P q hq).e, (sMay11P r hr).e, (sCThrough hp hq hr h1 h2 h3 h0').e, (sIs11P (rone (thrQ p q r))).e, sWorks11.e] [] 2000 Tryz.func12 hmA (by kernel_rfl) (fun β => by kernel_rfl)
end
theorem _root_.Go.Proofs.YtfnmclgicjmapaaGreat.CircThrough_walk (x y z : Rw) (hx : x.ok) (hy : y.ok) (hz : z.ok) (w : World) :
    Calls Tryz.prog 12 #[.agg ((.bool x.i :: (x.x.V ++ x.y.V)) ++ (.bool y.i :: (y.x.V ++ y.y.V)) ++ (.bool z.i :: (z.x.V ++ z.y.V))).toArray] w fun e w' => e = .returned (.bool true) ∧ Below w.heap.size w w' := by
  obtain ⟨t, ht⟩ := Off11.all x y z
  cases t with
  | true => exact spec_yes (ct1 x y z ht) rfl rfl w
  | false =>
    obtain ⟨p, rfl⟩ := pp_of x hx
    obtain ⟨q, rfl⟩ := pp_of y hy
    obtain ⟨r, rfl⟩ := pp_of z hz
    cases h1 : p.B with
    | false => exact spec_yes (ct2a p q r ht h1) rfl rfl w
    | true => cases h2 : q.B with
      | false => exact spec_yes (ct2b p q r ht h1 h2) rfl rfl w
      | true => cases h3 : r.B with
        | false => exact spec_yes (ct2c p q r ht h1 h2 h3) rfl rfl w
        | true =>
          obtain ⟨P, hP, rfl⟩ := Pp.good h1
          obtain ⟨Q, hQ, rfl⟩ := Pp.good h2
          obtain ⟨R, hR, rfl⟩ := Pp.good h3
          rw [ppt_w, ppt_w, ppt_w] at ht ⊢
          cases k1 : ptB P Q with
          | true => exact spec_yes (ct3 hP hQ hR ht k1 rfl rfl rfl) rfl rfl w
          | false => cases k2 : ptB Q R with
            | true => exact spec_yes (ct3 hP hQ hR ht k1 k2 rfl rfl) rfl rfl w
            | false => cases k3 : ptB P R with
              | true => exact spec_yes (ct3 hP hQ hR ht k1 k2 k3 rfl) rfl rfl w
              | false =>
                have ne : ∀ {a b : Pt}, ptB a b = false → a ≠ b := fun h e => by rw [ptB_iff.2 e] at h; cases h
                have h0 := thr_ne (ne k1) (ne k2) (ne k3)
                exact spec_yes (ct4 hP hQ hR ht k1 k2 k3 h0 (by rw [thrR_eq]; exact h0)) rfl rfl w
end Go.Proofs.YtfnmclgicjmapaaGreat.Y
end
