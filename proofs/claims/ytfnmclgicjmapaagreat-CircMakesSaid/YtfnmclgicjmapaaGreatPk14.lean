/- CiG, Open, OpnB, Yd, G1, CmA, OpnN. -/
import Derived.ProofKit
import Derived.OpenShut
import Derived.ShutString
import Derived.ChangeOld
import Derived.Below
import Derived.Test.YtfnmclgicjmapaaGreatPk13
set_option linter.unnecessarySimpa false
set_option linter.unusedVariables false
set_option linter.unusedSimpArgs false
section
namespace Go.Proofs.YtfnmclgicjmapaaGreat.Y
open Go Go.RowKit
set_option maxRecDepth 100000
abbrev pl2 (p0 p1 : Pt) : List Cd := plCd p0 ++ plCd p1
abbrev sp2A : List SV := [.one (.c (.b (.s 0 0 2 2)))]
def sp2L (p0 p1 : Rw) : List Lf := lsX p0.C ++ lsX p1.C
def sp2O (p0 p1 : Pt) : List (Nat × Ob) := [(12, .row [.b (.v (.bool (pI p0))), .b (.z 2 0), .b (.z 3 0), .b (.v (.bool (pI p1))), .b (.z 8 0), .b (.z 9 0)] PLT 2 3), (2, (ratM (pG p0).re).ob), (3, (ratM (pG p0).im).ob), (8, (ratM (pG p1).re).ob), (9, (ratM (pG p1).im).ob)]
noncomputable def sp2E {p0 p1 : Pt} (hp0 : FitP p0) (hp1 : FitP p1) : List (Ev Tryz.prog) := [(sSpotP p0 hp0).e, .app appP, (sSpotP p1 hp1).e, .app appP]
theorem sp2_eqs {p0 p1 : Pt} (hp0 : FitP p0) (hp1 : FitP p1) (β : Env) : (allS Tryz.prog Tryz.f284 sp2A [.box (sp2L p0.w p1.w) 47] (sp2E hp0 hp1) [] 800 (.tup [.c (.b (.r 12 2)), .c (.b (.v (.bool true)))]) (sp2O p0 p1) β).map Prod.fst = (allS Tryz.prog Tryz.f284 sp2A [.box (sp2L p0.w p1.w) 47] (sp2E hp0 hp1) [] 800 (.tup [.c (.b (.r 12 2)), .c (.b (.v (.bool true)))]) (sp2O p0 p1) β).map Prod.snd := by kernel_rfl
theorem spots2_ok {p0 p1 : Pt} (hp0 : FitP p0) (hp1 : FitP p1) (β : Env) (w : World) (hh : (Ob.box (sp2L p0.w p1.w) 47).holds β w (β 0)) :
    Calls Tryz.prog 284 (sp2A.map (SV.den β)).toArray w fun e u => ∃ xs : List Pl, (∀ x ∈ xs, ∀ c, x.F c → w.heap.size ≤ c) ∧ e = .returned ((SV.tup [.c (.b (.y 1 6 2)), .c (.b (.v (.bool true)))]).den (extE β 1 xs)) ∧ newHold u [rowT PLT (pl2 p0 p1)] xs ∧ Below w.heap.size w u := by
  refine (sx (P := Tryz.prog) sp2A [.box (sp2L p0.w p1.w) 47] (sp2E hp0 hp1) [] 800 (.tup [.c (.b (.r 12 2)), .c (.b (.v (.bool true)))]) (sp2O p0 p1) Tryz.func284 hmA (fun β => ok_of_maps (sp2_eqs hp0 hp1 β)) (by kernel_rfl) (by kernel_rfl) β w (fun k o ho => ?_)).mono ?_
  · cases k with
    | zero => simp only [List.getElem?_cons_zero] at ho; obtain rfl := Option.some.inj ho; exact hh
    | succ k => simp at ho
  · rintro e u ⟨β', q', obj, e1, rfl, e2, e4, e5, g⟩
    have hnew : ∀ y ∈ sp2O p0 p1, ∀ c, (β' y.1).F c → c ≠ (β 0).b → w.heap.size ≤ c := fun y hy c hc hne => by
      rcases e4 y hy c hc with h | ⟨i, hi, h⟩
      · exact h
      · obtain rfl : i = 0 := by simp only [List.length_singleton] at hi; omega
        exact absurd ((hh.1.1 c).1 h) hne
    have hu : u.heap[(β 0).b]? = some (.cells ((sp2L p0.w p1.w).map (Lf.den β)).toArray 47 (0, 0)) := by rw [g.bel.block _ (heap_lt hh.2)]; exact hh.2
    have hrat : ∀ (k : Nat) (x : Rat), (k, (ratM x).ob) ∈ sp2O p0 p1 → OR0 x u (β' k) ∧ ∀ c, (β' k).F c → w.heap.size ≤ c := fun k x hk => by
      have h : OR0 x u (β' k) := e5 _ hk
      refine ⟨h, fun c hc => ?_⟩
      rcases h with ⟨_, h2, _⟩ | ⟨b, hb, hx⟩
      · exact absurd hc (h2 c)
      · have ec := (hb.2 c).1 hc
        subst ec
        refine hnew _ hk c hc fun e => ?_
        rw [e] at hx
        exact pt_no_rat hu hx
    obtain ⟨o2, n2⟩ := hrat 2 (pG p0).re (by simp [sp2O])
    obtain ⟨o3, n3⟩ := hrat 3 (pG p0).im (by simp [sp2O])
    obtain ⟨o8, n8⟩ := hrat 8 (pG p1).re (by simp [sp2O])
    obtain ⟨o9, n9⟩ := hrat 9 (pG p1).im (by simp [sp2O])
    obtain ⟨hone, cur, hcur, hcl, hn, hcm, hsz, htake⟩ := e5 (12, .row [.b (.v (.bool (pI p0))), .b (.z 2 0), .b (.z 3 0), .b (.v (.bool (pI p1))), .b (.z 8 0), .b (.z 9 0)] PLT 2 3) (by simp [sp2O])
    have hbR : w.heap.size ≤ (β' 12).b := hnew _ (by simp [sp2O]) _ ((hone.1 _).2 rfl) fun e => by
      rw [e, hu] at hcur
      have := (Obj.cells.inj (Option.some.inj hcur)).2.1
      exact absurd this (by decide)
    refine ⟨[⟨(β' 12).b, fun i => match i with | 1 => (β' 2).v 0 | 2 => (β' 3).v 0 | 4 => (β' 8).v 0 | 5 => (β' 9).v 0 | 6 => some ⟨(β' 12).b, 0, none⟩ | _ => none, fun _ => (β' 12).c 0, fun c => c = (β' 12).b ∨ (β' 2).F c ∨ (β' 3).F c ∨ (β' 8).F c ∨ (β' 9).F c, fun _ => undef⟩], fun x hx c hc => ?_, rfl, ⟨⟨⟨.inl rfl, cur, hcur, ?_⟩, ⟨⟨trivial, or_cd o2 rfl fun c hc => .inr (.inl hc), or_cd o3 rfl fun c hc => .inr (.inr (.inl hc)), trivial, or_cd o8 rfl fun c hc => .inr (.inr (.inr (.inl hc))), or_cd o9 rfl fun c hc => .inr (.inr (.inr (.inr (hc)))), trivial⟩, rfl⟩, fun c hc => ?_⟩, trivial⟩, g.bel⟩
    · obtain rfl := List.mem_singleton.1 hx
      rcases hc with rfl | hc | hc | hc | hc
      · exact hbR
      · exact n2 c hc
      · exact n3 c hc
      · exact n8 c hc
      · exact n9 c hc
    · have : (pl2 p0 p1).length = 2 * 3 := rfl
      rw [this, htake]
      rfl
    · rcases hc with rfl | hc | hc | hc | hc
      · exact heap_lt hcur
      · exact (or_stable _).lt u _ o2 c hc
      · exact (or_stable _).lt u _ o3 c hc
      · exact (or_stable _).lt u _ o8 c hc
      · exact (or_stable _).lt u _ o9 c hc
noncomputable def sSpots2 {p0 p1 : Pt} (hp0 : FitP p0) (hp1 : FitP p1) : CSpec Tryz.prog :=
  ⟨284, Tryz.call284, sp2A, sp2L p0.w p1.w, 47, .tup [.c (.b (.y 1 6 2)), .c (.b (.v (.bool true)))], [rowT PLT (pl2 p0 p1)], spots2_ok hp0 hp1, by kernel_rfl⟩
theorem sgn_ne {n : Int} {t : Bool} (h : (!(n == 0)) = t) : Value.bool (!(n == 0)) = .bool t := by rw [h]
noncomputable def sOn1 {r : RQ} {p : Pt} (h : RSz KC r) (hp : FitP p) {t : Bool} (ht : (!((sidQ r p).num.sign == 0)) = t) : OSpec Tryz.prog :=
  OSpec.auto Tryz.call299 [pV 0 p, .one (.c (.b (.p 6 0)))] [(ratM (pG p).re).ob, (ratM (pG p).im).ob, (ratT r.a).ob, (ratT r.b.re).ob, (ratT r.b.im).ob, (ratT r.c).ob, .box [.b (.z 2 0), .b (.z 3 0), .b (.z 4 0), .b (.z 5 0)] 289] (tB' t) []
    [(sESide h hp).e, .eqv 7 (.bool (!((sidQ r p).num.sign == 0))) (.bool t) (sgn_ne ht)] [] 400 Tryz.func299 hmA (by cases p <;> kernel_rfl) (fun β => by cases p <;> kernel_rfl)
section
variable {r : RQ} {p q : Pt} (h : RSz KC r) (hp : FitP p) (hq : FitP q) (h1 : (!((sidQ r p).num.sign == 0)) = false) (h2 : (!((sidQ r q).num.sign == 0)) = false)
abbrev onO (r : RQ) (l : List Cd) : List Ob := [(rowT PLT l).ob, (ratT r.a).ob, (ratT r.b.re).ob, (ratT r.b.im).ob, (ratT r.c).ob, .box [.b (.z 1 0), .b (.z 2 0), .b (.z 3 0), .b (.z 4 0)] 289]
abbrev onF : SV := .one (.c (.f (.func 299) [] [.p 5 0]))
noncomputable def sIdx2 : OSpec Tryz.prog :=
  OSpec.auto Tryz.call376 [.one (.c (.b (.y 0 6 2))), onF] (onO r (pl2 p q)) (.one (nI' (-1))) []
    [dIdxP PLT (pl2 p q), dPlace PLT (pl2 p q), (sOn1 h hp h1).e, dIdxP PLT (pl2 p q), dPlace PLT (pl2 p q), (sOn1 h hq h2).e] [] 800 Tryz.func376 hmA (by kernel_rfl) (fun β => by kernel_rfl)
noncomputable def sHas2 : OSpec Tryz.prog :=
  OSpec.auto Tryz.call298 [.one (.c (.b (.y 0 6 2))), onF] (onO r (pl2 p q)) (tB' false) [] [(sIdx2 h hp hq h1 h2).e] [] 400 Tryz.func298 hmA (by kernel_rfl) (fun β => by kernel_rfl)
end
theorem on2_eqs {r : RQ} {p q : Pt} (h : MayC r) (hp : FitP p) (hq : FitP q) (h1 : (!((sidQ r p).num.sign == 0)) = false) (h2 : (!((sidQ r q).num.sign == 0)) = false) (β : Env) (w : World) (hh : (Ob.box (sp2L p.w q.w) 47).holds β w (β 0)) :
    Calls Tryz.prog 134 (([.one (.a (cC r)), .one (.c (.b (.s 0 0 2 2)))] : List SV).map (SV.den β)).toArray w fun e w' => e = .returned (.tuple #[.bool true, .int .i64 0]) ∧ Below w.heap.size w w' :=
  bspec_ok [(sWheel h).e, (sSpots2 hp hq).e, (sHas2 h.sz hp hq h1 h2).e] [] 800 Tryz.func134 hmA (fun β => by kernel_rfl) (by kernel_rfl) (fun β => rfl) β w hh
def sOn2 {r : RQ} {p q : Pt} (h : MayC r) (hp : FitP p) (hq : FitP q) (h1 : (!((sidQ r p).num.sign == 0)) = false) (h2 : (!((sidQ r q).num.sign == 0)) = false) : BSpec Tryz.prog :=
  ⟨134, Tryz.call134, [.one (.a (cC r)), .one (.c (.b (.s 0 0 2 2)))], sp2L p.w q.w, 47, .tuple #[.bool true, .int .i64 0], on2_eqs h hp hq h1 h2, by kernel_rfl, fun _ => rfl⟩
abbrev ptI (n m : Int) : Pt := .fin (gint n m)
theorem ptI_fit {n m : Int} (h : n.natAbs < 256) (k : m.natAbs < 256) : FitP (ptI n m) := fit_int h k
theorem ptI_ne {n m n' m' : Int} (h : ¬ (n = n' ∧ m = m')) : ptI n m ≠ ptI n' m' := pI_ne h
def uQ : RQ := ⟨Rat.divInt 1 1, gint 0 0, Rat.divInt (-1) 1⟩
theorem rq_lit {r s : RQ} (h1 : decide (r.a = s.a) = true) (h2 : decide (r.b.re = s.b.re) = true) (h3 : decide (r.b.im = s.b.im) = true) (h4 : decide (r.c = s.c) = true) : r = s := by
  obtain ⟨a, ⟨b, b'⟩, c⟩ := r
  obtain ⟨d, ⟨e, e'⟩, f⟩ := s
  obtain rfl : a = d := of_decide_eq_true h1
  obtain rfl : b = e := of_decide_eq_true h2
  obtain rfl : b' = e' := of_decide_eq_true h3
  obtain rfl : c = f := of_decide_eq_true h4
  rfl
theorem u_may : MayC uQ := ⟨⟨sz_lit1 (by decide), fit_int (by decide) (by decide), sz_lit1 (by decide)⟩, by kernel_rfl, rq_lit (by kernel_rfl) (by kernel_rfl) (by kernel_rfl) (by kernel_rfl)⟩
abbrev u1 : Pt := ptI 1 0
abbrev u2 : Pt := ptI 0 1
abbrev u3 : Pt := ptI (-1) 0
theorem u1_fit : FitP u1 := ptI_fit (by decide) (by decide)
theorem u2_fit : FitP u2 := ptI_fit (by decide) (by decide)
theorem u3_fit : FitP u3 := ptI_fit (by decide) (by decide)
theorem u_thr : rone (thrQ u1 u2 u3) = uQ := rq_lit (by kernel_rfl) (by kernel_rfl) (by kernel_rfl) (by kernel_rfl)
theorem n12 : u1 ≠ u2 := ptI_ne (by decide)
theorem n23 : u2 ≠ u3 := ptI_ne (by decide)
theorem n13 : u1 ≠ u3 := ptI_ne (by decide)
theorem ci_eq {r s : RQ} (e : r = s) (h : FitC s) : ciA r = .tup [.a (cC s), nI' 0] := by
  rw [e, ciA, (ci_fit h).1, (ci_fit h).2]
noncomputable def kThrough : Spec Tryz.prog := (sCiThrough u1_fit u2_fit u3_fit (ptB_ne' n12) (ptB_ne' n23) (ptB_ne' n13) (thr_ne n12 n23 n13)).conv (.tup [.a (cC uQ), nI' 0]) (ci_eq u_thr u_may.fit)
noncomputable def kSide : Spec Tryz.prog := sCSideN u_may (p := ptI 0 0) (ptI_fit (by decide) (by decide)) (by kernel_rfl)
abbrev m1 : Rat := Rat.divInt 2 1
abbrev m3 : Rat := Rat.divInt (-2) 1
theorem m_one : rone ⟨m1, gint 0 0, m3⟩ = uQ := rq_lit (by kernel_rfl) (by kernel_rfl) (by kernel_rfl) (by kernel_rfl)
noncomputable def kMake : Spec Tryz.prog := (sCMake (a := m1) (b := gint 0 0) (c := m3) (sz_lit1 (by decide)) (fit_int (by decide) (by decide)) (sz_lit1 (by decide)) (by kernel_rfl)).conv (.tup [.a (cC uQ), nI' 0]) (ci_eq m_one u_may.fit)
abbrev tx0 : ByteArray := ⟨#[48]⟩
abbrev tx1 : ByteArray := ⟨#[49]⟩
abbrev txN : ByteArray := ⟨#[45, 49]⟩
abbrev txU : ByteArray := ⟨#[49, 32, 48, 32, 45, 49]⟩
noncomputable def kGText : Spec Tryz.prog :=
  Spec.auto Tryz.call216 [gS (gint 0 0)] [] (.tup [.c (.b (.v (.string tx0))), nI' 0]) [] [(sGM (gpX (gint 0 0) fit00) (r := true) rfl).e, (sFText (u := tx0) fit00.1 (by kernel_rfl)).e, (sFText (u := tx0) fit00.2 (by kernel_rfl)).e] [] 400 Tryz.func216 hmA (by kernel_rfl) (fun β => by kernel_rfl)
noncomputable def kText : Spec Tryz.prog :=
  Spec.auto Tryz.call282 [.one (.a (cC uQ))] [] (.tup [.c (.b (.v (.string txU))), nI' 0]) []
    [(sCCheck u_may).e, (sFText (u := tx1) u_may.fit.1 (by kernel_rfl)).e, kGText.e, (sFText (u := txN) u_may.fit.2.2 (by kernel_rfl)).e, (sJoin3 tx1 tx0 txN ⟨#[32]⟩ txU (by kernel_rfl) (by decide)).e] [] 400 Tryz.func282 hmA (by kernel_rfl) (fun β => by kernel_rfl)
def sAt11 (n m : Int) (hn : -9223372036854775808 ≤ n ∧ n ≤ 9223372036854775807 := by decide) (hm : -9223372036854775808 ≤ m ∧ m ≤ 9223372036854775807 := by decide) : Spec Tryz.prog :=
  Spec.auto Tryz.call281 [.one (svI n), .one (svI m)] [] (svP (ptI n m)) [] [(sR4Int n m hn hm).e] [] 400 Tryz.func281 hmA (by kernel_rfl) (fun β => by kernel_rfl)
def sUnit : Spec Tryz.prog :=
  Spec.auto Tryz.call283 [] [] (.one (.a (cC uQ))) [] [(sR3Int 1 (by decide)).e, (sR4Int 0 0).e, (sR3Int (-1) (by decide)).e] [] 400 Tryz.func283 hmA (by kernel_rfl) (fun β => by kernel_rfl)
noncomputable def kOn : BSpec Tryz.prog := sOn2 u_may (p := ptI 0 (-1)) (q := ptI 1 0) (ptI_fit (by decide) (by decide)) (ptI_fit (by decide) (by decide)) (by kernel_rfl) (by kernel_rfl)
def eqU : Ev Tryz.prog := eqC1 (fR uQ.a) (fR uQ.b.re) (fR uQ.b.im) (fR uQ.c)
noncomputable def sWorks11 : Spec Tryz.prog :=
  Spec.auto Tryz.call115 [] [] (tB' true) []
    [(sAt11 1 0).e, (sAt11 0 1).e, (sAt11 (-1) 0).e, kThrough.e, (sAt11 0 0).e, kSide.e, (sR3Int 2 (by decide)).e, (sR4Int 0 0).e, (sR3Int (-2) (by decide)).e, kMake.e, kText.e, (sAt11 0 (-1)).e, (sAt11 1 0).e, kOn.e,
      (sNum11 0).e, sUnit.e, eqU, (sNum11 0).e, (sNum11 0).e, eqU, (sNum11 0).e, (sNum11 0).e] [(2, 8), (5, 10), (6, 45)] 3000 Tryz.func115 hmA (by kernel_rfl) (fun β => by kernel_rfl)
end Go.Proofs.YtfnmclgicjmapaaGreat.Y
end
section
namespace Go.Proofs.YtfnmclgicjmapaaGreat
open Go.ChangeShapes Go.WideShapes Go.ChangeAt Go.RowKit
theorem cellsOf_bool : Tryz.prog.cellsOf 4 = 1 := by kernel_rfl
theorem cellsOf_string : Tryz.prog.cellsOf 9 = 1 := by kernel_rfl
theorem cellsOf_whole : Tryz.prog.cellsOf 23 = 2 := by kernel_rfl
theorem cellsOf_frac : Tryz.prog.cellsOf 25 = 4 := by kernel_rfl
section
variable {H : Type} {enc : TypeId × Value → H} {w : World} {base : Nat} {spare : Nat → Bool} {held : Bool}
set_option maxRecDepth 100000 in
theorem trod_whole {fuel : Nat} {cs : List Value} {x : DataW H × List MemPlace} (h : DataW.trod enc Tryz.prog w base spare held fuel 23 cs = some x) :
    ∃ (b : Bool) (s : ByteArray), cs = [.bool b, .string s] ∧ s.size ≤ maxLen := by
  obtain ⟨xs, n, rfl, _, hlen, hxl, hf⟩ := DataW.trod_struct Tryz.underlying23 h
  rw [cellsOf_whole] at hlen
  have hx0 : xs[0]? = some (xs[0]'(by rw [hxl]; decide)) := List.getElem?_eq_getElem _
  have hx1 : xs[1]? = some (xs[1]'(by rw [hxl]; decide)) := List.getElem?_eq_getElem _
  have h0 : DataW.trod enc Tryz.prog w base spare held n 4 ((cs.drop 0).take (Tryz.prog.cellsOf 4)) = some _ := (hf 0 _ rfl).trans hx0
  have h1 : DataW.trod enc Tryz.prog w base spare held n 9 ((cs.drop 1).take (Tryz.prog.cellsOf 9)) = some _ := (hf 1 _ rfl).trans hx1
  rw [cellsOf_bool] at h0
  rw [cellsOf_string] at h1
  match cs, hlen with
  | [a, b], _ =>
    obtain ⟨p, e0, _⟩ := DataW.trod_bool Tryz.underlying4 h0
    obtain ⟨s, e1, _, hs⟩ := DataW.trod_string Tryz.underlying9 h1
    cases e0
    cases e1
    exact ⟨p, s, rfl, hs⟩
set_option maxRecDepth 100000 in
theorem trod_frac {fuel : Nat} {cs : List Value} {x : DataW H × List MemPlace} (h : DataW.trod enc Tryz.prog w base spare held fuel 25 cs = some x) :
    ∃ (b c : Bool) (s t : ByteArray), cs = [.bool b, .string s, .bool c, .string t] ∧ s.size ≤ maxLen ∧ t.size ≤ maxLen := by
  obtain ⟨xs, n, rfl, _, hlen, hxl, hf⟩ := DataW.trod_struct Tryz.underlying25 h
  rw [cellsOf_frac] at hlen
  have hx0 : xs[0]? = some (xs[0]'(by rw [hxl]; decide)) := List.getElem?_eq_getElem _
  have hx1 : xs[1]? = some (xs[1]'(by rw [hxl]; decide)) := List.getElem?_eq_getElem _
  have h0 : DataW.trod enc Tryz.prog w base spare held n 23 ((cs.drop 0).take (Tryz.prog.cellsOf 23)) = some _ := (hf 0 _ rfl).trans hx0
  have h1 : DataW.trod enc Tryz.prog w base spare held n 23 ((cs.drop 2).take (Tryz.prog.cellsOf 23)) = some _ := (hf 1 _ rfl).trans hx1
  rw [cellsOf_whole] at h0 h1
  match cs, hlen with
  | [a, b, c, d], _ =>
    obtain ⟨p, s, e0, hs⟩ := trod_whole h0
    obtain ⟨q, t, e1, ht⟩ := trod_whole h1
    cases e0
    cases e1
    exact ⟨p, q, s, t, rfl, hs, ht⟩
end
end Go.Proofs.YtfnmclgicjmapaaGreat
end
section
namespace Go.Proofs.YtfnmclgicjmapaaGreat
open Go Go.ChangeShapes Go.WideShapes Go.ChangeAt Go.RowKit
theorem cellsOf_gauss : Tryz.prog.cellsOf 45 = 8 := by kernel_rfl
theorem chunk {α : Type} (cs : List α) (a b : Nat) : cs.drop a = (cs.drop a).take b ++ cs.drop (a + b) := by
  rw [← List.drop_drop, List.take_append_drop]
def R4.ok (x : R4) : Prop := x.s.size ≤ maxLen ∧ x.t.size ≤ maxLen
section
variable {H : Type} {enc : TypeId × Value → H} {w : World} {base : Nat} {spare : Nat → Bool} {held : Bool}
theorem trod_r4 {fuel : Nat} {cs : List Value} {x : DataW H × List MemPlace} (h : DataW.trod enc Tryz.prog w base spare held fuel 25 cs = some x) : ∃ r : R4, cs = r.V ∧ r.ok := by
  obtain ⟨b, c, s, t, e, h1, h2⟩ := trod_frac h
  exact ⟨⟨b, s, c, t⟩, e, h1, h2⟩
set_option maxRecDepth 100000 in
theorem trod_gauss {fuel : Nat} {cs : List Value} {x : DataW H × List MemPlace} (h : DataW.trod enc Tryz.prog w base spare held fuel 45 cs = some x) : ∃ r s : R4, cs = r.V ++ s.V ∧ r.ok ∧ s.ok := by
  obtain ⟨xs, n, rfl, _, hlen, hxl, hf⟩ := DataW.trod_struct Tryz.underlying45 h
  rw [cellsOf_gauss] at hlen
  have hx0 : xs[0]? = some (xs[0]'(by rw [hxl]; decide)) := List.getElem?_eq_getElem _
  have hx1 : xs[1]? = some (xs[1]'(by rw [hxl]; decide)) := List.getElem?_eq_getElem _
  have h0 : DataW.trod enc Tryz.prog w base spare held n 25 ((cs.drop 0).take (Tryz.prog.cellsOf 25)) = some _ := (hf 0 _ rfl).trans hx0
  have h1 : DataW.trod enc Tryz.prog w base spare held n 25 ((cs.drop 4).take (Tryz.prog.cellsOf 25)) = some _ := (hf 1 _ rfl).trans hx1
  rw [cellsOf_frac] at h0 h1
  obtain ⟨r, e0, k0⟩ := trod_r4 h0
  obtain ⟨s, e1, k1⟩ := trod_r4 h1
  refine ⟨r, s, ?_, k0, k1⟩
  have := chunk cs 0 4
  rw [e0, List.drop_zero] at this
  rw [this, chunk cs (0 + 4) 4, e1, List.drop_of_length_le (by omega), List.append_nil]
end
end Go.Proofs.YtfnmclgicjmapaaGreat
end
section
namespace Go.Proofs.YtfnmclgicjmapaaGreat.Y
open Go Go.RowKit
theorem spec_yes {P : Program} (S : Spec P) (ho : S.obs = []) (hr : S.res = .one (.c (.b (.v (.bool true))))) (w : World) : Calls P S.f (S.args.map (SV.den idE)).toArray w fun e w' => e = .returned (.bool true) ∧ Below w.heap.size w w' := by
  refine (S.ok idE w (by rw [ho]; intro k t h; simp at h)).mono ?_
  rintro e w' ⟨xs, _, rfl, _, hb⟩
  exact ⟨by rw [hr]; rfl, hb⟩
end Go.Proofs.YtfnmclgicjmapaaGreat.Y
end
section
namespace Go.Proofs.YtfnmclgicjmapaaGreat.Y
open Go Go.RowKit
set_option maxRecDepth 100000
abbrev I64 (n : Int) : Prop := -9223372036854775808 ≤ n ∧ n ≤ 9223372036854775807
theorem sz_i64 {n : Int} (h : I64 n) : Sz 8 (Rat.divInt n 1) := sz_lit n 1 (by omega) (by decide) (by decide)
def sR4MayG (a : Gn) {r : Bool} (h : a.B = r) : Spec Tryz.prog :=
  (sR4May a.gp.a.a a.gp.b.a).as [gnS a] (tB' r) (by
    show [SV.one (.a (a.gp.a.a.C ++ a.gp.b.a.C))] = [SV.one (.a (rL a.gp.a.r ++ rL a.gp.b.r))]
    rw [show a.gp.a.a.C = rL a.gp.a.r from a.gp.a.e, show a.gp.b.a.C = rL a.gp.b.r from a.gp.b.e]) (congrArg tB' (a.gpB.trans h))
end Go.Proofs.YtfnmclgicjmapaaGreat.Y
end
section
namespace Go.Proofs.YtfnmclgicjmapaaGreat.Y
open Go Go.RowKit
set_option maxRecDepth 100000
inductive T1 where
  | lo
  | mid
  | hi
def T1.at (s : ByteArray) : T1 → Prop
  | .lo => decide ((100 : Int) < (s.size : Int)) = false
  | .mid => decide ((100 : Int) < (s.size : Int)) = true ∧ decide ((s.size : Int) ≤ 1024) = true
  | .hi => decide ((100 : Int) < (s.size : Int)) = true ∧ decide ((s.size : Int) ≤ 1024) = false
def T1.yes : T1 → Bool
  | .mid => true
  | _ => false
theorem T1.all (s : ByteArray) : ∃ k : T1, k.at s := by
  cases h : decide ((100 : Int) < (s.size : Int)) with
  | false => exact ⟨.lo, h⟩
  | true => cases h2 : decide ((s.size : Int) ≤ 1024) with
    | true => exact ⟨.mid, h, h2⟩
    | false => exact ⟨.hi, h, h2⟩
theorem bl_lit {b r : Bool} (h : b = r) : Value.bool b = .bool r := by rw [h]
def yT1 (d1 d2 : Nat) (s : ByteArray) : (k : T1) → k.at s → List (Ev Tryz.prog)
  | .lo, h => [.eqv d1 (.bool (decide ((100 : Int) < (s.size : Int)))) (.bool false) (bl_lit h)]
  | .mid, h => [.eqv d1 (.bool (decide ((100 : Int) < (s.size : Int)))) (.bool true) (bl_lit h.1), .eqv d2 (.bool (decide ((s.size : Int) ≤ 1024))) (.bool true) (bl_lit h.2)]
  | .hi, h => [.eqv d1 (.bool (decide ((100 : Int) < (s.size : Int)))) (.bool true) (bl_lit h.1), .eqv d2 (.bool (decide ((s.size : Int) ≤ 1024))) (.bool false) (bl_lit h.2)]
def Lg1 (x : R4) (r : Bool) : Prop := ∃ a b : T1, a.at x.s ∧ b.at x.t ∧ (a.yes || b.yes) = r
theorem Lg1.all (x : R4) : ∃ r, Lg1 x r := by
  obtain ⟨a, ha⟩ := T1.all x.s
  obtain ⟨b, hb⟩ := T1.all x.t
  exact ⟨_, a, b, ha, hb, rfl⟩
def sLongF (x : R4) {r : Bool} (h : Lg1 x r) : Spec Tryz.prog :=
  ⟨121, Tryz.call121, [.one (.a (rL x))], [], tB' r, [], fun β w hh => by
    obtain ⟨a, b, ha, hb, rfl⟩ := h
    cases a with
    | mid => exact spec_auto (evs := yT1 7 13 x.s .mid ha) (Ns := []) (m := 400) Tryz.func121 hmA (fun β => by kernel_rfl) (by kernel_rfl) β w hh
    | lo => cases b <;> exact spec_auto (evs := yT1 7 13 x.s .lo ha ++ yT1 20 26 x.t _ hb) (Ns := []) (m := 400) Tryz.func121 hmA (fun β => by kernel_rfl) (by kernel_rfl) β w hh
    | hi => cases b <;> exact spec_auto (evs := yT1 7 13 x.s .hi ha ++ yT1 20 26 x.t _ hb) (Ns := []) (m := 400) Tryz.func121 hmA (fun β => by kernel_rfl) (by kernel_rfl) β w hh, by kernel_rfl⟩
theorem long3_ok {x0 y0 x1 y1 x2 y2 : R4} {rx0 ry0 rx1 ry1 rx2 ry2 : Bool} (hx0 : Lg1 x0 rx0) (hy0 : Lg1 y0 ry0) (hx1 : Lg1 x1 rx1) (hy1 : Lg1 y1 ry1) (hx2 : Lg1 x2 rx2) (hy2 : Lg1 y2 ry2) (β : Env) (w : World) (hh : (Ob.box (rL x0 ++ rL y0 ++ rL x1 ++ rL y1 ++ rL x2 ++ rL y2) 45).holds β w (β 0)) :
    Calls Tryz.prog 122 (([.one (.c (.b (.s 0 0 3 3)))] : List SV).map (SV.den β)).toArray w fun e w' => e = .returned (.bool (rx0 || (ry0 || (rx1 || (ry1 || (rx2 || ry2)))))) ∧ Below w.heap.size w w' := by
  cases rx0 with
  | true => exact bspec_ok [(sLongF x0 hx0).e] [] 1200 Tryz.func122 hmA (fun β => by kernel_rfl) (by kernel_rfl) (fun β => rfl) β w hh
  | false =>
  cases ry0 with
  | true => exact bspec_ok [(sLongF x0 hx0).e, (sLongF y0 hy0).e] [] 1200 Tryz.func122 hmA (fun β => by kernel_rfl) (by kernel_rfl) (fun β => rfl) β w hh
  | false =>
  cases rx1 with
  | true => exact bspec_ok [(sLongF x0 hx0).e, (sLongF y0 hy0).e, (sLongF x1 hx1).e] [] 1200 Tryz.func122 hmA (fun β => by kernel_rfl) (by kernel_rfl) (fun β => rfl) β w hh
  | false =>
  cases ry1 with
  | true => exact bspec_ok [(sLongF x0 hx0).e, (sLongF y0 hy0).e, (sLongF x1 hx1).e, (sLongF y1 hy1).e] [] 1200 Tryz.func122 hmA (fun β => by kernel_rfl) (by kernel_rfl) (fun β => rfl) β w hh
  | false =>
  cases rx2 with
  | true => exact bspec_ok [(sLongF x0 hx0).e, (sLongF y0 hy0).e, (sLongF x1 hx1).e, (sLongF y1 hy1).e, (sLongF x2 hx2).e] [] 1200 Tryz.func122 hmA (fun β => by kernel_rfl) (by kernel_rfl) (fun β => rfl) β w hh
  | false =>
  cases ry2 with
  | true => exact bspec_ok [(sLongF x0 hx0).e, (sLongF y0 hy0).e, (sLongF x1 hx1).e, (sLongF y1 hy1).e, (sLongF x2 hx2).e, (sLongF y2 hy2).e] [] 1200 Tryz.func122 hmA (fun β => by kernel_rfl) (by kernel_rfl) (fun β => rfl) β w hh
  | false =>
  exact bspec_ok [(sLongF x0 hx0).e, (sLongF y0 hy0).e, (sLongF x1 hx1).e, (sLongF y1 hy1).e, (sLongF x2 hx2).e, (sLongF y2 hy2).e] [] 1200 Tryz.func122 hmA (fun β => by kernel_rfl) (by kernel_rfl) (fun β => rfl) β w hh
def sLongG3 {x0 y0 x1 y1 x2 y2 : R4} {rx0 ry0 rx1 ry1 rx2 ry2 : Bool} (hx0 : Lg1 x0 rx0) (hy0 : Lg1 y0 ry0) (hx1 : Lg1 x1 rx1) (hy1 : Lg1 y1 ry1) (hx2 : Lg1 x2 rx2) (hy2 : Lg1 y2 ry2) {r : Bool} (h : (rx0 || (ry0 || (rx1 || (ry1 || (rx2 || ry2))))) = r) : BSpec Tryz.prog :=
  ⟨122, Tryz.call122, [.one (.c (.b (.s 0 0 3 3)))], rL x0 ++ rL y0 ++ rL x1 ++ rL y1 ++ rL x2 ++ rL y2, 45, .bool r, fun β w hh => by rw [← h]; exact long3_ok hx0 hy0 hx1 hy1 hx2 hy2 β w hh, by kernel_rfl, fun _ => rfl⟩
def sR3MayR (f : Fr) {r : Bool} (h : f.a.B = r) : Spec Tryz.prog :=
  ⟨17, Tryz.call17, [.one (.a (rL f.r))], [], tB' r, [], fun β w hh => by
    rw [← h, ← f.e]
    obtain ⟨r, a, e⟩ := f
    cases a with
    | ok x hx => exact (Fp.may3 (.ok x hx)).ok β w hh
    | no b c s t hn hs ht => exact (Fp.may3 (.no b c s t hn hs ht)).ok β w hh, by kernel_rfl⟩
def sR3MayN (a : Fn) {r : Bool} (h : a.B = r) : Spec Tryz.prog :=
  ⟨17, Tryz.call17, [.one (.a (rL a.r))], [], tB' r, [], fun β w hh => by
    rw [← h]
    cases a with
    | ok x hx => exact (sR3MayR (frX x hx) rfl).ok β w hh
    | no f hf => exact (sR3MayR f hf).ok β w hh, by kernel_rfl⟩
noncomputable def cmMk : Fn → Gn → Fn → List (Ev Tryz.prog)
  | .ok _ ha, .ok _ hb, .ok _ hc => [(sCMakeA ha hb hc).e]
  | .no f h, b, c => [(sCMakeNo (.no f h) b c rfl).e]
  | .ok x hx, .no g h, c => [(sCMakeNo (.ok x hx) (.no g h) c rfl).e]
  | .ok x hx, .ok z hz, .no f h => [(sCMakeNo (.ok x hx) (.ok z hz) (.no f h) rfl).e]
noncomputable def cmRd : Gn → Fn → List (Ev Tryz.prog)
  | .ok _ hb, .ok _ hc => [(sCRoundA hb hc).e]
  | .no g h, c => [(sCRoundNo (.no g h) c rfl).e]
  | .ok z hz, .no f h => [(sCRoundNo (.ok z hz) (.no f h) rfl).e]
noncomputable def cmLn : Gn → Gn → List (Ev Tryz.prog)
  | .ok _ hb, .ok _ hc => [(sCLineA hb hc).e]
  | .no g h, c => [(sCLineNo (.no g h) c rfl).e]
  | .ok z hz, .no f h => [(sCLineNo (.ok z hz) (.no f h) rfl).e]
def eqC0 : Ev Tryz.prog := eqC1 r40 r40 r40 r40
noncomputable def cmMkT : Fn → Gn → Fn → List (Ev Tryz.prog)
  | .ok x ha, .ok z hb, .ok y hc => [(sCRMake (r := ⟨x, z, y⟩) (mk_sz ha hb hc)).e, (sIs11 ⟨x, z, y⟩).e]
  | _, _, _ => [eqC0, (sNum11 2).e]
noncomputable def cmRdT : Gn → Fn → List (Ev Tryz.prog)
  | .ok z hb, .ok y hc => [(sCRRound hb hc).e, (sIs11 (roundQ z y)).e]
  | _, _ => [eqC0, (sNum11 2).e]
noncomputable def cmLnT : Gn → Gn → List (Ev Tryz.prog)
  | .ok z hb, .ok y hc => [(sCRLine hb hc).e, (sIs11 (lineQ z y)).e, sWorks11.e]
  | _, _ => [eqC0, (sNum11 2).e, sWorks11.e]
abbrev cmA (a : R4) (b b' c z z' w w' : R4) : List SV := [.one (.a (rL a ++ (rL b ++ rL b') ++ rL c ++ (rL z ++ rL z') ++ (rL w ++ rL w')))]
abbrev cmNs : List (Nat × Nat) := [(6, 12), (7, 8)]
section
variable {a b b' c z z' w w' : R4}
noncomputable def cm1 (ha : Lg1 a true) : Spec Tryz.prog :=
  Spec.auto Tryz.call13 (cmA a b b' c z z' w w') [] (tB' true) [] [(sLongF a ha).e, sWorks11.e] cmNs 3000 Tryz.func13 hmA (by kernel_rfl) (fun β => by kernel_rfl)
variable {rb rb' rz rz' rw rw' : Bool} (ha : Lg1 a false) (hb : Lg1 b rb) (hb' : Lg1 b' rb') (hz : Lg1 z rz) (hz' : Lg1 z' rz') (hw : Lg1 w rw) (hw' : Lg1 w' rw')
noncomputable def cm2 (h : (rb || (rb' || (rz || (rz' || (rw || rw'))))) = true) : Spec Tryz.prog :=
  Spec.auto Tryz.call13 (cmA a b b' c z z' w w') [] (tB' true) [] [(sLongF a ha).e, (sLongG3 hb hb' hz hz' hw hw' h).e, sWorks11.e] cmNs 3000 Tryz.func13 hmA (by kernel_rfl) (fun β => by kernel_rfl)
noncomputable def cm3 (h : (rb || (rb' || (rz || (rz' || (rw || rw'))))) = false) (hc : Lg1 c true) : Spec Tryz.prog :=
  Spec.auto Tryz.call13 (cmA a b b' c z z' w w') [] (tB' true) [] [(sLongF a ha).e, (sLongG3 hb hb' hz hz' hw hw' h).e, (sLongF c hc).e, sWorks11.e] cmNs 3000 Tryz.func13 hmA (by kernel_rfl) (fun β => by kernel_rfl)
end
section
variable (a : Fn) (b : Gn) (c : Fn) (z w : Gn) {rb rb' rz rz' rw rw' : Bool} (ha : Lg1 a.r false) (hb : Lg1 b.x rb) (hb' : Lg1 b.y rb') (hc : Lg1 c.r false) (hz : Lg1 z.x rz) (hz' : Lg1 z.y rz') (hw : Lg1 w.x rw) (hw' : Lg1 w.y rw') (h : (rb || (rb' || (rz || (rz' || (rw || rw'))))) = false)
noncomputable def cmE : List (Ev Tryz.prog) :=
  [(sLongF a.r ha).e, (sLongG3 hb hb' hz hz' hw hw' h).e, (sLongF c.r hc).e] ++ cmMk a b c ++ cmRd z c ++ cmLn z w ++ [(sR3MayN a rfl).e, (sR4MayG b rfl).e, (sR3MayN c rfl).e, (sR4MayG z rfl).e, (sR4MayG w rfl).e] ++ cmMkT a b c ++ cmRdT z c ++ cmLnT z w
abbrev cmX : List SV := cmA a.r b.x b.y c.r z.x z.y w.x w.y
def CmOk : Prop := ∀ β, (specA Tryz.prog Tryz.f13 (cmX a b c z w) [] (cmE a b c z w ha hb hb' hc hz hz' hw hw' h) cmNs 3000 (tB' true) [] β).map Prod.fst = (specA Tryz.prog Tryz.f13 (cmX a b c z w) [] (cmE a b c z w ha hb hb' hc hz hz' hw hw' h) cmNs 3000 (tB' true) [] β).map Prod.snd
end
section
variable {rb rb' rz rz' rw rw' : Bool}
theorem cm_eq0 {x : Rat} (hx : Fit x) {z1 : GQ} (hz1 : FitG z1) {y : Rat} (hy : Fit y) {z2 : GQ} (hz2 : FitG z2) {z3 : GQ} (hz3 : FitG z3) (ha : Lg1 (Fn.r (Fn.ok x hx)) false) (hb : Lg1 (Gn.x (Gn.ok z1 hz1)) rb) (hb' : Lg1 (Gn.y (Gn.ok z1 hz1)) rb') (hc : Lg1 (Fn.r (Fn.ok y hy)) false) (hz : Lg1 (Gn.x (Gn.ok z2 hz2)) rz) (hz' : Lg1 (Gn.y (Gn.ok z2 hz2)) rz') (hw : Lg1 (Gn.x (Gn.ok z3 hz3)) rw) (hw' : Lg1 (Gn.y (Gn.ok z3 hz3)) rw') (h : (rb || (rb' || (rz || (rz' || (rw || rw'))))) = false) : CmOk (Fn.ok x hx) (Gn.ok z1 hz1) (Fn.ok y hy) (Gn.ok z2 hz2) (Gn.ok z3 hz3) ha hb hb' hc hz hz' hw hw' h := fun β => by kernel_rfl
theorem cm_eq1 {x : Rat} (hx : Fit x) {z1 : GQ} (hz1 : FitG z1) {y : Rat} (hy : Fit y) {z2 : GQ} (hz2 : FitG z2) (g3 : Gp) (hg3 : g3.B = false) (ha : Lg1 (Fn.r (Fn.ok x hx)) false) (hb : Lg1 (Gn.x (Gn.ok z1 hz1)) rb) (hb' : Lg1 (Gn.y (Gn.ok z1 hz1)) rb') (hc : Lg1 (Fn.r (Fn.ok y hy)) false) (hz : Lg1 (Gn.x (Gn.ok z2 hz2)) rz) (hz' : Lg1 (Gn.y (Gn.ok z2 hz2)) rz') (hw : Lg1 (Gn.x (Gn.no g3 hg3)) rw) (hw' : Lg1 (Gn.y (Gn.no g3 hg3)) rw') (h : (rb || (rb' || (rz || (rz' || (rw || rw'))))) = false) : CmOk (Fn.ok x hx) (Gn.ok z1 hz1) (Fn.ok y hy) (Gn.ok z2 hz2) (Gn.no g3 hg3) ha hb hb' hc hz hz' hw hw' h := fun β => by kernel_rfl
theorem cm_eq2 {x : Rat} (hx : Fit x) {z1 : GQ} (hz1 : FitG z1) {y : Rat} (hy : Fit y) (g2 : Gp) (hg2 : g2.B = false) {z3 : GQ} (hz3 : FitG z3) (ha : Lg1 (Fn.r (Fn.ok x hx)) false) (hb : Lg1 (Gn.x (Gn.ok z1 hz1)) rb) (hb' : Lg1 (Gn.y (Gn.ok z1 hz1)) rb') (hc : Lg1 (Fn.r (Fn.ok y hy)) false) (hz : Lg1 (Gn.x (Gn.no g2 hg2)) rz) (hz' : Lg1 (Gn.y (Gn.no g2 hg2)) rz') (hw : Lg1 (Gn.x (Gn.ok z3 hz3)) rw) (hw' : Lg1 (Gn.y (Gn.ok z3 hz3)) rw') (h : (rb || (rb' || (rz || (rz' || (rw || rw'))))) = false) : CmOk (Fn.ok x hx) (Gn.ok z1 hz1) (Fn.ok y hy) (Gn.no g2 hg2) (Gn.ok z3 hz3) ha hb hb' hc hz hz' hw hw' h := fun β => by kernel_rfl
theorem cm_eq3 {x : Rat} (hx : Fit x) {z1 : GQ} (hz1 : FitG z1) {y : Rat} (hy : Fit y) (g2 : Gp) (hg2 : g2.B = false) (g3 : Gp) (hg3 : g3.B = false) (ha : Lg1 (Fn.r (Fn.ok x hx)) false) (hb : Lg1 (Gn.x (Gn.ok z1 hz1)) rb) (hb' : Lg1 (Gn.y (Gn.ok z1 hz1)) rb') (hc : Lg1 (Fn.r (Fn.ok y hy)) false) (hz : Lg1 (Gn.x (Gn.no g2 hg2)) rz) (hz' : Lg1 (Gn.y (Gn.no g2 hg2)) rz') (hw : Lg1 (Gn.x (Gn.no g3 hg3)) rw) (hw' : Lg1 (Gn.y (Gn.no g3 hg3)) rw') (h : (rb || (rb' || (rz || (rz' || (rw || rw'))))) = false) : CmOk (Fn.ok x hx) (Gn.ok z1 hz1) (Fn.ok y hy) (Gn.no g2 hg2) (Gn.no g3 hg3) ha hb hb' hc hz hz' hw hw' h := fun β => by kernel_rfl
theorem cm_eq4 {x : Rat} (hx : Fit x) {z1 : GQ} (hz1 : FitG z1) (k : Fr) (hk : k.a.B = false) {z2 : GQ} (hz2 : FitG z2) {z3 : GQ} (hz3 : FitG z3) (ha : Lg1 (Fn.r (Fn.ok x hx)) false) (hb : Lg1 (Gn.x (Gn.ok z1 hz1)) rb) (hb' : Lg1 (Gn.y (Gn.ok z1 hz1)) rb') (hc : Lg1 (Fn.r (Fn.no k hk)) false) (hz : Lg1 (Gn.x (Gn.ok z2 hz2)) rz) (hz' : Lg1 (Gn.y (Gn.ok z2 hz2)) rz') (hw : Lg1 (Gn.x (Gn.ok z3 hz3)) rw) (hw' : Lg1 (Gn.y (Gn.ok z3 hz3)) rw') (h : (rb || (rb' || (rz || (rz' || (rw || rw'))))) = false) : CmOk (Fn.ok x hx) (Gn.ok z1 hz1) (Fn.no k hk) (Gn.ok z2 hz2) (Gn.ok z3 hz3) ha hb hb' hc hz hz' hw hw' h := fun β => by kernel_rfl
theorem cm_eq5 {x : Rat} (hx : Fit x) {z1 : GQ} (hz1 : FitG z1) (k : Fr) (hk : k.a.B = false) {z2 : GQ} (hz2 : FitG z2) (g3 : Gp) (hg3 : g3.B = false) (ha : Lg1 (Fn.r (Fn.ok x hx)) false) (hb : Lg1 (Gn.x (Gn.ok z1 hz1)) rb) (hb' : Lg1 (Gn.y (Gn.ok z1 hz1)) rb') (hc : Lg1 (Fn.r (Fn.no k hk)) false) (hz : Lg1 (Gn.x (Gn.ok z2 hz2)) rz) (hz' : Lg1 (Gn.y (Gn.ok z2 hz2)) rz') (hw : Lg1 (Gn.x (Gn.no g3 hg3)) rw) (hw' : Lg1 (Gn.y (Gn.no g3 hg3)) rw') (h : (rb || (rb' || (rz || (rz' || (rw || rw'))))) = false) : CmOk (Fn.ok x hx) (Gn.ok z1 hz1) (Fn.no k hk) (Gn.ok z2 hz2) (Gn.no g3 hg3) ha hb hb' hc hz hz' hw hw' h := fun β => by kernel_rfl
theorem cm_eq6 {x : Rat} (hx : Fit x) {z1 : GQ} (hz1 : FitG z1) (k : Fr) (hk : k.a.B = false) (g2 : Gp) (hg2 : g2.B = false) {z3 : GQ} (hz3 : FitG z3) (ha : Lg1 (Fn.r (Fn.ok x hx)) false) (hb : Lg1 (Gn.x (Gn.ok z1 hz1)) rb) (hb' : Lg1 (Gn.y (Gn.ok z1 hz1)) rb') (hc : Lg1 (Fn.r (Fn.no k hk)) false) (hz : Lg1 (Gn.x (Gn.no g2 hg2)) rz) (hz' : Lg1 (Gn.y (Gn.no g2 hg2)) rz') (hw : Lg1 (Gn.x (Gn.ok z3 hz3)) rw) (hw' : Lg1 (Gn.y (Gn.ok z3 hz3)) rw') (h : (rb || (rb' || (rz || (rz' || (rw || rw'))))) = false) : CmOk (Fn.ok x hx) (Gn.ok z1 hz1) (Fn.no k hk) (Gn.no g2 hg2) (Gn.ok z3 hz3) ha hb hb' hc hz hz' hw hw' h := fun β => by kernel_rfl
theorem cm_eq7 {x : Rat} (hx : Fit x) {z1 : GQ} (hz1 : FitG z1) (k : Fr) (hk : k.a.B = false) (g2 : Gp) (hg2 : g2.B = false) (g3 : Gp) (hg3 : g3.B = false) (ha : Lg1 (Fn.r (Fn.ok x hx)) false) (hb : Lg1 (Gn.x (Gn.ok z1 hz1)) rb) (hb' : Lg1 (Gn.y (Gn.ok z1 hz1)) rb') (hc : Lg1 (Fn.r (Fn.no k hk)) false) (hz : Lg1 (Gn.x (Gn.no g2 hg2)) rz) (hz' : Lg1 (Gn.y (Gn.no g2 hg2)) rz') (hw : Lg1 (Gn.x (Gn.no g3 hg3)) rw) (hw' : Lg1 (Gn.y (Gn.no g3 hg3)) rw') (h : (rb || (rb' || (rz || (rz' || (rw || rw'))))) = false) : CmOk (Fn.ok x hx) (Gn.ok z1 hz1) (Fn.no k hk) (Gn.no g2 hg2) (Gn.no g3 hg3) ha hb hb' hc hz hz' hw hw' h := fun β => by kernel_rfl
theorem cm_eq8 {x : Rat} (hx : Fit x) (g1 : Gp) (hg1 : g1.B = false) {y : Rat} (hy : Fit y) {z2 : GQ} (hz2 : FitG z2) {z3 : GQ} (hz3 : FitG z3) (ha : Lg1 (Fn.r (Fn.ok x hx)) false) (hb : Lg1 (Gn.x (Gn.no g1 hg1)) rb) (hb' : Lg1 (Gn.y (Gn.no g1 hg1)) rb') (hc : Lg1 (Fn.r (Fn.ok y hy)) false) (hz : Lg1 (Gn.x (Gn.ok z2 hz2)) rz) (hz' : Lg1 (Gn.y (Gn.ok z2 hz2)) rz') (hw : Lg1 (Gn.x (Gn.ok z3 hz3)) rw) (hw' : Lg1 (Gn.y (Gn.ok z3 hz3)) rw') (h : (rb || (rb' || (rz || (rz' || (rw || rw'))))) = false) : CmOk (Fn.ok x hx) (Gn.no g1 hg1) (Fn.ok y hy) (Gn.ok z2 hz2) (Gn.ok z3 hz3) ha hb hb' hc hz hz' hw hw' h := fun β => by kernel_rfl
theorem cm_eq9 {x : Rat} (hx : Fit x) (g1 : Gp) (hg1 : g1.B = false) {y : Rat} (hy : Fit y) {z2 : GQ} (hz2 : FitG z2) (g3 : Gp) (hg3 : g3.B = false) (ha : Lg1 (Fn.r (Fn.ok x hx)) false) (hb : Lg1 (Gn.x (Gn.no g1 hg1)) rb) (hb' : Lg1 (Gn.y (Gn.no g1 hg1)) rb') (hc : Lg1 (Fn.r (Fn.ok y hy)) false) (hz : Lg1 (Gn.x (Gn.ok z2 hz2)) rz) (hz' : Lg1 (Gn.y (Gn.ok z2 hz2)) rz') (hw : Lg1 (Gn.x (Gn.no g3 hg3)) rw) (hw' : Lg1 (Gn.y (Gn.no g3 hg3)) rw') (h : (rb || (rb' || (rz || (rz' || (rw || rw'))))) = false) : CmOk (Fn.ok x hx) (Gn.no g1 hg1) (Fn.ok y hy) (Gn.ok z2 hz2) (Gn.no g3 hg3) ha hb hb' hc hz hz' hw hw' h := fun β => by kernel_rfl
theorem cm_eq10 {x : Rat} (hx : Fit x) (g1 : Gp) (hg1 : g1.B = false) {y : Rat} (hy : Fit y) (g2 : Gp) (hg2 : g2.B = false) {z3 : GQ} (hz3 : FitG z3) (ha : Lg1 (Fn.r (Fn.ok x hx)) false) (hb : Lg1 (Gn.x (Gn.no g1 hg1)) rb) (hb' : Lg1 (Gn.y (Gn.no g1 hg1)) rb') (hc : Lg1 (Fn.r (Fn.ok y hy)) false) (hz : Lg1 (Gn.x (Gn.no g2 hg2)) rz) (hz' : Lg1 (Gn.y (Gn.no g2 hg2)) rz') (hw : Lg1 (Gn.x (Gn.ok z3 hz3)) rw) (hw' : Lg1 (Gn.y (Gn.ok z3 hz3)) rw') (h : (rb || (rb' || (rz || (rz' || (rw || rw'))))) = false) : CmOk (Fn.ok x hx) (Gn.no g1 hg1) (Fn.ok y hy) (Gn.no g2 hg2) (Gn.ok z3 hz3) ha hb hb' hc hz hz' hw hw' h := fun β => by kernel_rfl
theorem cm_eq11 {x : Rat} (hx : Fit x) (g1 : Gp) (hg1 : g1.B = false) {y : Rat} (hy : Fit y) (g2 : Gp) (hg2 : g2.B = false) (g3 : Gp) (hg3 : g3.B = false) (ha : Lg1 (Fn.r (Fn.ok x hx)) false) (hb : Lg1 (Gn.x (Gn.no g1 hg1)) rb) (hb' : Lg1 (Gn.y (Gn.no g1 hg1)) rb') (hc : Lg1 (Fn.r (Fn.ok y hy)) false) (hz : Lg1 (Gn.x (Gn.no g2 hg2)) rz) (hz' : Lg1 (Gn.y (Gn.no g2 hg2)) rz') (hw : Lg1 (Gn.x (Gn.no g3 hg3)) rw) (hw' : Lg1 (Gn.y (Gn.no g3 hg3)) rw') (h : (rb || (rb' || (rz || (rz' || (rw || rw'))))) = false) : CmOk (Fn.ok x hx) (Gn.no g1 hg1) (Fn.ok y hy) (Gn.no g2 hg2) (Gn.no g3 hg3) ha hb hb' hc hz hz' hw hw' h := fun β => by kernel_rfl
theorem cm_eq12 {x : Rat} (hx : Fit x) (g1 : Gp) (hg1 : g1.B = false) (k : Fr) (hk : k.a.B = false) {z2 : GQ} (hz2 : FitG z2) {z3 : GQ} (hz3 : FitG z3) (ha : Lg1 (Fn.r (Fn.ok x hx)) false) (hb : Lg1 (Gn.x (Gn.no g1 hg1)) rb) (hb' : Lg1 (Gn.y (Gn.no g1 hg1)) rb') (hc : Lg1 (Fn.r (Fn.no k hk)) false) (hz : Lg1 (Gn.x (Gn.ok z2 hz2)) rz) (hz' : Lg1 (Gn.y (Gn.ok z2 hz2)) rz') (hw : Lg1 (Gn.x (Gn.ok z3 hz3)) rw) (hw' : Lg1 (Gn.y (Gn.ok z3 hz3)) rw') (h : (rb || (rb' || (rz || (rz' || (rw || rw'))))) = false) : CmOk (Fn.ok x hx) (Gn.no g1 hg1) (Fn.no k hk) (Gn.ok z2 hz2) (Gn.ok z3 hz3) ha hb hb' hc hz hz' hw hw' h := fun β => by kernel_rfl
theorem cm_eq13 {x : Rat} (hx : Fit x) (g1 : Gp) (hg1 : g1.B = false) (k : Fr) (hk : k.a.B = false) {z2 : GQ} (hz2 : FitG z2) (g3 : Gp) (hg3 : g3.B = false) (ha : Lg1 (Fn.r (Fn.ok x hx)) false) (hb : Lg1 (Gn.x (Gn.no g1 hg1)) rb) (hb' : Lg1 (Gn.y (Gn.no g1 hg1)) rb') (hc : Lg1 (Fn.r (Fn.no k hk)) false) (hz : Lg1 (Gn.x (Gn.ok z2 hz2)) rz) (hz' : Lg1 (Gn.y (Gn.ok z2 hz2)) rz') (hw : Lg1 (Gn.x (Gn.no g3 hg3)) rw) (hw' : Lg1 (Gn.y (Gn.no g3 hg3)) rw') (h : (rb || (rb' || (rz || (rz' || (rw || rw'))))) = false) : CmOk (Fn.ok x hx) (Gn.no g1 hg1) (Fn.no k hk) (Gn.ok z2 hz2) (Gn.no g3 hg3) ha hb hb' hc hz hz' hw hw' h := fun β => by kernel_rfl
theorem cm_eq14 {x : Rat} (hx : Fit x) (g1 : Gp) (hg1 : g1.B = false) (k : Fr) (hk : k.a.B = false) (g2 : Gp) (hg2 : g2.B = false) {z3 : GQ} (hz3 : FitG z3) (ha : Lg1 (Fn.r (Fn.ok x hx)) false) (hb : Lg1 (Gn.x (Gn.no g1 hg1)) rb) (hb' : Lg1 (Gn.y (Gn.no g1 hg1)) rb') (hc : Lg1 (Fn.r (Fn.no k hk)) false) (hz : Lg1 (Gn.x (Gn.no g2 hg2)) rz) (hz' : Lg1 (Gn.y (Gn.no g2 hg2)) rz') (hw : Lg1 (Gn.x (Gn.ok z3 hz3)) rw) (hw' : Lg1 (Gn.y (Gn.ok z3 hz3)) rw') (h : (rb || (rb' || (rz || (rz' || (rw || rw'))))) = false) : CmOk (Fn.ok x hx) (Gn.no g1 hg1) (Fn.no k hk) (Gn.no g2 hg2) (Gn.ok z3 hz3) ha hb hb' hc hz hz' hw hw' h := fun β => by kernel_rfl
theorem cm_eq15 {x : Rat} (hx : Fit x) (g1 : Gp) (hg1 : g1.B = false) (k : Fr) (hk : k.a.B = false) (g2 : Gp) (hg2 : g2.B = false) (g3 : Gp) (hg3 : g3.B = false) (ha : Lg1 (Fn.r (Fn.ok x hx)) false) (hb : Lg1 (Gn.x (Gn.no g1 hg1)) rb) (hb' : Lg1 (Gn.y (Gn.no g1 hg1)) rb') (hc : Lg1 (Fn.r (Fn.no k hk)) false) (hz : Lg1 (Gn.x (Gn.no g2 hg2)) rz) (hz' : Lg1 (Gn.y (Gn.no g2 hg2)) rz') (hw : Lg1 (Gn.x (Gn.no g3 hg3)) rw) (hw' : Lg1 (Gn.y (Gn.no g3 hg3)) rw') (h : (rb || (rb' || (rz || (rz' || (rw || rw'))))) = false) : CmOk (Fn.ok x hx) (Gn.no g1 hg1) (Fn.no k hk) (Gn.no g2 hg2) (Gn.no g3 hg3) ha hb hb' hc hz hz' hw hw' h := fun β => by kernel_rfl
theorem cm_eq16 (f : Fr) (hf : f.a.B = false) {z1 : GQ} (hz1 : FitG z1) {y : Rat} (hy : Fit y) {z2 : GQ} (hz2 : FitG z2) {z3 : GQ} (hz3 : FitG z3) (ha : Lg1 (Fn.r (Fn.no f hf)) false) (hb : Lg1 (Gn.x (Gn.ok z1 hz1)) rb) (hb' : Lg1 (Gn.y (Gn.ok z1 hz1)) rb') (hc : Lg1 (Fn.r (Fn.ok y hy)) false) (hz : Lg1 (Gn.x (Gn.ok z2 hz2)) rz) (hz' : Lg1 (Gn.y (Gn.ok z2 hz2)) rz') (hw : Lg1 (Gn.x (Gn.ok z3 hz3)) rw) (hw' : Lg1 (Gn.y (Gn.ok z3 hz3)) rw') (h : (rb || (rb' || (rz || (rz' || (rw || rw'))))) = false) : CmOk (Fn.no f hf) (Gn.ok z1 hz1) (Fn.ok y hy) (Gn.ok z2 hz2) (Gn.ok z3 hz3) ha hb hb' hc hz hz' hw hw' h := fun β => by kernel_rfl
theorem cm_eq17 (f : Fr) (hf : f.a.B = false) {z1 : GQ} (hz1 : FitG z1) {y : Rat} (hy : Fit y) {z2 : GQ} (hz2 : FitG z2) (g3 : Gp) (hg3 : g3.B = false) (ha : Lg1 (Fn.r (Fn.no f hf)) false) (hb : Lg1 (Gn.x (Gn.ok z1 hz1)) rb) (hb' : Lg1 (Gn.y (Gn.ok z1 hz1)) rb') (hc : Lg1 (Fn.r (Fn.ok y hy)) false) (hz : Lg1 (Gn.x (Gn.ok z2 hz2)) rz) (hz' : Lg1 (Gn.y (Gn.ok z2 hz2)) rz') (hw : Lg1 (Gn.x (Gn.no g3 hg3)) rw) (hw' : Lg1 (Gn.y (Gn.no g3 hg3)) rw') (h : (rb || (rb' || (rz || (rz' || (rw || rw'))))) = false) : CmOk (Fn.no f hf) (Gn.ok z1 hz1) (Fn.ok y hy) (Gn.ok z2 hz2) (Gn.no g3 hg3) ha hb hb' hc hz hz' hw hw' h := fun β => by kernel_rfl
theorem cm_eq18 (f : Fr) (hf : f.a.B = false) {z1 : GQ} (hz1 : FitG z1) {y : Rat} (hy : Fit y) (g2 : Gp) (hg2 : g2.B = false) {z3 : GQ} (hz3 : FitG z3) (ha : Lg1 (Fn.r (Fn.no f hf)) false) (hb : Lg1 (Gn.x (Gn.ok z1 hz1)) rb) (hb' : Lg1 (Gn.y (Gn.ok z1 hz1)) rb') (hc : Lg1 (Fn.r (Fn.ok y hy)) false) (hz : Lg1 (Gn.x (Gn.no g2 hg2)) rz) (hz' : Lg1 (Gn.y (Gn.no g2 hg2)) rz') (hw : Lg1 (Gn.x (Gn.ok z3 hz3)) rw) (hw' : Lg1 (Gn.y (Gn.ok z3 hz3)) rw') (h : (rb || (rb' || (rz || (rz' || (rw || rw'))))) = false) : CmOk (Fn.no f hf) (Gn.ok z1 hz1) (Fn.ok y hy) (Gn.no g2 hg2) (Gn.ok z3 hz3) ha hb hb' hc hz hz' hw hw' h := fun β => by kernel_rfl
theorem cm_eq19 (f : Fr) (hf : f.a.B = false) {z1 : GQ} (hz1 : FitG z1) {y : Rat} (hy : Fit y) (g2 : Gp) (hg2 : g2.B = false) (g3 : Gp) (hg3 : g3.B = false) (ha : Lg1 (Fn.r (Fn.no f hf)) false) (hb : Lg1 (Gn.x (Gn.ok z1 hz1)) rb) (hb' : Lg1 (Gn.y (Gn.ok z1 hz1)) rb') (hc : Lg1 (Fn.r (Fn.ok y hy)) false) (hz : Lg1 (Gn.x (Gn.no g2 hg2)) rz) (hz' : Lg1 (Gn.y (Gn.no g2 hg2)) rz') (hw : Lg1 (Gn.x (Gn.no g3 hg3)) rw) (hw' : Lg1 (Gn.y (Gn.no g3 hg3)) rw') (h : (rb || (rb' || (rz || (rz' || (rw || rw'))))) = false) : CmOk (Fn.no f hf) (Gn.ok z1 hz1) (Fn.ok y hy) (Gn.no g2 hg2) (Gn.no g3 hg3) ha hb hb' hc hz hz' hw hw' h := fun β => by kernel_rfl
theorem cm_eq20 (f : Fr) (hf : f.a.B = false) {z1 : GQ} (hz1 : FitG z1) (k : Fr) (hk : k.a.B = false) {z2 : GQ} (hz2 : FitG z2) {z3 : GQ} (hz3 : FitG z3) (ha : Lg1 (Fn.r (Fn.no f hf)) false) (hb : Lg1 (Gn.x (Gn.ok z1 hz1)) rb) (hb' : Lg1 (Gn.y (Gn.ok z1 hz1)) rb') (hc : Lg1 (Fn.r (Fn.no k hk)) false) (hz : Lg1 (Gn.x (Gn.ok z2 hz2)) rz) (hz' : Lg1 (Gn.y (Gn.ok z2 hz2)) rz') (hw : Lg1 (Gn.x (Gn.ok z3 hz3)) rw) (hw' : Lg1 (Gn.y (Gn.ok z3 hz3)) rw') (h : (rb || (rb' || (rz || (rz' || (rw || rw'))))) = false) : CmOk (Fn.no f hf) (Gn.ok z1 hz1) (Fn.no k hk) (Gn.ok z2 hz2) (Gn.ok z3 hz3) ha hb hb' hc hz hz' hw hw' h := fun β => by kernel_rfl
theorem cm_eq21 (f : Fr) (hf : f.a.B = false) {z1 : GQ} (hz1 : FitG z1) (k : Fr) (hk : k.a.B = false) {z2 : GQ} (hz2 : FitG z2) (g3 : Gp) (hg3 : g3.B = false) (ha : Lg1 (Fn.r (Fn.no f hf)) false) (hb : Lg1 (Gn.x (Gn.ok z1 hz1)) rb) (hb' : Lg1 (Gn.y (Gn.ok z1 hz1)) rb') (hc : Lg1 (Fn.r (Fn.no k hk)) false) (hz : Lg1 (Gn.x (Gn.ok z2 hz2)) rz) (hz' : Lg1 (Gn.y (Gn.ok z2 hz2)) rz') (hw : Lg1 (Gn.x (Gn.no g3 hg3)) rw) (hw' : Lg1 (Gn.y (Gn.no g3 hg3)) rw') (h : (rb || (rb' || (rz || (rz' || (rw || rw'))))) = false) : CmOk (Fn.no f hf) (Gn.ok z1 hz1) (Fn.no k hk) (Gn.ok z2 hz2) (Gn.no g3 hg3) ha hb hb' hc hz hz' hw hw' h := fun β => by kernel_rfl
theorem cm_eq22 (f : Fr) (hf : f.a.B = false) {z1 : GQ} (hz1 : FitG z1) (k : Fr) (hk : k.a.B = false) (g2 : Gp) (hg2 : g2.B = false) {z3 : GQ} (hz3 : FitG z3) (ha : Lg1 (Fn.r (Fn.no f hf)) false) (hb : Lg1 (Gn.x (Gn.ok z1 hz1)) rb) (hb' : Lg1 (Gn.y (Gn.ok z1 hz1)) rb') (hc : Lg1 (Fn.r (Fn.no k hk)) false) (hz : Lg1 (Gn.x (Gn.no g2 hg2)) rz) (hz' : Lg1 (Gn.y (Gn.no g2 hg2)) rz') (hw : Lg1 (Gn.x (Gn.ok z3 hz3)) rw) (hw' : Lg1 (Gn.y (Gn.ok z3 hz3)) rw') (h : (rb || (rb' || (rz || (rz' || (rw || rw'))))) = false) : CmOk (Fn.no f hf) (Gn.ok z1 hz1) (Fn.no k hk) (Gn.no g2 hg2) (Gn.ok z3 hz3) ha hb hb' hc hz hz' hw hw' h := fun β => by kernel_rfl
theorem cm_eq23 (f : Fr) (hf : f.a.B = false) {z1 : GQ} (hz1 : FitG z1) (k : Fr) (hk : k.a.B = false) (g2 : Gp) (hg2 : g2.B = false) (g3 : Gp) (hg3 : g3.B = false) (ha : Lg1 (Fn.r (Fn.no f hf)) false) (hb : Lg1 (Gn.x (Gn.ok z1 hz1)) rb) (hb' : Lg1 (Gn.y (Gn.ok z1 hz1)) rb') (hc : Lg1 (Fn.r (Fn.no k hk)) false) (hz : Lg1 (Gn.x (Gn.no g2 hg2)) rz) (hz' : Lg1 (Gn.y (Gn.no g2 hg2)) rz') (hw : Lg1 (Gn.x (Gn.no g3 hg3)) rw) (hw' : Lg1 (Gn.y (Gn.no g3 hg3)) rw') (h : (rb || (rb' || (rz || (rz' || (rw || rw'))))) = false) : CmOk (Fn.no f hf) (Gn.ok z1 hz1) (Fn.no k hk) (Gn.no g2 hg2) (Gn.no g3 hg3) ha hb hb' hc hz hz' hw hw' h := fun β => by kernel_rfl
theorem cm_eq24 (f : Fr) (hf : f.a.B = false) (g1 : Gp) (hg1 : g1.B = false) {y : Rat} (hy : Fit y) {z2 : GQ} (hz2 : FitG z2) {z3 : GQ} (hz3 : FitG z3) (ha : Lg1 (Fn.r (Fn.no f hf)) false) (hb : Lg1 (Gn.x (Gn.no g1 hg1)) rb) (hb' : Lg1 (Gn.y (Gn.no g1 hg1)) rb') (hc : Lg1 (Fn.r (Fn.ok y hy)) false) (hz : Lg1 (Gn.x (Gn.ok z2 hz2)) rz) (hz' : Lg1 (Gn.y (Gn.ok z2 hz2)) rz') (hw : Lg1 (Gn.x (Gn.ok z3 hz3)) rw) (hw' : Lg1 (Gn.y (Gn.ok z3 hz3)) rw') (h : (rb || (rb' || (rz || (rz' || (rw || rw'))))) = false) : CmOk (Fn.no f hf) (Gn.no g1 hg1) (Fn.ok y hy) (Gn.ok z2 hz2) (Gn.ok z3 hz3) ha hb hb' hc hz hz' hw hw' h := fun β => by kernel_rfl
theorem cm_eq25 (f : Fr) (hf : f.a.B = false) (g1 : Gp) (hg1 : g1.B = false) {y : Rat} (hy : Fit y) {z2 : GQ} (hz2 : FitG z2) (g3 : Gp) (hg3 : g3.B = false) (ha : Lg1 (Fn.r (Fn.no f hf)) false) (hb : Lg1 (Gn.x (Gn.no g1 hg1)) rb) (hb' : Lg1 (Gn.y (Gn.no g1 hg1)) rb') (hc : Lg1 (Fn.r (Fn.ok y hy)) false) (hz : Lg1 (Gn.x (Gn.ok z2 hz2)) rz) (hz' : Lg1 (Gn.y (Gn.ok z2 hz2)) rz') (hw : Lg1 (Gn.x (Gn.no g3 hg3)) rw) (hw' : Lg1 (Gn.y (Gn.no g3 hg3)) rw') (h : (rb || (rb' || (rz || (rz' || (rw || rw'))))) = false) : CmOk (Fn.no f hf) (Gn.no g1 hg1) (Fn.ok y hy) (Gn.ok z2 hz2) (Gn.no g3 hg3) ha hb hb' hc hz hz' hw hw' h := fun β => by kernel_rfl
theorem cm_eq26 (f : Fr) (hf : f.a.B = false) (g1 : Gp) (hg1 : g1.B = false) {y : Rat} (hy : Fit y) (g2 : Gp) (hg2 : g2.B = false) {z3 : GQ} (hz3 : FitG z3) (ha : Lg1 (Fn.r (Fn.no f hf)) false) (hb : Lg1 (Gn.x (Gn.no g1 hg1)) rb) (hb' : Lg1 (Gn.y (Gn.no g1 hg1)) rb') (hc : Lg1 (Fn.r (Fn.ok y hy)) false) (hz : Lg1 (Gn.x (Gn.no g2 hg2)) rz) (hz' : Lg1 (Gn.y (Gn.no g2 hg2)) rz') (hw : Lg1 (Gn.x (Gn.ok z3 hz3)) rw) (hw' : Lg1 (Gn.y (Gn.ok z3 hz3)) rw') (h : (rb || (rb' || (rz || (rz' || (rw || rw'))))) = false) : CmOk (Fn.no f hf) (Gn.no g1 hg1) (Fn.ok y hy) (Gn.no g2 hg2) (Gn.ok z3 hz3) ha hb hb' hc hz hz' hw hw' h := fun β => by kernel_rfl
theorem cm_eq27 (f : Fr) (hf : f.a.B = false) (g1 : Gp) (hg1 : g1.B = false) {y : Rat} (hy : Fit y) (g2 : Gp) (hg2 : g2.B = false) (g3 : Gp) (hg3 : g3.B = false) (ha : Lg1 (Fn.r (Fn.no f hf)) false) (hb : Lg1 (Gn.x (Gn.no g1 hg1)) rb) (hb' : Lg1 (Gn.y (Gn.no g1 hg1)) rb') (hc : Lg1 (Fn.r (Fn.ok y hy)) false) (hz : Lg1 (Gn.x (Gn.no g2 hg2)) rz) (hz' : Lg1 (Gn.y (Gn.no g2 hg2)) rz') (hw : Lg1 (Gn.x (Gn.no g3 hg3)) rw) (hw' : Lg1 (Gn.y (Gn.no g3 hg3)) rw') (h : (rb || (rb' || (rz || (rz' || (rw || rw'))))) = false) : CmOk (Fn.no f hf) (Gn.no g1 hg1) (Fn.ok y hy) (Gn.no g2 hg2) (Gn.no g3 hg3) ha hb hb' hc hz hz' hw hw' h := fun β => by kernel_rfl
theorem cm_eq28 (f : Fr) (hf : f.a.B = false) (g1 : Gp) (hg1 : g1.B = false) (k : Fr) (hk : k.a.B = false) {z2 : GQ} (hz2 : FitG z2) {z3 : GQ} (hz3 : FitG z3) (ha : Lg1 (Fn.r (Fn.no f hf)) false) (hb : Lg1 (Gn.x (Gn.no g1 hg1)) rb) (hb' : Lg1 (Gn.y (Gn.no g1 hg1)) rb') (hc : Lg1 (Fn.r (Fn.no k hk)) false) (hz : Lg1 (Gn.x (Gn.ok z2 hz2)) rz) (hz' : Lg1 (Gn.y (Gn.ok z2 hz2)) rz') (hw : Lg1 (Gn.x (Gn.ok z3 hz3)) rw) (hw' : Lg1 (Gn.y (Gn.ok z3 hz3)) rw') (h : (rb || (rb' || (rz || (rz' || (rw || rw'))))) = false) : CmOk (Fn.no f hf) (Gn.no g1 hg1) (Fn.no k hk) (Gn.ok z2 hz2) (Gn.ok z3 hz3) ha hb hb' hc hz hz' hw hw' h := fun β => by kernel_rfl
theorem cm_eq29 (f : Fr) (hf : f.a.B = false) (g1 : Gp) (hg1 : g1.B = false) (k : Fr) (hk : k.a.B = false) {z2 : GQ} (hz2 : FitG z2) (g3 : Gp) (hg3 : g3.B = false) (ha : Lg1 (Fn.r (Fn.no f hf)) false) (hb : Lg1 (Gn.x (Gn.no g1 hg1)) rb) (hb' : Lg1 (Gn.y (Gn.no g1 hg1)) rb') (hc : Lg1 (Fn.r (Fn.no k hk)) false) (hz : Lg1 (Gn.x (Gn.ok z2 hz2)) rz) (hz' : Lg1 (Gn.y (Gn.ok z2 hz2)) rz') (hw : Lg1 (Gn.x (Gn.no g3 hg3)) rw) (hw' : Lg1 (Gn.y (Gn.no g3 hg3)) rw') (h : (rb || (rb' || (rz || (rz' || (rw || rw'))))) = false) : CmOk (Fn.no f hf) (Gn.no g1 hg1) (Fn.no k hk) (Gn.ok z2 hz2) (Gn.no g3 hg3) ha hb hb' hc hz hz' hw hw' h := fun β => by kernel_rfl
theorem cm_eq30 (f : Fr) (hf : f.a.B = false) (g1 : Gp) (hg1 : g1.B = false) (k : Fr) (hk : k.a.B = false) (g2 : Gp) (hg2 : g2.B = false) {z3 : GQ} (hz3 : FitG z3) (ha : Lg1 (Fn.r (Fn.no f hf)) false) (hb : Lg1 (Gn.x (Gn.no g1 hg1)) rb) (hb' : Lg1 (Gn.y (Gn.no g1 hg1)) rb') (hc : Lg1 (Fn.r (Fn.no k hk)) false) (hz : Lg1 (Gn.x (Gn.no g2 hg2)) rz) (hz' : Lg1 (Gn.y (Gn.no g2 hg2)) rz') (hw : Lg1 (Gn.x (Gn.ok z3 hz3)) rw) (hw' : Lg1 (Gn.y (Gn.ok z3 hz3)) rw') (h : (rb || (rb' || (rz || (rz' || (rw || rw'))))) = false) : CmOk (Fn.no f hf) (Gn.no g1 hg1) (Fn.no k hk) (Gn.no g2 hg2) (Gn.ok z3 hz3) ha hb hb' hc hz hz' hw hw' h := fun β => by kernel_rfl
theorem cm_eq31 (f : Fr) (hf : f.a.B = false) (g1 : Gp) (hg1 : g1.B = false) (k : Fr) (hk : k.a.B = false) (g2 : Gp) (hg2 : g2.B = false) (g3 : Gp) (hg3 : g3.B = false) (ha : Lg1 (Fn.r (Fn.no f hf)) false) (hb : Lg1 (Gn.x (Gn.no g1 hg1)) rb) (hb' : Lg1 (Gn.y (Gn.no g1 hg1)) rb') (hc : Lg1 (Fn.r (Fn.no k hk)) false) (hz : Lg1 (Gn.x (Gn.no g2 hg2)) rz) (hz' : Lg1 (Gn.y (Gn.no g2 hg2)) rz') (hw : Lg1 (Gn.x (Gn.no g3 hg3)) rw) (hw' : Lg1 (Gn.y (Gn.no g3 hg3)) rw') (h : (rb || (rb' || (rz || (rz' || (rw || rw'))))) = false) : CmOk (Fn.no f hf) (Gn.no g1 hg1) (Fn.no k hk) (Gn.no g2 hg2) (Gn.no g3 hg3) ha hb hb' hc hz hz' hw hw' h := fun β => by kernel_rfl
end
theorem cm_all (a : Fn) (b : Gn) (c : Fn) (z w : Gn) {rb rb' rz rz' rw rw' : Bool} (ha : Lg1 a.r false) (hb : Lg1 b.x rb) (hb' : Lg1 b.y rb') (hc : Lg1 c.r false) (hz : Lg1 z.x rz) (hz' : Lg1 z.y rz') (hw : Lg1 w.x rw) (hw' : Lg1 w.y rw') (h : (rb || (rb' || (rz || (rz' || (rw || rw'))))) = false) : CmOk a b c z w ha hb hb' hc hz hz' hw hw' h := by
  cases a with
  | ok x hx =>
    cases b with
    | ok z1 hz1 =>
      cases c with
      | ok y hy =>
        cases z with
        | ok z2 hz2 =>
          cases w with
          | ok z3 hz3 =>
            exact cm_eq0 hx hz1 hy hz2 hz3 ha hb hb' hc hz hz' hw hw' h
          | no g3 hg3 =>
            exact cm_eq1 hx hz1 hy hz2 g3 hg3 ha hb hb' hc hz hz' hw hw' h
        | no g2 hg2 =>
          cases w with
          | ok z3 hz3 =>
            exact cm_eq2 hx hz1 hy g2 hg2 hz3 ha hb hb' hc hz hz' hw hw' h
          | no g3 hg3 =>
            exact cm_eq3 hx hz1 hy g2 hg2 g3 hg3 ha hb hb' hc hz hz' hw hw' h
      | no k hk =>
        cases z with
        | ok z2 hz2 =>
          cases w with
          | ok z3 hz3 =>
            exact cm_eq4 hx hz1 k hk hz2 hz3 ha hb hb' hc hz hz' hw hw' h
          | no g3 hg3 =>
            exact cm_eq5 hx hz1 k hk hz2 g3 hg3 ha hb hb' hc hz hz' hw hw' h
        | no g2 hg2 =>
          cases w with
          | ok z3 hz3 =>
            exact cm_eq6 hx hz1 k hk g2 hg2 hz3 ha hb hb' hc hz hz' hw hw' h
          | no g3 hg3 =>
            exact cm_eq7 hx hz1 k hk g2 hg2 g3 hg3 ha hb hb' hc hz hz' hw hw' h
    | no g1 hg1 =>
      cases c with
      | ok y hy =>
        cases z with
        | ok z2 hz2 =>
          cases w with
          | ok z3 hz3 =>
            exact cm_eq8 hx g1 hg1 hy hz2 hz3 ha hb hb' hc hz hz' hw hw' h
          | no g3 hg3 =>
            exact cm_eq9 hx g1 hg1 hy hz2 g3 hg3 ha hb hb' hc hz hz' hw hw' h
        | no g2 hg2 =>
          cases w with
          | ok z3 hz3 =>
            exact cm_eq10 hx g1 hg1 hy g2 hg2 hz3 ha hb hb' hc hz hz' hw hw' h
          | no g3 hg3 =>
            exact cm_eq11 hx g1 hg1 hy g2 hg2 g3 hg3 ha hb hb' hc hz hz' hw hw' h
      | no k hk =>
        cases z with
        | ok z2 hz2 =>
          cases w with
          | ok z3 hz3 =>
            exact cm_eq12 hx g1 hg1 k hk hz2 hz3 ha hb hb' hc hz hz' hw hw' h
          | no g3 hg3 =>
            exact cm_eq13 hx g1 hg1 k hk hz2 g3 hg3 ha hb hb' hc hz hz' hw hw' h
        | no g2 hg2 =>
          cases w with
          | ok z3 hz3 =>
            exact cm_eq14 hx g1 hg1 k hk g2 hg2 hz3 ha hb hb' hc hz hz' hw hw' h
          | no g3 hg3 =>
            exact cm_eq15 hx g1 hg1 k hk g2 hg2 g3 hg3 ha hb hb' hc hz hz' hw hw' h
  | no f hf =>
    cases b with
    | ok z1 hz1 =>
      cases c with
      | ok y hy =>
        cases z with
        | ok z2 hz2 =>
          cases w with
          | ok z3 hz3 =>
            exact cm_eq16 f hf hz1 hy hz2 hz3 ha hb hb' hc hz hz' hw hw' h
          | no g3 hg3 =>
            exact cm_eq17 f hf hz1 hy hz2 g3 hg3 ha hb hb' hc hz hz' hw hw' h
        | no g2 hg2 =>
          cases w with
          | ok z3 hz3 =>
            exact cm_eq18 f hf hz1 hy g2 hg2 hz3 ha hb hb' hc hz hz' hw hw' h
          | no g3 hg3 =>
            exact cm_eq19 f hf hz1 hy g2 hg2 g3 hg3 ha hb hb' hc hz hz' hw hw' h
      | no k hk =>
        cases z with
        | ok z2 hz2 =>
          cases w with
          | ok z3 hz3 =>
            exact cm_eq20 f hf hz1 k hk hz2 hz3 ha hb hb' hc hz hz' hw hw' h
          | no g3 hg3 =>
            exact cm_eq21 f hf hz1 k hk hz2 g3 hg3 ha hb hb' hc hz hz' hw hw' h
        | no g2 hg2 =>
          cases w with
          | ok z3 hz3 =>
            exact cm_eq22 f hf hz1 k hk g2 hg2 hz3 ha hb hb' hc hz hz' hw hw' h
          | no g3 hg3 =>
            exact cm_eq23 f hf hz1 k hk g2 hg2 g3 hg3 ha hb hb' hc hz hz' hw hw' h
    | no g1 hg1 =>
      cases c with
      | ok y hy =>
        cases z with
        | ok z2 hz2 =>
          cases w with
          | ok z3 hz3 =>
            exact cm_eq24 f hf g1 hg1 hy hz2 hz3 ha hb hb' hc hz hz' hw hw' h
          | no g3 hg3 =>
            exact cm_eq25 f hf g1 hg1 hy hz2 g3 hg3 ha hb hb' hc hz hz' hw hw' h
        | no g2 hg2 =>
          cases w with
          | ok z3 hz3 =>
            exact cm_eq26 f hf g1 hg1 hy g2 hg2 hz3 ha hb hb' hc hz hz' hw hw' h
          | no g3 hg3 =>
            exact cm_eq27 f hf g1 hg1 hy g2 hg2 g3 hg3 ha hb hb' hc hz hz' hw hw' h
      | no k hk =>
        cases z with
        | ok z2 hz2 =>
          cases w with
          | ok z3 hz3 =>
            exact cm_eq28 f hf g1 hg1 k hk hz2 hz3 ha hb hb' hc hz hz' hw hw' h
          | no g3 hg3 =>
            exact cm_eq29 f hf g1 hg1 k hk hz2 g3 hg3 ha hb hb' hc hz hz' hw hw' h
        | no g2 hg2 =>
          cases w with
          | ok z3 hz3 =>
            exact cm_eq30 f hf g1 hg1 k hk g2 hg2 hz3 ha hb hb' hc hz hz' hw hw' h
          | no g3 hg3 =>
            exact cm_eq31 f hf g1 hg1 k hk g2 hg2 g3 hg3 ha hb hb' hc hz hz' hw hw' h
theorem _root_.Go.Proofs.YtfnmclgicjmapaaGreat.CircMakes_walk (xa xb yb xc xz yz xw yw : R4) (oa : xa.ok) (ob : xb.ok) (ob' : yb.ok) (oc : xc.ok) (oz : xz.ok) (oz' : yz.ok) (ow : xw.ok) (ow' : yw.ok) (W : World) :
    Calls Tryz.prog 13 #[.agg (xa.V ++ (xb.V ++ yb.V) ++ xc.V ++ (xz.V ++ yz.V) ++ (xw.V ++ yw.V)).toArray] W fun e w' => e = .returned (.bool true) ∧ Below W.heap.size W w' := by
  obtain ⟨ra, ha⟩ := Lg1.all xa
  cases ra with
  | true => exact spec_yes (cm1 (b := xb) (b' := yb) (c := xc) (z := xz) (z' := yz) (w := xw) (w' := yw) ha) rfl rfl W
  | false =>
    obtain ⟨rb, hb⟩ := Lg1.all xb
    obtain ⟨rb', hb'⟩ := Lg1.all yb
    obtain ⟨rz, hz⟩ := Lg1.all xz
    obtain ⟨rz', hz'⟩ := Lg1.all yz
    obtain ⟨rw, hw⟩ := Lg1.all xw
    obtain ⟨rw', hw'⟩ := Lg1.all yw
    cases h : (rb || (rb' || (rz || (rz' || (rw || rw'))))) with
    | true => exact spec_yes (cm2 (c := xc) ha hb hb' hz hz' hw hw' h) rfl rfl W
    | false =>
      obtain ⟨rc, hc⟩ := Lg1.all xc
      cases rc with
      | true => exact spec_yes (cm3 ha hb hb' hz hz' hw hw' h hc) rfl rfl W
      | false =>
        obtain ⟨a, rfl⟩ := fn_of xa oa
        obtain ⟨b, rfl, rfl⟩ := gn_of xb yb ob ob'
        obtain ⟨c, rfl⟩ := fn_of xc oc
        obtain ⟨z, rfl, rfl⟩ := gn_of xz yz oz oz'
        obtain ⟨v, rfl, rfl⟩ := gn_of xw yw ow ow'
        exact spec_yes (Spec.auto Tryz.call13 (cmX a b c z v) [] (tB' true) [] (cmE a b c z v ha hb hb' hc hz hz' hw hw' h) cmNs 3000 Tryz.func13 hmA (by kernel_rfl) (cm_all a b c z v ha hb hb' hc hz hz' hw hw' h)) rfl rfl W
end Go.Proofs.YtfnmclgicjmapaaGreat.Y
end
section
namespace Go.Proofs.YtfnmclgicjmapaaGreat
open Go.ChangeShapes Go.WideShapes Go.ChangeAt Go.RowKit
section
variable {H : Type} {enc : TypeId × Value → H} {w : World} {base : Nat} {spare : Nat → Bool} {held : Bool}
theorem cellsOf_nums : Tryz.prog.cellsOf 134 = 32 := by kernel_rfl
set_option maxRecDepth 100000 in
theorem trod_nums {fuel : Nat} {cs : List Value} {x : DataW H × List MemPlace} (h : DataW.trod enc Tryz.prog w base spare held fuel 134 cs = some x) :
    ∃ (a b b' c z z' u u' : R4), cs = a.V ++ (b.V ++ b'.V) ++ c.V ++ (z.V ++ z'.V) ++ (u.V ++ u'.V) ∧ a.ok ∧ b.ok ∧ b'.ok ∧ c.ok ∧ z.ok ∧ z'.ok ∧ u.ok ∧ u'.ok := by
  obtain ⟨xs, n, rfl, _, hlen, hxl, hf⟩ := DataW.trod_struct Tryz.underlying134 h
  rw [cellsOf_nums] at hlen
  have hx0 : xs[0]? = some (xs[0]'(by rw [hxl]; decide)) := List.getElem?_eq_getElem _
  have hx1 : xs[1]? = some (xs[1]'(by rw [hxl]; decide)) := List.getElem?_eq_getElem _
  have hx2 : xs[2]? = some (xs[2]'(by rw [hxl]; decide)) := List.getElem?_eq_getElem _
  have hx3 : xs[3]? = some (xs[3]'(by rw [hxl]; decide)) := List.getElem?_eq_getElem _
  have hx4 : xs[4]? = some (xs[4]'(by rw [hxl]; decide)) := List.getElem?_eq_getElem _
  have h0 : DataW.trod enc Tryz.prog w base spare held n 25 ((cs.drop 0).take (Tryz.prog.cellsOf 25)) = some _ := (hf 0 _ rfl).trans hx0
  have h1 : DataW.trod enc Tryz.prog w base spare held n 45 ((cs.drop 4).take (Tryz.prog.cellsOf 45)) = some _ := (hf 1 _ rfl).trans hx1
  have h2 : DataW.trod enc Tryz.prog w base spare held n 25 ((cs.drop 12).take (Tryz.prog.cellsOf 25)) = some _ := (hf 2 _ rfl).trans hx2
  have h3 : DataW.trod enc Tryz.prog w base spare held n 45 ((cs.drop 16).take (Tryz.prog.cellsOf 45)) = some _ := (hf 3 _ rfl).trans hx3
  have h4 : DataW.trod enc Tryz.prog w base spare held n 45 ((cs.drop 24).take (Tryz.prog.cellsOf 45)) = some _ := (hf 4 _ rfl).trans hx4
  rw [cellsOf_frac] at h0 h2
  rw [cellsOf_gauss] at h1 h3 h4
  obtain ⟨a0, e0, k0⟩ := trod_r4 h0
  obtain ⟨a1, b1, e1, k1⟩ := trod_gauss h1
  obtain ⟨a2, e2, k2⟩ := trod_r4 h2
  obtain ⟨a3, b3, e3, k3⟩ := trod_gauss h3
  obtain ⟨a4, b4, e4, k4⟩ := trod_gauss h4
  refine ⟨a0, a1, b1, a2, a3, b3, a4, b4, ?_, k0, k1.1, k1.2, k2, k3.1, k3.2, k4.1, k4.2⟩
  have c0 := chunk cs 0 4
  have c1 := chunk cs (0 + 4) 8
  have c2 := chunk cs (0 + 4 + 8) 4
  have c3 := chunk cs (0 + 4 + 8 + 4) 8
  have c4 := chunk cs (0 + 4 + 8 + 4 + 8) 8
  rw [List.drop_eq_nil_of_le (show cs.length ≤ 0 + 4 + 8 + 4 + 8 + 8 by omega), List.append_nil] at c4
  rw [e4] at c4
  rw [e3, c4] at c3
  rw [e2, c3] at c2
  rw [e1, c2] at c1
  rw [e0, c1, List.drop_zero] at c0
  rw [c0]
  simp only [List.append_assoc]
set_option maxRecDepth 100000 in
theorem open_nums {r : Reach} {b0 : Nat} {v : Value} {d : DataW H} {p : List MemPlace} (hv : Value.okWide Tryz.prog w r b0 134 v) (h : DataW.Trod enc Tryz.prog w base spare held 134 v d p) :
    ∃ (a b b' c z z' u u' : R4), v = .agg (a.V ++ (b.V ++ b'.V) ++ c.V ++ (z.V ++ z'.V) ++ (u.V ++ u'.V)).toArray ∧ a.ok ∧ b.ok ∧ b'.ok ∧ c.ok ∧ z.ok ∧ z'.ok ∧ u.ok ∧ u'.ok := by
  obtain ⟨cs, rfl, hsz⟩ := okWide_struct Tryz.underlying134 hv
  obtain ⟨fuel, hf⟩ := h
  obtain ⟨l⟩ := cs
  obtain ⟨a, b, b', c, z, z', u, u', rfl, hh⟩ := trod_nums hf
  exact ⟨a, b, b', c, z, z', u, u', rfl, hh⟩
end
end Go.Proofs.YtfnmclgicjmapaaGreat
end
