/- Rs7, Rs10, Nrm, EyF, Rs8, MoA, MoC, EqM, One, L8, MkA, SyC, LgF, MoB. -/
import Derived.Test.YtiolbdleihiocaaGreatPk11
set_option linter.unnecessarySimpa false
set_option linter.unusedVariables false
set_option linter.unusedSimpArgs false
section
namespace Go.Proofs.YtiolbdleihiocaaGreat
open Go.Proofs.YtiolbdleihiocaaGreat.Y
open Go Go.RowKit
set_option maxRecDepth 100000
structure BSpec (P : Program) where
  f : FuncId
  en : Enters P f
  args : List SV
  cs : List Lf
  t : TypeId
  r : Value
  ok : ∀ β w, (Ob.box cs t).holds β w (β 0) → Calls P f (args.map (SV.den β)).toArray w fun e w' => e = .returned r ∧ Below w.heap.size w w'
  cl : (cs.all (Lf.of fun _ => false) && args.all (SV.of fun k => Nat.beq k 0)) = true
  hr : ∀ β, (tag r).den β = r
def bkOf : List SV → Nat
  | [] => 0
  | .one (.c (.b (.s k _ _ _))) :: _ => k
  | _ :: r => bkOf r
theorem cells_closed {β β' : Env} {cs : List Lf} (h : cs.all (Lf.of fun _ => false) = true) : cs.map (Lf.den β) = cs.map (Lf.den β') :=
  List.map_congr_left fun x hx => Lf.den_congr (q := fun _ => false) (fun k hk => by cases hk) x (List.all_eq_true.1 h x hx)
def BSpec.e {P : Program} (S : BSpec P) : Ev P := .dyn (fun o _ _ => isCallB o) fun _ xs ob => lit (bkOf xs) fun i =>
  .call S.f S.en (fun β => (S.args.map (SV.den fun _ => β i)).toArray) [(i, .box S.cs S.t)] 0 (tag S.r) [] (fun β w h => of_pure0 (by
    have hc := S.cl
    rw [Bool.and_eq_true] at hc
    refine S.ok (fun _ => β i) w ?_
    have h1 : (β i).one ∧ w.heap[(β i).b]? = some (.cells (S.cs.map (Lf.den β)).toArray S.t (0, 0)) := h _ (List.mem_singleton.2 rfl)
    show (β i).one ∧ w.heap[(β i).b]? = some (.cells (S.cs.map (Lf.den fun _ => β i)).toArray S.t (0, 0))
    rw [cells_closed (β' := β) hc.1]
    exact h1) S.hr)
def Rw.C (r : Rw) : List Lf := rawC r.i r.x r.y
def sR8Normal {a b c d : GQ} (t : Bool) (h : MSz KE ⟨a, b, c, d, t⟩) {f : Bool} (hf : gzero c = f) (h0 : gzero (bif f then d else c) = false) : Y.Spec Tryz.prog :=
  ⟨140, Tryz.call140, [svG a, svG b, svG c, svG d, .one (.c (.b (.v (.bool t))))], [], svM (mnormB ⟨a, b, c, d, t⟩ f), [], fun β w hh => by
    cases f
    · exact spec_auto (evs := [(sR4Zero c hf).e, (sR4Over h.a h.c h0).e, (sR4Over h.b h.c h0).e, (sR4Over h.c h.c h0).e, (sR4Over h.d h.c h0).e]) (Ns := [(4, 14)]) (m := 400) Tryz.func140 hmA (fun β => by kernel_rfl) (by kernel_rfl) β w hh
    · exact spec_auto (evs := [(sR4Zero c hf).e, (sR4Over h.a h.d h0).e, (sR4Over h.b h.d h0).e, (sR4Over h.c h.d h0).e, (sR4Over h.d h.d h0).e]) (Ns := [(4, 14)]) (m := 400) Tryz.func140 hmA (fun β => by kernel_rfl) (by kernel_rfl) β w hh, by kernel_rfl⟩
def minv0 (m : MQ) : MQ := mconj (mundo0 m) m.t
theorem minv0_sz {k : Nat} {m : MQ} (h : MSz k m) : MSz k (minv0 m) := h.undo0.conj _
def sR8Fits (m : MQ) {b : Bool} (hb : b = true ↔ FitM m) : Y.Spec Tryz.prog :=
  ⟨135, Tryz.call135, [svM m], [], .one (.c (.b (.v (.bool b)))), [], fun β w hh => by
    by_cases h1 : FitG m.a
    · by_cases h2 : FitG m.b
      · by_cases h3 : FitG m.c
        · have h4 : b = true ↔ FitG m.d := hb.trans ⟨fun h => h.2.2.2, fun h => ⟨h1, h2, h3, h⟩⟩
          cases b <;> exact spec_auto (evs := [(sR4Fits m.a (iff_true_of h1)).e, (sR4Fits m.b (iff_true_of h2)).e, (sR4Fits m.c (iff_true_of h3)).e, (sR4Fits m.d h4).e]) (Ns := []) (m := 400) Tryz.func135 hmA (fun β => by kernel_rfl) (by kernel_rfl) β w hh
        · obtain rfl := eq_false_of hb fun h => h3 h.2.2.1
          exact spec_auto (evs := [(sR4Fits m.a (iff_true_of h1)).e, (sR4Fits m.b (iff_true_of h2)).e, (sR4Fits m.c (iff_false_of h3)).e]) (Ns := []) (m := 400) Tryz.func135 hmA (fun β => by kernel_rfl) (by kernel_rfl) β w hh
      · obtain rfl := eq_false_of hb fun h => h2 h.2.1
        exact spec_auto (evs := [(sR4Fits m.a (iff_true_of h1)).e, (sR4Fits m.b (iff_false_of h2)).e]) (Ns := []) (m := 400) Tryz.func135 hmA (fun β => by kernel_rfl) (by kernel_rfl) β w hh
    · obtain rfl := eq_false_of hb fun h => h1 h.1
      exact spec_auto (evs := [(sR4Fits m.a (iff_false_of h1)).e]) (Ns := []) (m := 400) Tryz.func135 hmA (fun β => by kernel_rfl) (by kernel_rfl) β w hh, by kernel_rfl⟩
theorem maC_fit {m : MQ} (h : FitM m) : maC m = mC m ∧ maK m = 0 := by
  obtain ⟨h1, h2⟩ := maC_yes h
  refine ⟨?_, h2⟩
  rw [h1, (ga_fit h.1).1, (ga_fit h.2.1).1, (ga_fit h.2.2.1).1, (ga_fit h.2.2.2).1]
  rfl
noncomputable def sR8Told (m : MQ) : Y.Spec Tryz.prog :=
  ⟨51, Tryz.call51, [svM m], [], .tup [.a (maC m), .c (.b (.v (.int .i64 (maK m))))], [], fun β w hh => by
    by_cases h : FitM m
    · rw [(maC_fit h).1, (maC_fit h).2]
      exact spec_auto (evs := [(sR8Fits m (iff_true_of h)).e]) (Ns := []) (m := 400) Tryz.func51 hmA (fun β => by kernel_rfl) (by kernel_rfl) β w hh
    · rw [(maC_no h).1, (maC_no h).2]
      exact spec_auto (evs := [(sR8Fits m (iff_false_of h)).e]) (Ns := []) (m := 400) Tryz.func51 hmA (fun β => by kernel_rfl) (by kernel_rfl) β w hh, by kernel_rfl⟩
end Go.Proofs.YtiolbdleihiocaaGreat
end
section
namespace Go.Proofs.YtiolbdleihiocaaGreat
open Go.Proofs.YtiolbdleihiocaaGreat.Y
open Go Go.RowKit
set_option maxRecDepth 100000
abbrev KQ : Nat := 250
abbrev csz (k : Nat) : Nat := k + (k + k + (k + k) + 1 + (k + k + (k + k) + 1) + 1) + (k + (k + k + (k + k) + 1 + (k + k + (k + k) + 1) + 1)) + 1
theorem mchart0_sz {k : Nat} {p q r : Pt} (hp : PSz k p) (hq : PSz k q) (hr : PSz k r) (hk : 1 ≤ k) : MSz (csz k) (mchart0 p q r) :=
  ⟨(byB_sz hk).mul (gacross_sz hq hr hk), ((byA_sz hp hk).mul (gacross_sz hq hr hk)).neg, (byB_sz hk).mul (gacross_sz hq hp hk), ((byA_sz hr hk).mul (gacross_sz hq hp hk)).neg⟩
theorem minv_reg {m : MQ} (h : Reg m) : Reg (minv0 m) := h.undo0.conj _
end Go.Proofs.YtiolbdleihiocaaGreat
end
section
namespace Go.Proofs.YtiolbdleihiocaaGreat
open Go.Proofs.YtiolbdleihiocaaGreat.Y
open Go Go.RowKit
set_option maxRecDepth 100000
theorem gq_one_ne : (⟨1, 0⟩ : GQ) ≠ g0 := fun e => by have := congrArg GQ.re e; exact absurd this (by show (1 : Rat) ≠ 0; decide)
theorem gq_div_self {u : GQ} (h : u ≠ g0) : gdiv u u = ⟨1, 0⟩ := by
  rw [gdiv_eq_iff h]
  refine GQ.ext2 ?_ ?_ <;> (simp only [gmul]; grind)
theorem gq_div_one (z : GQ) : gdiv z ⟨1, 0⟩ = z := by
  rw [gdiv_eq_iff gq_one_ne]
  refine GQ.ext2 ?_ ?_ <;> (simp only [gmul]; grind)
theorem ptB_ne' {p q : Pt} (h : p ≠ q) : ptB p q = false := by
  cases k : ptB p q
  · rfl
  · exact absurd (ptB_iff.1 k) h
def mnorm (m : MQ) : MQ := mnormB m (gzero m.c)
def Nrm (m : MQ) : Prop := (bif gzero m.c then m.d else m.c) = ⟨1, 0⟩
theorem Nrm.id {m : MQ} (h : Nrm m) : mnorm m = m := by
  unfold Nrm at h
  unfold mnorm mnormB
  rw [h, gq_div_one, gq_div_one, gq_div_one, gq_div_one]
theorem Reg.nrm {m : MQ} (h : Reg m) : Nrm (mnorm m) := by
  have h0 := h.by_ rfl
  unfold Nrm mnorm
  cases hc : gzero m.c with
  | false =>
    have hc' := gz_false.1 hc
    show (bif gzero (gdiv m.c m.c) then _ else gdiv m.c m.c) = _
    rw [gq_div_self hc', gz_false.2 gq_one_ne]
    rfl
  | true =>
    rw [hc] at h0
    have hd : m.d ≠ g0 := h0
    show (bif gzero (gdiv m.c m.d) then gdiv m.d m.d else _) = _
    have : gzero (gdiv m.c m.d) = true := by
      rw [gz_true.1 hc, gz_true, gdiv_eq_iff hd]
      refine GQ.ext2 ?_ ?_ <;> (simp only [gmul, g0]; grind)
    rw [this, gq_div_self hd]
    rfl
theorem Reg.mnorm {m : MQ} (h : Reg m) : Reg (mnorm m) := h.norm (h.by_ rfl)
theorem Reg.b0 {m : MQ} (h : Reg m) : gzero (bif gzero m.c then m.d else m.c) = false := h.by0 rfl
theorem MSz.nrm {k : Nat} {m : MQ} (h : MSz k m) (hr : Reg m) : MSz (dsz k) (Go.Proofs.YtiolbdleihiocaaGreat.mnorm m) := h.normB hr.b0
def mcmp (m n : MQ) : MQ := mnorm (mbeh m n)
def minv (m : MQ) : MQ := mnorm (minv0 m)
def mcha (p q r : Pt) : MQ := mnorm (mchart0 p q r)
def mid (t : Bool) : MQ := ⟨gint 1 0, g0, g0, gint 1 0, t⟩
theorem Reg.id (t : Bool) : Reg (mid t) := fun e => by
  have := congrArg GQ.re e
  simp only [mdet, mid, gint10, gsub, gmul, g0] at this
  exact absurd this (by grind)
theorem Nrm.cmp {m n : MQ} (h : Reg m) (k : Reg n) : Nrm (mcmp m n) := (h.beh k).nrm
theorem Nrm.inv {m : MQ} (h : Reg m) : Nrm (minv m) := (minv_reg h).nrm
def mof (p q r s u v : Pt) (t : Bool) : MQ := mcmp (minv (mcha s u v)) (mcmp (mid t) (mcha p q r))
end Go.Proofs.YtiolbdleihiocaaGreat
end
section
namespace Go.Proofs.YtiolbdleihiocaaGreat.Y
open Go Go.RowKit
set_option maxRecDepth 100000
def sSpotP (p : Pt) (h : FitP p) : Spec Tryz.prog :=
  ⟨106, Tryz.call106, [.one (.a (lsX p.w.C))], [], .tup [.a (pL 0 p), .c (.b (.v (.bool true)))], pM p, fun β w hh => by
    cases p with
    | inf => exact (sSpot .inf).ok β w hh
    | fin z =>
      refine ((sSpot (.fin (.ok z.re h.1) (.ok z.im h.2))).ok β w hh).mono fun e w' ⟨xs, h1, he, h2, h3⟩ => ⟨xs, h1, he, ?_, h3⟩
      have h4 : newHold w' [ratT z.re, ratT z.im] xs := h2
      match xs, h4 with
      | [a, b], h4 => exact ⟨(ratT z.re).imp _ _ h4.1, (ratT z.im).imp _ _ h4.2.1, trivial⟩, by kernel_rfl⟩
def MayQ (q : MQ) : Prop := FitM q ∧ gzero (mdet q) = false ∧ (gzero (gsub q.c (gint 1 0)) = true ∨ gzero q.c = true ∧ gzero (gsub q.d (gint 1 0)) = true)
def sOpenYes {q : MQ} (h : MayQ q) : Spec Tryz.prog :=
  ⟨132, Tryz.call132, [.one (.a (mCl q))], [], .tup [mA 0 q, .c (.b (.v (.bool true)))], mT q, fun β w hh => by
    obtain ⟨hf, hd, hr⟩ := h
    have hk : mayR (gzero (gsub q.c (gint 1 0))) (gzero q.c) (gzero (gsub q.d (gint 1 0))) = true := by
      unfold mayR
      rcases hr with h | ⟨h, k⟩
      · rw [h]; rfl
      · rw [h, k]; cases gzero (gsub q.c (gint 1 0)) <;> rfl
    refine ((sOpenM hf hd rfl rfl rfl).ok β w hh).mono fun e w' ⟨xs, h1, he, h2, h3⟩ => ⟨xs, h1, ?_, h2, h3⟩
    rw [he]
    show Ending.returned ((SV.tup [mA 0 q, .c (.b (.v (.bool (mayR (gzero (gsub q.c (gint 1 0))) (gzero q.c) (gzero (gsub q.d (gint 1 0)))))))]).den (extE β 0 xs)) = _
    rw [hk]
    rfl, by kernel_rfl⟩
end Go.Proofs.YtiolbdleihiocaaGreat.Y
end
section
namespace Go.Proofs.YtiolbdleihiocaaGreat
open Go.Proofs.YtiolbdleihiocaaGreat.Y
open Go Go.RowKit
set_option maxRecDepth 100000
abbrev svT (b : Bool) : SV := .one (.c (.b (.v (.bool b))))
abbrev svN (n : Int) : SC := .c (.b (.v (.int .i64 n)))
def sR8unit : Y.Spec Tryz.prog := Y.Spec.auto Tryz.call114 [] [] (svG (gint 1 0)) [] [(sR4Int 1 0).e] [] 400 Tryz.func114 hmA (by kernel_rfl) (fun β => by kernel_rfl)
def sR8zero : Y.Spec Tryz.prog := Y.Spec.auto Tryz.call115 [] [] (svG (gint 0 0)) [] [(sR4Int 0 0).e] [] 400 Tryz.func115 hmA (by kernel_rfl) (fun β => by kernel_rfl)
def sR8One : Y.Spec Tryz.prog := Y.Spec.auto Tryz.call43 [] [] (svM (mid false)) [] [sR8unit.e, sR8zero.e, sR8zero.e, sR8unit.e] [] 400 Tryz.func43 hmA (by kernel_rfl) (fun β => by kernel_rfl)
abbrev KD : Nat := 1000000
abbrev KT : Nat := 125
def mz8 : List Lf := g0C ++ g0C ++ g0C ++ g0C ++ [.b (.v (.bool false))]
abbrev P6 (p q r s u v : Pt) (k : Pt → Prop) : Prop := k p ∧ k q ∧ k r ∧ k s ∧ k u ∧ k v
section
variable {p q r s u v : Pt} (z : P6 p q r s u v (PSz KT)) (t : Bool)
theorem mid_sz (t : Bool) {k : Nat} (hk : 1 ≤ k := by decide) : MSz k (mid t) := by
  have h1 : GSz k (gint 1 0) := (GSz.int (by decide) (by decide)).mono hk
  have h0 : GSz k g0 := g0_sz hk
  exact ⟨h1, h0, h0, h1⟩
theorem mcha_sz {k : Nat} (hp : PSz k p) (hq : PSz k q) (hr : PSz k r) (hk : 1 ≤ k) (h0 : Reg (mchart0 p q r)) : MSz (dsz (csz k)) (mcha p q r) := (mchart0_sz hp hq hr hk).nrm h0
theorem minv_sz {k : Nat} {m : MQ} (h : MSz k m) (h0 : Reg (minv0 m)) : MSz (dsz k) (minv m) := (minv0_sz h).nrm h0
theorem mcmp_sz {i j : Nat} {m n : MQ} (h : MSz i m) (k : MSz j n) (h0 : Reg (mbeh m n)) : MSz (dsz (bsz i j)) (mcmp m n) := (h.beh k).nrm h0
structure Six (p q r s u v : Pt) : Prop where
  a : p ≠ q
  b : q ≠ r
  c : r ≠ p
  d : s ≠ u
  e : u ≠ v
  f : v ≠ s
theorem Six.r1 (h : Six p q r s u v) : Reg (mchart0 p q r) := Reg.chart h.a h.b (Ne.symm h.c)
theorem Six.r2 (h : Six p q r s u v) : Reg (mchart0 s u v) := Reg.chart h.d h.e (Ne.symm h.f)
theorem Six.r3 (h : Six p q r s u v) (t : Bool) : Reg (mbeh (mid t) (mcha p q r)) := (Reg.id t).beh h.r1.mnorm
theorem Six.r4 (h : Six p q r s u v) : Reg (minv0 (mcha s u v)) := minv_reg h.r2.mnorm
theorem Six.r5 (h : Six p q r s u v) (t : Bool) : Reg (mbeh (minv (mcha s u v)) (mcmp (mid t) (mcha p q r))) := h.r4.mnorm.beh (h.r3 t).mnorm
end
end Go.Proofs.YtiolbdleihiocaaGreat
end
section
namespace Go.Proofs.YtiolbdleihiocaaGreat.Y
open Go Go.RowKit
set_option maxRecDepth 100000
def eqEvPt {p q : Pt} {r : Bool} (h : ptB p q = r) : Ev Tryz.prog := eqEvP p.i q.i p.x p.y q.x q.y r h
def mob0 : SC := .a (lsX g0C ++ lsX g0C ++ lsX g0C ++ lsX g0C ++ [.b (.v (.bool false))])
theorem MayQ.reg {q : MQ} (h : MayQ q) : Reg q := gz_false.1 h.2.1
def sBehR {m n : MQ} (h : MSz KE m) (k : MSz KE n) (h0 : Reg (mbeh m n)) : Spec Tryz.prog := sBehind h k (b := gzero (mbeh m n).c) rfl h0.b0
def sUndoR {m : MQ} (h : MSz KM m) (h0 : Reg m) : Spec Tryz.prog := sUndo h (b := gzero (minv0 m).c) rfl (minv_reg h0).b0
def sChaR {p q r : Pt} (hp : PSz KC p) (hq : PSz KC q) (hr : PSz KC r) (h0 : Reg (mchart0 p q r)) : Spec Tryz.prog := sChart hp hq hr (b := gzero (mchart0 p q r).c) rfl h0.b0
theorem nrm_b0 {m : MQ} (h : Nrm m) : gzero (bif gzero m.c then m.d else m.c) = false := by
  unfold Nrm at h
  rw [h]
  exact gz_false.2 gq_one_ne
noncomputable def sToldN {m : MQ} (h : MSz KM m) (h0 : Nrm m) : Spec Tryz.prog :=
  ⟨111, Tryz.call111, [mV 0 m], mM m, .tup [.a (lsX (maC m)), .c (.b (.v (.int .i64 (maK m))))], [], fun β w hh => by
    have k := (sToldM h (b := gzero m.c) rfl (nrm_b0 h0)).ok β w hh
    rw [show (sToldM h (b := gzero m.c) rfl (nrm_b0 h0)).res = .tup [.a (lsX (maC m)), .c (.b (.v (.int .i64 (maK m))))] from congrArg (fun m => SV.tup [.a (lsX (maC m)), .c (.b (.v (.int .i64 (maK m))))]) h0.id] at k
    exact k, by kernel_rfl⟩
theorem send_sz {q : MQ} (h : MSz 1024 q) {p : Pt} (hp : PSz 1024 p) {b : Bool} (hb : gzero (msD q p) = b) : PSz KB (msend q p b) := by
  cases b
  · exact (GSz.div (msN_sz h hp) (msD_sz h hp) hb).mono (by decide)
  · trivial
noncomputable def sAt {q : MQ} (h : MayQ q) {p : Pt} (hp : FitP p) {b : Bool} (hb : gzero (msD q p) = b) : Spec Tryz.prog :=
  Spec.auto Tryz.call84 [.one (.a (mCl q)), .one (.a (lsX p.w.C))] [] (.tup [.a (lsX (paC (msend q p b))), .c (.b (.v (.int .i64 (paK (msend q p b)))))]) []
    [(sOpenYes h).e, (sSpotP p hp).e, (sSend ((fitM_sz h.1).mono (by decide)) (hp.sz.mono (by decide)) hb).e, (sToldP (msend q p b) (send_sz (fitM_sz h.1) hp.sz hb)).e] [] 800 Tryz.func84 hmA (by cases b <;> kernel_rfl) (fun β => by cases b <;> kernel_rfl)
noncomputable def sInv {q : MQ} (h : MayQ q) : Spec Tryz.prog :=
  Spec.auto Tryz.call56 [.one (.a (mCl q))] [] (.tup [.a (lsX (maC (minv q))), .c (.b (.v (.int .i64 (maK (minv q)))))]) []
    [(sOpenYes h).e, (sUndoR ((fitM_sz h.1).mono (by decide)) h.reg).e, (sToldN ((minv_sz (fitM_sz h.1) (minv_reg h.reg)).mono (by decide)) (Nrm.inv h.reg)).e] [] 800 Tryz.func56 hmA (by kernel_rfl) (fun β => by kernel_rfl)
end Go.Proofs.YtiolbdleihiocaaGreat.Y
end
section
namespace Go.Proofs.YtiolbdleihiocaaGreat.Y
open Go Go.RowKit
set_option maxRecDepth 100000
theorem num_some : (Tryz.prog.info? 119).isSome = true := by kernel_rfl
noncomputable def appN : AppT Tryz.prog :=
  ⟨153, 119, (Tryz.prog.info? 119).get num_some, .agg #[.pointer none, .pointer none], 2, 16, Tryz.underlying153, (Option.some_get num_some).symm, by kernel_rfl, by kernel_rfl, by kernel_rfl, rfl, by decide, by decide⟩
structure Gp where
  a : Fr
  b : Fr
def Gp.C (g : Gp) : SV := .one (.a (rL g.a.r ++ rL g.b.r))
def Gp.B (g : Gp) : Bool := g.a.a.B && g.b.a.B
noncomputable def gp1 (g : Gp) {r : Bool} (h : g.B = r) : List (Ev Tryz.prog) := [(sOfW g.a g.b h).e, .app appN]
abbrev tB' (t : Bool) : SV := .one (.c (.b (.v (.bool t))))
abbrev nI' (k : Int) : SC := .c (.b (.v (.int .i64 k)))
noncomputable def mkE (a b c d : Gp) {r1 r2 r3 r4 : Bool} (ha : a.B = r1) (hb : b.B = r2) (hc : c.B = r3) (hd : d.B = r4) : List (Ev Tryz.prog) :=
  bif r1 then gp1 a ha ++ (bif r2 then gp1 b hb ++ (bif r3 then gp1 c hc ++ [(sOfW d.a d.b hd).e] else [(sOfW c.a c.b hc).e]) else [(sOfW b.a b.b hb).e]) else [(sOfW a.a a.b ha).e]
noncomputable def sMakeNo (a b c d : Gp) (t : Bool) {r1 r2 r3 r4 : Bool} (ha : a.B = r1) (hb : b.B = r2) (hc : c.B = r3) (hd : d.B = r4) (h : (r1 && (r2 && (r3 && r4))) = false) : Spec Tryz.prog :=
  ⟨35, Tryz.call35, [a.C, b.C, c.C, d.C, tB' t], [], .tup [mob0, nI' 2], [], fun β w hh => by
    cases r1
    · exact spec_auto (evs := mkE a b c d ha hb hc hd) (Ns := [(10, 15)]) (m := 1200) Tryz.func35 hmA (fun β => by kernel_rfl) (by kernel_rfl) β w hh
    · cases r2
      · exact spec_auto (evs := mkE a b c d ha hb hc hd) (Ns := [(10, 15)]) (m := 1200) Tryz.func35 hmA (fun β => by kernel_rfl) (by kernel_rfl) β w hh
      · cases r3
        · exact spec_auto (evs := mkE a b c d ha hb hc hd) (Ns := [(10, 15)]) (m := 1200) Tryz.func35 hmA (fun β => by kernel_rfl) (by kernel_rfl) β w hh
        · cases r4
          · exact spec_auto (evs := mkE a b c d ha hb hc hd) (Ns := [(10, 15)]) (m := 1200) Tryz.func35 hmA (fun β => by kernel_rfl) (by kernel_rfl) β w hh
          · exact Bool.noConfusion h, by kernel_rfl⟩
abbrev gS (z : GQ) : SV := .one (.a (lsX (gC z)))
noncomputable def mkOkE {m : MQ} (h : FitM m) : List (Ev Tryz.prog) := [ofE h.1, .app appN, ofE h.2.1, .app appN, ofE h.2.2.1, .app appN, ofE h.2.2.2, .app appN, (sDet ((fitM_sz h).mono (by decide))).e]
noncomputable def sMakeFlat {m : MQ} (h : FitM m) (h0 : gzero (mdet m) = true) : Spec Tryz.prog :=
  Spec.auto Tryz.call35 [gS m.a, gS m.b, gS m.c, gS m.d, tB' m.t] [] (.tup [mob0, nI' 180]) []
    (mkOkE h ++ [(sZero h0).e]) [(10, 15)] 1200 Tryz.func35 hmA (by kernel_rfl) (fun β => by kernel_rfl)
noncomputable def sToldR {m : MQ} (h : MSz KM m) (h0 : Reg m) : Spec Tryz.prog := sToldM h (b := gzero m.c) rfl h0.b0
noncomputable def sMake {m : MQ} (h : FitM m) (h0 : gzero (mdet m) = false) : Spec Tryz.prog :=
  Spec.auto Tryz.call35 [gS m.a, gS m.b, gS m.c, gS m.d, tB' m.t] [] (.tup [.a (lsX (maC (mnorm m))), nI' (maK (mnorm m))]) []
    (mkOkE h ++ [(sZero h0).e, (sToldR ((fitM_sz h).mono (by decide)) (gz_false.1 h0)).e]) [(10, 15)] 1200 Tryz.func35 hmA (by kernel_rfl) (fun β => by kernel_rfl)
end Go.Proofs.YtiolbdleihiocaaGreat.Y
end
section
namespace Go.Proofs.YtiolbdleihiocaaGreat
open Go.Proofs.YtiolbdleihiocaaGreat.Y
open Go Go.RowKit
set_option maxRecDepth 100000
abbrev svI (n : Int) : SC := .c (.b (.v (.int .i64 n)))
theorem sz_lit1 {n : Int} (h : n.natAbs < 256) : Fit (Rat.divInt n 1) := (Sz.small h).fit (by decide)
theorem fit_int {n m : Int} (h : n.natAbs < 256) (k : m.natAbs < 256) : FitG (gint n m) := ⟨sz_lit1 h, sz_lit1 k⟩
def mV (a a' b b' c c' d d' : R4) (t : Bool) : Array Value := #[.bool a.b, .string a.s, .bool a.c, .string a.t, .bool a'.b, .string a'.s, .bool a'.c, .string a'.t, .bool b.b, .string b.s, .bool b.c, .string b.t, .bool b'.b, .string b'.s, .bool b'.c, .string b'.t,
  .bool c.b, .string c.s, .bool c.c, .string c.t, .bool c'.b, .string c'.s, .bool c'.c, .string c'.t, .bool d.b, .string d.s, .bool d.c, .string d.t, .bool d'.b, .string d'.s, .bool d'.c, .string d'.t, .bool t]
def gV (a a' : R4) : Array Value := #[.bool a.b, .string a.s, .bool a.c, .string a.t, .bool a'.b, .string a'.s, .bool a'.c, .string a'.t]
def geq (x y x' y' : R4) : Bool := x.eq x' && (y.eq y' && true)
theorem eqM {w : World} (n : Nat) (a a' b b' c c' d d' : R4) (t : Bool) (p p' q q' r r' s s' : R4) (u : Bool) : (Op.equalIn (n + 5) 35 (.agg (mV a a' b b' c c' d d' t)) (.agg (mV p p' q q' r r' s s' u))).run Tryz.prog w = .ok (geq a a' p p' && (geq b b' q q' && (geq c c' r r' && (geq d d' s s' && ((t == u) && true))))) w := by
  unfold mV
  rw [run_equalIn_agg _ _ _ _ _ (by kernel_rfl) (by kernel_rfl)]
  refine run_eqF_cons (a := .agg (gV a a')) (b := .agg (gV p p')) (by kernel_rfl) (by kernel_rfl) (by kernel_rfl) (eqG n _ _ _ _) ?_
  refine run_eqF_cons (a := .agg (gV b b')) (b := .agg (gV q q')) (by kernel_rfl) (by kernel_rfl) (by kernel_rfl) (eqG n _ _ _ _) ?_
  refine run_eqF_cons (a := .agg (gV c c')) (b := .agg (gV r r')) (by kernel_rfl) (by kernel_rfl) (by kernel_rfl) (eqG n _ _ _ _) ?_
  refine run_eqF_cons (a := .agg (gV d d')) (b := .agg (gV s s')) (by kernel_rfl) (by kernel_rfl) (by kernel_rfl) (eqG n _ _ _ _) ?_
  refine run_eqF_cons (a := .bool t) (b := .bool u) (by kernel_rfl) (by kernel_rfl) (by kernel_rfl) (run_equalIn_bool' _ _ _ _ _ (by kernel_rfl)) ?_
  kernel_rfl
theorem geq_self (x y : R4) : geq x y x y = true := by
  unfold geq
  rw [R4.eq_iff.2 rfl, R4.eq_iff.2 rfl]; rfl
def eqEvM (a a' b b' c c' d d' : R4) (t : Bool) : Ev Tryz.prog :=
  eqEv 35 (mV a a' b b' c c' d d' t) (mV a a' b b' c c' d d' t) true (by kernel_rfl) (fun w => by
    have h := eqM (w := w) 9995 a a' b b' c c' d d' t a a' b b' c c' d d' t
    rw [geq_self, geq_self, geq_self, geq_self, show (t == t) = true from beq_self_eq_true t] at h
    exact h)
noncomputable def sR (F : Prop) (x : Rat) : R4 := ⟨selB F (decide (x.num < 0)), selS F (mag x.num.natAbs), false, selS F (mag x.den)⟩
noncomputable def eqMA (m : MQ) : Ev Tryz.prog := eqEvM (sR (FitM m) m.a.re) (sR (FitM m) m.a.im) (sR (FitM m) m.b.re) (sR (FitM m) m.b.im) (sR (FitM m) m.c.re) (sR (FitM m) m.c.im) (sR (FitM m) m.d.re) (sR (FitM m) m.d.im) (selB (FitM m) m.t)
def eqMC (m : MQ) : Ev Tryz.prog := eqEvM (fR m.a.re) (fR m.a.im) (fR m.b.re) (fR m.b.im) (fR m.c.re) (fR m.c.im) (fR m.d.re) (fR m.d.im) m.t
abbrev svB (b : Bool) : SV := .one (.c (.b (.v (.bool b))))
abbrev pI (n m : Int) : Pt := .fin (gint n m)
theorem pI_fit {n m : Int} (h : n.natAbs < 256) (k : m.natAbs < 256) : FitP (pI n m) := fit_int h k
theorem pI_ne {n m n' m' : Int} (h : ¬ (n = n' ∧ m = m')) : pI n m ≠ pI n' m' := fun e => h (by
  injection e with e
  injection e with e1 e2
  have k1 := congrArg Rat.num e1
  have k2 := congrArg Rat.num e2
  rw [(divInt_one n).1, (divInt_one n').1] at k1
  rw [(divInt_one m).1, (divInt_one m').1] at k2
  exact ⟨k1, k2⟩)
theorem fit_small {z : GQ} (h1 : z.re.num.natAbs < 256) (h2 : z.re.den < 256) (h3 : z.im.num.natAbs < 256) (h4 : z.im.den < 256) : FitP (.fin z) :=
  ⟨Sz.fit (k := 1) ⟨sz_small h1, sz_small (n := (z.re.den : Int)) (by simpa using h2)⟩ (by decide), Sz.fit (k := 1) ⟨sz_small h3, sz_small (n := (z.im.den : Int)) (by simpa using h4)⟩ (by decide)⟩
theorem gq_lit {z w : GQ} (h1 : decide (z.re = w.re) = true) (h2 : decide (z.im = w.im) = true) : z = w := GQ.ext2 (of_decide_eq_true h1) (of_decide_eq_true h2)
theorem mq_ext {m n : MQ} (h1 : m.a = n.a) (h2 : m.b = n.b) (h3 : m.c = n.c) (h4 : m.d = n.d) (h5 : m.t = n.t) : m = n := by cases m; cases n; cases h1; cases h2; cases h3; cases h4; cases h5; rfl
end Go.Proofs.YtiolbdleihiocaaGreat
end
section
namespace Go.Proofs.YtiolbdleihiocaaGreat.Y
open Go Go.RowKit
set_option maxRecDepth 100000
theorem g00 : gint 0 0 = g0 := gq_lit (by kernel_rfl) (by kernel_rfl)
theorem g0_fit : FitG g0 := by rw [← g00]; exact fit_int (by decide) (by decide)
theorem mid_fit (t : Bool) : FitM (mid t) := ⟨fit_int (by decide) (by decide), g0_fit, g0_fit, fit_int (by decide) (by decide)⟩
theorem mid_nrm (t : Bool) : Nrm (mid t) := by
  unfold Nrm mid
  rw [gz_true.2 rfl]
  exact gint10
noncomputable def sToldId : Spec Tryz.prog :=
  ⟨111, Tryz.call111, [mV 0 (mid false)], mM (mid false), .tup [.a (lsX (mC (mid false))), .c (.b (.v (.int .i64 0)))], [], fun β w hh => by
    have k := (sToldN (m := mid false) ((fitM_sz (mid_fit false)).mono (by decide)) (mid_nrm false)).ok β w hh
    rw [show (sToldN (m := mid false) ((fitM_sz (mid_fit false)).mono (by decide)) (mid_nrm false)).res = .tup [.a (lsX (mC (mid false))), .c (.b (.v (.int .i64 0)))] by
      show SV.tup [.a (lsX (maC (mid false))), .c (.b (.v (.int .i64 (maK (mid false)))))] = _
      rw [(maC_fit (mid_fit false)).1, (maC_fit (mid_fit false)).2]] at k
    exact k, by kernel_rfl⟩
noncomputable def sOne : Spec Tryz.prog :=
  Spec.auto Tryz.call42 [] [] (.one (.a (lsX (mC (mid false))))) [] [sStill.e, sToldId.e] [] 400 Tryz.func42 hmA (by kernel_rfl) (fun β => by kernel_rfl)
end Go.Proofs.YtiolbdleihiocaaGreat.Y
end
section
namespace Go.Proofs.YtiolbdleihiocaaGreat
open Go.Proofs.YtiolbdleihiocaaGreat.Y
open Go Go.RowKit
set_option maxRecDepth 100000
def sNum8 (k : Int) : Y.Spec Tryz.prog := Y.Spec.auto Tryz.call17 [.one (svI k)] [] (.one (svI k)) [] [] [] 400 Tryz.func17 hmA (by kernel_rfl) (fun β => by kernel_rfl)
def sIn8 (n m : Int) (hn : -9223372036854775808 ≤ n ∧ n ≤ 9223372036854775807 := by decide) (hm : -9223372036854775808 ≤ m ∧ m ≤ 9223372036854775807 := by decide) : Y.Spec Tryz.prog :=
  Y.Spec.auto Tryz.call38 [.one (svI n), .one (svI m)] [] (svG (gint n m)) [] [(sR4Int n m hn hm).e] [] 400 Tryz.func38 hmA (by kernel_rfl) (fun β => by kernel_rfl)
def sAt8 (n m : Int) (hn : -9223372036854775808 ≤ n ∧ n ≤ 9223372036854775807 := by decide) (hm : -9223372036854775808 ≤ m ∧ m ≤ 9223372036854775807 := by decide) : Y.Spec Tryz.prog :=
  Y.Spec.auto Tryz.call104 [.one (svI n), .one (svI m)] [] (svP (.fin (gint n m))) [] [(sIn8 n m hn hm).e] [] 400 Tryz.func104 hmA (by kernel_rfl) (fun β => by kernel_rfl)
inductive T3 where
  | lo
  | mid
  | hi
def T3.at (s : ByteArray) : T3 → Prop
  | .lo => decide ((120 : Int) < (s.size : Int)) = false
  | .mid => decide ((120 : Int) < (s.size : Int)) = true ∧ decide ((s.size : Int) ≤ 1024) = true
  | .hi => decide ((120 : Int) < (s.size : Int)) = true ∧ decide ((s.size : Int) ≤ 1024) = false
def T3.yes : T3 → Bool
  | .mid => true
  | _ => false
theorem T3.all (s : ByteArray) : ∃ k : T3, k.at s := by
  cases h : decide ((120 : Int) < (s.size : Int)) with
  | false => exact ⟨.lo, h⟩
  | true => cases h2 : decide ((s.size : Int) ≤ 1024) with
    | true => exact ⟨.mid, h, h2⟩
    | false => exact ⟨.hi, h, h2⟩
theorem bool_lit {a b : Bool} (h : a = b) : Value.bool a = .bool b := by rw [h]
noncomputable def sIs8 (M : MQ) : Y.Spec Tryz.prog := Y.Spec.auto Tryz.call19 [.one (.a (maC M)), .one (svI (maK M)), svM M, .one (svI 0)] [] (svB true) []
  [(sR8Told M).e, eqMA M, (sNum8 (maK M)).e, .eqv 23 (.bool (maK M == maK M)) (.bool true) (ieq_self _)] [] 400 Tryz.func19 hmA (by kernel_rfl) (fun β => by kernel_rfl)
def eqM0 : Ev Tryz.prog := eqEvM r40 r40 r40 r40 r40 r40 r40 r40 false
def sIs8c (k : Int) : List (Ev Tryz.prog) := [eqM0, (sNum8 k).e]
end Go.Proofs.YtiolbdleihiocaaGreat
end
section
namespace Go.Proofs.YtiolbdleihiocaaGreat.Y
open Go Go.RowKit
set_option maxRecDepth 100000
theorem rSetInt64_any {w : World} {b o : Nat} {n : Int} (hz : Slot w b o 4) (hr : -9223372036854775808 ≤ n ∧ n ≤ 9223372036854775807) :
    Calls Tryz.prog 241 #[.pointer (some ⟨b, o, none⟩), .int .i64 n] w fun e w' => e = .returned (.pointer (some ⟨b, o, none⟩)) ∧ RatAt w' b o (n : Rat) ∧ Touch w w' b o 4 := by
  have HZ := Lib.hid hz
  have HR := Lib.hid hr
  clear hz hr
  go_enter Tryz.func241, Tryz.ntmps241
  go_wp2_with fail
  refine (NewInt_any HR.out).mono ?_
  rintro e w1 ⟨c, rfl, hc, h1, hb1⟩
  have hlt := HZ.out.lt
  have HB1 := Lib.hid hb1
  have H1 := Lib.hid h1
  have HC : Hid (c ≠ b) := show c ≠ b by omega
  clear h1 hb1 hc hlt
  go_wp2_with fail
  refine (SetInt_any (HZ.out.on HB1.out) H1.out HC.out).mono ?_
  rintro e w2 ⟨rfl, h2, ht⟩
  have H2 := Lib.hid h2
  have HT := Lib.hid ((Touch.of_below HB1.out b o 4).trans ht)
  clear h2 ht
  go_wp2
  go_ret
  exact ⟨rfl, H2.out, HT.out⟩
theorem int_divInt (n : Int) : ((n : Int) : Rat) = Rat.divInt n 1 := Rat.ext (divInt_one n).1.symm (divInt_one n).2.symm
def eSetI (i m : Nat) (n : Int) (hr : -9223372036854775808 ≤ n ∧ n ≤ 9223372036854775807) : Ev Tryz.prog := .fill 241 Tryz.call241 (fun β => #[.pointer (some ⟨(β i).b, 0, none⟩), .int .i64 n]) [] i 4 m (ratT (Rat.divInt n 1))
  (fun β w h ho hs => by
    rw [← int_divInt]
    exact fillP ho (rSetInt64_any hs hr))
def fSetI (n : Int) (hr : -9223372036854775808 ≤ n ∧ n ≤ 9223372036854775807) : Ev Tryz.prog := dyn1 fun i m => eSetI i m n hr
def sTldF {x : Rat} (hx : Sz KB x) : Spec Tryz.prog :=
  ⟨239, Tryz.call239, [rV 0], [ratT x], .one (.a (fC x)), [], fun β w hh => by
    obtain ⟨b, hb, k⟩ : PR x w (β 0) := hh 0 (ratT x) rfl
    show Calls _ _ #[.pointer ((β 0).v 0)] w _
    rw [hb.1]
    refine (told_any k (hx.okR2 (by decide))).mono fun e w' ⟨p, s, t, he, hp, hs, ht, hB⟩ => ?_
    obtain rfl : p = _ := hp.out
    obtain rfl : s = _ := hs.out
    obtain rfl : t = _ := ht.out
    exact ⟨[], (fun _ h => by cases h), he, trivial, hB⟩, by kernel_rfl⟩
def sFInt (n : Int) (hn : n.natAbs < 256) (hr : -9223372036854775808 ≤ n ∧ n ≤ 9223372036854775807) : Spec Tryz.prog :=
  Spec.auto Tryz.call174 [.one (svI n)] [] (.one (.a (fC (Rat.divInt n 1)))) []
    [mkR, fSetI n hr, (sTldF ((Sz.small hn).mono (by decide))).e] [] 400 Tryz.func174 hmA (by kernel_rfl) (fun β => by kernel_rfl)
def sGInt (n m : Int) (hn : n.natAbs < 256 := by decide) (hm : m.natAbs < 256 := by decide) (hn2 : -9223372036854775808 ≤ n ∧ n ≤ 9223372036854775807 := by decide) (hm2 : -9223372036854775808 ≤ m ∧ m ≤ 9223372036854775807 := by decide) : Spec Tryz.prog :=
  Spec.auto Tryz.call72 [.one (svI n), .one (svI m)] [] (gS (gint n m)) [] [(sFInt n hn hn2).e, (sFInt m hm hm2).e] [] 400 Tryz.func72 hmA (by kernel_rfl) (fun β => by kernel_rfl)
def mslide (b : GQ) : MQ := ⟨gint 1 0, b, gint 0 0, gint 1 0, false⟩
def mstr (a : GQ) : MQ := ⟨a, gint 0 0, gint 0 0, gint 1 0, false⟩
theorem fit10 : FitG (gint 1 0) := fit_int (by decide) (by decide)
theorem fit00 : FitG (gint 0 0) := fit_int (by decide) (by decide)
theorem mslide_fit {b : GQ} (h : FitG b) : FitM (mslide b) := ⟨fit10, h, fit00, fit10⟩
theorem mstr_fit {a : GQ} (h : FitG a) : FitM (mstr a) := ⟨h, fit00, fit00, fit10⟩
theorem mslide_nrm (b : GQ) : Nrm (mslide b) := by
  unfold Nrm mslide
  rw [show gzero (gint 0 0) = true by kernel_rfl]
  exact gint10
theorem mstr_nrm (a : GQ) : Nrm (mstr a) := by
  unfold Nrm mstr
  rw [show gzero (gint 0 0) = true by kernel_rfl]
  exact gint10
theorem mslide_det (b : GQ) : gzero (mdet (mslide b)) = false := by
  rw [gz_false]
  intro e
  have := congrArg GQ.re e
  simp only [mdet, mslide, gint10, g00, gsub, gmul, g0] at this
  exact absurd this (by grind)
theorem mstr_det (a : GQ) : gzero (mdet (mstr a)) = gzero a := by
  have : mdet (mstr a) = a := by
    refine GQ.ext2 ?_ ?_ <;> (simp only [mdet, mstr, gint10, g00, gsub, gmul, g0]; grind)
  rw [this]
noncomputable def sMakeN {m : MQ} (h : FitM m) (hn : Nrm m) (h0 : gzero (mdet m) = false) : Spec Tryz.prog :=
  (sMake h h0).as [gS m.a, gS m.b, gS m.c, gS m.d, tB' m.t] (.tup [.a (lsX (maC m)), nI' (maK m)]) rfl (by
    show SV.tup [.a (lsX (maC (mnorm m))), nI' (maK (mnorm m))] = _
    rw [hn.id])
noncomputable def sSlide {b : GQ} (h : FitG b) : Spec Tryz.prog :=
  Spec.auto Tryz.call36 [gS b] [] (.tup [.a (lsX (maC (mslide b))), nI' (maK (mslide b))]) []
    [(sGInt 1 0).e, (sGInt 0 0).e, (sGInt 1 0).e, (sMakeN (mslide_fit h) (mslide_nrm b) (mslide_det b)).e] [(1, 7)] 800 Tryz.func36 hmA (by kernel_rfl) (fun β => by kernel_rfl)
noncomputable def sStretch {a : GQ} (h : FitG a) (h0 : gzero a = false) : Spec Tryz.prog :=
  Spec.auto Tryz.call37 [gS a] [] (.tup [.a (lsX (maC (mstr a))), nI' (maK (mstr a))]) []
    [(sGInt 0 0).e, (sGInt 0 0).e, (sGInt 1 0).e, (sMakeN (mstr_fit h) (mstr_nrm a) (by rw [mstr_det, h0])).e] [(1, 7)] 800 Tryz.func37 hmA (by kernel_rfl) (fun β => by kernel_rfl)
noncomputable def sStretch0 {a : GQ} (h : FitG a) (h0 : gzero a = true) : Spec Tryz.prog :=
  Spec.auto Tryz.call37 [gS a] [] (.tup [mob0, nI' 180]) []
    [(sGInt 0 0).e, (sGInt 0 0).e, (sGInt 1 0).e, (sMakeFlat (mstr_fit h) (by rw [mstr_det, h0])).e] [(1, 7)] 800 Tryz.func37 hmA (by kernel_rfl) (fun β => by kernel_rfl)
def frX (x : Rat) (h : Fit x) : Fr := ⟨fR x, .ok x h, rfl⟩
def gpX (z : GQ) (h : FitG z) : Gp := ⟨frX z.re h.1, frX z.im h.2⟩
noncomputable def sSlideNo (g : Gp) (h : g.B = false) : Spec Tryz.prog :=
  Spec.auto Tryz.call36 [g.C] [] (.tup [mob0, nI' 2]) []
    [(sGInt 1 0).e, (sGInt 0 0).e, (sGInt 1 0).e, (sMakeNo (gpX (gint 1 0) fit10) g (gpX (gint 0 0) fit00) (gpX (gint 1 0) fit10) false (r1 := true) (r3 := true) (r4 := true) rfl h rfl rfl rfl).e] [(1, 7)] 800 Tryz.func36 hmA (by kernel_rfl) (fun β => by kernel_rfl)
noncomputable def sStretchNo (g : Gp) (h : g.B = false) : Spec Tryz.prog :=
  Spec.auto Tryz.call37 [g.C] [] (.tup [mob0, nI' 2]) []
    [(sGInt 0 0).e, (sGInt 0 0).e, (sGInt 1 0).e, (sMakeNo g (gpX (gint 0 0) fit00) (gpX (gint 0 0) fit00) (gpX (gint 1 0) fit10) false (r2 := true) (r3 := true) (r4 := true) h rfl rfl rfl rfl).e] [(1, 7)] 800 Tryz.func37 hmA (by kernel_rfl) (fun β => by kernel_rfl)
def sR8Det {m : MQ} (h : MSz KD m) : Spec Tryz.prog :=
  Spec.auto Tryz.call134 [svM m] [] (svG (mdet m)) []
    [(sR4Times (GSz.le h.a) (GSz.le h.d)).e, (sR4Times (GSz.le h.b) (GSz.le h.c)).e, (sR4Minus (h.a.mul h.d).le (h.b.mul h.c).le).e] [(1, 11)] 400 Tryz.func134 hmA (by kernel_rfl) (fun β => by kernel_rfl)
def sR8Make {m : MQ} (h : MSz KD m) (h0 : gzero (mdet (MQ.mk m.a m.b m.c m.d false)) = false) : Spec Tryz.prog :=
  Spec.auto Tryz.call41 [svG m.a, svG m.b, svG m.c, svG m.d, svT m.t] [] (.tup [.a (mC (mnorm m)), svN 0]) []
    [(sR8Det (m := MQ.mk m.a m.b m.c m.d false) ⟨h.a, h.b, h.c, h.d⟩).e, (sR4Zero (mdet (MQ.mk m.a m.b m.c m.d false)) h0).e, (sR8Normal (a := m.a) (b := m.b) (c := m.c) (d := m.d) m.t (⟨h.a.mono (by decide), h.b.mono (by decide), h.c.mono (by decide), h.d.mono (by decide)⟩) (f := gzero m.c) rfl (Reg.b0 (m := m) (gz_false.1 h0))).e] [] 400 Tryz.func41 hmA (by kernel_rfl) (fun β => by kernel_rfl)
def sR8Make0 {m : MQ} (h : MSz KD m) (h0 : gzero (mdet (MQ.mk m.a m.b m.c m.d false)) = true) : Spec Tryz.prog :=
  Spec.auto Tryz.call41 [svG m.a, svG m.b, svG m.c, svG m.d, svT m.t] [] (.tup [.a mz8, svN 180]) []
    [(sR8Det (m := MQ.mk m.a m.b m.c m.d false) ⟨h.a, h.b, h.c, h.d⟩).e, (sR4Zero (mdet (MQ.mk m.a m.b m.c m.d false)) h0).e] [] 400 Tryz.func41 hmA (by kernel_rfl) (fun β => by kernel_rfl)
noncomputable def sIs8F : Spec Tryz.prog := Spec.auto Tryz.call19 [.one (.a mz8), .one (svI 180), .one (.a mz8), .one (svI 180)] [] (svB true) []
  (sIs8c 180) [] 400 Tryz.func19 hmA (by kernel_rfl) (fun β => by kernel_rfl)
def sG4May (g : Gp) {r : Bool} (h : g.B = r) : Spec Tryz.prog :=
  (sR4May g.a.a g.b.a).as [g.C] (svB r) (by
    show [SV.one (.a (g.a.a.C ++ g.b.a.C))] = [SV.one (.a (rL g.a.r ++ rL g.b.r))]
    rw [show g.a.a.C = rL g.a.r from g.a.e, show g.b.a.C = rL g.b.r from g.b.e]) (congrArg svB h)
end Go.Proofs.YtiolbdleihiocaaGreat.Y
end
section
namespace Go.Proofs.YtiolbdleihiocaaGreat.Y
open Go Go.RowKit
inductive Stop (P : Program) where
  | ended (f : Cf P)
  | head (c : Code) (ks : List Kf) (f : Cf P)
def Stop.cf {P : Program} : Stop P → Cf P
  | .ended f => f
  | .head _ _ f => f
def runP (P : Program) (m0 n : Nat) (Ns : List (Nat × Nat)) : Nat → Option Code → List Kf → Cf P → Option (Stop P)
  | 0, _, _, _ => none
  | m + 1, oc, ks, f => match oc with
    | none => match ks with
      | [] => some (.ended f)
      | .sq c :: r => runP P m0 n Ns m (some c) r f
      | .bl _ :: r => runP P m0 n Ns m none r f
      | .lp c :: r => match f.ev with
        | .cut :: ev' => some (.head c r { f with ev := ev' })
        | _ => runP P m0 n Ns m (some c) (.lp c :: r) f
      | .sc :: r => runP P m0 n Ns m none r f
    | some c => match c with
      | .skip => runP P m0 n Ns m none ks f
      | .label _ => runP P m0 n Ns m none ks f
      | .region id ops d => match (bif d then drawS1 P m0 n Ns id ops.toList f else seqS P m0 n ops ops.toList f) with
        | some f' => runP P m0 n Ns m none ks f'
        | none => none
      | .seq a b => runP P m0 n Ns m (some a) (.sq b :: ks) f
      | .cond x a b => match evS idE f.sl x with
        | .bool true => runP P m0 n Ns m (some a) ks { f with cs := (fun β => [(.v (evS β f.sl x), .v (.bool true))]) :: f.cs }
        | .bool false => runP P m0 n Ns m (some b) ks { f with cs := (fun β => [(.v (evS β f.sl x), .v (.bool false))]) :: f.cs }
        | _ => none
      | .block id c => runP P m0 n Ns m (some c) (.bl id :: ks) f
      | .loop c => match f.ev with
        | .cut :: ev' => some (.head c ks { f with ev := ev' })
        | _ => runP P m0 n Ns m (some c) (.lp c :: ks) f
      | .scope c => runP P m0 n Ns m (some c) (.sc :: ks) f
      | .exit id => match popTo id ks with
        | some r => runP P m0 n Ns m none r f
        | none => none
      | .ret => some (.ended f)
      | _ => none
def Stop.after {P : Program} (Q : Exit → Act → World → Prop) (a : Act) (w : World) : Stop P → Prop
  | .ended _ => Q .normal a w ∧ Q .ret a w
  | .head c ks _ => Rounds P c (post P Q ks) a w
theorem Sync.ev {P : Program} {m0 n B0 : Nat} {w0 : World} {c : Cf P} {β : Env} {a : Act} {w : World} (h : Sync P m0 n B0 w0 c β a w) (x : List (Ev P)) : Sync P m0 n B0 w0 { c with ev := x } β a w := ⟨h.good, h.q, h.sl, h.of, h.m0, h.defers, h.uq⟩
theorem runP_ok {P : Program} {m0 n : Nat} {Ns : List (Nat × Nat)} (hm : P.follows .mixedOrders = true) : ∀ (m : Nat) (oc : Option Code) (ks : List Kf) (f : Cf P) (s : Stop P), runP P m0 n Ns m oc ks f = some s → f.full → (∀ x ∈ f.cs, x ∈ s.cf.cs) ∧ s.cf.full ∧
    (s.cf.good → ∀ {B0 : Nat} {w0 : World} {β : Env} {a : Act} {w : World}, Sync P m0 n B0 w0 f β a w → ∀ (Q : Exit → Act → World → Prop), (∀ β' a' w', (∀ k, k < m0 → β' k = β k) → Sync P m0 n B0 w0 s.cf β' a' w' → s.after Q a' w') → toShow P Q oc ks a w) := by
  intro m
  induction m with
  | zero => intro oc ks f f' h; simp only [runP] at h; cases h
  | succ m ih =>
    intro oc ks f f' h hf
    simp only [runP] at h
    cases oc with
    | none =>
      dsimp only at h
      cases ks with
      | nil =>
        obtain rfl := Option.some.inj h
        exact ⟨fun _ hx => hx, hf, fun _ B0 w0 β a w s Q hQ => (hQ β a w (fun _ _ => rfl) s).1⟩
      | cons x r =>
        cases x with
        | sq c => obtain ⟨i1, i2, i3⟩ := ih _ _ _ _ h hf; exact ⟨i1, i2, fun hg B0 w0 β a w s Q hQ => i3 hg s Q hQ⟩
        | bl j =>
          obtain ⟨i1, i2, i3⟩ := ih _ _ _ _ h hf
          exact ⟨i1, i2, fun hg B0 w0 β a w s Q hQ => i3 hg s Q hQ⟩
        | lp c =>
          dsimp only at h
          split at h
          · obtain rfl := Option.some.inj h
            exact ⟨fun _ hx => hx, hf, fun _ B0 w0 β a w s Q hQ => hQ β a w (fun _ _ => rfl) (s.ev _)⟩
          · obtain ⟨i1, i2, i3⟩ := ih _ _ _ _ h hf
            exact ⟨i1, i2, fun hg B0 w0 β a w s Q hQ => rounds_one (i3 hg s Q hQ)⟩
        | sc => obtain ⟨i1, i2, i3⟩ := ih _ _ _ _ h hf; exact ⟨i1, i2, fun hg B0 w0 β a w s Q hQ => i3 hg s Q hQ⟩
    | some c =>
      cases c with
      | skip => obtain ⟨i1, i2, i3⟩ := ih _ _ _ _ h hf; exact ⟨i1, i2, fun hg B0 w0 β a w s Q hQ => wp_skip (i3 hg s Q hQ)⟩
      | label l => obtain ⟨i1, i2, i3⟩ := ih _ _ _ _ h hf; exact ⟨i1, i2, fun hg B0 w0 β a w s Q hQ => wp_label (i3 hg s Q hQ)⟩
      | region rid ops d =>
        dsimp only at h
        split at h
        · rename_i f1 h1
          cases d with
          | true =>
            simp only [cond_true] at h1
            have hf1 := drawS1_full h1 hf
            obtain ⟨i1, i2, i3⟩ := ih _ _ _ _ h hf1
            obtain ⟨j1, j2⟩ := drawS1_ok hm h1 (fun k hk => (hf.1 k).1 hk) hf.2
            refine ⟨fun x hx => i1 x (j1 x hx), i2, fun hg B0 w0 β a w s Q hQ => ?_⟩
            have := j2 (fun β x hx => hg β x (i1 x hx)) s (post P Q ks) fun β' a' w' e s' => i3 hg s' Q fun β2 a2 w2 e2 s2 => hQ β2 a2 w2 (fun k hk => (e2 k hk).trans (e k hk)) s2
            simp only [Array.toArray_toList] at this
            exact this
          | false =>
            simp only [cond_false] at h1
            have hf1 := seqS_full h1 hf
            obtain ⟨i1, i2, i3⟩ := ih _ _ _ _ h hf1
            obtain ⟨j1, j2⟩ := seqS_ok h1
            exact ⟨fun x hx => i1 x (j1 x hx), i2, fun hg B0 w0 β a w s Q hQ => wp_region_list (j2 (fun β x hx => hg β x (i1 x hx)) s (post P Q ks) fun β' a' w' e s' => i3 hg s' Q fun β2 a2 w2 e2 s2 => hQ β2 a2 w2 (fun k hk => (e2 k hk).trans (e k hk)) s2)⟩
        · cases h
      | seq c d => obtain ⟨i1, i2, i3⟩ := ih _ _ _ _ h hf; exact ⟨i1, i2, fun hg B0 w0 β a w s Q hQ => wp_seq (i3 hg s Q hQ)⟩
      | cond x c d =>
        dsimp only at h
        split at h
        · obtain ⟨i1, i2, i3⟩ := ih _ _ _ _ h hf
          refine ⟨fun y hy => i1 y (List.mem_cons_of_mem _ hy), i2, fun hg B0 w0 β a w s Q hQ => ?_⟩
          obtain ⟨e, _⟩ := Eqs.cons_ok (hg β _ (i1 _ (List.mem_cons_self ..)))
          injection e with e
          exact wp_cond_true (by rw [s.sl.eval]; exact e) (i3 hg (s.cs _) Q hQ)
        · obtain ⟨i1, i2, i3⟩ := ih _ _ _ _ h hf
          refine ⟨fun y hy => i1 y (List.mem_cons_of_mem _ hy), i2, fun hg B0 w0 β a w s Q hQ => ?_⟩
          obtain ⟨e, _⟩ := Eqs.cons_ok (hg β _ (i1 _ (List.mem_cons_self ..)))
          injection e with e
          exact wp_cond_false (by rw [s.sl.eval]; exact e) (i3 hg (s.cs _) Q hQ)
        · cases h
      | block j c => obtain ⟨i1, i2, i3⟩ := ih _ _ _ _ h hf; exact ⟨i1, i2, fun hg B0 w0 β a w s Q hQ => wp_block (i3 hg s Q hQ)⟩
      | loop c =>
        dsimp only at h
        split at h
        · obtain rfl := Option.some.inj h
          exact ⟨fun _ hx => hx, hf, fun _ B0 w0 β a w s Q hQ => rounds_loop (hQ β a w (fun _ _ => rfl) (s.ev _))⟩
        · obtain ⟨i1, i2, i3⟩ := ih _ _ _ _ h hf
          exact ⟨i1, i2, fun hg B0 w0 β a w s Q hQ => rounds_loop (rounds_one (i3 hg s Q hQ))⟩
      | rangeFunc _ _ _ _ => cases h
      | exit j =>
        dsimp only at h
        split at h
        · rename_i r hr
          obtain ⟨i1, i2, i3⟩ := ih _ _ _ _ h hf
          exact ⟨i1, i2, fun hg B0 w0 β a w s Q hQ => wp_exit (post_exit hr (i3 hg s Q hQ))⟩
        · cases h
      | scope c => obtain ⟨i1, i2, i3⟩ := ih _ _ _ _ h hf; exact ⟨i1, i2, fun hg B0 w0 β a w s Q hQ => wp_scope_straight (i3 hg s Q hQ)⟩
      | goto _ => cases h
      | ret =>
        obtain rfl := Option.some.inj h
        exact ⟨fun _ hx => hx, hf, fun _ B0 w0 β a w s Q hQ => wp_ret (post_ret (hQ β a w (fun _ _ => rfl) s).2 ks)⟩
      | refuse _ => cases h
def loopsOf : Nat → Code → List Kf → List (Code × List Kf)
  | 0, _, _ => []
  | m + 1, c, ks => match c with
    | .seq a b => loopsOf m a (.sq b :: ks) ++ loopsOf m b ks
    | .cond _ a b => loopsOf m a ks ++ loopsOf m b ks
    | .block id c => loopsOf m c (.bl id :: ks)
    | .loop c => (c, ks) :: loopsOf m c (.lp c :: ks)
    | .scope c => loopsOf m c (.sc :: ks)
    | _ => []
def lpAt (fn : Func) (i : Nat) : Code × List Kf := match fn.body with
  | some c => (loopsOf 200 c []).getD i (.skip, [])
  | none => (.skip, [])
def Stop.pos {P : Program} : Stop P → Option (Code × List Kf)
  | .ended _ => none
  | .head c ks _ => some (c, ks)
def mkC (P : Program) (n u : Nat) (sl : List (Nat × SV)) (ob : List Ob) (ev : List (Ev P)) : Cf P :=
  ⟨sl ++ (List.range n).map fun t => (t, .one (.c (.b (.gh u t)))), fun k => Nat.blt k ob.length, ob, ev, []⟩
def tEq1 (β : Env) (σ : List Nat) : Env := fun j => β (σ.getD j 0)
def opaqB (u t : Nat) : SV → Bool
  | .one (.c (.b (.gh k i))) => Nat.beq k u && Nat.beq i t
  | _ => false
def layB : Ob → Bool
  | .box _ _ => true
  | .row _ _ _ _ => true
  | _ => false
def deadB : Ob → Bool
  | .dead => true
  | _ => false
def kindB : Ob → Ob → Bool
  | .th _, .th _ => true
  | .al _ _, .th _ => true
  | .box _ _, .box _ _ => true
  | .row _ _ _ _, .row _ _ _ _ => true
  | _, .dead => true
  | _, _ => false
def wkB (m0 u : Nat) (obS obT : List Ob) (σ : List Nat) : Bool :=
  Nat.beq σ.length obT.length && Nat.ble m0 u && Nat.blt u obT.length && (List.range m0).all (fun i => Nat.beq (σ.getD i 0) i) &&
  (List.range obT.length).all fun j => match obT[j]? with
    | none => false
    | some x => (bif Nat.beq j u then deadB x else match obS[σ.getD j 0]? with
        | none => false
        | some y => kindB y x && x.of (fun k => Nat.blt k obT.length && !Nat.beq k u)) &&
      (bif layB x then (!Nat.ble m0 j || Nat.ble m0 (σ.getD j 0)) && (List.range obT.length).all (fun i => Nat.beq i j || (Nat.beq i u || ((match obT[i]? with | some y => deadB y | none => false) || !Nat.beq (σ.getD i 0) (σ.getD j 0)))) else true)
def wkOb (β : Env) (σ : List Nat) : Ob → Ob → Eqs
  | .box cs t, .box cs' t' => [(.n t, .n t'), (.v (.agg (cs.map (Lf.den β)).toArray), .v (.agg (cs'.map (Lf.den (tEq1 β σ))).toArray))]
  | .row cs t n sz, .row cs' t' n' sz' => [(.n t, .n t'), (.n n, .n n'), (.n sz, .n sz'), (.v (.agg (cs.map (Lf.den β)).toArray), .v (.agg (cs'.map (Lf.den (tEq1 β σ))).toArray))]
  | y, .th t => [(.ob (y.plain (.th t)), .ob (.th t))]
  | _, _ => []
def wkObs (β : Env) (obS : List Ob) (σ : List Nat) : List Ob → Nat → Eqs
  | [], _ => []
  | x :: r, j => (match obS[σ.getD j 0]? with | some y => wkOb β σ y x | none => (match x with | .dead => [] | _ => Eqs.no)) ++ wkObs β obS σ r (j + 1)
def wkSl (β : Env) (u L : Nat) (σ : List Nat) (slS slT : List (Nat × SV)) : Nat → Eqs
  | 0 => []
  | t + 1 => (bif opaqB u t (look slT t) then [] else bif (look slT t).of (fun k => Nat.blt k L && !Nat.beq k u) then [(.v ((look slS t).den β), .v ((look slT t).den (tEq1 β σ)))] else Eqs.no) ++ wkSl β u L σ slS slT t
def pieceE (P : Program) (m0 n : Nat) (s : Option (Stop P)) (u : Nat) (sl : List (Nat × SV)) (ob : List Ob) (σ : List Nat) (β : Env) : Eqs :=
  match s with
  | some (.head _ _ f) => (bif wkB m0 u f.ob ob σ && Nat.beq f.ev.length 0 && sl.all (fun p => Nat.blt p.1 n) then [] else Eqs.no) ++ (wkObs β f.ob σ ob 0 ++ (wkSl β u ob.length σ f.sl (mkC P n u sl ob []).sl n ++ eqsOf β f.cs))
  | _ => Eqs.no
def lastE (P : Program) (fn : Func) (m0 n : Nat) (res : SV) (outs : List (Nat × Ob)) (s : Option (Stop P)) (β : Env) : Eqs :=
  match s with
  | some (.ended f) => fin1 P fn m0 n res outs f β
  | _ => Eqs.no
theorem Eqs.left {a b : Eqs} (h : Eqs.ok (a ++ b)) : Eqs.ok a := fun p hp => h p (List.mem_append.2 (.inl hp))
theorem Eqs.right {a b : Eqs} (h : Eqs.ok (a ++ b)) : Eqs.ok b := fun p hp => h p (List.mem_append.2 (.inr hp))
theorem bif_ok {b : Bool} (h : Eqs.ok (bif b then [] else Eqs.no)) : b = true := by
  cases b
  · exact (Eqs.no_ok h).elim
  · rfl
theorem look_none : ∀ {l : List (Nat × SV)} {t : Nat}, (∀ p ∈ l, p.1 ≠ t) → look l t = undefS
  | [], _, _ => rfl
  | (k, x) :: r, t, h => by
    unfold look
    rw [show Nat.beq k t = false by rw [Bool.eq_false_iff, ne_eq, Nat.beq_eq]; exact h (k, x) (List.mem_cons_self ..), cond_false]
    exact look_none fun p hp => h p (List.mem_cons_of_mem _ hp)
theorem wkObs_ok {β : Env} {obS : List Ob} {σ : List Nat} : ∀ {obT : List Ob} {i : Nat}, Eqs.ok (wkObs β obS σ obT i) → ∀ (j : Nat) (x y : Ob), obT[j]? = some x → obS[σ.getD (i + j) 0]? = some y → Eqs.ok (wkOb β σ y x)
  | [], _, _, j, x, y, h, _ => by simp at h
  | z :: r, i, h, j, x, y, hx, hy => by
    unfold wkObs at h
    cases j with
    | zero =>
      simp only [List.getElem?_cons_zero] at hx
      obtain rfl := Option.some.inj hx
      have := Eqs.left h
      rw [Nat.add_zero] at hy
      rw [hy] at this
      exact this
    | succ j => exact wkObs_ok (Eqs.right h) j x y (by simpa using hx) (by rw [show i + 1 + j = i + (j + 1) by omega]; exact hy)
theorem opaqB_eq {u t : Nat} {x : SV} (h : opaqB u t x = true) : x = .one (.c (.b (.gh u t))) := by
  unfold opaqB at h
  split at h
  · rw [Bool.and_eq_true, Nat.beq_eq, Nat.beq_eq] at h
    obtain ⟨rfl, rfl⟩ := h
    rfl
  · cases h
theorem wkSl_ok {β : Env} {u L : Nat} {σ : List Nat} {slS slT : List (Nat × SV)} : ∀ {n : Nat}, Eqs.ok (wkSl β u L σ slS slT n) → ∀ t, t < n → look slT t = .one (.c (.b (.gh u t))) ∨ ((look slT t).of (fun k => Nat.blt k L && !Nat.beq k u) = true ∧ (look slS t).den β = (look slT t).den (tEq1 β σ))
  | 0, _, t, h => by omega
  | n + 1, h, t, ht => by
    unfold wkSl at h
    by_cases e : t = n
    · subst e
      have h := Eqs.left h
      cases ho : opaqB u t (look slT t) with
      | true => exact .inl (opaqB_eq ho)
      | false =>
        rw [ho, cond_false] at h
        cases hq : (look slT t).of (fun k => Nat.blt k L && !Nat.beq k u) with
        | true =>
          rw [hq, cond_true] at h
          obtain ⟨e, _⟩ := Eqs.cons_ok h
          injection e with e
          exact .inr ⟨rfl, e⟩
        | false => rw [hq, cond_false] at h; exact (Eqs.no_ok h).elim
    · exact wkSl_ok (Eqs.right h) t (by omega)
theorem layB_iff {x : Ob} : layB x = true ↔ ∃ p, x.layOf = some p := by
  cases x <;> simp [layB, Ob.layOf]
theorem kind_lay {y x : Ob} (h : kindB y x = true) (hx : layB x = true) : layB y = true := by
  cases y <;> cases x <;> first | rfl | (cases h; done) | (cases hx; done)
theorem kind_dead {y x : Ob} (h : kindB y x = true) (hx : x ≠ .dead) : y ≠ .dead := by
  cases y <;> cases x <;> first | (intro e; cases e; done) | (cases h; done) | exact absurd rfl hx
theorem wk_hold {β β' : Env} {w : World} {g : Pl} {σ : List Nat} {q : Nat → Bool} {y x : Ob} (hk : kindB y x = true) (he : Eqs.ok (wkOb β σ y x)) (hq : x.of q = true) (hβ : ∀ k, q k = true → tEq1 β σ k = β' k) (h : y.holds β w g) : x.holds β' w g := by
  have thc : ∀ (y : Ob) (t : Thing), Eqs.ok [(Tm.ob (y.plain (.th t)), Tm.ob (.th t))] → y.holds β w g → (Ob.th t).holds β' w g := fun y t he h => by
    obtain ⟨e, _⟩ := Eqs.cons_ok he
    injection e with e
    have := Ob.plain_holds (x := .th t) h
    rw [e] at this
    exact this
  cases x with
  | dead => exact trivial
  | al r D => cases y <;> (cases hk; done)
  | pl n => cases y <;> (cases hk; done)
  | th t => cases y <;> first | (cases hk; done) | exact thc _ t he h
  | box cs' t' =>
    cases y <;> first | (cases hk; done) | skip
    rename_i cs t
    obtain ⟨e1, he⟩ := Eqs.cons_ok he
    obtain ⟨e2, _⟩ := Eqs.cons_ok he
    injection e1 with e1
    injection e2 with e2
    injection e2 with e2
    have e2 := congrArg Array.toList e2
    dsimp only at e2
    subst e1
    have hc : cs'.map (Lf.den (tEq1 β σ)) = cs'.map (Lf.den β') := all_congr hq (Lf.den_congr hβ)
    refine ⟨h.1, ?_⟩
    rw [← hc, ← e2]
    exact h.2
  | row cs' t' n' sz' =>
    cases y <;> first | (cases hk; done) | skip
    rename_i cs t n sz
    obtain ⟨e1, he⟩ := Eqs.cons_ok he
    obtain ⟨e3, he⟩ := Eqs.cons_ok he
    obtain ⟨e4, he⟩ := Eqs.cons_ok he
    obtain ⟨e2, _⟩ := Eqs.cons_ok he
    injection e1 with e1
    injection e3 with e3
    injection e4 with e4
    injection e2 with e2
    injection e2 with e2
    have e2 := congrArg Array.toList e2
    dsimp only at e2
    subst e1 e3 e4
    have hc : cs'.map (Lf.den (tEq1 β σ)) = cs'.map (Lf.den β') := all_congr hq (Lf.den_congr hβ)
    have hl : cs'.length = cs.length := by
      have := congrArg List.length e2
      rw [List.length_map, List.length_map] at this
      exact this.symm
    obtain ⟨h0, cur, h1, h2, h3, h4, h5, h6⟩ := h
    refine ⟨h0, cur, h1, by rw [hl]; exact h2, h3, h4, h5, ?_⟩
    rw [← hc, ← e2]
    exact h6
theorem wk_sync {P : Program} {m0 n B0 u : Nat} {w0 : World} {f : Cf P} {sl : List (Nat × SV)} {ob : List Ob} {ev : List (Ev P)} {σ : List Nat} {β : Env} {a : Act} {w : World}
    (hB : wkB m0 u f.ob ob σ = true) (hn : sl.all (fun p => Nat.blt p.1 n) = true) (hO : Eqs.ok (wkObs β f.ob σ ob 0)) (hS : Eqs.ok (wkSl β u ob.length σ f.sl (mkC P n u sl ob ev).sl n)) (h : Sync P m0 n B0 w0 f β a w) :
    ∃ β' : Env, (∀ k, k < m0 → β' k = β k) ∧ Sync P m0 n B0 w0 (mkC P n u sl ob ev) β' a w := by
  unfold wkB at hB
  rw [Bool.and_eq_true, Bool.and_eq_true, Bool.and_eq_true, Bool.and_eq_true, Nat.beq_eq, Nat.ble_eq, Nat.blt_eq] at hB
  obtain ⟨⟨⟨⟨hlen, hmu⟩, hul⟩, hid⟩, hall⟩ := hB
  have hσ : ∀ i, i < m0 → σ.getD i 0 = i := fun i hi => Nat.eq_of_beq_eq_true (List.all_eq_true.1 hid i (List.mem_range.2 hi))
  obtain ⟨β', hβ⟩ : ∃ β' : Env, β' = fun j => if j = u then ⟨0, fun _ => none, fun _ => 0, fun _ => False, fun t => a.tmps.getD t undef⟩ else β (σ.getD j 0) := ⟨_, rfl⟩
  have hβu : β' u = ⟨0, fun _ => none, fun _ => 0, fun _ => False, fun t => a.tmps.getD t undef⟩ := by rw [hβ]; exact if_pos rfl
  have hβo : ∀ j, j ≠ u → β' j = β (σ.getD j 0) := fun j hj => by rw [hβ]; exact if_neg hj
  have hβm : ∀ k, k < m0 → β' k = β k := fun k hk => by rw [hβo k (by omega), hσ k hk]
  have hq : ∀ k, (Nat.blt k ob.length && !Nat.beq k u) = true → tEq1 β σ k = β' k := fun k hk => by
    rw [Bool.and_eq_true, Bool.not_eq_true', Nat.blt_eq] at hk
    rw [hβo k (fun e => by rw [e, Nat.beq_refl] at hk; cases hk.2)]
    rfl
  have hmono : ∀ k, (Nat.blt k ob.length && !Nat.beq k u) = true → Nat.blt k ob.length = true := fun k hk => by rw [Bool.and_eq_true] at hk; exact hk.1
  have hsrc : ∀ (j : Nat) (x : Ob), ob[j]? = some x → (j = u → x = .dead) ∧ (j ≠ u → ∃ y, f.ob[σ.getD j 0]? = some y ∧ kindB y x = true ∧ x.of (fun k => Nat.blt k ob.length && !Nat.beq k u) = true) ∧ (layB x = true → (m0 ≤ j → m0 ≤ σ.getD j 0) ∧ ∀ (i : Nat) (y : Ob), ob[i]? = some y → y ≠ .dead → i ≠ j → i ≠ u → σ.getD i 0 ≠ σ.getD j 0) := by
    intro j x hx
    have hj : j < ob.length := (List.getElem?_eq_some_iff.1 hx).1
    have hc := List.all_eq_true.1 hall j (List.mem_range.2 hj)
    rw [hx] at hc
    dsimp only at hc
    rw [Bool.and_eq_true] at hc
    obtain ⟨hc1, hc2⟩ := hc
    refine ⟨fun e => ?_, fun e => ?_, fun hl => ?_⟩
    · rw [e, Nat.beq_refl, cond_true] at hc1
      cases x <;> first | rfl | (cases hc1; done)
    · rw [show Nat.beq j u = false by rw [Bool.eq_false_iff, ne_eq, Nat.beq_eq]; exact e, cond_false] at hc1
      split at hc1
      · cases hc1
      · rename_i y hy
        rw [Bool.and_eq_true] at hc1
        exact ⟨y, hy, hc1.1, hc1.2⟩
    · rw [hl, cond_true, Bool.and_eq_true, Bool.or_eq_true] at hc2
      refine ⟨fun hm => ?_, fun i y hy hd hij hiu e => ?_⟩
      · rcases hc2.1 with h1 | h1
        · rw [Bool.not_eq_true', Bool.eq_false_iff, ne_eq, Nat.ble_eq] at h1
          exact absurd hm h1
        · exact Nat.le_of_ble_eq_true h1
      · have hi : i < ob.length := (List.getElem?_eq_some_iff.1 hy).1
        have h1 := List.all_eq_true.1 hc2.2 i (List.mem_range.2 hi)
        rw [hy, Bool.or_eq_true, Bool.or_eq_true, Bool.or_eq_true, Nat.beq_eq, Nat.beq_eq, e, Nat.beq_refl] at h1
        rcases h1 with h1 | h1 | h1 | h1
        · exact hij h1
        · exact hiu h1
        · refine hd ?_
          cases y <;> first | rfl | (cases h1; done)
        · cases h1
  have hex : ∀ {k : Nat} {y : Ob}, f.ob[k]? = some y → f.q k = true := fun {k y} hy => (h.q k).2 (List.getElem?_eq_some_iff.1 hy).1
  have hob : ∀ {k : Nat}, Nat.blt k ob.length = true → ∃ x, ob[k]? = some x := fun {k} hk => ⟨_, List.getElem?_eq_getElem (by rw [Nat.blt_eq] at hk; exact hk)⟩
  have hfree : ∀ {k : Nat} {x : Ob}, ob[k]? = some x → Free (fun k => Nat.blt k ob.length) (fun k => ob[k]?) k → layB x = true ∧ k ≠ u := fun {k x} hx hf => by
    rcases hf with ⟨x', e, p, hp⟩ | ⟨⟨m, e⟩, _⟩
    · dsimp only at e
      rw [hx] at e
      obtain rfl := Option.some.inj e
      refine ⟨layB_iff.2 ⟨p, hp⟩, fun e => ?_⟩
      rw [(hsrc k x hx).1 e] at hp
      cases hp
    · dsimp only at e
      rw [hx] at e
      obtain rfl := Option.some.inj e
      exfalso
      by_cases ek : k = u
      · have := (hsrc k _ hx).1 ek
        cases this
      · obtain ⟨y, _, hk, _⟩ := (hsrc k _ hx).2.1 ek
        cases y <;> (cases hk; done)
  have hlayS : ∀ {k : Nat} {x : Ob}, ob[k]? = some x → layB x = true → k ≠ u → f.q (σ.getD k 0) = true ∧ Free f.q (fun k => f.ob[k]?) (σ.getD k 0) := fun {k x} hx hl hku => by
    obtain ⟨y, hy, hk, _⟩ := (hsrc k x hx).2.1 hku
    obtain ⟨p, hp⟩ := layB_iff.1 (kind_lay hk hl)
    exact ⟨hex hy, Free.lay hy hp⟩
  refine ⟨β', hβm, ⟨⟨h.good.bel, h.good.le, ?_, ?_, ?_, ?_, ?_, ?_, ?_⟩, fun k => by dsimp only [mkC]; rw [Nat.blt_eq], ⟨h.sl.1, fun t => ?_⟩, fun t => ?_, ?_, h.defers, ?_⟩⟩
  ·
    intro k o hk hko
    dsimp only [mkC] at hk hko ⊢
    by_cases e : k = u
    · rw [(hsrc k o hko).1 e]
      exact ⟨trivial, rfl⟩
    · obtain ⟨y, hy, hkd, hof⟩ := (hsrc k o hko).2.1 e
      have hh := (h.good.hold _ y (hex hy) hy).1
      refine ⟨?_, Ob.of_mono hmono _ hof⟩
      rw [hβo k e]
      refine wk_hold hkd (wkObs_ok hO k o y hko ?_) hof hq hh
      rw [Nat.zero_add]
      exact hy
  ·
    intro k hk c hc
    dsimp only [mkC] at hk
    by_cases e : k = u
    · rw [e, hβu] at hc; exact hc.elim
    · rw [hβo k e] at hc
      obtain ⟨x, hx⟩ := hob hk
      obtain ⟨y, hy, _⟩ := (hsrc k x hx).2.1 e
      exact h.good.lt _ (hex hy) c hc
  ·
    intro k j hk hj hne hm hf hd
    dsimp only [mkC] at hk hj hf hd
    obtain ⟨x, hx⟩ := hob hk
    obtain ⟨z, hz⟩ := hob hj
    obtain ⟨hl, hku⟩ := hfree hx hf
    by_cases e : j = u
    · rw [e, hβu]; exact fun hc => hc.elim
    · obtain ⟨hs1, hs2⟩ := hlayS hx hl hku
      obtain ⟨hm2, hdis⟩ := (hsrc k x hx).2.2 hl
      obtain ⟨y, hy, hkd, _⟩ := (hsrc j z hz).2.1 e
      have hzd : z ≠ .dead := fun e => hd (by rw [hz, e])
      rw [hβo k hku, hβo j e]
      exact h.good.ne _ _ hs1 (hex hy) (hdis j z hz hzd hne e) (hm2 hm) hs2 (fun e => kind_dead hkd hzd (Option.some.inj (hy.symm.trans e)))
  ·
    intro k hk hm hf
    dsimp only [mkC] at hk hf
    obtain ⟨x, hx⟩ := hob hk
    obtain ⟨hl, hku⟩ := hfree hx hf
    obtain ⟨hs1, hs2⟩ := hlayS hx hl hku
    rw [hβo k hku]
    exact h.good.low _ hs1 (((hsrc k x hx).2.2 hl).1 hm) hs2
  ·
    intro k hk hm c hc
    dsimp only [mkC] at hk
    by_cases e : k = u
    · rw [e, hβu] at hc; exact hc.elim
    · rw [hβo k e] at hc
      obtain ⟨x, hx⟩ := hob hk
      obtain ⟨y, hy, _⟩ := (hsrc k x hx).2.1 e
      by_cases hs : m0 ≤ σ.getD k 0
      · exact (h.good.fr _ (hex hy) hs c hc).imp id fun ⟨i, i1, i2⟩ => ⟨i, i1, by rw [hβm i i1]; exact i2⟩
      · exact .inr ⟨σ.getD k 0, by omega, by rw [hβm _ (by omega)]; exact hc⟩
  · intro i hi
    dsimp only [mkC]
    rw [Nat.blt_eq]
    omega
  · intro k r D hk ho
    dsimp only [mkC] at ho
    exfalso
    by_cases e : k = u
    · have := (hsrc k _ ho).1 e
      cases this
    · obtain ⟨y, _, hkd, _⟩ := (hsrc k _ ho).2.1 e
      cases y <;> (cases hkd; done)
  ·
    by_cases ht : t < n
    · rcases wkSl_ok hS t ht with e | ⟨e1, e2⟩
      · rw [e]
        show _ = (β' u).u t
        rw [hβu]
      · rw [h.sl.2 t, e2]
        exact SV.den_congr hq _ e1
    · have hl : look (mkC P n u sl ob ev).sl t = undefS := look_none fun p hp => by
        rcases List.mem_append.1 hp with hp | hp
        · have := List.all_eq_true.1 hn p hp
          rw [Nat.blt_eq] at this
          omega
        · obtain ⟨t', ht', rfl⟩ := List.mem_map.1 hp
          have := List.mem_range.1 ht'
          dsimp only
          omega
      rw [hl]
      show a.tmps.getD t undef = undef
      rw [Array.getD_eq_getD_getElem?, Array.getElem?_eq_none (by rw [h.sl.1]; omega)]
      rfl
  · by_cases ht : t < n
    · rcases wkSl_ok hS t ht with e | ⟨e1, e2⟩
      · rw [e]
        show Nat.blt u ob.length = true
        rw [Nat.blt_eq]; exact hul
      · exact SV.of_mono hmono _ e1
    · have hl : look (mkC P n u sl ob ev).sl t = undefS := look_none fun p hp => by
        rcases List.mem_append.1 hp with hp | hp
        · have := List.all_eq_true.1 hn p hp
          rw [Nat.blt_eq] at this
          omega
        · obtain ⟨t', ht', rfl⟩ := List.mem_map.1 hp
          have := List.mem_range.1 ht'
          dsimp only
          omega
      rw [hl]; rfl
  · show m0 ≤ ob.length
    omega
  · intro k j i D D' h1 h2
    exfalso
    by_cases e : k = u
    · have := (hsrc k _ h1).1 e
      cases this
    · obtain ⟨y, _, hkd, _⟩ := (hsrc k _ h1).2.1 e
      cases y <;> (cases hkd; done)
def HdOk (P : Program) (m0 n B0 : Nat) (w0 : World) (β0 : Env) (Q : Exit → Act → World → Prop) (C : Cf P) (p : Code × List Kf) : Prop :=
  ∀ (β : Env) (a : Act) (w : World), (∀ k, k < m0 → β k = β0 k) → Sync P m0 n B0 w0 C β a w → Rounds P p.1 (post P Q p.2) a w
theorem pieceE_parts {P : Program} {m0 n : Nat} {c : Code} {ks : List Kf} {f : Cf P} {u : Nat} {sl : List (Nat × SV)} {ob : List Ob} {σ : List Nat} (ev : List (Ev P)) (he : ∀ β, Eqs.ok (pieceE P m0 n (some (.head c ks f)) u sl ob σ β)) :
    f.good ∧ ∀ {B0 : Nat} {w0 : World} {β : Env} {a : Act} {w : World}, Sync P m0 n B0 w0 f β a w → ∃ β' : Env, (∀ k, k < m0 → β' k = β k) ∧ Sync P m0 n B0 w0 (mkC P n u sl ob ev) β' a w := by
  refine ⟨fun β x hx => eqsOf_ok (Eqs.right (Eqs.right (Eqs.right (he β)))) x hx, fun {B0 w0 β a w} hs => ?_⟩
  have h := he β
  have h1 := bif_ok (Eqs.left h)
  rw [Bool.and_eq_true, Bool.and_eq_true] at h1
  exact wk_sync h1.1.1 h1.2 (Eqs.left (Eqs.right h)) (Eqs.left (Eqs.right (Eqs.right h))) hs
theorem piece_ok {P : Program} {m0 n B0 : Nat} {w0 : World} {β0 : Env} {Q : Exit → Act → World → Prop} {Ns : List (Nat × Nat)} {m : Nat} {C : Cf P} {p p' : Code × List Kf} {u : Nat} {sl : List (Nat × SV)} {ob : List Ob} (ev : List (Ev P)) (σ : List Nat) (hm : P.follows .mixedOrders = true)
    (hp : (runP P m0 n Ns m (some p.1) (.lp p.1 :: p.2) C).bind Stop.pos = some p') (he : ∀ β, Eqs.ok (pieceE P m0 n (runP P m0 n Ns m (some p.1) (.lp p.1 :: p.2) C) u sl ob σ β))
    (hH : HdOk P m0 n B0 w0 β0 Q (mkC P n u sl ob ev) p') : HdOk P m0 n B0 w0 β0 Q C p := by
  intro β a w hβ hs
  cases hr : runP P m0 n Ns m (some p.1) (.lp p.1 :: p.2) C with
  | none => rw [hr] at hp; cases hp
  | some s =>
    rw [hr] at hp he
    cases s with
    | ended f => cases hp
    | head c ks f =>
      obtain rfl : (c, ks) = p' := Option.some.inj hp
      obtain ⟨hg, hw⟩ := pieceE_parts ev he
      obtain ⟨_, _, r3⟩ := runP_ok hm _ _ _ _ _ hr ⟨hs.q, hs.uq⟩
      refine rounds_one (r3 hg hs Q fun β' a' w' e s' => ?_)
      obtain ⟨β'', e2, s2⟩ := hw s'
      exact hH β'' a' w' (fun k hk => (e2 k hk).trans ((e k hk).trans (hβ k hk))) s2
def Said (P : Program) (fn : Func) (m0 : Nat) (res : SV) (outs : List (Nat × Ob)) (β : Env) (w : World) (e : Ending) (w' : World) : Prop :=
  ∃ β' q obj, (∀ k, k < m0 → β' k = β k) ∧ e = .returned (res.den β') ∧ res.of q = true ∧ (∀ p ∈ outs, ∀ c, (β' p.1).F c → w.heap.size ≤ c ∨ ∃ i, i < m0 ∧ (β i).F c) ∧ holdsAll β' w' outs ∧ Good w.heap.size m0 w q obj β' w'
theorem fin1_parts {P : Program} {fn : Func} {m0 n : Nat} {res : SV} {outs : List (Nat × Ob)} {f : Cf P} (h : ∀ β, Eqs.ok (fin1 P fn m0 n res outs f β)) : f.good ∧ ∀ {β0 : Env} {w : World} {β' : Env} {a' : Act} {w' : World}, (∀ k, k < m0 → β' k = β0 k) → Sync P m0 n w.heap.size w f β' a' w' →
    bodyPost P fn (Said P fn m0 res outs β0 w) .normal a' w' ∧ bodyPost P fn (Said P fn m0 res outs β0 w) .ret a' w' := by
  have fin : ∃ r : R1 Value, run1 P m0 false (results fn (tmpsS idE f.sl n)) f.q f.ob [] = some r ∧ res.of f.q = true ∧ r.ob.length = f.ob.length ∧
      ∀ β, Eqs.ok (chk P β (results fn (tmpsS β f.sl n)) r.tr.reverse (fun u => [(.v u, .v (res.den β))]) ++ (needEqs f.q f.ob outs ++ eqsOf β f.cs)) := by
    cases hx : run1 P m0 false (results fn (tmpsS idE f.sl n)) f.q f.ob [] with
    | none => have := h idE; unfold fin1 at this; rw [hx] at this; exact (Eqs.no_ok this).elim
    | some r =>
      obtain ⟨ra, rq, rob, rtr⟩ := r
      cases hc : (res.of f.q && Nat.beq rob.length f.ob.length && Nat.beq f.ev.length 0) with
      | false => have := h idE; unfold fin1 at this; rw [hx] at this; dsimp only at this; rw [hc] at this; exact (Eqs.no_ok this).elim
      | true =>
        have h3 := hc
        simp only [Bool.and_eq_true, Nat.beq_eq] at hc
        refine ⟨_, rfl, hc.1.1, hc.1.2, fun β => ?_⟩
        have := h β
        unfold fin1 at this
        rw [hx] at this
        dsimp only at this
        rw [h3] at this
        exact this
  obtain ⟨r, f1, f2, f3, f4⟩ := fin
  refine ⟨fun β x hx => eqsOf_ok (fun p hp => f4 β p (List.mem_append.2 (.inr (List.mem_append.2 (.inr hp))))) x hx, ?_⟩
  intro β0 w β' a' w' e s
  obtain ⟨h5, _, _, tr, h8, h9⟩ := run1_ok _ _ _ _ _ f1 (fun k hk => (s.q k).1 hk)
  obtain ⟨k1, obj', k2, k3, k4⟩ := h9 _ _ _ _ _ _ s.good (fun k hk => ⟨hk, rfl⟩) (fun k a b => by omega) s.m0
  have h6 := f4 β'
  rw [h8, List.append_nil, List.reverse_reverse] at h6
  have h7 : Eqs.ok (chk P β' (results fn (tmpsS β' f.sl n)) tr (fun u => [(.v u, .v (res.den β'))])) := fun p hp => h6 p (List.mem_append.2 (.inl hp))
  obtain ⟨v, hv, hv2⟩ := chk_run _ _ _ h7 k1
  obtain ⟨e1, _⟩ := Eqs.cons_ok hv2
  injection e1 with e1
  subst e1
  rw [f3, rangeQ_self] at k4
  have hend : trEnd β' w' tr = w' := by
    obtain ⟨tr2, x1, x2⟩ := run1_still _ _ _ _ _ f1 (fun k hk => (s.q k).1 hk) f3
    rw [h8, List.append_nil, List.append_nil] at x1
    rw [List.reverse_inj.1 x1]
    exact x2 β' w'
  rw [hend] at hv k4
  rw [← tmps_eq s.sl] at hv
  have hout : ∀ p : Nat × Ob, f.q p.1 = true → ∀ c, (β' p.1).F c → w.heap.size ≤ c ∨ ∃ i, i < m0 ∧ (β0 i).F c := fun p hp c hc => by
    by_cases h0 : m0 ≤ p.1
    · exact (s.good.fr p.1 hp h0 c hc).imp id fun ⟨i, i1, i2⟩ => ⟨i, i1, by rw [← e i i1]; exact i2⟩
    · exact .inr ⟨p.1, by omega, by rw [← e p.1 (by omega)]; exact hc⟩
  have hneed : Eqs.ok (needEqs f.q f.ob outs) := fun p hp => f4 β' p (List.mem_append.2 (.inr (List.mem_append.2 (.inl hp))))
  have hres : bodyPost P fn (Said P fn m0 res outs β0 w) .normal a' w' := ⟨s.defers, _, hv, β', f.q, obj', e, rfl, f2, fun p hp c hc => hout p (needs_q _ hneed p hp) c hc, needs_hold s.good (fun k hk => ⟨hk, rfl⟩) _ hneed, k4⟩
  exact ⟨hres, hres⟩
theorem last_ok {P : Program} {fn : Func} {m0 n : Nat} {w : World} {β0 : Env} {res : SV} {outs : List (Nat × Ob)} {Ns : List (Nat × Nat)} {m : Nat} {C : Cf P} {p : Code × List Kf} (hm : P.follows .mixedOrders = true)
    (he : ∀ β, Eqs.ok (lastE P fn m0 n res outs (runP P m0 n Ns m (some p.1) (.lp p.1 :: p.2) C) β)) : HdOk P m0 n w.heap.size w β0 (bodyPost P fn (Said P fn m0 res outs β0 w)) C p := by
  intro β a w1 hβ hs
  cases hr : runP P m0 n Ns m (some p.1) (.lp p.1 :: p.2) C with
  | none => have := he idE; rw [hr] at this; exact (Eqs.no_ok this).elim
  | some s =>
    rw [hr] at he
    cases s with
    | head c ks f => exact (Eqs.no_ok (he idE)).elim
    | ended f =>
      obtain ⟨hg, hw⟩ := fin1_parts he
      obtain ⟨_, _, r3⟩ := runP_ok hm _ _ _ _ _ hr ⟨hs.q, hs.uq⟩
      exact rounds_one (r3 hg hs _ fun β' a' w' e s' => hw (fun k hk => (e k hk).trans (hβ k hk)) s')
def startP (P : Program) (fn : Func) (args : List SV) (obs : List Ob) (evs : List (Ev P)) (Ns : List (Nat × Nat)) (m : Nat) : Option (Stop P) := match fn.body with
  | some c => runP P obs.length (sizeS fn args) Ns m (some c) [] ⟨startS args 0, fun k => Nat.blt k obs.length, obs, evs, []⟩
  | none => none
theorem sx_cut {P : Program} {f : FuncId} {fn : Func} (args : List SV) (obs : List Ob) (evs ev : List (Ev P)) (Ns : List (Nat × Nat)) (m : Nat) (res : SV) (outs : List (Nat × Ob)) (hf : P.funcs[f]? = some fn) (hm : P.follows .mixedOrders = true) {u : Nat} {sl : List (Nat × SV)} {ob : List Ob} {σ : List Nat} {p' : Code × List Kf}
    (hp : (startP P fn args obs evs Ns m).bind Stop.pos = some p') (he : ∀ β, Eqs.ok (pieceE P obs.length (sizeS fn args) (startP P fn args obs evs Ns m) u sl ob σ β))
    (hargs : args.all (SV.of fun k => Nat.blt k obs.length) = true) (hobs : obs.all (fun x => x.of (fun k => Nat.blt k obs.length) && x.own) = true) (β : Env) (w : World) (hh : ∀ (k : Nat) (o : Ob), obs[k]? = some o → o.holds β w (β k))
    (hH : HdOk P obs.length (sizeS fn args) w.heap.size w β (bodyPost P fn (Said P fn obs.length res outs β w)) (mkC P (sizeS fn args) u sl ob ev) p') :
    Calls P f (args.map (SV.den β)).toArray w (Said P fn obs.length res outs β w) := by
  have hnal : ∀ (k r : Nat) (D : Thing), obs[k]? ≠ some (.al r D) := fun k r D ho => by
    have := List.all_eq_true.1 hobs _ (List.mem_of_getElem? ho)
    simp [Ob.own] at this
  have huq : UniqAl obs := fun k j i D _ h1 _ => absurd h1 (hnal k i D)
  have hlt : ∀ k, k < obs.length → ∀ c, (β k).F c → c < w.heap.size := fun k hk c hc => by
    have h := hh k _ (List.getElem?_eq_getElem hk)
    cases hx : obs[k] with
    | box cs t => rw [hx] at h; rw [(h.1.1 c).1 hc]; exact heap_lt h.2
    | th D => rw [hx] at h; exact D.st.lt _ _ h c hc
    | al r D => rw [hx] at h; exact D.st.lt _ _ h c hc
    | pl n => rw [hx] at h; rw [(h.1.1 c).1 hc]; exact h.2.lt
    | row cs t n sz => rw [hx] at h; rw [(h.1.1 c).1 hc]; exact heap_lt h.2.choose_spec.1
    | dead =>
      have := List.all_eq_true.1 hobs _ (List.mem_of_getElem? (List.getElem?_eq_getElem hk))
      rw [hx] at this
      simp [Ob.own] at this
  cases hb : fn.body with
  | none => unfold startP at hp; rw [hb] at hp; cases hp
  | some c =>
    have hst : startP P fn args obs evs Ns m = runP P obs.length (sizeS fn args) Ns m (some c) [] ⟨startS args 0, fun k => Nat.blt k obs.length, obs, evs, []⟩ := by unfold startP; rw [hb]
    rw [hst] at hp he
    cases hr : runP P obs.length (sizeS fn args) Ns m (some c) [] ⟨startS args 0, fun k => Nat.blt k obs.length, obs, evs, []⟩ with
    | none => rw [hr] at hp; cases hp
    | some s =>
      rw [hr] at hp he
      cases s with
      | ended f => cases hp
      | head c1 ks1 f1 =>
        obtain rfl : (c1, ks1) = p' := Option.some.inj hp
        obtain ⟨hg, hw⟩ := pieceE_parts ev he
        obtain ⟨_, _, r3⟩ := runP_ok hm _ _ _ _ _ hr ⟨fun k => by dsimp only; rw [Nat.blt_eq], huq⟩
        refine calls_of_wp hf hb (r3 hg (B0 := w.heap.size) (w0 := w) (β := β) ⟨⟨Below.refl _ _, Nat.le_refl _, fun k o hk ho => ⟨hh k o ho, (Bool.and_eq_true _ _ ▸ List.all_eq_true.1 hobs o (List.mem_of_getElem? ho)).1⟩, fun k hk => hlt k (by simpa [Nat.blt_eq] using hk), fun k j hk _ _ hm => ?_, fun k hk hm => ?_, fun k hk hm => ?_, fun i hi => by rw [Nat.blt_eq]; exact hi, fun k r D _ ho => ?_⟩, fun k => by dsimp only; rw [Nat.blt_eq], ⟨?_, fun t => ?_⟩, fun t => ?_, Nat.le_refl _, rfl, huq⟩ _ fun β' a' w' e s => ?_)
        · rw [Nat.blt_eq] at hk; omega
        · rw [Nat.blt_eq] at hk; omega
        · rw [Nat.blt_eq] at hk; omega
        · exact absurd ho (hnal k r D)
        · simp [sizeS]
        · rw [look_start, if_pos (Nat.zero_le _), Nat.sub_zero]
          simp only [Array.getD_eq_getD_getElem?, Array.getElem?_append, List.size_toArray, List.length_map, List.getElem?_toArray, List.getElem?_map]
          split
          · rename_i hlt2
            rw [List.getElem?_eq_getElem hlt2]
            rfl
          · rename_i hge
            rw [List.getElem?_eq_none (by omega)]
            simp [Array.getElem?_replicate]
            split <;> rfl
        · dsimp only
          rw [look_start, if_pos (Nat.zero_le _), Nat.sub_zero]
          cases hx : args[t]? with
          | none => rfl
          | some x => exact List.all_eq_true.1 hargs x (List.mem_of_getElem? hx)
        · obtain ⟨β'', e2, s2⟩ := hw s
          exact hH β'' a' w' (fun k hk => (e2 k hk).trans (e k hk)) s2
end Go.Proofs.YtiolbdleihiocaaGreat.Y
end
section
namespace Go.Proofs.YtiolbdleihiocaaGreat.Y
open Go Go.RowKit
set_option maxRecDepth 100000
def yvT (d1 d2 : Nat) (s : ByteArray) : (k : T3) → k.at s → List (Ev Tryz.prog)
  | .lo, h => [.eqv d1 (.bool (decide ((120 : Int) < (s.size : Int)))) (.bool false) (bool_lit h)]
  | .mid, h => [.eqv d1 (.bool (decide ((120 : Int) < (s.size : Int)))) (.bool true) (bool_lit h.1), .eqv d2 (.bool (decide ((s.size : Int) ≤ 1024))) (.bool true) (bool_lit h.2)]
  | .hi, h => [.eqv d1 (.bool (decide ((120 : Int) < (s.size : Int)))) (.bool true) (bool_lit h.1), .eqv d2 (.bool (decide ((s.size : Int) ≤ 1024))) (.bool false) (bool_lit h.2)]
def yvT2 (x : R4) (a b : T3) (ha : a.at x.s) (hb : b.at x.t) : List (Ev Tryz.prog) := yvT 32 38 x.s a ha ++ (bif a.yes then [] else yvT 45 51 x.t b hb)
abbrev lgA : List SV := [.one (.c (.b (.s 0 0 4 4)))]
noncomputable abbrev lgN : Nat := sizeS Tryz.f34 lgA
abbrev lI (i : Int) : SV := .one (.c (.b (.v (.int .i64 i))))
abbrev lB (b : Bool) : SV := .one (.c (.b (.v (.bool b))))
section
variable (x0 y0 x1 y1 x2 y2 x3 y3 : R4) (T : TypeId)
def lgCells : List Lf := rL x0 ++ rL y0 ++ rL x1 ++ rL y1 ++ rL x2 ++ rL y2 ++ rL x3 ++ rL y3
noncomputable def cOut (i : Int) (ev : List (Ev Tryz.prog)) : Cf Tryz.prog := mkC Tryz.prog lgN 1 [(0, .one (.c (.b (.s 0 0 4 4)))), (3, lI i)] [.box (lgCells x0 y0 x1 y1 x2 y2 x3 y3) T, .dead] ev
noncomputable def cIn (i j : Int) (x y : R4) (ev : List (Ev Tryz.prog)) : Cf Tryz.prog := mkC Tryz.prog lgN 1 [(0, .one (.c (.b (.s 0 0 4 4)))), (3, lI i), (22, .one (.c (.b (.s 2 0 2 2)))), (23, lI 2), (24, lI j)] [.box (lgCells x0 y0 x1 y1 x2 y2 x3 y3) T, .dead, .box (rL x ++ rL y) 25] ev
variable (β0 : Env) (w : World) (r : Bool)
abbrev lgH (C : Cf Tryz.prog) (i : Nat) : Prop := HdOk Tryz.prog 1 lgN w.heap.size w β0 (bodyPost Tryz.prog Tryz.f34 (Said Tryz.prog Tryz.f34 1 (lB r) [] β0 w)) C (lpAt Tryz.f34 i)
theorem lg_end : lgH β0 w false (cOut x0 y0 x1 y1 x2 y2 x3 y3 T 4 []) 0 := last_ok (Ns := [(4, 13)]) (m := 200) hmA (fun β => ok_of_maps (by kernel_rfl))
theorem lg_out0 (h : lgH β0 w r (cIn x0 y0 x1 y1 x2 y2 x3 y3 T 0 0 x0 y0 []) 1) : lgH β0 w r (cOut x0 y0 x1 y1 x2 y2 x3 y3 T 0 [.cut]) 0 := piece_ok (Ns := [(4, 13)]) (m := 200) [] [0, 0, 2] hmA (by kernel_rfl) (fun β => ok_of_maps (by kernel_rfl)) h
theorem lg_back0 (h : lgH β0 w r (cOut x0 y0 x1 y1 x2 y2 x3 y3 T 1 []) 0) : lgH β0 w r (cIn x0 y0 x1 y1 x2 y2 x3 y3 T 0 2 x0 y0 [.cut]) 1 := piece_ok (Ns := [(4, 13)]) (m := 200) [] [0, 0] hmA (by kernel_rfl) (fun β => ok_of_maps (by kernel_rfl)) h
theorem lg_no00 {a b : T3} (ha : a.at x0.s) (hb : b.at x0.t) (h : (a.yes || b.yes) = false) (k : lgH β0 w r (cIn x0 y0 x1 y1 x2 y2 x3 y3 T 0 1 x0 y0 []) 1) : lgH β0 w r (cIn x0 y0 x1 y1 x2 y2 x3 y3 T 0 0 x0 y0 (yvT2 x0 a b ha hb ++ [.cut])) 1 := by
  cases a
  · cases b
    · exact piece_ok (Ns := [(4, 13)]) (m := 200) [] [0, 0, 2] hmA (by kernel_rfl) (fun β => ok_of_maps (by kernel_rfl)) k
    · cases h
    · exact piece_ok (Ns := [(4, 13)]) (m := 200) [] [0, 0, 2] hmA (by kernel_rfl) (fun β => ok_of_maps (by kernel_rfl)) k
  · cases h
  · cases b
    · exact piece_ok (Ns := [(4, 13)]) (m := 200) [] [0, 0, 2] hmA (by kernel_rfl) (fun β => ok_of_maps (by kernel_rfl)) k
    · cases h
    · exact piece_ok (Ns := [(4, 13)]) (m := 200) [] [0, 0, 2] hmA (by kernel_rfl) (fun β => ok_of_maps (by kernel_rfl)) k
theorem lg_yes00 {a b : T3} (ha : a.at x0.s) (hb : b.at x0.t) (h : (a.yes || b.yes) = true) : lgH β0 w true (cIn x0 y0 x1 y1 x2 y2 x3 y3 T 0 0 x0 y0 (yvT2 x0 a b ha hb)) 1 := by
  cases a
  · cases b
    · cases h
    · exact last_ok (Ns := [(4, 13)]) (m := 200) hmA (fun β => ok_of_maps (by kernel_rfl))
    · cases h
  · exact last_ok (Ns := [(4, 13)]) (m := 200) hmA (fun β => ok_of_maps (by kernel_rfl))
  · cases b
    · cases h
    · exact last_ok (Ns := [(4, 13)]) (m := 200) hmA (fun β => ok_of_maps (by kernel_rfl))
    · cases h
theorem lg_no01 {a b : T3} (ha : a.at y0.s) (hb : b.at y0.t) (h : (a.yes || b.yes) = false) (k : lgH β0 w r (cIn x0 y0 x1 y1 x2 y2 x3 y3 T 0 2 x0 y0 []) 1) : lgH β0 w r (cIn x0 y0 x1 y1 x2 y2 x3 y3 T 0 1 x0 y0 (yvT2 y0 a b ha hb ++ [.cut])) 1 := by
  cases a
  · cases b
    · exact piece_ok (Ns := [(4, 13)]) (m := 200) [] [0, 0, 2] hmA (by kernel_rfl) (fun β => ok_of_maps (by kernel_rfl)) k
    · cases h
    · exact piece_ok (Ns := [(4, 13)]) (m := 200) [] [0, 0, 2] hmA (by kernel_rfl) (fun β => ok_of_maps (by kernel_rfl)) k
  · cases h
  · cases b
    · exact piece_ok (Ns := [(4, 13)]) (m := 200) [] [0, 0, 2] hmA (by kernel_rfl) (fun β => ok_of_maps (by kernel_rfl)) k
    · cases h
    · exact piece_ok (Ns := [(4, 13)]) (m := 200) [] [0, 0, 2] hmA (by kernel_rfl) (fun β => ok_of_maps (by kernel_rfl)) k
theorem lg_yes01 {a b : T3} (ha : a.at y0.s) (hb : b.at y0.t) (h : (a.yes || b.yes) = true) : lgH β0 w true (cIn x0 y0 x1 y1 x2 y2 x3 y3 T 0 1 x0 y0 (yvT2 y0 a b ha hb)) 1 := by
  cases a
  · cases b
    · cases h
    · exact last_ok (Ns := [(4, 13)]) (m := 200) hmA (fun β => ok_of_maps (by kernel_rfl))
    · cases h
  · exact last_ok (Ns := [(4, 13)]) (m := 200) hmA (fun β => ok_of_maps (by kernel_rfl))
  · cases b
    · cases h
    · exact last_ok (Ns := [(4, 13)]) (m := 200) hmA (fun β => ok_of_maps (by kernel_rfl))
    · cases h
theorem lg_out1 (h : lgH β0 w r (cIn x0 y0 x1 y1 x2 y2 x3 y3 T 1 0 x1 y1 []) 1) : lgH β0 w r (cOut x0 y0 x1 y1 x2 y2 x3 y3 T 1 [.cut]) 0 := piece_ok (Ns := [(4, 13)]) (m := 200) [] [0, 0, 2] hmA (by kernel_rfl) (fun β => ok_of_maps (by kernel_rfl)) h
theorem lg_back1 (h : lgH β0 w r (cOut x0 y0 x1 y1 x2 y2 x3 y3 T 2 []) 0) : lgH β0 w r (cIn x0 y0 x1 y1 x2 y2 x3 y3 T 1 2 x1 y1 [.cut]) 1 := piece_ok (Ns := [(4, 13)]) (m := 200) [] [0, 0] hmA (by kernel_rfl) (fun β => ok_of_maps (by kernel_rfl)) h
theorem lg_no10 {a b : T3} (ha : a.at x1.s) (hb : b.at x1.t) (h : (a.yes || b.yes) = false) (k : lgH β0 w r (cIn x0 y0 x1 y1 x2 y2 x3 y3 T 1 1 x1 y1 []) 1) : lgH β0 w r (cIn x0 y0 x1 y1 x2 y2 x3 y3 T 1 0 x1 y1 (yvT2 x1 a b ha hb ++ [.cut])) 1 := by
  cases a
  · cases b
    · exact piece_ok (Ns := [(4, 13)]) (m := 200) [] [0, 0, 2] hmA (by kernel_rfl) (fun β => ok_of_maps (by kernel_rfl)) k
    · cases h
    · exact piece_ok (Ns := [(4, 13)]) (m := 200) [] [0, 0, 2] hmA (by kernel_rfl) (fun β => ok_of_maps (by kernel_rfl)) k
  · cases h
  · cases b
    · exact piece_ok (Ns := [(4, 13)]) (m := 200) [] [0, 0, 2] hmA (by kernel_rfl) (fun β => ok_of_maps (by kernel_rfl)) k
    · cases h
    · exact piece_ok (Ns := [(4, 13)]) (m := 200) [] [0, 0, 2] hmA (by kernel_rfl) (fun β => ok_of_maps (by kernel_rfl)) k
theorem lg_yes10 {a b : T3} (ha : a.at x1.s) (hb : b.at x1.t) (h : (a.yes || b.yes) = true) : lgH β0 w true (cIn x0 y0 x1 y1 x2 y2 x3 y3 T 1 0 x1 y1 (yvT2 x1 a b ha hb)) 1 := by
  cases a
  · cases b
    · cases h
    · exact last_ok (Ns := [(4, 13)]) (m := 200) hmA (fun β => ok_of_maps (by kernel_rfl))
    · cases h
  · exact last_ok (Ns := [(4, 13)]) (m := 200) hmA (fun β => ok_of_maps (by kernel_rfl))
  · cases b
    · cases h
    · exact last_ok (Ns := [(4, 13)]) (m := 200) hmA (fun β => ok_of_maps (by kernel_rfl))
    · cases h
theorem lg_no11 {a b : T3} (ha : a.at y1.s) (hb : b.at y1.t) (h : (a.yes || b.yes) = false) (k : lgH β0 w r (cIn x0 y0 x1 y1 x2 y2 x3 y3 T 1 2 x1 y1 []) 1) : lgH β0 w r (cIn x0 y0 x1 y1 x2 y2 x3 y3 T 1 1 x1 y1 (yvT2 y1 a b ha hb ++ [.cut])) 1 := by
  cases a
  · cases b
    · exact piece_ok (Ns := [(4, 13)]) (m := 200) [] [0, 0, 2] hmA (by kernel_rfl) (fun β => ok_of_maps (by kernel_rfl)) k
    · cases h
    · exact piece_ok (Ns := [(4, 13)]) (m := 200) [] [0, 0, 2] hmA (by kernel_rfl) (fun β => ok_of_maps (by kernel_rfl)) k
  · cases h
  · cases b
    · exact piece_ok (Ns := [(4, 13)]) (m := 200) [] [0, 0, 2] hmA (by kernel_rfl) (fun β => ok_of_maps (by kernel_rfl)) k
    · cases h
    · exact piece_ok (Ns := [(4, 13)]) (m := 200) [] [0, 0, 2] hmA (by kernel_rfl) (fun β => ok_of_maps (by kernel_rfl)) k
theorem lg_yes11 {a b : T3} (ha : a.at y1.s) (hb : b.at y1.t) (h : (a.yes || b.yes) = true) : lgH β0 w true (cIn x0 y0 x1 y1 x2 y2 x3 y3 T 1 1 x1 y1 (yvT2 y1 a b ha hb)) 1 := by
  cases a
  · cases b
    · cases h
    · exact last_ok (Ns := [(4, 13)]) (m := 200) hmA (fun β => ok_of_maps (by kernel_rfl))
    · cases h
  · exact last_ok (Ns := [(4, 13)]) (m := 200) hmA (fun β => ok_of_maps (by kernel_rfl))
  · cases b
    · cases h
    · exact last_ok (Ns := [(4, 13)]) (m := 200) hmA (fun β => ok_of_maps (by kernel_rfl))
    · cases h
theorem lg_out2 (h : lgH β0 w r (cIn x0 y0 x1 y1 x2 y2 x3 y3 T 2 0 x2 y2 []) 1) : lgH β0 w r (cOut x0 y0 x1 y1 x2 y2 x3 y3 T 2 [.cut]) 0 := piece_ok (Ns := [(4, 13)]) (m := 200) [] [0, 0, 2] hmA (by kernel_rfl) (fun β => ok_of_maps (by kernel_rfl)) h
theorem lg_back2 (h : lgH β0 w r (cOut x0 y0 x1 y1 x2 y2 x3 y3 T 3 []) 0) : lgH β0 w r (cIn x0 y0 x1 y1 x2 y2 x3 y3 T 2 2 x2 y2 [.cut]) 1 := piece_ok (Ns := [(4, 13)]) (m := 200) [] [0, 0] hmA (by kernel_rfl) (fun β => ok_of_maps (by kernel_rfl)) h
theorem lg_no20 {a b : T3} (ha : a.at x2.s) (hb : b.at x2.t) (h : (a.yes || b.yes) = false) (k : lgH β0 w r (cIn x0 y0 x1 y1 x2 y2 x3 y3 T 2 1 x2 y2 []) 1) : lgH β0 w r (cIn x0 y0 x1 y1 x2 y2 x3 y3 T 2 0 x2 y2 (yvT2 x2 a b ha hb ++ [.cut])) 1 := by
  cases a
  · cases b
    · exact piece_ok (Ns := [(4, 13)]) (m := 200) [] [0, 0, 2] hmA (by kernel_rfl) (fun β => ok_of_maps (by kernel_rfl)) k
    · cases h
    · exact piece_ok (Ns := [(4, 13)]) (m := 200) [] [0, 0, 2] hmA (by kernel_rfl) (fun β => ok_of_maps (by kernel_rfl)) k
  · cases h
  · cases b
    · exact piece_ok (Ns := [(4, 13)]) (m := 200) [] [0, 0, 2] hmA (by kernel_rfl) (fun β => ok_of_maps (by kernel_rfl)) k
    · cases h
    · exact piece_ok (Ns := [(4, 13)]) (m := 200) [] [0, 0, 2] hmA (by kernel_rfl) (fun β => ok_of_maps (by kernel_rfl)) k
theorem lg_yes20 {a b : T3} (ha : a.at x2.s) (hb : b.at x2.t) (h : (a.yes || b.yes) = true) : lgH β0 w true (cIn x0 y0 x1 y1 x2 y2 x3 y3 T 2 0 x2 y2 (yvT2 x2 a b ha hb)) 1 := by
  cases a
  · cases b
    · cases h
    · exact last_ok (Ns := [(4, 13)]) (m := 200) hmA (fun β => ok_of_maps (by kernel_rfl))
    · cases h
  · exact last_ok (Ns := [(4, 13)]) (m := 200) hmA (fun β => ok_of_maps (by kernel_rfl))
  · cases b
    · cases h
    · exact last_ok (Ns := [(4, 13)]) (m := 200) hmA (fun β => ok_of_maps (by kernel_rfl))
    · cases h
theorem lg_no21 {a b : T3} (ha : a.at y2.s) (hb : b.at y2.t) (h : (a.yes || b.yes) = false) (k : lgH β0 w r (cIn x0 y0 x1 y1 x2 y2 x3 y3 T 2 2 x2 y2 []) 1) : lgH β0 w r (cIn x0 y0 x1 y1 x2 y2 x3 y3 T 2 1 x2 y2 (yvT2 y2 a b ha hb ++ [.cut])) 1 := by
  cases a
  · cases b
    · exact piece_ok (Ns := [(4, 13)]) (m := 200) [] [0, 0, 2] hmA (by kernel_rfl) (fun β => ok_of_maps (by kernel_rfl)) k
    · cases h
    · exact piece_ok (Ns := [(4, 13)]) (m := 200) [] [0, 0, 2] hmA (by kernel_rfl) (fun β => ok_of_maps (by kernel_rfl)) k
  · cases h
  · cases b
    · exact piece_ok (Ns := [(4, 13)]) (m := 200) [] [0, 0, 2] hmA (by kernel_rfl) (fun β => ok_of_maps (by kernel_rfl)) k
    · cases h
    · exact piece_ok (Ns := [(4, 13)]) (m := 200) [] [0, 0, 2] hmA (by kernel_rfl) (fun β => ok_of_maps (by kernel_rfl)) k
theorem lg_yes21 {a b : T3} (ha : a.at y2.s) (hb : b.at y2.t) (h : (a.yes || b.yes) = true) : lgH β0 w true (cIn x0 y0 x1 y1 x2 y2 x3 y3 T 2 1 x2 y2 (yvT2 y2 a b ha hb)) 1 := by
  cases a
  · cases b
    · cases h
    · exact last_ok (Ns := [(4, 13)]) (m := 200) hmA (fun β => ok_of_maps (by kernel_rfl))
    · cases h
  · exact last_ok (Ns := [(4, 13)]) (m := 200) hmA (fun β => ok_of_maps (by kernel_rfl))
  · cases b
    · cases h
    · exact last_ok (Ns := [(4, 13)]) (m := 200) hmA (fun β => ok_of_maps (by kernel_rfl))
    · cases h
theorem lg_out3 (h : lgH β0 w r (cIn x0 y0 x1 y1 x2 y2 x3 y3 T 3 0 x3 y3 []) 1) : lgH β0 w r (cOut x0 y0 x1 y1 x2 y2 x3 y3 T 3 [.cut]) 0 := piece_ok (Ns := [(4, 13)]) (m := 200) [] [0, 0, 2] hmA (by kernel_rfl) (fun β => ok_of_maps (by kernel_rfl)) h
theorem lg_back3 (h : lgH β0 w r (cOut x0 y0 x1 y1 x2 y2 x3 y3 T 4 []) 0) : lgH β0 w r (cIn x0 y0 x1 y1 x2 y2 x3 y3 T 3 2 x3 y3 [.cut]) 1 := piece_ok (Ns := [(4, 13)]) (m := 200) [] [0, 0] hmA (by kernel_rfl) (fun β => ok_of_maps (by kernel_rfl)) h
theorem lg_no30 {a b : T3} (ha : a.at x3.s) (hb : b.at x3.t) (h : (a.yes || b.yes) = false) (k : lgH β0 w r (cIn x0 y0 x1 y1 x2 y2 x3 y3 T 3 1 x3 y3 []) 1) : lgH β0 w r (cIn x0 y0 x1 y1 x2 y2 x3 y3 T 3 0 x3 y3 (yvT2 x3 a b ha hb ++ [.cut])) 1 := by
  cases a
  · cases b
    · exact piece_ok (Ns := [(4, 13)]) (m := 200) [] [0, 0, 2] hmA (by kernel_rfl) (fun β => ok_of_maps (by kernel_rfl)) k
    · cases h
    · exact piece_ok (Ns := [(4, 13)]) (m := 200) [] [0, 0, 2] hmA (by kernel_rfl) (fun β => ok_of_maps (by kernel_rfl)) k
  · cases h
  · cases b
    · exact piece_ok (Ns := [(4, 13)]) (m := 200) [] [0, 0, 2] hmA (by kernel_rfl) (fun β => ok_of_maps (by kernel_rfl)) k
    · cases h
    · exact piece_ok (Ns := [(4, 13)]) (m := 200) [] [0, 0, 2] hmA (by kernel_rfl) (fun β => ok_of_maps (by kernel_rfl)) k
theorem lg_yes30 {a b : T3} (ha : a.at x3.s) (hb : b.at x3.t) (h : (a.yes || b.yes) = true) : lgH β0 w true (cIn x0 y0 x1 y1 x2 y2 x3 y3 T 3 0 x3 y3 (yvT2 x3 a b ha hb)) 1 := by
  cases a
  · cases b
    · cases h
    · exact last_ok (Ns := [(4, 13)]) (m := 200) hmA (fun β => ok_of_maps (by kernel_rfl))
    · cases h
  · exact last_ok (Ns := [(4, 13)]) (m := 200) hmA (fun β => ok_of_maps (by kernel_rfl))
  · cases b
    · cases h
    · exact last_ok (Ns := [(4, 13)]) (m := 200) hmA (fun β => ok_of_maps (by kernel_rfl))
    · cases h
theorem lg_no31 {a b : T3} (ha : a.at y3.s) (hb : b.at y3.t) (h : (a.yes || b.yes) = false) (k : lgH β0 w r (cIn x0 y0 x1 y1 x2 y2 x3 y3 T 3 2 x3 y3 []) 1) : lgH β0 w r (cIn x0 y0 x1 y1 x2 y2 x3 y3 T 3 1 x3 y3 (yvT2 y3 a b ha hb ++ [.cut])) 1 := by
  cases a
  · cases b
    · exact piece_ok (Ns := [(4, 13)]) (m := 200) [] [0, 0, 2] hmA (by kernel_rfl) (fun β => ok_of_maps (by kernel_rfl)) k
    · cases h
    · exact piece_ok (Ns := [(4, 13)]) (m := 200) [] [0, 0, 2] hmA (by kernel_rfl) (fun β => ok_of_maps (by kernel_rfl)) k
  · cases h
  · cases b
    · exact piece_ok (Ns := [(4, 13)]) (m := 200) [] [0, 0, 2] hmA (by kernel_rfl) (fun β => ok_of_maps (by kernel_rfl)) k
    · cases h
    · exact piece_ok (Ns := [(4, 13)]) (m := 200) [] [0, 0, 2] hmA (by kernel_rfl) (fun β => ok_of_maps (by kernel_rfl)) k
theorem lg_yes31 {a b : T3} (ha : a.at y3.s) (hb : b.at y3.t) (h : (a.yes || b.yes) = true) : lgH β0 w true (cIn x0 y0 x1 y1 x2 y2 x3 y3 T 3 1 x3 y3 (yvT2 y3 a b ha hb)) 1 := by
  cases a
  · cases b
    · cases h
    · exact last_ok (Ns := [(4, 13)]) (m := 200) hmA (fun β => ok_of_maps (by kernel_rfl))
    · cases h
  · exact last_ok (Ns := [(4, 13)]) (m := 200) hmA (fun β => ok_of_maps (by kernel_rfl))
  · cases b
    · cases h
    · exact last_ok (Ns := [(4, 13)]) (m := 200) hmA (fun β => ok_of_maps (by kernel_rfl))
    · cases h
theorem HdOk.ev {P : Program} {m0 n B0 : Nat} {w0 : World} {β0 : Env} {Q : Exit → Act → World → Prop} {u : Nat} {sl : List (Nat × SV)} {ob : List Ob} {ev ev' : List (Ev P)} {p : Code × List Kf} (h : HdOk P m0 n B0 w0 β0 Q (mkC P n u sl ob ev) p) : HdOk P m0 n B0 w0 β0 Q (mkC P n u sl ob ev') p :=
  fun β a w hβ hs => h β a w hβ (hs.ev ev)
end
section
variable {x0 y0 x1 y1 x2 y2 x3 y3 : R4} {T : TypeId}
structure LgF (x : R4) (r : Bool) : Prop where
  is : ∃ a b : T3, a.at x.s ∧ b.at x.t ∧ (a.yes || b.yes) = r
theorem LgF.all (x : R4) : ∃ r, LgF x r := by
  obtain ⟨a, ha⟩ := T3.all x.s
  obtain ⟨b, hb⟩ := T3.all x.t
  exact ⟨_, ⟨a, b, ha, hb, rfl⟩⟩
theorem long4_hd {rx0 ry0 rx1 ry1 rx2 ry2 rx3 ry3 : Bool} (hx0 : LgF x0 rx0) (hy0 : LgF y0 ry0) (hx1 : LgF x1 rx1) (hy1 : LgF y1 ry1) (hx2 : LgF x2 rx2) (hy2 : LgF y2 ry2) (hx3 : LgF x3 rx3) (hy3 : LgF y3 ry3) (β0 : Env) (w : World) : lgH β0 w (rx0 || (ry0 || (rx1 || (ry1 || (rx2 || (ry2 || (rx3 || ry3))))))) (cOut x0 y0 x1 y1 x2 y2 x3 y3 T 0 []) 0 := by
  refine HdOk.ev (lg_out0 x0 y0 x1 y1 x2 y2 x3 y3 T β0 w _ ?_)
  obtain ⟨ax0, bx0, hax0, hbx0, ex0⟩ := hx0.is
  cases rx0 with
  | true => exact HdOk.ev (lg_yes00 x0 y0 x1 y1 x2 y2 x3 y3 T β0 w hax0 hbx0 ex0)
  | false =>
  refine HdOk.ev (lg_no00 x0 y0 x1 y1 x2 y2 x3 y3 T β0 w _ hax0 hbx0 ex0 ?_)
  obtain ⟨ay0, by0, hay0, hby0, ey0⟩ := hy0.is
  cases ry0 with
  | true => exact HdOk.ev (lg_yes01 x0 y0 x1 y1 x2 y2 x3 y3 T β0 w hay0 hby0 ey0)
  | false =>
  refine HdOk.ev (lg_no01 x0 y0 x1 y1 x2 y2 x3 y3 T β0 w _ hay0 hby0 ey0 ?_)
  refine HdOk.ev (lg_back0 x0 y0 x1 y1 x2 y2 x3 y3 T β0 w _ ?_)
  refine HdOk.ev (lg_out1 x0 y0 x1 y1 x2 y2 x3 y3 T β0 w _ ?_)
  obtain ⟨ax1, bx1, hax1, hbx1, ex1⟩ := hx1.is
  cases rx1 with
  | true => exact HdOk.ev (lg_yes10 x0 y0 x1 y1 x2 y2 x3 y3 T β0 w hax1 hbx1 ex1)
  | false =>
  refine HdOk.ev (lg_no10 x0 y0 x1 y1 x2 y2 x3 y3 T β0 w _ hax1 hbx1 ex1 ?_)
  obtain ⟨ay1, by1, hay1, hby1, ey1⟩ := hy1.is
  cases ry1 with
  | true => exact HdOk.ev (lg_yes11 x0 y0 x1 y1 x2 y2 x3 y3 T β0 w hay1 hby1 ey1)
  | false =>
  refine HdOk.ev (lg_no11 x0 y0 x1 y1 x2 y2 x3 y3 T β0 w _ hay1 hby1 ey1 ?_)
  refine HdOk.ev (lg_back1 x0 y0 x1 y1 x2 y2 x3 y3 T β0 w _ ?_)
  refine HdOk.ev (lg_out2 x0 y0 x1 y1 x2 y2 x3 y3 T β0 w _ ?_)
  obtain ⟨ax2, bx2, hax2, hbx2, ex2⟩ := hx2.is
  cases rx2 with
  | true => exact HdOk.ev (lg_yes20 x0 y0 x1 y1 x2 y2 x3 y3 T β0 w hax2 hbx2 ex2)
  | false =>
  refine HdOk.ev (lg_no20 x0 y0 x1 y1 x2 y2 x3 y3 T β0 w _ hax2 hbx2 ex2 ?_)
  obtain ⟨ay2, by2, hay2, hby2, ey2⟩ := hy2.is
  cases ry2 with
  | true => exact HdOk.ev (lg_yes21 x0 y0 x1 y1 x2 y2 x3 y3 T β0 w hay2 hby2 ey2)
  | false =>
  refine HdOk.ev (lg_no21 x0 y0 x1 y1 x2 y2 x3 y3 T β0 w _ hay2 hby2 ey2 ?_)
  refine HdOk.ev (lg_back2 x0 y0 x1 y1 x2 y2 x3 y3 T β0 w _ ?_)
  refine HdOk.ev (lg_out3 x0 y0 x1 y1 x2 y2 x3 y3 T β0 w _ ?_)
  obtain ⟨ax3, bx3, hax3, hbx3, ex3⟩ := hx3.is
  cases rx3 with
  | true => exact HdOk.ev (lg_yes30 x0 y0 x1 y1 x2 y2 x3 y3 T β0 w hax3 hbx3 ex3)
  | false =>
  refine HdOk.ev (lg_no30 x0 y0 x1 y1 x2 y2 x3 y3 T β0 w _ hax3 hbx3 ex3 ?_)
  obtain ⟨ay3, by3, hay3, hby3, ey3⟩ := hy3.is
  cases ry3 with
  | true => exact HdOk.ev (lg_yes31 x0 y0 x1 y1 x2 y2 x3 y3 T β0 w hay3 hby3 ey3)
  | false =>
  refine HdOk.ev (lg_no31 x0 y0 x1 y1 x2 y2 x3 y3 T β0 w _ hay3 hby3 ey3 ?_)
  refine HdOk.ev (lg_back3 x0 y0 x1 y1 x2 y2 x3 y3 T β0 w _ ?_)
  exact lg_end x0 y0 x1 y1 x2 y2 x3 y3 T β0 w
theorem long4_ok {rx0 ry0 rx1 ry1 rx2 ry2 rx3 ry3 : Bool} (hx0 : LgF x0 rx0) (hy0 : LgF y0 ry0) (hx1 : LgF x1 rx1) (hy1 : LgF y1 ry1) (hx2 : LgF x2 rx2) (hy2 : LgF y2 ry2) (hx3 : LgF x3 rx3) (hy3 : LgF y3 ry3) (β : Env) (w : World) (hh : (Ob.box (lgCells x0 y0 x1 y1 x2 y2 x3 y3) T).holds β w (β 0)) :
    Calls Tryz.prog 34 #[.slice (some ⟨(β 0).b, 0, none⟩) 4 4] w fun e w' => e = .returned (.bool (rx0 || (ry0 || (rx1 || (ry1 || (rx2 || (ry2 || (rx3 || ry3)))))))) ∧ Below w.heap.size w w' := by
  refine (sx_cut (P := Tryz.prog) lgA [.box (lgCells x0 y0 x1 y1 x2 y2 x3 y3) T] [.cut] [] [(4, 13)] 200 (lB (rx0 || (ry0 || (rx1 || (ry1 || (rx2 || (ry2 || (rx3 || ry3)))))))) [] Tryz.func34 hmA (u := 1) (sl := [(0, .one (.c (.b (.s 0 0 4 4)))), (3, lI 0)]) (ob := [.box (lgCells x0 y0 x1 y1 x2 y2 x3 y3) T, .dead]) (σ := [0, 0]) (p' := lpAt Tryz.f34 0) (by kernel_rfl) (fun β => ok_of_maps (by kernel_rfl)) (by kernel_rfl) (by kernel_rfl) β w (fun k o ho => ?_) (long4_hd hx0 hy0 hx1 hy1 hx2 hy2 hx3 hy3 β w)).mono ?_
  · cases k with
    | zero => simp only [List.getElem?_cons_zero] at ho; obtain rfl := Option.some.inj ho; exact hh
    | succ k => simp at ho
  · rintro e w' ⟨β', q, obj, e1, rfl, e2, e3, e4, g⟩
    exact ⟨rfl, g.bel⟩
end
end Go.Proofs.YtiolbdleihiocaaGreat.Y
end
section
namespace Go.Proofs.YtiolbdleihiocaaGreat.Y
open Go Go.RowKit
set_option maxRecDepth 100000
abbrev OFN : List (Nat × Nat) := [(9, 5007004005008), (15, 16), (20, 11)]
abbrev a3 (p q r : Rw) : SV := .one (.a (lsX (p.C ++ q.C ++ r.C)))
abbrev tB (t : Bool) : SV := .one (.c (.b (.v (.bool t))))
abbrev nI (k : Int) : SC := .c (.b (.v (.int .i64 k)))
section
variable {p q r s u v : Pt}
def of6E (z : P6 p q r s u v FitP) : List (Ev Tryz.prog) := [(sSpotP p z.1).e, (sSpotP s z.2.2.2.1).e, (sSpotP q z.2.1).e, (sSpotP u z.2.2.2.2.1).e, (sSpotP r z.2.2.1).e, (sSpotP v z.2.2.2.2.2).e]
def twE {t1 t2 t3 t4 t5 t6 : Bool} (h1 : ptB p q = t1) (h2 : ptB s u = t2) (h3 : ptB q r = t3) (h4 : ptB u v = t4) (h5 : ptB r p = t5) (h6 : ptB v s = t6) : List (Ev Tryz.prog) :=
  eqEvPt h1 :: (bif t1 then [] else eqEvPt h2 :: (bif t2 then [] else eqEvPt h3 :: (bif t3 then [] else eqEvPt h4 :: (bif t4 then [] else eqEvPt h5 :: (bif t5 then [] else [eqEvPt h6])))))
abbrev KF : Nat := 1024
theorem of1z (z : P6 p q r s u v FitP) (h : Six p q r s u v) : MSz (dsz (csz KF)) (mcha p q r) := mcha_sz z.1.sz z.2.1.sz z.2.2.1.sz (by decide) h.r1
theorem of2z (z : P6 p q r s u v FitP) (h : Six p q r s u v) : MSz (dsz (csz KF)) (mcha s u v) := mcha_sz z.2.2.2.1.sz z.2.2.2.2.1.sz z.2.2.2.2.2.sz (by decide) h.r2
theorem of3z (z : P6 p q r s u v FitP) (t : Bool) (h : Six p q r s u v) : MSz (dsz (bsz 1 (dsz (csz KF)))) (mcmp (mid t) (mcha p q r)) := mcmp_sz (mid_sz t (k := 1)) (of1z z h) (h.r3 t)
theorem of4z (z : P6 p q r s u v FitP) (h : Six p q r s u v) : MSz (dsz (dsz (csz KF))) (minv (mcha s u v)) := minv_sz (of2z z h) h.r4
theorem of5z (z : P6 p q r s u v FitP) (t : Bool) (h : Six p q r s u v) : MSz KM (mof p q r s u v t) := (mcmp_sz (of4z z h) (of3z z t h) (h.r5 t)).mono (by decide)
theorem mof_nrm (t : Bool) (h : Six p q r s u v) : Nrm (mof p q r s u v t) := Nrm.cmp (h.r4.mnorm) (h.r3 t).mnorm
set_option maxHeartbeats 4000000 in
noncomputable def sOf3 (z : P6 p q r s u v FitP) (t : Bool) (h : Six p q r s u v) : Spec Tryz.prog :=
  Spec.auto Tryz.call15 [a3 p.w q.w r.w, a3 s.w u.w v.w, tB t] [] (.tup [.a (lsX (maC (mof p q r s u v t))), nI (maK (mof p q r s u v t))]) []
    (of6E z ++ twE (ptB_ne' h.a) (ptB_ne' h.d) (ptB_ne' h.b) (ptB_ne' h.e) (ptB_ne' h.c) (ptB_ne' h.f) ++
      [sStill.e, (sChaR (z.2.2.2.1.sz.mono (by decide)) (z.2.2.2.2.1.sz.mono (by decide)) (z.2.2.2.2.2.sz.mono (by decide)) h.r2).e, (sUndoR ((of2z z h).mono (by decide)) h.r2.mnorm).e,
       (sChaR (z.1.sz.mono (by decide)) (z.2.1.sz.mono (by decide)) (z.2.2.1.sz.mono (by decide)) h.r1).e, (sBehR ((mid_sz t (k := 1)).mono (by decide)) ((of1z z h).mono (by decide)) (h.r3 t)).e,
       (sBehR ((of4z z h).mono (by decide)) ((of3z z t h).mono (by decide)) (h.r5 t)).e, (sToldN (of5z z t h) (mof_nrm t h)).e]) OFN 1200 Tryz.func15 hmA (by kernel_rfl) (fun β => by kernel_rfl)
end
end Go.Proofs.YtiolbdleihiocaaGreat.Y
end
