/- MtB, MtC, MtD, MtE. -/
import Derived.Test.YtimfgjcidigbiaaGreatPk12
set_option linter.unnecessarySimpa false
set_option linter.unusedVariables false
set_option linter.unusedSimpArgs false
section
namespace Go.Proofs.YtimfgjcidigbiaaGreat.Y
open Go Go.RowKit
set_option maxRecDepth 100000
noncomputable def eFQuo {x y : Rat} (i n k j : Nat) (hx : Sz KB x) (hy : Sz KB y) (h0 : y ≠ 0) : Ev Tryz.prog:=.fill 254 Tryz.call254 (fun β=>#[.pointer (some ⟨(β i).b,0,none⟩),.pointer ((β k).v 0),.pointer ((β j).v 0)]) [(k,(ratT x).ob),(j,(ratT y).ob)] i 4 n (ratT (x / y))
  (fun β w h ho hs=>by
    obtain ⟨a,ha,ka⟩:=needP (x:=x) (k:=k) h (by simp)
    obtain ⟨b,hb,kb⟩:=needP (x:=y) (k:=j) h (by simp)
    simp only [ha.1,hb.1]
    exact fillP ho (rQuo_any hs ka kb (hx.okR2 (by decide)) (hy.okR2 (by decide)) h0))
noncomputable def fQuo {x y : Rat} (hx : Sz KB x) (hy : Sz KB y) (h0 : y ≠ 0) : Ev Tryz.prog:=dyn3 fun i n k j=>eFQuo i n k j hx hy h0
theorem div_sz {i j : Nat} {x y : Rat} (hx : Sz i x) (hy : Sz j y) (h0 : y ≠ 0) : Sz (i + j) (x / y):=by
  rw [Rat.div_def]
  exact hx.mul (hy.inv h0)
section
variable {x y : Rat} (hx : Sz KB x) (hy : Sz KB y)
noncomputable def sMtAdd : Spec Tryz.prog:=Spec.auto Tryz.call224 [rV 0,rV 1] [ratT x,ratT y] (rV 2) [ratT (x + y)] [mkR,fAdd hx hy] [] 400 Tryz.func224 hmA (by kernel_rfl) (fun β=>by kernel_rfl)
noncomputable def sMtSub : Spec Tryz.prog:=Spec.auto Tryz.call220 [rV 0,rV 1] [ratT x,ratT y] (rV 2) [ratT (x - y)] [mkR,fSub hx hy] [] 400 Tryz.func220 hmA (by kernel_rfl) (fun β=>by kernel_rfl)
noncomputable def sMtMul : Spec Tryz.prog:=Spec.auto Tryz.call158 [rV 0,rV 1] [ratT x,ratT y] (rV 2) [ratT (x * y)] [mkR,fMul hx hy] [] 400 Tryz.func158 hmA (by kernel_rfl) (fun β=>by kernel_rfl)
noncomputable def sMtQuo (h0 : y ≠ 0) : Spec Tryz.prog:=Spec.auto Tryz.call157 [rV 0,rV 1] [ratT x,ratT y] (rV 2) [ratT (x / y)] [mkR,fQuo hx hy h0] [] 400 Tryz.func157 hmA (by kernel_rfl) (fun β=>by kernel_rfl)
end
noncomputable def sMtNum (n : Int) (hn : -9223372036854775808 ≤ n ∧ n ≤ 9223372036854775807:=by decide) : Spec Tryz.prog :=
  Spec.auto Tryz.call154 [.one (svI n)] [] (rV 0) [ratT (Rat.divInt n 1)] [nNew n 1 hn (by decide) (by decide)] [] 400 Tryz.func154 hmA (by kernel_rfl) (fun β=>by kernel_rfl)
abbrev KF : Nat:=50000
theorem n2_sz : Sz 8 (Rat.divInt 2 1):=sz_lit 2 1 (by decide) (by decide) (by decide)
theorem n2_ne : (Rat.divInt 2 1 : Rat) ≠ 0:=of_decide_eq_true (by kernel_rfl : decide ((Rat.divInt 2 1 : Rat) ≠ 0) = true)
theorem m2_ne : (Rat.divInt (-2) 1 : Rat) ≠ 0:=of_decide_eq_true (by kernel_rfl : decide ((Rat.divInt (-2) 1 : Rat) ≠ 0) = true)
def fpr (f g : RQ) : Rat:=f.b.re * g.b.re + f.b.im * g.b.im - (f.a * g.c + f.c * g.a) / Rat.divInt 2 1
abbrev psz (j k : Nat) : Nat:=j + k + (j + k) + 1 + (j + k + (j + k) + 1 + 8) + 1
theorem fpr_sz {j k : Nat} {f g : RQ} (hf : RSz j f) (hg : RSz k g) : Sz (psz j k) (fpr f g) :=
  ((hf.b.1.mul hg.b.1).add (hf.b.2.mul hg.b.2)).sub (div_sz ((hf.a.mul hg.c).add (hf.c.mul hg.a)) n2_sz n2_ne)
noncomputable def sMtProd {f g : RQ} (hf : RSz KF f) (hg : RSz KF g) : Spec Tryz.prog :=
  Spec.auto Tryz.call149 [rgV 0,rgV 4] (rgT f ++ rgT g) (rV 8) [ratT (fpr f g)]
    [(sMtMul (hf.b.1.mono (by decide)) (hg.b.1.mono (by decide))).e,(sMtMul (hf.b.2.mono (by decide)) (hg.b.2.mono (by decide))).e,(sMtAdd ((hf.b.1.mul hg.b.1).mono (by decide)) ((hf.b.2.mul hg.b.2).mono (by decide))).e,
      (sMtMul (hf.a.mono (by decide)) (hg.c.mono (by decide))).e,(sMtMul (hf.c.mono (by decide)) (hg.a.mono (by decide))).e,(sMtAdd ((hf.a.mul hg.c).mono (by decide)) ((hf.c.mul hg.a).mono (by decide))).e,(sMtNum 2).e,
      (sMtQuo (((hf.a.mul hg.c).add (hf.c.mul hg.a)).mono (by decide)) (n2_sz.mono (by decide)) n2_ne).e,
      (sMtSub (((hf.b.1.mul hg.b.1).add (hf.b.2.mul hg.b.2)).mono (by decide)) ((div_sz ((hf.a.mul hg.c).add (hf.c.mul hg.a)) n2_sz n2_ne).mono (by decide))).e]
    [(1,12),(2,16)] 600 Tryz.func149 hmA (by kernel_rfl) (fun β=>by kernel_rfl)
def pls (f g : RQ) (s t : Rat) : RQ:=⟨s * f.a + t * g.a,⟨s * f.b.re + t * g.b.re,s * f.b.im + t * g.b.im⟩,s * f.c + t * g.c⟩
theorem pls_sz {i j k l : Nat} {f g : RQ} {s t : Rat} (hf : RSz i f) (hg : RSz j g) (hs : Sz k s) (ht : Sz l t) : RSz (k + i + (l + j) + 1) (pls f g s t) :=
  ⟨(hs.mul hf.a).add (ht.mul hg.a),⟨(hs.mul hf.b.1).add (ht.mul hg.b.1),(hs.mul hf.b.2).add (ht.mul hg.b.2)⟩,(hs.mul hf.c).add (ht.mul hg.c)⟩
noncomputable def plE {x y s t : Rat} (hx : Sz KF x) (hy : Sz KF y) (hs : Sz KF s) (ht : Sz KF t) : List (Ev Tryz.prog) :=
  [(sMtMul (hs.mono (by decide)) (hx.mono (by decide))).e,(sMtMul (ht.mono (by decide)) (hy.mono (by decide))).e,(sMtAdd ((hs.mul hx).mono (by decide)) ((ht.mul hy).mono (by decide))).e]
noncomputable def sMtPlus {f g : RQ} {s t : Rat} (hf : RSz KF f) (hg : RSz KF g) (hs : Sz KF s) (ht : Sz KF t) : Spec Tryz.prog :=
  Spec.auto Tryz.call141 [rgV 0,rgV 4,rV 8,rV 9] (rgT f ++ rgT g ++ [ratT s,ratT t]) (rgV 10) (rgT (pls f g s t))
    (plE hf.a hg.a hs ht ++ plE hf.b.1 hg.b.1 hs ht ++ plE hf.b.2 hg.b.2 hs ht ++ plE hf.c hg.c hs ht) [(5,13)] 1200 Tryz.func141 hmA (by kernel_rfl) (fun β=>by kernel_rfl)
theorem rpow_fpr (f : RQ) : fpr f f = rpow f:=by
  have h : (Rat.divInt 2 1 : Rat) = 2:=of_decide_eq_true (by kernel_rfl : decide ((Rat.divInt 2 1 : Rat) = 2) = true)
  unfold fpr rpow gnorm
  rw [h]
  grind
noncomputable def quE {x y : Rat} (hx : Sz KF x) (hy : Sz KF y) (h0 : y ≠ 0) : List (Ev Tryz.prog):=[(sMtQuo (hx.mono (by decide)) (hy.mono (by decide)) h0).e,(sFrac ((div_sz hx hy h0).mono (by decide))).e]
theorem ansK_lit {x : Rat} {k : Int} (h : ansK x = k) : Value.int .i64 (ansK x) = .int .i64 k:=by rw [h]
noncomputable def quY {x y : Rat} (hx : Sz KF x) (hy : Sz KF y) (h0 : y ≠ 0) (h : ansK (x / y) = 0) : List (Ev Tryz.prog):=quE hx hy h0 ++ [.eqv 40 (.int .i64 (ansK (x / y))) (.int .i64 0) (ansK_lit h)]
noncomputable def quN {x y : Rat} (hx : Sz KF x) (hy : Sz KF y) (h0 : y ≠ 0) (h : ansK (x / y) = 4) : List (Ev Tryz.prog):=quE hx hy h0 ++ [.eqv 40 (.int .i64 (ansK (x / y))) (.int .i64 4) (ansK_lit h)]
theorem sign_ne {x : Rat} {b : Bool} (h : decide (x = 0) = b) : (Value.bool (!(x.num.sign == 0))) = .bool (!b):=by
  have:=sign_lit h
  injection this with h2
  rw [h2]
noncomputable def byE (f : RQ) : (i j : Bool) → decide (f.a = 0) = i → decide (f.b.re = 0) = j → rbyQ i j f ≠ 0 → List (Ev Tryz.prog)
  | false,_,hi,_,_=>[nSign (x:=f.a) rfl,.eqv 26 (.bool (!(f.a.num.sign == 0))) (.bool true) (sign_ne hi)]
  | true,false,hi,hj,_=>[nSign (x:=f.a) rfl,.eqv 26 (.bool (!(f.a.num.sign == 0))) (.bool false) (sign_ne hi),nSign (x:=f.b.re) rfl,.eqv 26 (.bool (!(f.b.re.num.sign == 0))) (.bool true) (sign_ne hj)]
  | true,true,hi,hj,h0=>[nSign (x:=f.a) rfl,.eqv 26 (.bool (!(f.a.num.sign == 0))) (.bool false) (sign_ne hi),nSign (x:=f.b.re) rfl,.eqv 26 (.bool (!(f.b.re.num.sign == 0))) (.bool false) (sign_ne hj),
      nSign (x:=f.b.im) rfl,.eqv 26 (.bool (!(f.b.im.num.sign == 0))) (.bool true) (sign_ne (decide_eq_false h0))]
noncomputable def poE {f : RQ} (h : RSz KF f) {b : Bool} (hp : decide ((fpr f f).num.sign ≤ 0) = b) : List (Ev Tryz.prog):=[(sMtProd h h).e,nSign (x:=fpr f f) rfl,.eqv 16 (.bool (decide ((fpr f f).num.sign ≤ 0))) (.bool b) (sgn_le hp)]
theorem circle_ok {f : RQ} (h : RSz KF f) {i j : Bool} (hi : decide (f.a = 0) = i) (hj : decide (f.b.re = 0) = j) (h0 : rbyQ i j f ≠ 0) (hp : decide ((fpr f f).num.sign ≤ 0) = false) (β : Env) (w : World) (hh : ∀ (k : Nat) (t : Thing),(rgT f)[k]? = some t → t.D w (β k)) :
    Calls Tryz.prog 245 (([rgV 0] : List SV).map (SV.den β)).toArray w fun e w'=>∃ xs : List Pl,freshS β w 4 xs ∧ e = .returned ((ciA (rqd f (rbyQ i j f))).den (extE β 4 xs)) ∧ newHold w' [] xs ∧ Below w.heap.size w w':=by
  have hb:=rby_sz h i j
  have hN : ∀ {x : Rat},¬ Fit x → ansK x = 4:=fun hx=>if_neg hx
  have hY : ∀ {x : Rat},Fit x → ansK x = 0:=fun hx=>if_pos hx
  by_cases h1 : Fit (f.a / rbyQ i j f)
  · by_cases h2 : Fit (f.b.re / rbyQ i j f)
    · by_cases h3 : Fit (f.b.im / rbyQ i j f)
      · by_cases h4 : Fit (f.c / rbyQ i j f)
        · have e : ciA (rqd f (rbyQ i j f)) = .tup [.a (fA (f.a / rbyQ i j f) ++ fA (f.b.re / rbyQ i j f) ++ fA (f.b.im / rbyQ i j f) ++ fA (f.c / rbyQ i j f)),nI' 0]:=by
            rw [ciA,(ci_fit (m:=rqd f (rbyQ i j f)) ⟨h1,⟨h2,h3⟩,h4⟩).1,(ci_fit (m:=rqd f (rbyQ i j f)) ⟨h1,⟨h2,h3⟩,h4⟩).2,(fA_fit h1).1,(fA_fit h2).1,(fA_fit h3).1,(fA_fit h4).1]
            rfl
          rw [e]
          cases i
          · exact spec_auto (args:=[rgV 0]) (obs:=rgT f) (news:=[]) (evs:=poE h hp ++ byE f false j hi hj h0 ++ quY h.a hb h0 (hY h1) ++ quY h.b.1 hb h0 (hY h2) ++ quY h.b.2 hb h0 (hY h3) ++ quY h.c hb h0 (hY h4)) (Ns:=[]) (m:=2000) Tryz.func245 hmA (fun β=>by kernel_rfl) (by kernel_rfl) β w hh
          · cases j <;> exact spec_auto (args:=[rgV 0]) (obs:=rgT f) (news:=[]) (evs:=poE h hp ++ byE f true _ hi hj h0 ++ quY h.a hb h0 (hY h1) ++ quY h.b.1 hb h0 (hY h2) ++ quY h.b.2 hb h0 (hY h3) ++ quY h.c hb h0 (hY h4)) (Ns:=[]) (m:=2000) Tryz.func245 hmA (fun β=>by kernel_rfl) (by kernel_rfl) β w hh
        · rw [ciA,(ci_not (m:=rqd f (rbyQ i j f)) fun e=>h4 e.2.2).1,(ci_not (m:=rqd f (rbyQ i j f)) fun e=>h4 e.2.2).2]
          cases i
          · exact spec_auto (args:=[rgV 0]) (obs:=rgT f) (news:=[]) (evs:=poE h hp ++ byE f false j hi hj h0 ++ quY h.a hb h0 (hY h1) ++ quY h.b.1 hb h0 (hY h2) ++ quY h.b.2 hb h0 (hY h3) ++ quN h.c hb h0 (hN h4)) (Ns:=[]) (m:=2000) Tryz.func245 hmA (fun β=>by kernel_rfl) (by kernel_rfl) β w hh
          · cases j <;> exact spec_auto (args:=[rgV 0]) (obs:=rgT f) (news:=[]) (evs:=poE h hp ++ byE f true _ hi hj h0 ++ quY h.a hb h0 (hY h1) ++ quY h.b.1 hb h0 (hY h2) ++ quY h.b.2 hb h0 (hY h3) ++ quN h.c hb h0 (hN h4)) (Ns:=[]) (m:=2000) Tryz.func245 hmA (fun β=>by kernel_rfl) (by kernel_rfl) β w hh
      · rw [ciA,(ci_not (m:=rqd f (rbyQ i j f)) fun e=>h3 e.2.1.2).1,(ci_not (m:=rqd f (rbyQ i j f)) fun e=>h3 e.2.1.2).2]
        cases i
        · exact spec_auto (args:=[rgV 0]) (obs:=rgT f) (news:=[]) (evs:=poE h hp ++ byE f false j hi hj h0 ++ quY h.a hb h0 (hY h1) ++ quY h.b.1 hb h0 (hY h2) ++ quN h.b.2 hb h0 (hN h3)) (Ns:=[]) (m:=2000) Tryz.func245 hmA (fun β=>by kernel_rfl) (by kernel_rfl) β w hh
        · cases j <;> exact spec_auto (args:=[rgV 0]) (obs:=rgT f) (news:=[]) (evs:=poE h hp ++ byE f true _ hi hj h0 ++ quY h.a hb h0 (hY h1) ++ quY h.b.1 hb h0 (hY h2) ++ quN h.b.2 hb h0 (hN h3)) (Ns:=[]) (m:=2000) Tryz.func245 hmA (fun β=>by kernel_rfl) (by kernel_rfl) β w hh
    · rw [ciA,(ci_not (m:=rqd f (rbyQ i j f)) fun e=>h2 e.2.1.1).1,(ci_not (m:=rqd f (rbyQ i j f)) fun e=>h2 e.2.1.1).2]
      cases i
      · exact spec_auto (args:=[rgV 0]) (obs:=rgT f) (news:=[]) (evs:=poE h hp ++ byE f false j hi hj h0 ++ quY h.a hb h0 (hY h1) ++ quN h.b.1 hb h0 (hN h2)) (Ns:=[]) (m:=2000) Tryz.func245 hmA (fun β=>by kernel_rfl) (by kernel_rfl) β w hh
      · cases j <;> exact spec_auto (args:=[rgV 0]) (obs:=rgT f) (news:=[]) (evs:=poE h hp ++ byE f true _ hi hj h0 ++ quY h.a hb h0 (hY h1) ++ quN h.b.1 hb h0 (hN h2)) (Ns:=[]) (m:=2000) Tryz.func245 hmA (fun β=>by kernel_rfl) (by kernel_rfl) β w hh
  · rw [ciA,(ci_not (m:=rqd f (rbyQ i j f)) fun e=>h1 e.1).1,(ci_not (m:=rqd f (rbyQ i j f)) fun e=>h1 e.1).2]
    cases i
    · exact spec_auto (args:=[rgV 0]) (obs:=rgT f) (news:=[]) (evs:=poE h hp ++ byE f false j hi hj h0 ++ quN h.a hb h0 (hN h1)) (Ns:=[]) (m:=2000) Tryz.func245 hmA (fun β=>by kernel_rfl) (by kernel_rfl) β w hh
    · cases j <;> exact spec_auto (args:=[rgV 0]) (obs:=rgT f) (news:=[]) (evs:=poE h hp ++ byE f true _ hi hj h0 ++ quN h.a hb h0 (hN h1)) (Ns:=[]) (m:=2000) Tryz.func245 hmA (fun β=>by kernel_rfl) (by kernel_rfl) β w hh
noncomputable def mxR (r : RQ) (x : Rat) : R4:=bif wtB r then r40 else ciR (rone r) x
noncomputable def mxK (r : RQ) : Int:=bif wtB r then 7 else ciK (rone r)
noncomputable abbrev mxC (r : RQ) : List Lf:=rL (mxR r (rone r).a) ++ rL (mxR r (rone r).b.re) ++ rL (mxR r (rone r).b.im) ++ rL (mxR r (rone r).c)
theorem mx_no {r : RQ} (h : wtB r = true) : mxC r = c0C ∧ mxK r = 7:=⟨by simp only [mxC,mxR,h,cond_true],by rw [mxK,h]; rfl⟩
theorem mx_yes {r : RQ} (h : wtB r = false) : mxC r = ciC (rone r) ∧ mxK r = ciK (rone r):=⟨by simp only [mxC,mxR,h,cond_false],by rw [mxK,h]; rfl⟩
noncomputable abbrev mxA (r : RQ) : SV:=.tup [.a (mxC r),nI' (mxK r)]
noncomputable def sMtCircle {f : RQ} (h : RSz KF f) : Spec Tryz.prog :=
  ⟨245,Tryz.call245,[rgV 0],rgT f,mxA f,[],fun β w hh=>by
    have hr : decide ((fpr f f).num.sign ≤ 0) = wtB f:=by rw [rpow_fpr]; rfl
    cases hp : wtB f with
    | true =>
      rw [mxA,(mx_no hp).1,(mx_no hp).2]
      exact spec_auto (args:=[rgV 0]) (obs:=rgT f) (news:=[]) (evs:=poE h (hr.trans hp)) (Ns:=[]) (m:=800) Tryz.func245 hmA (fun β=>by kernel_rfl) (by kernel_rfl) β w hh
    | false =>
      rw [mxA,(mx_yes hp).1,(mx_yes hp).2]
      have:=circle_ok h rfl rfl (rby_ne hp) (hr.trans hp) β w hh
      rw [rqd_eq] at this
      exact this,by kernel_rfl⟩
def fsq (f g : RQ) : Rat:=fpr f g * fpr f g / (fpr f f * fpr g g)
noncomputable def sMtSq {f g : RQ} (hf : RSz KF f) (hg : RSz KF g) (h0 : fpr f f * fpr g g ≠ 0) : Spec Tryz.prog :=
  Spec.auto Tryz.call151 [rgV 0,rgV 4] (rgT f ++ rgT g) (rV 8) [ratT (fsq f g)]
    [(sMtProd hf hg).e,(sMtMul ((fpr_sz hf hg).mono (by decide)) ((fpr_sz hf hg).mono (by decide))).e,(sMtProd hf hf).e,(sMtProd hg hg).e,(sMtMul ((fpr_sz hf hf).mono (by decide)) ((fpr_sz hg hg).mono (by decide))).e,
      (sMtQuo (((fpr_sz hf hg).mul (fpr_sz hf hg)).mono (by decide)) (((fpr_sz hf hf).mul (fpr_sz hg hg)).mono (by decide)) h0).e] [(2,12)] 600 Tryz.func151 hmA (by kernel_rfl) (fun β=>by kernel_rfl)
noncomputable def sMtOf {r : RQ} (h : FitC r) : Spec Tryz.prog :=
  Spec.auto Tryz.call115 [.one (.a (cC r))] [] (rgV 0) (rgT r) [(sRatIn h.1).e,(sRatIn h.2.1.1).e,(sRatIn h.2.1.2).e,(sRatIn h.2.2).e] [] 800 Tryz.func115 hmA (by kernel_rfl) (fun β=>by kernel_rfl)
abbrev axQ (f g : RQ) : RQ:=pls f g (Rat.divInt 1 1) (Rat.divInt (-1) 1)
abbrev nil4V : SC:=.a [nilL,nilL,nilL,nilL]
end Go.Proofs.YtimfgjcidigbiaaGreat.Y
end
section
namespace Go.Proofs.YtimfgjcidigbiaaGreat.Y
open Go Go.RowKit
set_option maxRecDepth 100000
abbrev FRT : TypeId:=168
theorem form_some : (Tryz.prog.info? 168).isSome = true:=by kernel_rfl
noncomputable def appF : AppT Tryz.prog :=
  ⟨193,168,(Tryz.prog.info? 168).get form_some,.agg #[.pointer none,.pointer none,.pointer none,.pointer none],4,32,Tryz.underlying193,(Option.some_get form_some).symm,by kernel_rfl,by kernel_rfl,by kernel_rfl,rfl,by decide,by decide⟩
def frCd (f : RQ) : List Cd:=[.t f.a,.t f.b.re,.t f.b.im,.t f.c]
theorem str_no_rat {w : World} {b : Nat} {c0 : Value} {b1 : ByteArray} {l : List Value} {t : TypeId} {x : Rat} (h : w.heap[b]? = some (.cells (c0 :: .string b1 :: l).toArray t (0,0))) (k : RatAt w b 0 x) : False:=by
  obtain ⟨A,m,cap,_,h1,_⟩:=k.2.1.open_
  have h2:=cell_lay (o:=1) h rfl
  rw [Nat.zero_add,h2] at h1
  cases h1
theorem or_cdT {w : World} {g G : Pl} {x : Rat} {i : Nat} (h : PR x w g) (hv : G.v i = g.v 0) (hF : ∀ c,g.F c → G.F c) : cdP w G i (.t x):=by
  obtain ⟨b,h1,h2⟩:=h
  exact ⟨b,hv.trans h1.1,hF b ((h1.2 b).2 rfl),h2⟩
theorem cellPl_pr {w : World} {g : Pl} {i : Nat} {x : Rat} (h : cdP w g i (.t x)) : PR x w (cellPl g i):=by
  obtain ⟨b,h1,h2,h3⟩:=h
  exact ⟨b,⟨h1,fun c=>⟨fun ⟨a,ha,hc⟩=>by rw [h1] at ha; cases ha; exact hc,fun hc=>⟨_,h1,hc⟩⟩⟩,h3⟩
theorem cellPl_Ft {w : World} {g : Pl} {i : Nat} {x : Rat} (h : cdP w g i (.t x)) {c : Nat} (hc : (cellPl g i).F c) : g.F c:=by
  obtain ⟨a,ha,rfl⟩:=hc
  obtain ⟨b,h1,h2,h3⟩:=h
  rw [h1] at ha; cases ha; exact h2
def zsL (n : Nat) : Nat → Nat → List Lf
  | _,0=>[]
  | i,m + 1=>lit (n + i) (fun j=>.b (.z j 0)) :: zsL n (i + 1) m
theorem den_zsL (β : Env) (n : Nat) (ps : List Pl) : ∀ (m i : Nat),i + m = ps.length → (zsL n i m).map (Lf.den (extE β n ps)) = (ps.drop i).map fun p=>.pointer (p.v 0)
  | 0,i,h=>by rw [List.drop_eq_nil_of_le (by omega)]; rfl
  | m + 1,i,h=>by
    have hi : i < ps.length:=by omega
    unfold zsL
    rw [lit_eq,List.drop_eq_getElem_cons hi,List.map_cons,List.map_cons,den_zsL β n ps m (i + 1) (by omega)]
    congr 1
    show Value.pointer ((extE β n ps (n + i)).v 0) = _
    rw [extE_in (List.getElem?_eq_getElem hi)]
def isT : Cd → Bool
  | .t _=>true
  | _=>false
def rtOf : Cd → Rat
  | .t x=>x
  | _=>0
theorem isT_iff {c : Cd} (h : isT c = true) : c = .t (rtOf c):=by cases c <;> first | rfl | cases h
def plsOf (g : Pl) : Nat → Nat → List Pl
  | _,0=>[]
  | o,m + 1=>cellPl g o :: plsOf g (o + 1) m
theorem plsOf_len (g : Pl) : ∀ (m o : Nat),(plsOf g o m).length = m
  | 0,_=>rfl
  | m + 1,o=>congrArg (· + 1) (plsOf_len g m (o + 1))
def rtsAt (cs : List Cd) : Nat → Nat → List Rat
  | _,0=>[]
  | o,m + 1=>rtOf (cs.getD o (.v undef)) :: rtsAt cs (o + 1) m
def okT (cs : List Cd) : Nat → Nat → Bool
  | _,0=>true
  | o,m + 1=>isT (cs.getD o (.v undef)) && okT cs (o + 1) m
theorem okT_at {cs : List Cd} : ∀ {m o j : Nat},okT cs o m = true → j < m → cs[o + j]? = some (.t (rtOf (cs.getD (o + j) (.v undef))))
  | m + 1,o,0,h,_=>by
    unfold okT at h
    rw [Bool.and_eq_true] at h
    rw [Nat.add_zero]
    have h1:=isT_iff h.1
    have hlt : o < cs.length:=by
      rcases Nat.lt_or_ge o cs.length with hlt | hge
      · exact hlt
      · rw [List.getD_eq_getElem?_getD,List.getElem?_eq_none hge] at h
        cases h.1
    rw [List.getElem?_eq_getElem hlt]
    rw [List.getD_eq_getElem?_getD,List.getElem?_eq_getElem hlt,Option.getD_some] at h1 ⊢
    exact congrArg some h1
  | m + 1,o,j + 1,h,hj=>by
    unfold okT at h
    rw [Bool.and_eq_true] at h
    have:=okT_at (m:=m) (o:=o + 1) (j:=j) h.2 (by omega)
    rw [show o + (j + 1) = o + 1 + j by omega]
    exact this
theorem plsOf_hold {cs : List Cd} {w : World} {g : Pl} (hc : cdOk w g 0 cs) : ∀ {m o : Nat},okT cs o m = true → newHold w ((rtsAt cs o m).map ratT) (plsOf g o m) ∧ ∀ p ∈ plsOf g o m,∀ c,p.F c → g.F c
  | 0,o,_=>⟨trivial,fun p hp=>by cases hp⟩
  | m + 1,o,h=>by
    have h1:=okT_at (m:=m + 1) (o:=o) (j:=0) h (by omega)
    rw [Nat.add_zero] at h1
    have hp:=cdOk_at hc h1
    rw [Nat.zero_add] at hp
    unfold okT at h
    rw [Bool.and_eq_true] at h
    obtain ⟨h2,h3⟩:=plsOf_hold hc (m:=m) (o:=o + 1) h.2
    refine ⟨⟨cellPl_pr hp,h2⟩,fun p hq c hF=>?_⟩
    rcases List.mem_cons.1 hq with rfl | hq
    · exact cellPl_Ft hp hF
    · exact h3 p hq c hF
theorem plsOf_get (g : Pl) : ∀ (m o j : Nat),j < m → (plsOf g o m)[j]? = some (cellPl g (o + j))
  | m + 1,o,0,_=>rfl
  | m + 1,o,j + 1,h=>by
    have:=plsOf_get g m (o + 1) j (by omega)
    rw [show o + (j + 1) = o + 1 + j by omega]
    exact this
noncomputable def rdCells (T : TypeId) (m : Nat) (hu : ∃ d,Tryz.prog.underlying T = some d ∧ d.isRow = true) (hi : (Tryz.prog.info? T).map (·.size) = some m) (d t : Nat) (e : TypeId) (cs : List Cd) (o : Nat) (hx : okT cs o m = true) (k n : Nat) : Ev Tryz.prog :=
  .rd d (.load T (.tmp t)) (fun β=>[.pointer (some ⟨(β k).b,o,none⟩)]) [(k,(rowT e cs).ob)] n (.one (.a (zsL n 0 m))) ((rtsAt cs o m).map ratT) (fun β w h ρ op ho hx'=>by
    have h1 : RW e cs w (β k):=h (k,(rowT e cs).ob) (by simp)
    have h2 : ρ (.tmp t) = .pointer (some ⟨(β k).b,o,none⟩):=by simpa [Op.operands] using hx'
    obtain ⟨h3,h4⟩:=plsOf_hold h1.2.1.1 hx
    refine ⟨plsOf (β k) o m,w,fun g hg c hc=>.inr ⟨(k,(rowT e cs).ob),by simp,rfl,h4 g hg c hc⟩,?_,h3,Below.refl _ _⟩
    have hr : w.rangeAt (β k).b o ((plsOf (β k) o m).map fun p=>.pointer (p.v 0)):=fun j v hv=>by
      rw [List.getElem?_map] at hv
      by_cases hj : j < m
      · rw [plsOf_get _ _ _ _ hj] at hv
        obtain rfl:=Option.some.inj hv
        exact rw_cell h1 (okT_at hx hj)
      · rw [List.getElem?_eq_none (by rw [plsOf_len]; omega)] at hv
        cases hv
    obtain ⟨dd,hu1,hu2⟩:=hu
    have hl:=run_loadAt_mid (P:=Tryz.prog) w (β k).b o T _ dd hr hu1 hu2 (by rw [List.length_map,plsOf_len]; exact hi)
    have hden : (SV.one (.a (zsL n 0 m))).den (extE β n (plsOf (β k) o m)) = .agg ((plsOf (β k) o m).map fun p=>Value.pointer (p.v 0)).toArray:=by
      show Value.agg _ = _
      rw [den_zsL β n (plsOf (β k) o m) m 0 (by rw [plsOf_len]; omega),List.drop_zero]
    rw [hden]
    unfold execOp
    rw [ho]
    simp only [h2]
    simp [hl,Result.andThen])
theorem form_u : ∃ d,Tryz.prog.underlying 168 = some d ∧ d.isRow = true:=⟨_,Tryz.underlying168,by kernel_rfl⟩
theorem form_i : (Tryz.prog.info? 168).map (·.size) = some 4:=by kernel_rfl
theorem form3_u : ∃ d,Tryz.prog.underlying 210 = some d ∧ d.isRow = true:=⟨_,Tryz.underlying210,by kernel_rfl⟩
theorem form3_i : (Tryz.prog.info? 210).map (·.size) = some 12:=by kernel_rfl
noncomputable def dCells (T : TypeId) (m : Nat) (hu : ∃ d,Tryz.prog.underlying T = some d ∧ d.isRow = true) (hi : (Tryz.prog.info? T).map (·.size) = some m) (e : TypeId) (cs : List Cd) : Ev Tryz.prog:=.dyn (fun o xs ob=>match o.op with
  | .load T' (.tmp _)=>Nat.beq T' T && isAd (xs.getD 0 undefS) && (match ob[(adOf (xs.getD 0 undefS)).1]? with | some (.th _)=>true | _=>false)
  | _=>false) fun o xs ob=>match o.op with
  | .load _ (.tmp t)=>lit (adOf (xs.getD 0 undefS)).1 fun k=>lit (adOf (xs.getD 0 undefS)).2 fun off=>lit ob.length fun n=>if h : okT cs off m = true then rdCells T m hu hi (o.dst.getD 0) t e cs off h k n else .eqv 0 undef undef rfl
  | _=>.eqv 0 undef undef rfl
noncomputable def dForm (cs : List Cd) : Ev Tryz.prog:=dCells 168 4 form_u form_i FRT cs
noncomputable def dForm3 (cs : List Cd) : Ev Tryz.prog:=dCells 210 12 form3_u form3_i FRT cs
noncomputable def rdIdxF (d t : Nat) (e : TypeId) (cs : List Cd) (ix : Operand) (n j : Nat) (hj : Nat.blt j n = true) (k : Nat) : Ev Tryz.prog :=
  .rd d (.indexAddr 193 (.tmp t) ix) (fun β=>[.slice ((β k).v cs.length) n ((β k).c cs.length),.int .i64 (j : Int)]) [(k,(rowT e cs).ob)] 0 (.one (.c (.b (.p k (j * 4))))) [] (fun β w h ρ op ho hx'=>by
    have h1 : RW e cs w (β k):=h (k,(rowT e cs).ob) (by simp)
    have h2 : ρ (.tmp t) = .slice (some ⟨(β k).b,0,none⟩) n ((β k).c cs.length) ∧ ρ ix = .int .i64 (j : Int):=by
      rw [h1.2.1.2] at hx'
      simpa [Op.operands] using hx'
    rw [Nat.blt_eq] at hj
    refine ⟨[],w,(fun _ h=>by cases h),?_,trivial,Below.refl _ _⟩
    rw [extE_nil]
    unfold execOp
    rw [ho]
    simp only [h2.1,h2.2]
    have hi:=run_indexAt_slice (P:=Tryz.prog) w 193 ⟨(β k).b,0,none⟩ n ((β k).c cs.length) .i64 (j : Int) (by kernel_rfl)
    have hsz : (sizeOf (Tryz.prog.elem 193)).run Tryz.prog w = .ok 4 w:=by kernel_rfl
    rw [if_pos ⟨by omega,by omega⟩,hsz,Result.andThen_ok,Int.toNat_natCast] at hi
    have ha : (⟨(β k).b,0,none⟩ : Addr).add (j * 4) = ⟨(β k).b,j * 4,none⟩:=by
      simp [Addr.add]
      exact fun h=>h.symm
    rw [ha] at hi
    simp only [Sem.run_bind,hi,Result.andThen_ok]
    rfl)
noncomputable def dIdxF (cs : List Cd) : Ev Tryz.prog:=.dyn (fun o xs ob=>match o.op with
  | .indexAddr _ (.tmp _) _=>isY (xs.getD 0 undefS)
  | _=>false) fun o xs ob=>match o.op with
  | .indexAddr _ (.tmp t) ix=>lit (yOf (xs.getD 0 undefS)).1 fun k=>lit (yOf (xs.getD 0 undefS)).2 fun n=>lit (intS (xs.getD 1 undefS)) fun j=>if h : Nat.blt j n = true then rdIdxF (o.dst.getD 0) t FRT cs ix n j h k else .eqv 0 undef undef rfl
  | _=>.eqv 0 undef undef rfl
noncomputable def rdArr3 (d t : Nat) (e : TypeId) (cs : List Cd) (n : Nat) (hn : Nat.blt n 3 = false) (k : Nat) : Ev Tryz.prog :=
  .rd d (.sliceToArrayPointer 210 (.tmp t)) (fun β=>[.slice ((β k).v cs.length) n ((β k).c cs.length)]) [(k,(rowT e cs).ob)] 0 (.one (.c (.b (.p k 0)))) [] (fun β w h ρ op ho hx'=>by
    have h1 : RW e cs w (β k):=h (k,(rowT e cs).ob) (by simp)
    have h2 : ρ (.tmp t) = .slice (some ⟨(β k).b,0,none⟩) n ((β k).c cs.length):=by
      rw [h1.2.1.2] at hx'
      simpa [Op.operands] using hx'
    have hn' : ¬ n < 3:=by rw [← Nat.blt_eq,hn]; exact Bool.false_ne_true
    refine ⟨[],w,(fun _ h=>by cases h),?_,trivial,Below.refl _ _⟩
    rw [extE_nil]
    unfold execOp
    rw [ho]
    simp only [h2]
    have hu:=Tryz.underlying210
    simp [Instr.arrayAt,hu,hn',Result.andThen]
    first | rfl | exact ⟨rfl,rfl⟩)
noncomputable def dArr3 (cs : List Cd) : Ev Tryz.prog:=.dyn (fun o xs ob=>match o.op with
  | .sliceToArrayPointer _ (.tmp _)=>isY (xs.getD 0 undefS)
  | _=>false) fun o xs ob=>match o.op with
  | .sliceToArrayPointer _ (.tmp t)=>lit (yOf (xs.getD 0 undefS)).1 fun k=>lit (yOf (xs.getD 0 undefS)).2 fun n=>if h : Nat.blt n 3 = false then rdArr3 (o.dst.getD 0) t FRT cs n h k else .eqv 0 undef undef rfl
  | _=>.eqv 0 undef undef rfl
abbrev fr2 (f0 f1 : RQ) : List Cd:=frCd f0 ++ frCd f1
abbrev oc2A : List SV:=[.one (.c (.b (.s 0 0 2 2)))]
def oc2L (f0 f1 : RQ) : List Lf:=cC f0 ++ cC f1
def oc2O (f0 f1 : RQ) : List (Nat × Ob):=[(14,.row [.b (.z 2 0),.b (.z 3 0),.b (.z 4 0),.b (.z 5 0),.b (.z 9 0),.b (.z 10 0),.b (.z 11 0),.b (.z 12 0)] FRT 2 4),(2,(ratT f0.a).ob),(3,(ratT f0.b.re).ob),(4,(ratT f0.b.im).ob),(5,(ratT f0.c).ob),(9,(ratT f1.a).ob),(10,(ratT f1.b.re).ob),(11,(ratT f1.b.im).ob),(12,(ratT f1.c).ob)]
noncomputable def oc2E {f0 f1 : RQ} (hf0 : MayC f0) (hf1 : MayC f1) : List (Ev Tryz.prog):=[(sCCheck hf0).e,(sMtOf hf0.fit).e,.app appF,(sCCheck hf1).e,(sMtOf hf1.fit).e,.app appF]
theorem oc2_eqs {f0 f1 : RQ} (hf0 : MayC f0) (hf1 : MayC f1) (β : Env) : (allS Tryz.prog Tryz.f152 oc2A [.box (oc2L f0 f1) 50] (oc2E hf0 hf1) [] 1200 (.tup [.c (.b (.r 14 2)),nI' 0]) (oc2O f0 f1) β).map Prod.fst = (allS Tryz.prog Tryz.f152 oc2A [.box (oc2L f0 f1) 50] (oc2E hf0 hf1) [] 1200 (.tup [.c (.b (.r 14 2)),nI' 0]) (oc2O f0 f1) β).map Prod.snd:=by kernel_rfl
theorem open2_ok {f0 f1 : RQ} (hf0 : MayC f0) (hf1 : MayC f1) (β : Env) (w : World) (hh : (Ob.box (oc2L f0 f1) 50).holds β w (β 0)) :
    Calls Tryz.prog 152 (oc2A.map (SV.den β)).toArray w fun e u=>∃ xs : List Pl,(∀ x ∈ xs,∀ c,x.F c → w.heap.size ≤ c) ∧ e = .returned ((SV.tup [.c (.b (.y 1 8 2)),nI' 0]).den (extE β 1 xs)) ∧ newHold u [rowT FRT (fr2 f0 f1)] xs ∧ Below w.heap.size w u:=by
  refine (sx (P:=Tryz.prog) oc2A [.box (oc2L f0 f1) 50] (oc2E hf0 hf1) [] 1200 (.tup [.c (.b (.r 14 2)),nI' 0]) (oc2O f0 f1) Tryz.func152 hmA (fun β=>ok_of_maps (oc2_eqs hf0 hf1 β)) (by kernel_rfl) (by kernel_rfl) β w (fun k o ho=>?_)).mono ?_
  · cases k with
    | zero=>simp only [List.getElem?_cons_zero] at ho; obtain rfl:=Option.some.inj ho; exact hh
    | succ k=>simp at ho
  · rintro e u ⟨β',q',obj,e1,rfl,e2,e4,e5,g⟩
    have hnew : ∀ y ∈ oc2O f0 f1,∀ c,(β' y.1).F c → c ≠ (β 0).b → w.heap.size ≤ c:=fun y hy c hc hne=>by
      rcases e4 y hy c hc with h | ⟨i,hi,h⟩
      · exact h
      · obtain rfl : i = 0:=by simp only [List.length_singleton] at hi; omega
        exact absurd ((hh.1.1 c).1 h) hne
    have hu : u.heap[(β 0).b]? = some (.cells ((oc2L f0 f1).map (Lf.den β)).toArray 50 (0,0)):=by rw [g.bel.block _ (heap_lt hh.2)]; exact hh.2
    have hrat : ∀ (k : Nat) (x : Rat),(k,(ratT x).ob) ∈ oc2O f0 f1 → PR x u (β' k) ∧ ∀ c,(β' k).F c → w.heap.size ≤ c:=fun k x hk=>by
      have h : PR x u (β' k):=e5 _ hk
      refine ⟨h,fun c hc=>?_⟩
      obtain ⟨b,hb,hx⟩:=h
      have ec:=(hb.2 c).1 hc
      subst ec
      refine hnew _ hk c hc fun e=>?_
      rw [e] at hx
      exact str_no_rat hu hx
    obtain ⟨o2,n2⟩:=hrat 2 f0.a (by simp [oc2O])
    obtain ⟨o3,n3⟩:=hrat 3 f0.b.re (by simp [oc2O])
    obtain ⟨o4,n4⟩:=hrat 4 f0.b.im (by simp [oc2O])
    obtain ⟨o5,n5⟩:=hrat 5 f0.c (by simp [oc2O])
    obtain ⟨o9,n9⟩:=hrat 9 f1.a (by simp [oc2O])
    obtain ⟨o10,n10⟩:=hrat 10 f1.b.re (by simp [oc2O])
    obtain ⟨o11,n11⟩:=hrat 11 f1.b.im (by simp [oc2O])
    obtain ⟨o12,n12⟩:=hrat 12 f1.c (by simp [oc2O])
    obtain ⟨hone,cur,hcur,hcl,hn,hcm,hsz,htake⟩:=e5 (14,.row [.b (.z 2 0),.b (.z 3 0),.b (.z 4 0),.b (.z 5 0),.b (.z 9 0),.b (.z 10 0),.b (.z 11 0),.b (.z 12 0)] FRT 2 4) (by simp [oc2O])
    have hbR : w.heap.size ≤ (β' 14).b:=hnew _ (by simp [oc2O]) _ ((hone.1 _).2 rfl) fun e=>by
      rw [e,hu] at hcur
      have:=(Obj.cells.inj (Option.some.inj hcur)).2.1
      exact absurd this (by decide)
    refine ⟨[⟨(β' 14).b,fun i=>match i with | 0=>(β' 2).v 0 | 1=>(β' 3).v 0 | 2=>(β' 4).v 0 | 3=>(β' 5).v 0 | 4=>(β' 9).v 0 | 5=>(β' 10).v 0 | 6=>(β' 11).v 0 | 7=>(β' 12).v 0 | 8=>some ⟨(β' 14).b,0,none⟩ | _=>none,fun _=>(β' 14).c 0,fun c=>c = (β' 14).b ∨ (β' 2).F c ∨ (β' 3).F c ∨ (β' 4).F c ∨ (β' 5).F c ∨ (β' 9).F c ∨ (β' 10).F c ∨ (β' 11).F c ∨ (β' 12).F c,fun _=>undef⟩],fun x hx c hc=>?_,rfl,⟨⟨⟨.inl rfl,cur,hcur,?_⟩,⟨⟨or_cdT o2 rfl fun c hc=>.inr (.inl hc),or_cdT o3 rfl fun c hc=>.inr (.inr (.inl hc)),or_cdT o4 rfl fun c hc=>.inr (.inr (.inr (.inl hc))),or_cdT o5 rfl fun c hc=>.inr (.inr (.inr (.inr (.inl hc)))),or_cdT o9 rfl fun c hc=>.inr (.inr (.inr (.inr (.inr (.inl hc))))),or_cdT o10 rfl fun c hc=>.inr (.inr (.inr (.inr (.inr (.inr (.inl hc)))))),or_cdT o11 rfl fun c hc=>.inr (.inr (.inr (.inr (.inr (.inr (.inr (.inl hc))))))),or_cdT o12 rfl fun c hc=>.inr (.inr (.inr (.inr (.inr (.inr (.inr (.inr hc))))))),trivial⟩,rfl⟩,fun c hc=>?_⟩,trivial⟩,g.bel⟩
    · obtain rfl:=List.mem_singleton.1 hx
      rcases hc with rfl | hc | hc | hc | hc | hc | hc | hc | hc
      · exact hbR
      · exact n2 c hc
      · exact n3 c hc
      · exact n4 c hc
      · exact n5 c hc
      · exact n9 c hc
      · exact n10 c hc
      · exact n11 c hc
      · exact n12 c hc
    · have : (fr2 f0 f1).length = 2 * 4:=rfl
      rw [this,htake]
      rfl
    · rcases hc with rfl | hc | hc | hc | hc | hc | hc | hc | hc
      · exact heap_lt hcur
      · exact (pr_stable _).lt u _ o2 c hc
      · exact (pr_stable _).lt u _ o3 c hc
      · exact (pr_stable _).lt u _ o4 c hc
      · exact (pr_stable _).lt u _ o5 c hc
      · exact (pr_stable _).lt u _ o9 c hc
      · exact (pr_stable _).lt u _ o10 c hc
      · exact (pr_stable _).lt u _ o11 c hc
      · exact (pr_stable _).lt u _ o12 c hc
noncomputable def sOpen2 {f0 f1 : RQ} (hf0 : MayC f0) (hf1 : MayC f1) : CSpec Tryz.prog :=
  ⟨152,Tryz.call152,oc2A,oc2L f0 f1,50,.tup [.c (.b (.y 1 8 2)),nI' 0],[rowT FRT (fr2 f0 f1)],open2_ok hf0 hf1,by kernel_rfl⟩
def oq2L (p0 p1 : Cp) : List Lf:=p0.L ++ p1.L
abbrev fr3 (f0 f1 f2 : RQ) : List Cd:=frCd f0 ++ frCd f1 ++ frCd f2
abbrev oc3A : List SV:=[.one (.c (.b (.s 0 0 3 3)))]
def oc3L (f0 f1 f2 : RQ) : List Lf:=cC f0 ++ cC f1 ++ cC f2
def oc3O (f0 f1 f2 : RQ) : List (Nat × Ob):=[(21,.row [.b (.z 2 0),.b (.z 3 0),.b (.z 4 0),.b (.z 5 0),.b (.z 9 0),.b (.z 10 0),.b (.z 11 0),.b (.z 12 0),.b (.z 16 0),.b (.z 17 0),.b (.z 18 0),.b (.z 19 0)] FRT 3 4),(2,(ratT f0.a).ob),(3,(ratT f0.b.re).ob),(4,(ratT f0.b.im).ob),(5,(ratT f0.c).ob),(9,(ratT f1.a).ob),(10,(ratT f1.b.re).ob),(11,(ratT f1.b.im).ob),(12,(ratT f1.c).ob),(16,(ratT f2.a).ob),(17,(ratT f2.b.re).ob),(18,(ratT f2.b.im).ob),(19,(ratT f2.c).ob)]
noncomputable def oc3E {f0 f1 f2 : RQ} (hf0 : MayC f0) (hf1 : MayC f1) (hf2 : MayC f2) : List (Ev Tryz.prog):=[(sCCheck hf0).e,(sMtOf hf0.fit).e,.app appF,(sCCheck hf1).e,(sMtOf hf1.fit).e,.app appF,(sCCheck hf2).e,(sMtOf hf2.fit).e,.app appF]
theorem oc3_eqs {f0 f1 f2 : RQ} (hf0 : MayC f0) (hf1 : MayC f1) (hf2 : MayC f2) (β : Env) : (allS Tryz.prog Tryz.f152 oc3A [.box (oc3L f0 f1 f2) 50] (oc3E hf0 hf1 hf2) [] 1200 (.tup [.c (.b (.r 21 3)),nI' 0]) (oc3O f0 f1 f2) β).map Prod.fst = (allS Tryz.prog Tryz.f152 oc3A [.box (oc3L f0 f1 f2) 50] (oc3E hf0 hf1 hf2) [] 1200 (.tup [.c (.b (.r 21 3)),nI' 0]) (oc3O f0 f1 f2) β).map Prod.snd:=by kernel_rfl
theorem open3_ok {f0 f1 f2 : RQ} (hf0 : MayC f0) (hf1 : MayC f1) (hf2 : MayC f2) (β : Env) (w : World) (hh : (Ob.box (oc3L f0 f1 f2) 50).holds β w (β 0)) :
    Calls Tryz.prog 152 (oc3A.map (SV.den β)).toArray w fun e u=>∃ xs : List Pl,(∀ x ∈ xs,∀ c,x.F c → w.heap.size ≤ c) ∧ e = .returned ((SV.tup [.c (.b (.y 1 12 3)),nI' 0]).den (extE β 1 xs)) ∧ newHold u [rowT FRT (fr3 f0 f1 f2)] xs ∧ Below w.heap.size w u:=by
  refine (sx (P:=Tryz.prog) oc3A [.box (oc3L f0 f1 f2) 50] (oc3E hf0 hf1 hf2) [] 1200 (.tup [.c (.b (.r 21 3)),nI' 0]) (oc3O f0 f1 f2) Tryz.func152 hmA (fun β=>ok_of_maps (oc3_eqs hf0 hf1 hf2 β)) (by kernel_rfl) (by kernel_rfl) β w (fun k o ho=>?_)).mono ?_
  · cases k with
    | zero=>simp only [List.getElem?_cons_zero] at ho; obtain rfl:=Option.some.inj ho; exact hh
    | succ k=>simp at ho
  · rintro e u ⟨β',q',obj,e1,rfl,e2,e4,e5,g⟩
    have hnew : ∀ y ∈ oc3O f0 f1 f2,∀ c,(β' y.1).F c → c ≠ (β 0).b → w.heap.size ≤ c:=fun y hy c hc hne=>by
      rcases e4 y hy c hc with h | ⟨i,hi,h⟩
      · exact h
      · obtain rfl : i = 0:=by simp only [List.length_singleton] at hi; omega
        exact absurd ((hh.1.1 c).1 h) hne
    have hu : u.heap[(β 0).b]? = some (.cells ((oc3L f0 f1 f2).map (Lf.den β)).toArray 50 (0,0)):=by rw [g.bel.block _ (heap_lt hh.2)]; exact hh.2
    have hrat : ∀ (k : Nat) (x : Rat),(k,(ratT x).ob) ∈ oc3O f0 f1 f2 → PR x u (β' k) ∧ ∀ c,(β' k).F c → w.heap.size ≤ c:=fun k x hk=>by
      have h : PR x u (β' k):=e5 _ hk
      refine ⟨h,fun c hc=>?_⟩
      obtain ⟨b,hb,hx⟩:=h
      have ec:=(hb.2 c).1 hc
      subst ec
      refine hnew _ hk c hc fun e=>?_
      rw [e] at hx
      exact str_no_rat hu hx
    obtain ⟨o2,n2⟩:=hrat 2 f0.a (by simp [oc3O])
    obtain ⟨o3,n3⟩:=hrat 3 f0.b.re (by simp [oc3O])
    obtain ⟨o4,n4⟩:=hrat 4 f0.b.im (by simp [oc3O])
    obtain ⟨o5,n5⟩:=hrat 5 f0.c (by simp [oc3O])
    obtain ⟨o9,n9⟩:=hrat 9 f1.a (by simp [oc3O])
    obtain ⟨o10,n10⟩:=hrat 10 f1.b.re (by simp [oc3O])
    obtain ⟨o11,n11⟩:=hrat 11 f1.b.im (by simp [oc3O])
    obtain ⟨o12,n12⟩:=hrat 12 f1.c (by simp [oc3O])
    obtain ⟨o16,n16⟩:=hrat 16 f2.a (by simp [oc3O])
    obtain ⟨o17,n17⟩:=hrat 17 f2.b.re (by simp [oc3O])
    obtain ⟨o18,n18⟩:=hrat 18 f2.b.im (by simp [oc3O])
    obtain ⟨o19,n19⟩:=hrat 19 f2.c (by simp [oc3O])
    obtain ⟨hone,cur,hcur,hcl,hn,hcm,hsz,htake⟩:=e5 (21,.row [.b (.z 2 0),.b (.z 3 0),.b (.z 4 0),.b (.z 5 0),.b (.z 9 0),.b (.z 10 0),.b (.z 11 0),.b (.z 12 0),.b (.z 16 0),.b (.z 17 0),.b (.z 18 0),.b (.z 19 0)] FRT 3 4) (by simp [oc3O])
    have hbR : w.heap.size ≤ (β' 21).b:=hnew _ (by simp [oc3O]) _ ((hone.1 _).2 rfl) fun e=>by
      rw [e,hu] at hcur
      have:=(Obj.cells.inj (Option.some.inj hcur)).2.1
      exact absurd this (by decide)
    refine ⟨[⟨(β' 21).b,fun i=>match i with | 0=>(β' 2).v 0 | 1=>(β' 3).v 0 | 2=>(β' 4).v 0 | 3=>(β' 5).v 0 | 4=>(β' 9).v 0 | 5=>(β' 10).v 0 | 6=>(β' 11).v 0 | 7=>(β' 12).v 0 | 8=>(β' 16).v 0 | 9=>(β' 17).v 0 | 10=>(β' 18).v 0 | 11=>(β' 19).v 0 | 12=>some ⟨(β' 21).b,0,none⟩ | _=>none,fun _=>(β' 21).c 0,fun c=>c = (β' 21).b ∨ (β' 2).F c ∨ (β' 3).F c ∨ (β' 4).F c ∨ (β' 5).F c ∨ (β' 9).F c ∨ (β' 10).F c ∨ (β' 11).F c ∨ (β' 12).F c ∨ (β' 16).F c ∨ (β' 17).F c ∨ (β' 18).F c ∨ (β' 19).F c,fun _=>undef⟩],fun x hx c hc=>?_,rfl,⟨⟨⟨.inl rfl,cur,hcur,?_⟩,⟨⟨or_cdT o2 rfl fun c hc=>.inr (.inl hc),or_cdT o3 rfl fun c hc=>.inr (.inr (.inl hc)),or_cdT o4 rfl fun c hc=>.inr (.inr (.inr (.inl hc))),or_cdT o5 rfl fun c hc=>.inr (.inr (.inr (.inr (.inl hc)))),or_cdT o9 rfl fun c hc=>.inr (.inr (.inr (.inr (.inr (.inl hc))))),or_cdT o10 rfl fun c hc=>.inr (.inr (.inr (.inr (.inr (.inr (.inl hc)))))),or_cdT o11 rfl fun c hc=>.inr (.inr (.inr (.inr (.inr (.inr (.inr (.inl hc))))))),or_cdT o12 rfl fun c hc=>.inr (.inr (.inr (.inr (.inr (.inr (.inr (.inr (.inl hc)))))))),or_cdT o16 rfl fun c hc=>.inr (.inr (.inr (.inr (.inr (.inr (.inr (.inr (.inr (.inl hc))))))))),or_cdT o17 rfl fun c hc=>.inr (.inr (.inr (.inr (.inr (.inr (.inr (.inr (.inr (.inr (.inl hc)))))))))),or_cdT o18 rfl fun c hc=>.inr (.inr (.inr (.inr (.inr (.inr (.inr (.inr (.inr (.inr (.inr (.inl hc))))))))))),or_cdT o19 rfl fun c hc=>.inr (.inr (.inr (.inr (.inr (.inr (.inr (.inr (.inr (.inr (.inr (.inr hc))))))))))),trivial⟩,rfl⟩,fun c hc=>?_⟩,trivial⟩,g.bel⟩
    · obtain rfl:=List.mem_singleton.1 hx
      rcases hc with rfl | hc | hc | hc | hc | hc | hc | hc | hc | hc | hc | hc | hc
      · exact hbR
      · exact n2 c hc
      · exact n3 c hc
      · exact n4 c hc
      · exact n5 c hc
      · exact n9 c hc
      · exact n10 c hc
      · exact n11 c hc
      · exact n12 c hc
      · exact n16 c hc
      · exact n17 c hc
      · exact n18 c hc
      · exact n19 c hc
    · have : (fr3 f0 f1 f2).length = 3 * 4:=rfl
      rw [this,htake]
      rfl
    · rcases hc with rfl | hc | hc | hc | hc | hc | hc | hc | hc | hc | hc | hc | hc
      · exact heap_lt hcur
      · exact (pr_stable _).lt u _ o2 c hc
      · exact (pr_stable _).lt u _ o3 c hc
      · exact (pr_stable _).lt u _ o4 c hc
      · exact (pr_stable _).lt u _ o5 c hc
      · exact (pr_stable _).lt u _ o9 c hc
      · exact (pr_stable _).lt u _ o10 c hc
      · exact (pr_stable _).lt u _ o11 c hc
      · exact (pr_stable _).lt u _ o12 c hc
      · exact (pr_stable _).lt u _ o16 c hc
      · exact (pr_stable _).lt u _ o17 c hc
      · exact (pr_stable _).lt u _ o18 c hc
      · exact (pr_stable _).lt u _ o19 c hc
noncomputable def sOpen3 {f0 f1 f2 : RQ} (hf0 : MayC f0) (hf1 : MayC f1) (hf2 : MayC f2) : CSpec Tryz.prog :=
  ⟨152,Tryz.call152,oc3A,oc3L f0 f1 f2,50,.tup [.c (.b (.y 1 12 3)),nI' 0],[rowT FRT (fr3 f0 f1 f2)],open3_ok hf0 hf1 hf2,by kernel_rfl⟩
def oq3L (p0 p1 p2 : Cp) : List Lf:=p0.L ++ p1.L ++ p2.L
end Go.Proofs.YtimfgjcidigbiaaGreat.Y
end
section
namespace Go.Proofs.YtimfgjcidigbiaaGreat.Y
open Go Go.RowKit
set_option maxRecDepth 100000
abbrev frS (f : RQ) : SV:=.one (.a (cC f))
abbrev fcS (x : Rat) : SV:=.one (.a (fC x))
abbrev hf2 : Rat:=Rat.divInt 1 2
noncomputable def sR13Of (r : RQ) : Spec Tryz.prog :=
  Spec.auto Tryz.call48 [.one (.a (cC r))] [] (frS r) [] [] [] 400 Tryz.func48 hmA (by kernel_rfl) (fun β=>by kernel_rfl)
noncomputable def sR13Half {x : Rat} (hx : Sz KC x) : Spec Tryz.prog :=
  Spec.auto Tryz.call159 [fcS x] [] (fcS (x * hf2)) [] [(sR3Small 1 2 (by decide) (by decide) (by decide) sz1_le sz2_le).e,(sR3Times (hx.mono (by decide)) (hf_sz.mono (by decide))).e] [(1,3)] 400 Tryz.func159 hmA (by kernel_rfl) (fun β=>by kernel_rfl)
theorem half_eq (x : Rat) : x * hf2 = x / Rat.divInt 2 1:=by
  have h1 : hf2 = (Rat.divInt 2 1)⁻¹:=of_decide_eq_true (by kernel_rfl : decide (hf2 = (Rat.divInt 2 1)⁻¹) = true)
  rw [Rat.div_def,h1]
abbrev KG : Nat:=60000
def fprR (f g : RQ) : Rat:=f.b.re * g.b.re + f.b.im * g.b.im - (f.a * g.c + f.c * g.a) * hf2
theorem fprR_eq (f g : RQ) : fprR f g = fpr f g:=by unfold fprR fpr; rw [half_eq]
noncomputable def sR13Prod {f g : RQ} (hf : RSz KG f) (hg : RSz KG g) : Spec Tryz.prog :=
  (Spec.auto Tryz.call56 [frS f,frS g] [] (fcS (fprR f g)) []
    [(sR3Times (hf.b.1.mono (by decide)) (hg.b.1.mono (by decide))).e,(sR3Times (hf.b.2.mono (by decide)) (hg.b.2.mono (by decide))).e,(sR3Plus ((hf.b.1.mul hg.b.1).mono (by decide)) ((hf.b.2.mul hg.b.2).mono (by decide))).e,
      (sR3Times (hf.a.mono (by decide)) (hg.c.mono (by decide))).e,(sR3Times (hf.c.mono (by decide)) (hg.a.mono (by decide))).e,(sR3Plus ((hf.a.mul hg.c).mono (by decide)) ((hf.c.mul hg.a).mono (by decide))).e,
      (sR13Half (((hf.a.mul hg.c).add (hf.c.mul hg.a)).mono (by decide))).e,(sR3Minus (((hf.b.1.mul hg.b.1).add (hf.b.2.mul hg.b.2)).mono (by decide)) ((((hf.a.mul hg.c).add (hf.c.mul hg.a)).mul hf_sz).mono (by decide))).e]
    [(1,12),(2,12),(3,4)] 800 Tryz.func56 hmA (by kernel_rfl) (fun β=>by kernel_rfl)).conv (fcS (fpr f g)) (congrArg fcS (fprR_eq f g))
noncomputable def sR13Sq {f g : RQ} (hf : RSz KG f) (hg : RSz KG g) (h0 : fpr f f * fpr g g ≠ 0) : Spec Tryz.prog :=
  Spec.auto Tryz.call58 [frS f,frS g] [] (fcS (fsq f g)) []
    [(sR13Of f).e,(sR13Of g).e,(sR13Prod hf hg).e,(sR3Times ((fpr_sz hf hg).mono (by decide)) ((fpr_sz hf hg).mono (by decide))).e,(sR13Prod hf hf).e,(sR13Prod hg hg).e,(sR3Times ((fpr_sz hf hf).mono (by decide)) ((fpr_sz hg hg).mono (by decide))).e,
      (sR3Over (((fpr_sz hf hg).mul (fpr_sz hf hg)).mono (by decide)) (((fpr_sz hf hf).mul (fpr_sz hg hg)).mono (by decide)) h0).e] [(1,6),(3,11)] 800 Tryz.func58 hmA (by kernel_rfl) (fun β=>by kernel_rfl)
noncomputable def mxE {x y s t : Rat} (hx : Sz KG x) (hy : Sz KG y) (hs : Sz KG s) (ht : Sz KG t) : List (Ev Tryz.prog) :=
  [(sR3Times (hs.mono (by decide)) (hx.mono (by decide))).e,(sR3Times (ht.mono (by decide)) (hy.mono (by decide))).e,(sR3Plus ((hs.mul hx).mono (by decide)) ((ht.mul hy).mono (by decide))).e]
noncomputable def sR13Mixed {f g : RQ} {s t : Rat} (hf : RSz KG f) (hg : RSz KG g) (hs : Sz KG s) (ht : Sz KG t) : Spec Tryz.prog :=
  Spec.auto Tryz.call47 [frS f,frS g,fcS s,fcS t] [] (frS (pls f g s t)) [] (mxE hf.a hg.a hs ht ++ mxE hf.b.1 hg.b.1 hs ht ++ mxE hf.b.2 hg.b.2 hs ht ++ mxE hf.c hg.c hs ht) [(5,13)] 1200 Tryz.func47 hmA (by kernel_rfl) (fun β=>by kernel_rfl)
def wxR (r : RQ) (x : Rat) : R4:=bif wtB r then r40 else fR x
abbrev wxC (r : RQ) : List Lf:=rL (wxR r (rone r).a) ++ rL (wxR r (rone r).b.re) ++ rL (wxR r (rone r).b.im) ++ rL (wxR r (rone r).c)
theorem wx_no {r : RQ} (h : wtB r = true) : wxC r = c0C:=by simp only [wxC,wxR,h,cond_true]
theorem wx_yes {r : RQ} (h : wtB r = false) : wxC r = cC (rone r):=by simp only [wxC,wxR,h,cond_false]
abbrev wxA (r : RQ) {b : Bool} (h : wtB r = b) : SV:=.tup [.a (wxC r),.c (.b (.v (.bool (!b))))]
noncomputable def sR13Circle {f : RQ} (h : RSz KG f) {b : Bool} (hb : wtB f = b) : Spec Tryz.prog :=
  ⟨46,Tryz.call46,[frS f],[],wxA f hb,[],fun β w hh=>by
    have hr : decide ((fpr f f).num.sign ≤ 0) = b:=by rw [rpow_fpr]; exact hb
    cases b with
    | true =>
      rw [wxA,wx_no hb]
      exact spec_auto (evs:=[(sR13Prod h h).e,(sR3Sign (x:=fpr f f) rfl).e,.eqv 8 (.bool (decide ((fpr f f).num.sign ≤ 0))) (.bool true) (sgn_le hr)]) (Ns:=[]) (m:=600) Tryz.func46 hmA (fun β=>by kernel_rfl) (by kernel_rfl) β w hh
    | false =>
      rw [wxA,wx_yes hb]
      exact spec_auto (evs:=[(sR13Prod h h).e,(sR3Sign (x:=fpr f f) rfl).e,.eqv 8 (.bool (decide ((fpr f f).num.sign ≤ 0))) (.bool false) (sgn_le hr),(sCNorm1 (h.mono (by decide)) (by rw [← rpow_fpr]; exact hr)).e]) (Ns:=[]) (m:=600) Tryz.func46 hmA (fun β=>by kernel_rfl) (by kernel_rfl) β w hh,by kernel_rfl⟩
noncomputable def sR3CmpK {x y : Rat} (hx : Sz KC x) (hy : Sz KC y) {k : Int} (hk : cmpQ x y = k) : Spec Tryz.prog :=
  (Spec.auto Tryz.call122 [fcS x,fcS y] [] (.one (svI (cmpI (x.num * y.den) (y.num * x.den)))) []
    [eWTimes (Nat.le_trans hx.1 (by decide)) (Nat.le_trans hy.2 (by decide)),eWTimes (Nat.le_trans hy.1 (by decide)) (Nat.le_trans hx.2 (by decide)),eWCmp (Nat.le_trans (sz_mul hx.1 hy.2) (by decide)) (Nat.le_trans (sz_mul hy.1 hx.2) (by decide))] [(1,12)] 400 Tryz.func122 hmA (by kernel_rfl) (fun β=>by kernel_rfl)).conv (.one (svI k)) (congrArg (fun c=>SV.one (svI c)) ((cmpQ_of x y).trans hk))
abbrev one1 : Rat:=Rat.divInt 1 1
theorem fsq_sz {f g : RQ} {k : Nat} (hf : RSz k f) (hg : RSz k g) (h0 : fpr f f * fpr g g ≠ 0) : Sz (psz k k + psz k k + (psz k k + psz k k)) (fsq f g):=div_sz ((fpr_sz hf hg).mul (fpr_sz hf hg)) ((fpr_sz hf hf).mul (fpr_sz hg hg)) h0
abbrev KH : Nat:=1100
def lieK (s : Bool) (c : Int) : Int:=bif s then 0 else if c = -1 then 2 else if c = 0 then 1 else 3
theorem cmpQ_cases (x y : Rat) : cmpQ x y = -1 ∨ cmpQ x y = 0 ∨ cmpQ x y = 1:=by
  unfold cmpQ
  split
  · exact .inl rfl
  · split
    · exact .inr (.inr rfl)
    · exact .inr (.inl rfl)
noncomputable def sR13Lies {f g : RQ} (hf : RSz KH f) (hg : RSz KH g) (h0 : fpr f f * fpr g g ≠ 0) {s : Bool} (hs : eqRone f g = s) {c : Int} (hc : cmpQ (fsq f g) one1 = c) : Spec Tryz.prog :=
  ⟨38,Tryz.call38,[frS f,frS g],[],.one (nI' (lieK s c)),[],fun β w hh=>by
    cases s with
    | true=>exact spec_auto (evs:=[eqEvR f g hs]) (Ns:=[]) (m:=600) Tryz.func38 hmA (fun β=>by kernel_rfl) (by kernel_rfl) β w hh
    | false =>
      rcases cmpQ_cases (fsq f g) one1 with h | h | h <;> rw [hc] at h <;> subst h <;>
        exact spec_auto (evs:=[eqEvR f g hs,(sR13Sq (hf.mono (by decide)) (hg.mono (by decide)) h0).e,(sR3Int 1 (by decide)).e,(sR3CmpK ((fsq_sz hf hg h0).mono (by decide)) (one_sz.mono (by decide)) hc).e]) (Ns:=[]) (m:=600) Tryz.func38 hmA (fun β=>by kernel_rfl) (by kernel_rfl) β w hh,by kernel_rfl⟩
abbrev neg1 : Rat:=-(Rat.divInt 1 1)
theorem neg1_eq : neg1 = Rat.divInt (-1) 1:=of_decide_eq_true (by kernel_rfl : decide (neg1 = Rat.divInt (-1) 1) = true)
theorem one_szH : Sz 8 one1:=one_sz
inductive AxK where
  | both
  | one
  | two
  | none
def axAt (f g : RQ) : AxK → Prop
  | .both=>decide (f.a = 0) = true ∧ decide (g.a = 0) = true
  | .one=>decide (f.a = 0) = true ∧ decide (g.a = 0) = false
  | .two=>decide (f.a = 0) = false ∧ decide (g.a = 0) = true
  | .none=>decide (f.a = 0) = false ∧ decide (g.a = 0) = false
theorem axAt_all (f g : RQ) : ∃ k,axAt f g k:=by
  cases h1 : decide (f.a = 0) <;> cases h2 : decide (g.a = 0)
  · exact ⟨.none,h1,h2⟩
  · exact ⟨.two,h1,h2⟩
  · exact ⟨.one,h1,h2⟩
  · exact ⟨.both,h1,h2⟩
abbrev axR (f g : RQ) : RQ:=pls f g one1 neg1
theorem axR_eq (f g : RQ) : axR f g = axQ f g:=by unfold axR axQ; rw [neg1_eq]
noncomputable def sgnE0 (d : Nat) {x : Rat} {b : Bool} (h : decide (x = 0) = b) : List (Ev Tryz.prog):=[(sR3Sign (x:=x) rfl).e,.eqv d (.bool (x.num.sign == 0)) (.bool b) (sign_lit h)]
def axC (f g : RQ) : AxK → List Lf
  | .both=>c0C
  | .one=>cC f
  | .two=>cC g
  | .none=>wxC (axQ f g)
def axB (f g : RQ) : AxK → Bool
  | .both=>false
  | .one=>true
  | .two=>true
  | .none=>!wtB (axQ f g)
theorem neg_sz1 : Sz 8 neg1:=by rw [neg1_eq]; exact mone8
theorem r13axis_ok {f g : RQ} (hf : RSz KH f) (hg : RSz KH g) (k : AxK) (hk : axAt f g k) (β : Env) (w : World) (hh : ∀ (i : Nat) (t : Thing),([] : List Thing)[i]? = some t → t.D w (β i)) :
    Calls Tryz.prog 57 (([frS f,frS g] : List SV).map (SV.den β)).toArray w fun e w'=>∃ xs : List Pl,freshS β w 0 xs ∧ e = .returned ((SV.tup [.a (axC f g k),.c (.b (.v (.bool (axB f g k))))]).den (extE β 0 xs)) ∧ newHold w' [] xs ∧ Below w.heap.size w w':=by
  cases k with
  | both=>exact spec_auto (evs:=[(sR3Int 1 (by decide)).e] ++ sgnE0 12 hk.1 ++ sgnE0 17 hk.2) (Ns:=[(8,11)]) (m:=800) Tryz.func57 hmA (fun β=>by kernel_rfl) (by kernel_rfl) β w hh
  | one=>exact spec_auto (evs:=[(sR3Int 1 (by decide)).e] ++ sgnE0 12 hk.1 ++ sgnE0 17 hk.2 ++ sgnE0 24 hk.1) (Ns:=[(8,11)]) (m:=800) Tryz.func57 hmA (fun β=>by kernel_rfl) (by kernel_rfl) β w hh
  | two=>exact spec_auto (evs:=[(sR3Int 1 (by decide)).e] ++ sgnE0 12 hk.1 ++ sgnE0 24 hk.1 ++ sgnE0 30 hk.2) (Ns:=[(8,11)]) (m:=800) Tryz.func57 hmA (fun β=>by kernel_rfl) (by kernel_rfl) β w hh
  | none =>
    have hx : RSz KG (axR f g):=(pls_sz hf hg one_szH neg_sz1).mono (by decide)
    have hw : wtB (axR f g) = wtB (axQ f g):=by rw [axR_eq]
    show Calls _ _ _ _ fun e w'=>∃ xs : List Pl,freshS β w 0 xs ∧ e = .returned ((SV.tup [.a (wxC (axQ f g)),.c (.b (.v (.bool (!wtB (axQ f g)))))]).den (extE β 0 xs)) ∧ newHold w' [] xs ∧ Below w.heap.size w w'
    rw [← axR_eq]
    exact spec_auto (evs:=[(sR3Int 1 (by decide)).e] ++ sgnE0 12 hk.1 ++ sgnE0 24 hk.1 ++ sgnE0 30 hk.2 ++ [(sR13Of f).e,(sR13Of g).e,(sR3Neg one1).e,(sR13Mixed (hf.mono (by decide)) (hg.mono (by decide)) (one_sz.mono (by decide)) (neg_sz1.mono (by decide))).e,(sR13Circle hx rfl).e]) (Ns:=[(8,11)]) (m:=800) Tryz.func57 hmA (fun β=>by kernel_rfl) (by kernel_rfl) β w hh
noncomputable def sR13Axis {f g : RQ} (hf : RSz KH f) (hg : RSz KH g) {k : AxK} (hk : axAt f g k) : Spec Tryz.prog :=
  ⟨57,Tryz.call57,[frS f,frS g],[],.tup [.a (axC f g k),.c (.b (.v (.bool (axB f g k))))],[],r13axis_ok hf hg k hk,by cases k <;> kernel_rfl⟩
def ovb (f g : RQ) : Rat:=Rat.divInt (-2) 1 * fpr f g / fpr f f
def ovQ (f g : RQ) : RQ:=pls g f one1 (ovb f g)
theorem ovb_sz {f g : RQ} (hf : RSz KH f) (hg : RSz KH g) (h0 : fpr f f ≠ 0) : Sz 20000 (ovb f g):=(div_sz (two_sz.mul (fpr_sz hf hg)) (fpr_sz hf hf) h0).mono (by decide)
theorem ov_sz {f g : RQ} (hf : RSz KH f) (hg : RSz KH g) (h0 : fpr f f ≠ 0) : RSz 30000 (ovQ f g):=(pls_sz hg hf one_szH (ovb_sz hf hg h0)).mono (by decide)
theorem ov_pow {f g : RQ} (h0 : fpr f f ≠ 0) : rpow (ovQ f g) = rpow g:=by
  have h1 : one1 = 1:=of_decide_eq_true (by kernel_rfl : decide (one1 = 1) = true)
  have h2 : (Rat.divInt (-2) 1 : Rat) = -2:=of_decide_eq_true (by kernel_rfl : decide ((Rat.divInt (-2) 1 : Rat) = -2) = true)
  have h3 : (Rat.divInt 2 1 : Rat) = 2:=of_decide_eq_true (by kernel_rfl : decide ((Rat.divInt 2 1 : Rat) = 2) = true)
  obtain ⟨b,hb⟩ : ∃ b,b = ovb f g:=⟨_,rfl⟩
  have hb2 : b * fpr f f = -2 * fpr f g:=by
    rw [hb,ovb,h2,Rat.div_def,Rat.mul_assoc,Rat.inv_mul_cancel _ h0,Rat.mul_one]
  unfold ovQ
  rw [← hb,h1]
  unfold fpr at hb2
  rw [h3] at hb2
  unfold rpow gnorm pls
  dsimp only
  grind
noncomputable def sR13Over {f g : RQ} (hf : RSz KH f) (hg : RSz KH g) (h0 : fpr f f ≠ 0) {b : Bool} (hb : wtB (ovQ f g) = b) : Spec Tryz.prog :=
  Spec.auto Tryz.call60 [frS f,frS g] [] (.one (.a (wxC (ovQ f g)))) []
    [(sR13Of f).e,(sR13Of g).e,(sR3Int (-2) (by decide)).e,(sR13Prod (hf.mono (by decide)) (hg.mono (by decide))).e,(sR3Times (two_sz.mono (by decide)) ((fpr_sz hf hg).mono (by decide))).e,(sR13Prod (hf.mono (by decide)) (hf.mono (by decide))).e,
      (sR3Over ((two_sz.mul (fpr_sz hf hg)).mono (by decide)) ((fpr_sz hf hf).mono (by decide)) h0).e,(sR3Int 1 (by decide)).e,(sR13Mixed (hg.mono (by decide)) (hf.mono (by decide)) (one_sz.mono (by decide)) ((ovb_sz hf hg h0).mono (by decide))).e,(sR13Circle ((ov_sz hf hg h0).mono (by decide)) hb).e]
    [(1,6),(2,10),(3,7010011)] 1200 Tryz.func60 hmA (by kernel_rfl) (fun β=>by kernel_rfl)
end Go.Proofs.YtimfgjcidigbiaaGreat.Y
end
section
namespace Go.Proofs.YtimfgjcidigbiaaGreat.Y
open Go Go.RowKit
set_option maxRecDepth 100000
theorem cspec0 {P : Program} {f : FuncId} {fn : Func} {args : List SV} {cs : List Lf} {t : TypeId} {res : SV} (evs : List (Ev P)) (Ns : List (Nat × Nat)) (m : Nat) (hf : P.funcs[f]? = some fn) (hm : P.follows .mixedOrders = true)
    (h : ∀ β,(allS P fn args [.box cs t] evs Ns m res [] β).map Prod.fst = (allS P fn args [.box cs t] evs Ns m res [] β).map Prod.snd)
    (hB : (args.all (SV.of fun k=>Nat.blt k 1) && [Ob.box cs t].all fun x=>x.of (fun k=>Nat.blt k 1) && x.own) = true) (hr : res.of (fun _=>false) = true) (β : Env) (w : World) (hh : (Ob.box cs t).holds β w (β 0)) :
    Calls P f (args.map (SV.den β)).toArray w fun e w'=>∃ xs : List Pl,(∀ x ∈ xs,∀ c,x.F c → w.heap.size ≤ c) ∧ e = .returned (res.den (extE β 1 xs)) ∧ newHold w' [] xs ∧ Below w.heap.size w w':=by
  rw [Bool.and_eq_true] at hB
  refine (sx (P:=P) args [.box cs t] evs Ns m res [] hf hm (fun β=>ok_of_maps (h β)) hB.1 hB.2 β w (fun k o ho=>?_)).mono ?_
  · cases k with
    | zero=>simp only [List.getElem?_cons_zero] at ho; obtain rfl:=Option.some.inj ho; exact hh
    | succ k=>simp at ho
  · rintro e w' ⟨β',q,obj,_,rfl,_,_,_,g⟩
    exact ⟨[],(fun _ h=>by cases h),by rw [SV.den_congr (q:=fun _=>false) (fun k hk=>by cases hk) res hr],trivial,g.bel⟩
abbrev fvV (f : Nat) : SV:=.one (.c (.f (.func f) [] []))
abbrev CIT : TypeId:=50
abbrev rwV : SV:=.one (.c (.b (.y 0 8 2)))
noncomputable def ckQ : Cp → List (Ev Tryz.prog)
  | .ok r h=>[(sCCheck h).e,(sMtOf h.fit).e,.app appF]
  | .no _ _ _ _ h=>[(sCkNo h).e]
theorem open2no_ok (p q : Cp) (h : (p.B && q.B) = false) (β : Env) (w : World) (hh : (Ob.box (oq2L p q) CIT).holds β w (β 0)) :
    Calls Tryz.prog 152 (oc2A.map (SV.den β)).toArray w fun e w'=>e = .returned (.tuple #[.slice none 0 0,.int .i64 2]) ∧ Below w.heap.size w w':=by
  cases p with
  | no a b b' c hp=>cases q with
    | no a2 b2 b2' c2 hq=>exact bspec_ok (ckQ (.no a b b' c hp)) [] 800 Tryz.func152 hmA (fun β=>by kernel_rfl) (by kernel_rfl) (fun β=>rfl) β w hh
    | ok s hs=>exact bspec_ok (ckQ (.no a b b' c hp)) [] 800 Tryz.func152 hmA (fun β=>by kernel_rfl) (by kernel_rfl) (fun β=>rfl) β w hh
  | ok r hr=>cases q with
    | ok=>cases h
    | no a2 b2 b2' c2 hq=>exact bspec_ok (ckQ (.ok r hr) ++ ckQ (.no a2 b2 b2' c2 hq)) [] 800 Tryz.func152 hmA (fun β=>by kernel_rfl) (by kernel_rfl) (fun β=>rfl) β w hh
theorem oq2_cl (p q : Cp) : ((oq2L p q).all (Lf.of fun _=>false) && (oc2A.all (SV.of fun k=>Nat.beq k 0))) = true:=by cases p <;> cases q <;> rfl
noncomputable def sOpen2No (p q : Cp) (h : (p.B && q.B) = false) : BSpec Tryz.prog :=
  ⟨152,Tryz.call152,oc2A,oq2L p q,CIT,.tuple #[.slice none 0 0,.int .i64 2],open2no_ok p q h,oq2_cl p q,fun _=>rfl⟩
abbrev tldA (f : Nat) : List SV:=[fvV f,.one (.c (.b (.s 0 0 2 2)))]
def f0V : Value:=.agg #[.bool false,.string ⟨#[]⟩,.bool false,.string ⟨#[]⟩]
theorem told2no_ok (f : Nat) (p q : Cp) (h : (p.B && q.B) = false) (β : Env) (w : World) (hh : (Ob.box (oq2L p q) CIT).holds β w (β 0)) :
    Calls Tryz.prog 147 ((tldA f).map (SV.den β)).toArray w fun e w'=>e = .returned (.tuple #[f0V,.int .i64 2]) ∧ Below w.heap.size w w':=by
  have key:=sOpen2No p q h
  cases p <;> cases q <;> exact bspec_ok [(sOpen2No _ _ h).e] [] 800 Tryz.func147 hmA (fun β=>by kernel_rfl) (by kernel_rfl) (fun β=>rfl) β w hh
noncomputable def sTold2No (f : Nat) (p q : Cp) (h : (p.B && q.B) = false) : BSpec Tryz.prog :=
  ⟨147,Tryz.call147,tldA f,oq2L p q,CIT,.tuple #[f0V,.int .i64 2],told2no_ok f p q h,by cases p <;> cases q <;> rfl,fun _=>rfl⟩
def c0V : Value:=.agg #[.bool false,.string ⟨#[]⟩,.bool false,.string ⟨#[]⟩,.bool false,.string ⟨#[]⟩,.bool false,.string ⟨#[]⟩,.bool false,.string ⟨#[]⟩,.bool false,.string ⟨#[]⟩,.bool false,.string ⟨#[]⟩,.bool false,.string ⟨#[]⟩]
theorem made2no_ok (f : Nat) (p q : Cp) (h : (p.B && q.B) = false) (β : Env) (w : World) (hh : (Ob.box (oq2L p q) CIT).holds β w (β 0)) :
    Calls Tryz.prog 139 ((tldA f).map (SV.den β)).toArray w fun e w'=>e = .returned (.tuple #[c0V,.int .i64 2]) ∧ Below w.heap.size w w':=by
  cases p <;> cases q <;> exact bspec_ok [(sOpen2No _ _ h).e] [] 800 Tryz.func139 hmA (fun β=>by kernel_rfl) (by kernel_rfl) (fun β=>rfl) β w hh
noncomputable def sMade2No (f : Nat) (p q : Cp) (h : (p.B && q.B) = false) : BSpec Tryz.prog :=
  ⟨139,Tryz.call139,tldA f,oq2L p q,CIT,.tuple #[c0V,.int .i64 2],made2no_ok f p q h,by cases p <;> cases q <;> rfl,fun _=>rfl⟩
abbrev cpS (p : Cp) : SV:=.one (.a p.L)
section
variable (p q : Cp) (h : (p.B && q.B) = false)
noncomputable def sMProdNo : Spec Tryz.prog :=
  ⟨49,Tryz.call49,[cpS p,cpS q],[],.tup [.a f0L,nI' 2],[],fun β w hh=>by
    cases p <;> cases q <;> exact spec_auto (evs:=[(sTold2No 148 _ _ h).e]) (Ns:=[]) (m:=400) Tryz.func49 hmA (fun β=>by kernel_rfl) (by kernel_rfl) β w hh,by cases p <;> cases q <;> kernel_rfl⟩
noncomputable def sMSqNo : Spec Tryz.prog :=
  ⟨50,Tryz.call50,[cpS p,cpS q],[],.tup [.a f0L,nI' 2],[],fun β w hh=>by
    cases p <;> cases q <;> exact spec_auto (evs:=[(sTold2No 150 _ _ h).e]) (Ns:=[]) (m:=400) Tryz.func50 hmA (fun β=>by kernel_rfl) (by kernel_rfl) β w hh,by cases p <;> cases q <;> kernel_rfl⟩
noncomputable def sMLiesNo : Spec Tryz.prog :=
  ⟨51,Tryz.call51,[cpS p,cpS q],[],.tup [nI' 0,nI' 2],[],fun β w hh=>by
    cases p <;> cases q <;> exact spec_auto (evs:=[(sOpen2No _ _ h).e]) (Ns:=[(5,10)]) (m:=400) Tryz.func51 hmA (fun β=>by kernel_rfl) (by kernel_rfl) β w hh,by cases p <;> cases q <;> kernel_rfl⟩
noncomputable def sMUpNo : Spec Tryz.prog :=
  ⟨52,Tryz.call52,[cpS p,cpS q],[],.tup [.c (.b (.v (.bool false))),nI' 2],[],fun β w hh=>by
    cases p <;> cases q <;> exact spec_auto (evs:=[(sOpen2No _ _ h).e]) (Ns:=[(2,16)]) (m:=400) Tryz.func52 hmA (fun β=>by kernel_rfl) (by kernel_rfl) β w hh,by cases p <;> cases q <;> kernel_rfl⟩
noncomputable def sMAxisNo : Spec Tryz.prog :=
  ⟨53,Tryz.call53,[cpS p,cpS q],[],.tup [.a c0C,nI' 2],[],fun β w hh=>by
    cases p <;> cases q <;> exact spec_auto (evs:=[(sMade2No 155 _ _ h).e]) (Ns:=[]) (m:=400) Tryz.func53 hmA (fun β=>by kernel_rfl) (by kernel_rfl) β w hh,by cases p <;> cases q <;> kernel_rfl⟩
noncomputable def sMOverNo : Spec Tryz.prog :=
  ⟨54,Tryz.call54,[cpS p,cpS q],[],.tup [.a c0C,nI' 2],[],fun β w hh=>by
    cases p <;> cases q <;> exact spec_auto (evs:=[(sMade2No 156 _ _ h).e]) (Ns:=[]) (m:=400) Tryz.func54 hmA (fun β=>by kernel_rfl) (by kernel_rfl) β w hh,by cases p <;> cases q <;> kernel_rfl⟩
end
theorem MayC.szh {r : RQ} (h : MayC r) : RSz KH r:=(show RSz 1024 r from ⟨h.fit.1.sz,h.fit.2.1.gsz,h.fit.2.2.sz⟩).mono (by decide)
theorem MayC.ff {r : RQ} (h : MayC r) : fpr r r ≠ 0:=by
  intro e
  have:=of_decide_eq_false h.pow
  rw [← rpow_fpr,e] at this
  exact this (by decide)
section
variable {f g : RQ} (hf : MayC f) (hg : MayC g)
noncomputable def rd2E (f g : RQ) : List (Ev Tryz.prog):=[dIdxF (fr2 f g),dForm (fr2 f g)]
include hf hg in
theorem ffgg : fpr f f * fpr g g ≠ 0:=fun e=>(Rat.mul_eq_zero.1 e).elim hf.ff hg.ff
noncomputable def sProd1 : Spec Tryz.prog :=
  Spec.auto Tryz.call148 [rwV] [rowT FRT (fr2 f g)] (.tup [.c (.b (.z 1 0)),nI' 0]) [ratT (fpr f g)] (rd2E f g ++ rd2E f g ++ [(sMtProd (hf.szh.mono (by decide)) (hg.szh.mono (by decide))).e]) [(1,9)] 400 Tryz.func148 hmA (by kernel_rfl) (fun β=>by kernel_rfl)
noncomputable def sSq1 : Spec Tryz.prog :=
  Spec.auto Tryz.call150 [rwV] [rowT FRT (fr2 f g)] (.tup [.c (.b (.z 1 0)),nI' 0]) [ratT (fsq f g)] (rd2E f g ++ rd2E f g ++ [(sMtSq (hf.szh.mono (by decide)) (hg.szh.mono (by decide)) (ffgg hf hg)).e]) [(1,9)] 400 Tryz.func150 hmA (by kernel_rfl) (fun β=>by kernel_rfl)
noncomputable def sMTldP : CSpec Tryz.prog :=
  ⟨147,Tryz.call147,tldA 148,oc2L f g,CIT,.tup [.a (fA (fpr f g)),nI' (ansK (fpr f g))],[],fun β w hh =>
    cspec0 [(sOpen2 hf hg).e,(sProd1 hf hg).e,(sFrac ((fpr_sz hf.szh hg.szh).mono (by decide))).e] [] 800 Tryz.func147 hmA (fun β=>by kernel_rfl) (by kernel_rfl) (by kernel_rfl) β w hh,by kernel_rfl⟩
noncomputable def sMTldS : CSpec Tryz.prog :=
  ⟨147,Tryz.call147,tldA 150,oc2L f g,CIT,.tup [.a (fA (fsq f g)),nI' (ansK (fsq f g))],[],fun β w hh =>
    cspec0 [(sOpen2 hf hg).e,(sSq1 hf hg).e,(sFrac ((fsq_sz hf.szh hg.szh (ffgg hf hg)).mono (by decide))).e] [] 800 Tryz.func147 hmA (fun β=>by kernel_rfl) (by kernel_rfl) (by kernel_rfl) β w hh,by kernel_rfl⟩
noncomputable def sMProd : Spec Tryz.prog :=
  Spec.auto Tryz.call49 [frS f,frS g] [] (.tup [.a (fA (fpr f g)),nI' (ansK (fpr f g))]) [] [(sMTldP hf hg).e] [] 400 Tryz.func49 hmA (by kernel_rfl) (fun β=>by kernel_rfl)
noncomputable def sMSq : Spec Tryz.prog :=
  Spec.auto Tryz.call50 [frS f,frS g] [] (.tup [.a (fA (fsq f g)),nI' (ansK (fsq f g))]) [] [(sMTldS hf hg).e] [] 400 Tryz.func50 hmA (by kernel_rfl) (fun β=>by kernel_rfl)
noncomputable def liE (hf : MayC f) (hg : MayC g) {c : Int} (hc : cmpQ (fsq f g) one1 = c) : List (Ev Tryz.prog) :=
  [(sOpen2 hf hg).e] ++ rd2E f g ++ rd2E f g ++ [(sMtSq (hf.szh.mono (by decide)) (hg.szh.mono (by decide)) (ffgg hf hg)).e,(sMtNum 1).e,nCmp ((fsq_sz hf.szh hg.szh (ffgg hf hg)).mono (by decide)) (one_sz.mono (by decide)) hc]
theorem fsq_self {f : RQ} (h : fpr f f ≠ 0) : fsq f f = one1:=by
  have h1 : one1 = 1:=of_decide_eq_true (by kernel_rfl : decide (one1 = 1) = true)
  rw [h1,fsq,Rat.div_def,Rat.mul_inv_cancel _ (fun e=>(Rat.mul_eq_zero.1 e).elim h h)]
noncomputable def sMLies {s : Bool} (hs : eqRone f g = s) {c : Int} (hc : cmpQ (fsq f g) one1 = c) : Spec Tryz.prog :=
  ⟨51,Tryz.call51,[frS f,frS g],[],.tup [nI' (lieK s c),nI' 0],[],fun β w hh=>by
    have hk : s = true → c = 0:=fun e=>by
      rw [e] at hs
      have hfg:=eqRone_iff.1 hs
      subst hfg
      rw [← hc,fsq_self hf.ff]
      exact cmp_self _
    rcases cmpQ_cases (fsq f g) one1 with h | h | h <;> rw [hc] at h
    · cases s with
      | true=>rw [hk rfl] at h; cases h
      | false=>subst h; exact spec_auto (evs:=liE hf hg hc) (Ns:=[(5,10)]) (m:=800) Tryz.func51 hmA (fun β=>by kernel_rfl) (by kernel_rfl) β w hh
    · subst h
      cases s <;> exact spec_auto (evs:=liE hf hg hc ++ [eqEvR f g hs]) (Ns:=[(5,10)]) (m:=800) Tryz.func51 hmA (fun β=>by kernel_rfl) (by kernel_rfl) β w hh
    · cases s with
      | true=>rw [hk rfl] at h; cases h
      | false=>subst h; exact spec_auto (evs:=liE hf hg hc) (Ns:=[(5,10)]) (m:=800) Tryz.func51 hmA (fun β=>by kernel_rfl) (by kernel_rfl) β w hh,by kernel_rfl⟩
noncomputable def sMUp {b : Bool} (hb : decide (fpr f g = 0) = b) : Spec Tryz.prog :=
  Spec.auto Tryz.call52 [frS f,frS g] [] (.tup [.c (.b (.v (.bool b))),nI' 0]) []
    ([(sOpen2 hf hg).e] ++ rd2E f g ++ rd2E f g ++ [(sMtProd (hf.szh.mono (by decide)) (hg.szh.mono (by decide))).e,nSign (x:=fpr f g) rfl,.eqv 26 (.bool ((fpr f g).num.sign == 0)) (.bool b) (sign_lit hb)]) [(2,16)] 800 Tryz.func52 hmA (by kernel_rfl) (fun β=>by kernel_rfl)
def sgR (d : Nat) {x : Rat} {b : Bool} (h : decide (x = 0) = b) : List (Ev Tryz.prog):=[nSign (x:=x) rfl,.eqv d (.bool (x.num.sign == 0)) (.bool b) (sign_lit h)]
theorem sgn_gt0 {x : Rat} : Value.bool (decide (0 < x.num.sign)) = .bool (!decide (x.num.sign ≤ 0)):=by
  congr 1
  rw [Bool.eq_iff_iff]
  simp only [decide_eq_true_iff,Bool.not_eq_true',decide_eq_false_iff_not]
  omega
noncomputable def sAxBoth (h1 : decide (f.a = 0) = true) (h2 : decide (g.a = 0) = true) : Spec Tryz.prog :=
  Spec.auto Tryz.call118 [rgV 0,rgV 4] (rgT f ++ rgT g) (.tup [nil4V,.c (.b (.v (.bool false)))]) [] (sgR 11 h1 ++ sgR 16 h2) [(7,6),(8,7)] 800 Tryz.func118 hmA (by kernel_rfl) (fun β=>by kernel_rfl)
noncomputable def sAxOne (h1 : decide (f.a = 0) = true) (h2 : decide (g.a = 0) = false) : Spec Tryz.prog :=
  Spec.auto Tryz.call118 [rgV 0,rgV 4] (rgT f ++ rgT g) (.tup [rgC 0,.c (.b (.v (.bool true)))]) [] (sgR 11 h1 ++ sgR 16 h2 ++ sgR 23 h1) [(7,6),(8,7)] 800 Tryz.func118 hmA (by kernel_rfl) (fun β=>by kernel_rfl)
noncomputable def sAxTwo (h1 : decide (f.a = 0) = false) (h2 : decide (g.a = 0) = true) : Spec Tryz.prog :=
  Spec.auto Tryz.call118 [rgV 0,rgV 4] (rgT f ++ rgT g) (.tup [rgC 4,.c (.b (.v (.bool true)))]) [] (sgR 11 h1 ++ sgR 23 h1 ++ sgR 29 h2) [(7,6),(8,7)] 800 Tryz.func118 hmA (by kernel_rfl) (fun β=>by kernel_rfl)
include hf hg in
theorem axq_szK : RSz 5000 (axQ f g):=(pls_sz hf.szh hg.szh one_sz mone8).mono (by decide)
noncomputable def sAxNone (h1 : decide (f.a = 0) = false) (h2 : decide (g.a = 0) = false) {b : Bool} (hb : decide ((fpr (axQ f g) (axQ f g)).num.sign ≤ 0) = b) : Spec Tryz.prog :=
  Spec.auto Tryz.call118 [rgV 0,rgV 4] (rgT f ++ rgT g) (.tup [rgC 8,.c (.b (.v (.bool (!b))))]) (rgT (axQ f g))
    (sgR 11 h1 ++ sgR 23 h1 ++ sgR 29 h2 ++ [(sMtNum 1).e,(sMtNum (-1)).e,(sMtPlus (hf.szh.mono (by decide)) (hg.szh.mono (by decide)) (one_sz.mono (by decide)) (mone8.mono (by decide))).e,(sMtProd ((axq_szK hf hg).mono (by decide)) ((axq_szK hf hg).mono (by decide))).e,
      nSign (x:=fpr (axQ f g) (axQ f g)) rfl,.eqv 41 (.bool (decide (0 < (fpr (axQ f g) (axQ f g)).num.sign))) (.bool (!b)) (by rw [sgn_gt0,hb])]) [(7,6),(8,11006007)] 1200 Tryz.func118 hmA (by kernel_rfl) (fun β=>by kernel_rfl)
noncomputable def sAx1Both (h1 : decide (f.a = 0) = true) (h2 : decide (g.a = 0) = true) : Spec Tryz.prog :=
  Spec.auto Tryz.call155 [rwV] [rowT FRT (fr2 f g)] (.tup [nil4V,.c (.b (.v (.bool false)))]) [] (rd2E f g ++ rd2E f g ++ [(sAxBoth h1 h2).e]) [(1,9)] 400 Tryz.func155 hmA (by kernel_rfl) (fun β=>by kernel_rfl)
noncomputable def sAx1One (h1 : decide (f.a = 0) = true) (h2 : decide (g.a = 0) = false) : Spec Tryz.prog :=
  Spec.auto Tryz.call155 [rwV] [rowT FRT (fr2 f g)] (.tup [rgC 1,.c (.b (.v (.bool true)))]) (rgT f) (rd2E f g ++ rd2E f g ++ [(sAxOne h1 h2).e]) [(1,9)] 400 Tryz.func155 hmA (by kernel_rfl) (fun β=>by kernel_rfl)
noncomputable def sAx1Two (h1 : decide (f.a = 0) = false) (h2 : decide (g.a = 0) = true) : Spec Tryz.prog :=
  Spec.auto Tryz.call155 [rwV] [rowT FRT (fr2 f g)] (.tup [rgC 1,.c (.b (.v (.bool true)))]) (rgT g) (rd2E f g ++ rd2E f g ++ [(sAxTwo h1 h2).e]) [(1,9)] 400 Tryz.func155 hmA (by kernel_rfl) (fun β=>by kernel_rfl)
noncomputable def sAx1None (h1 : decide (f.a = 0) = false) (h2 : decide (g.a = 0) = false) {b : Bool} (hb : decide ((fpr (axQ f g) (axQ f g)).num.sign ≤ 0) = b) : Spec Tryz.prog :=
  Spec.auto Tryz.call155 [rwV] [rowT FRT (fr2 f g)] (.tup [rgC 1,.c (.b (.v (.bool (!b))))]) (rgT (axQ f g)) (rd2E f g ++ rd2E f g ++ [(sAxNone hf hg h1 h2 hb).e]) [(1,9)] 400 Tryz.func155 hmA (by kernel_rfl) (fun β=>by kernel_rfl)
noncomputable def axP (f g : RQ) : AxK → SV
  | .both=>.tup [.a c0C,nI' 7]
  | .one=>mxA f
  | .two=>mxA g
  | .none=>mxA (axQ f g)
noncomputable def sMadeAx {k : AxK} (hk : axAt f g k) : CSpec Tryz.prog :=
  ⟨139,Tryz.call139,tldA 155,oc2L f g,CIT,axP f g k,[],fun β w hh=>by
    cases k with
    | both=>exact cspec0 [(sOpen2 hf hg).e,(sAx1Both hk.1 hk.2).e] [] 800 Tryz.func139 hmA (fun β=>by kernel_rfl) (by kernel_rfl) (by kernel_rfl) β w hh
    | one=>exact cspec0 [(sOpen2 hf hg).e,(sAx1One hk.1 hk.2).e,(sMtCircle (hf.szh.mono (by decide))).e] [] 800 Tryz.func139 hmA (fun β=>by kernel_rfl) (by kernel_rfl) (by kernel_rfl) β w hh
    | two=>exact cspec0 [(sOpen2 hf hg).e,(sAx1Two hk.1 hk.2).e,(sMtCircle (hg.szh.mono (by decide))).e] [] 800 Tryz.func139 hmA (fun β=>by kernel_rfl) (by kernel_rfl) (by kernel_rfl) β w hh
    | none =>
      have hr : decide ((fpr (axQ f g) (axQ f g)).num.sign ≤ 0) = wtB (axQ f g):=by rw [rpow_fpr]; rfl
      cases hp : wtB (axQ f g) with
      | true =>
        show Calls _ _ _ _ fun e w'=>∃ xs : List Pl,_ ∧ e = .returned ((mxA (axQ f g)).den (extE β 1 xs)) ∧ _
        rw [mxA,(mx_no hp).1,(mx_no hp).2]
        exact cspec0 [(sOpen2 hf hg).e,(sAx1None hf hg hk.1 hk.2 (hr.trans hp)).e] [] 800 Tryz.func139 hmA (fun β=>by kernel_rfl) (by kernel_rfl) (by kernel_rfl) β w hh
      | false=>exact cspec0 [(sOpen2 hf hg).e,(sAx1None hf hg hk.1 hk.2 (hr.trans hp)).e,(sMtCircle ((axq_szK hf hg).mono (by decide))).e] [] 800 Tryz.func139 hmA (fun β=>by kernel_rfl) (by kernel_rfl) (by kernel_rfl) β w hh,by cases k <;> kernel_rfl⟩
noncomputable def sMAxis {k : AxK} (hk : axAt f g k) : Spec Tryz.prog :=
  ⟨53,Tryz.call53,[frS f,frS g],[],axP f g k,[],fun β w hh=>by
    cases k <;> exact spec_auto (evs:=[(sMadeAx hf hg hk).e]) (Ns:=[]) (m:=400) Tryz.func53 hmA (fun β=>by kernel_rfl) (by kernel_rfl) β w hh,by cases k <;> kernel_rfl⟩
abbrev ovB (f g : RQ) : Rat:=fpr f g / fpr f f
abbrev ovP (f g : RQ) : RQ:=pls g f one1 (ovB f g * Rat.divInt (-2) 1)
theorem ovP_eq (f g : RQ) : ovP f g = ovQ f g:=by
  unfold ovP ovQ ovB ovb
  rw [Rat.div_def,Rat.div_def]
  congr 1
  grind
include hf hg in
theorem ovB_sz : Sz 20000 (ovB f g):=(div_sz (fpr_sz hf.szh hg.szh) (fpr_sz hf.szh hf.szh) hf.ff).mono (by decide)
include hf hg in
theorem ovP_sz : RSz 30000 (ovP f g):=(pls_sz hg.szh hf.szh one_szH ((ovB_sz hf hg).mul two_sz)).mono (by decide)
noncomputable def sOv1 : Spec Tryz.prog :=
  Spec.auto Tryz.call156 [rwV] [rowT FRT (fr2 f g)] (.tup [rgC 1,.c (.b (.v (.bool true)))]) (rgT (ovP f g))
    (rd2E f g ++ rd2E f g ++ [(sMtProd (hf.szh.mono (by decide)) (hg.szh.mono (by decide))).e] ++ rd2E f g ++ rd2E f g ++ [(sMtProd (hf.szh.mono (by decide)) (hf.szh.mono (by decide))).e,(sMtQuo ((fpr_sz hf.szh hg.szh).mono (by decide)) ((fpr_sz hf.szh hf.szh).mono (by decide)) hf.ff).e] ++
      rd2E f g ++ rd2E f g ++ [(sMtNum 1).e,(sMtNum (-2)).e,(sMtMul ((ovB_sz hf hg).mono (by decide)) (two_sz.mono (by decide))).e,(sMtPlus (hg.szh.mono (by decide)) (hf.szh.mono (by decide)) (one_sz.mono (by decide)) (((ovB_sz hf hg).mul two_sz).mono (by decide))).e])
    [(1,16),(2,11)] 1200 Tryz.func156 hmA (by kernel_rfl) (fun β=>by kernel_rfl)
noncomputable def sMadeOv : CSpec Tryz.prog :=
  ⟨139,Tryz.call139,tldA 156,oc2L f g,CIT,mxA (ovP f g),[],fun β w hh =>
    cspec0 [(sOpen2 hf hg).e,(sOv1 hf hg).e,(sMtCircle ((ovP_sz hf hg).mono (by decide))).e] [] 800 Tryz.func139 hmA (fun β=>by kernel_rfl) (by kernel_rfl) (by kernel_rfl) β w hh,by kernel_rfl⟩
noncomputable def sMOver : Spec Tryz.prog :=
  (Spec.auto Tryz.call54 [frS f,frS g] [] (mxA (ovP f g)) [] [(sMadeOv hf hg).e] [] 400 Tryz.func54 hmA (by kernel_rfl) (fun β=>by kernel_rfl)).conv (mxA (ovQ f g)) (congrArg mxA (ovP_eq f g))
variable {s t : Rat} (hs : Fit s) (ht : Fit t)
abbrev PRT : TypeId:=113
noncomputable def sMix1 : OSpec Tryz.prog :=
  OSpec.auto Tryz.call140 [.one (.c (.b (.y 0 8 2))),.one (.c (.b (.p 3 0))),.one (.c (.b (.p 4 0)))] [(rowT FRT (fr2 f g)).ob,(ratT s).ob,(ratT t).ob,.box [.b (.z 1 0)] PRT,.box [.b (.z 2 0)] PRT] (.tup [rgC 5,.c (.b (.v (.bool true)))])
    [(pls f g s t).a,(pls f g s t).b.re,(pls f g s t).b.im,(pls f g s t).c] (rd2E f g ++ rd2E f g ++ [(sMtPlus (hf.szh.mono (by decide)) (hg.szh.mono (by decide)) (hs.sz.mono (by decide)) (ht.sz.mono (by decide))).e]) [(1,9)] 600 Tryz.func140 hmA (by kernel_rfl) (fun β=>by kernel_rfl)
abbrev mxV : SV:=.one (.c (.f (.func 140) [] [.p 2 0,.p 3 0]))
include hf hg hs ht in
theorem mix_sz : RSz 5000 (pls f g s t):=(pls_sz hf.szh hg.szh hs.sz ht.sz).mono (by decide)
noncomputable def sMadeMix : OSpec Tryz.prog :=
  OSpec.auto Tryz.call139 [mxV,.one (.c (.b (.s 4 0 2 2)))] [(ratT s).ob,(ratT t).ob,.box [.b (.z 0 0)] PRT,.box [.b (.z 1 0)] PRT,.box (oc2L f g) CIT] (mxA (pls f g s t)) []
    [(sOpen2 hf hg).e,(sMix1 hf hg hs ht).e,(sMtCircle ((mix_sz hf hg hs ht).mono (by decide))).e] [] 800 Tryz.func139 hmA (by kernel_rfl) (fun β=>by kernel_rfl)
noncomputable def sMMix : Spec Tryz.prog :=
  Spec.auto Tryz.call43 [frS f,frS g,fcS s,fcS t] [] (mxA (pls f g s t)) [] [(sRatIn hs).e,(sRatIn ht).e,dEq s,dEq t,(sMadeMix hf hg hs ht).e] [(1,6)] 800 Tryz.func43 hmA (by kernel_rfl) (fun β=>by kernel_rfl)
end
noncomputable def sMadeMixNo {s t : Rat} (p q : Cp) (h : (p.B && q.B) = false) : OSpec Tryz.prog :=
  OSpec.auto Tryz.call139 [mxV,.one (.c (.b (.s 4 0 2 2)))] [(ratT s).ob,(ratT t).ob,.box [.b (.z 0 0)] PRT,.box [.b (.z 1 0)] PRT,.box (oq2L p q) CIT] (.tup [.a c0C,nI' 2]) []
    [(sOpen2No p q h).e] [] 800 Tryz.func139 hmA (by cases p <;> cases q <;> kernel_rfl) (fun β=>by cases p <;> cases q <;> kernel_rfl)
abbrev fq1V (a : Fn) : SV:=.one (.a (rL a.r))
noncomputable def sMMixNo (p q : Cp) (a b : Fn) (h : (p.B && (q.B && (a.B && b.B))) = false) : Spec Tryz.prog :=
  ⟨43,Tryz.call43,[cpS p,cpS q,fq1V a,fq1V b],[],.tup [.a c0C,nI' 2],[],fun β w hh=>by
    cases a with
    | no x hx=>cases b with
      | no y hy=>cases p <;> cases q <;> exact spec_auto (evs:=[(sRatFn x hx).e,(sRatFn y hy).e]) (Ns:=[(1,6)]) (m:=800) Tryz.func43 hmA (fun β=>by kernel_rfl) (by kernel_rfl) β w hh
      | ok t ht=>cases p <;> cases q <;> exact spec_auto (evs:=[(sRatFn x hx).e,(sRatIn ht).e]) (Ns:=[(1,6)]) (m:=800) Tryz.func43 hmA (fun β=>by kernel_rfl) (by kernel_rfl) β w hh
    | ok s hs=>cases b with
      | no y hy=>cases p <;> cases q <;> exact spec_auto (evs:=[(sRatIn hs).e,(sRatFn y hy).e,dEq s]) (Ns:=[(1,6)]) (m:=800) Tryz.func43 hmA (fun β=>by kernel_rfl) (by kernel_rfl) β w hh
      | ok t ht =>
        have h' : (p.B && q.B) = false:=by rw [← h]; simp [Fn.B]
        cases p <;> cases q <;> exact spec_auto (evs:=[(sRatIn hs).e,(sRatIn ht).e,dEq s,dEq t,(sMadeMixNo (s:=s) (t:=t) _ _ h').e]) (Ns:=[(1,6)]) (m:=800) Tryz.func43 hmA (fun β=>by kernel_rfl) (by kernel_rfl) β w hh,by cases p <;> cases q <;> kernel_rfl⟩
end Go.Proofs.YtimfgjcidigbiaaGreat.Y
end
