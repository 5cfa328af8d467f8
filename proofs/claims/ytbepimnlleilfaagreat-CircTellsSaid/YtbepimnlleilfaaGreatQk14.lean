/- TlM, TlN, TlO, TlP, TlE, TlG, TlJ, Open, OpnB, OpnG, OpnM, OpnL, OpnS. -/
import Derived.ProofKit
import Derived.OpenShut
import Derived.ShutString
import Derived.ChangeOld
import Derived.Below
import Derived.Deep.Slices
import Derived.Test.YtbepimnlleilfaaGreatQk13
set_option linter.unnecessarySimpa false
set_option linter.unusedVariables false
set_option linter.unusedSimpArgs false
section
namespace Go.Proofs.YtbepimnlleilfaaGreat.Y
open Go Go.RowKit
set_option maxRecDepth 100000
theorem tl_hL {n:Nat} {P:Nat→Pp} (hP:P n=tl77):lsP P n=lsX tl77.w.C:=by
 show lsX (P n).w.C=_
 rw [hP]
structure LgZ (z:Gn) (r:Bool):Prop where
 is:∃ a b:Bool,Lg1 z.x a∧Lg1 z.y b∧(a||b)=r
def sLgZ {z:Gn} {r:Bool} (h:LgZ z r):BSpec Tryz.prog :=
 ⟨61,Tryz.call61,[.one (.c (.b (.s 0 0 1 1)))],rL z.x++rL z.y,46,.bool r,fun β w hh=>by
  obtain ⟨a,b,ha,hb,e⟩:=h.is
  exact (sLongG1 ha hb e).ok β w hh,by kernel_rfl,fun _=>rfl⟩
section
variable (p:Cq) (z:Gn) (n:Nat) (P:Nat→Pp) (t:Tg)
noncomputable def tlS0 (hn:n≤20) {wd:CbWide p.a p.b p.b' p.c false} (hz:LgZ z false) (ho:TlOff n P false) (hc:CenIs p t.i t.x t.y t.k1) (hs:SqIs p t.s t.k2) (hq:PowIs p t.q t.k3) (hv:ValIs p z t.v t.k4):List (Ev Tryz.prog) :=
 [(sWide1 wd).e,(sLgZ hz).e,(sTlOff ho).e,.eqv 41 (.bool (decide ((20:Int)<(n:Int)))) (.bool false) (by rw [decide_eq_false (by omega)]),(cenS hc).e,(sqS hs).e,(powS hq).e,(valS hv).e,.app lpApp]
noncomputable def tlS1 (hn:n≤20) (h0:0<n) (hP:P n=tl77):List (Ev Tryz.prog) :=
 [eApL lpApp .row (n0:=0) (m:=n) (N:=n) (L:=lsP P) (L':=lsP P) rfl (Nat.zero_add n) (lpOrL P (by omega)) h0 (Nat.le_refl n) (fun i hi=>by rw [Nat.zero_add]),(sR4Int 7 7).e,eAp1 lpApp .own (n0:=n) (L:=lsP P) (cs:=lsX tl77.w.C) trivial (lpOrL P (by omega)) (tl_hL hP) (fun β=>rfl),eSl tps_u tps_s (Nat.le_succ n) PTT (lsP P),eFrz]
noncomputable def tlS2 (P:Nat→Pp) (hP:P 0=tl77):List (Ev Tryz.prog) :=
 [eAp0 lpApp .row rfl (N:=0) (L':=lsP P),(sR4Int 7 7).e,eAp1 lpApp .row (n0:=0) (L:=lsP P) (cs:=lsX tl77.w.C) rfl (lpOrL P (by decide)) (tl_hL hP) (fun β=>rfl),eSl tps_u tps_s (Nat.le_succ 0) PTT (lsP P),eFrz]
noncomputable def tlS3 {b:Bool} (hb:p.B=b) (hP:P n=tl77) {n2:Int} (hn2:IntKind.i64.wrap ((n:Int)+1)=n2) (e2:n2=((n+1:Nat):Int)):List (Ev Tryz.prog) :=
 [(sTlRk hb).e,(sTlCk hb).e,(sNum11 (bif b then 0 else 2)).e,(sTlRk hb).e,.eqv 94 (.int .i64 (IntKind.i64.wrap ((n:Int)+1))) (.int .i64 ((n+1:Nat):Int)) (by rw [hn2,e2]),eSlG tps_u tps_s (N:=n+1) (l:=n) (n:=n+1) (Nat.le_refl _) PTT (lsP P),pIx0 (n:=n+1) (N:=n+1) (j:=n) P (Nat.lt_succ_self n) (Nat.le_refl _),tlFz (n:=n+1) (j:=n) P (Nat.lt_succ_self n),tlPz (n:=n+1) (j:=n) P (Nat.lt_succ_self n),(sR4Int 7 7).e,
  eqEvG (P n).w.x (P n).w.y (fR (gint 7 7).re) (fR (gint 7 7).im) true (by rw [hP]; exact geq_self _ _),.cut]
variable (β0:Env) (w:World)
theorem tl_st (hn:n≤20) (h0:0<n) {wd:CbWide p.a p.b p.b' p.c false} (hz:LgZ z false) (ho:TlOff n P false) (hc:CenIs p t.i t.x t.y t.k1) (hs:SqIs p t.s t.k2) (hq:PowIs p t.q t.k3) (hv:ValIs p z t.v t.k4) {on:Bool} {e:Int} (hon:OnIs p n (n+1) P on e) {b:Bool} (hb:p.B=b) (hP:P n=tl77)
  {n2:Int} (hn2:IntKind.i64.wrap ((n:Int)+1)=n2) (e2:n2=((n+1:Nat):Int)) (hh:(lpT n P).D w (β0 0)) (k:tlH p z n β0 w (tlCf p z n P t (!b) on e true true 0 [])) :
  Calls Tryz.prog 10 ((tlAr p z n).map (SV.den β0)).toArray w (Said Tryz.prog tlF 1 (tB' true) [] β0 w):=by
 cases b
 · exact sx_cut (P:=Tryz.prog) (tlAr p z n) [(lpT n P).ob] (tlS0 p z n P t hn (wd:=wd) hz ho hc hs hq hv++tlS1 n P hn h0 hP++[(onS hon).e]++tlS3 p n P hb hP hn2 e2) [] tlNs 800 (tB' true) [] Tryz.func10 hmA (u:=1) (sl:=tlSl n t true on e true true 0) (ob:=tlOb p z n P t) (σ:=[0,0,1,2,5,6,7,8,12]) (p':=lpAt tlF 0) (by kernel_rfl) (fun β=>ok_of_maps (by kernel_rfl)) (by kernel_rfl) (by kernel_rfl) β0 w (fun i o ho=>by
    cases i with
    | zero=>simp only [List.getElem?_cons_zero] at ho; obtain rfl:=Option.some.inj ho; exact hh
    | succ i=>simp at ho) k
 · exact sx_cut (P:=Tryz.prog) (tlAr p z n) [(lpT n P).ob] (tlS0 p z n P t hn (wd:=wd) hz ho hc hs hq hv++tlS1 n P hn h0 hP++[(onS hon).e]++tlS3 p n P hb hP hn2 e2) [] tlNs 800 (tB' true) [] Tryz.func10 hmA (u:=1) (sl:=tlSl n t false on e true true 0) (ob:=tlOb p z n P t) (σ:=[0,0,1,2,5,6,7,8,12]) (p':=lpAt tlF 0) (by kernel_rfl) (fun β=>ok_of_maps (by kernel_rfl)) (by kernel_rfl) (by kernel_rfl) β0 w (fun i o ho=>by
    cases i with
    | zero=>simp only [List.getElem?_cons_zero] at ho; obtain rfl:=Option.some.inj ho; exact hh
    | succ i=>simp at ho) k
end
section
variable (p:Cq) (z:Gn) (P:Nat→Pp) (t:Tg) (β0:Env) (w:World)
theorem tl_st0 {wd:CbWide p.a p.b p.b' p.c false} (hz:LgZ z false) (ho:TlOff 0 P false) (hc:CenIs p t.i t.x t.y t.k1) (hs:SqIs p t.s t.k2) (hq:PowIs p t.q t.k3) (hv:ValIs p z t.v t.k4) {on:Bool} {e:Int} (hon:OnIs p 0 1 P on e) {b:Bool} (hb:p.B=b) (hP:P 0=tl77)
  (hh:(lpT 0 P).D w (β0 0)) (k:tlH p z 0 β0 w (tlCf p z 0 P t (!b) on e true true 0 [])) :
  Calls Tryz.prog 10 ((tlAr p z 0).map (SV.den β0)).toArray w (Said Tryz.prog tlF 1 (tB' true) [] β0 w):=by
 cases b
 · exact sx_cut (P:=Tryz.prog) (tlAr p z 0) [(lpT 0 P).ob] (tlS0 p z 0 P t (by decide) (wd:=wd) hz ho hc hs hq hv++tlS2 P hP++[(onS hon).e]++tlS3 p 0 P hb hP (n2:=1) (by kernel_rfl) rfl) [] tlNs 800 (tB' true) [] Tryz.func10 hmA (u:=1) (sl:=tlSl 0 t true on e true true 0) (ob:=tlOb p z 0 P t) (σ:=[0,0,1,2,5,6,7,8,11]) (p':=lpAt tlF 0) (by kernel_rfl) (fun β=>ok_of_maps (by kernel_rfl)) (by kernel_rfl) (by kernel_rfl) β0 w (fun i o ho=>by
    cases i with
    | zero=>simp only [List.getElem?_cons_zero] at ho; obtain rfl:=Option.some.inj ho; exact hh
    | succ i=>simp at ho) k
 · exact sx_cut (P:=Tryz.prog) (tlAr p z 0) [(lpT 0 P).ob] (tlS0 p z 0 P t (by decide) (wd:=wd) hz ho hc hs hq hv++tlS2 P hP++[(onS hon).e]++tlS3 p 0 P hb hP (n2:=1) (by kernel_rfl) rfl) [] tlNs 800 (tB' true) [] Tryz.func10 hmA (u:=1) (sl:=tlSl 0 t false on e true true 0) (ob:=tlOb p z 0 P t) (σ:=[0,0,1,2,5,6,7,8,11]) (p':=lpAt tlF 0) (by kernel_rfl) (fun β=>ok_of_maps (by kernel_rfl)) (by kernel_rfl) (by kernel_rfl) β0 w (fun i o ho=>by
    cases i with
    | zero=>simp only [List.getElem?_cons_zero] at ho; obtain rfl:=Option.some.inj ho; exact hh
    | succ i=>simp at ho) k
end
section
variable (p:Cq) (z:Gn) (n:Nat) (P:Nat→Pp) (t:Tg) (β0:Env) (w:World) {j:Nat}
theorem tl_on (on:Bool) (e:Int) (may:Bool) (hp:p.B=true) (hj:j<n) (h:(P j).B=true) {b:Bool} (hb:(tlS p (P j)==0)=b) {j2:Int} (hj2:IntKind.i64.wrap ((j:Int)+1)=j2) (e2:j2=((j+1:Nat):Int)) (k:tlH p z n β0 w (tlCf p z n P t false on e b may (j+1) [])) :
  tlH p z n β0 w (tlCf p z n P t false on e true may j (tlG p n P hp hj h++tlIp n P hj++[(sTlRSideY hp h).e,.eqv 152 (.bool (tlS p (P j)==0)) (.bool b) (tl_eqz hb)]++tlG2 p n P hp hj h++tlEn j hj2 e2)) :=
 piece_ok (Ns:=tlNs) (m:=800) [] [0,0,2,3,4,5,6,7,8] hmA (by kernel_rfl) (fun β=>ok_of_maps (by kernel_rfl)) k
end
section
variable (p:Cq) (z:Gn) (n:Nat) (P:Nat→Pp) (t:Tg) (β0:Env) (w:World) {j:Nat}
theorem tl_off (on:Bool) (e:Int) (may:Bool) (hp:p.B=true) (hj:j<n) (h:(P j).B=true) {j2:Int} (hj2:IntKind.i64.wrap ((j:Int)+1)=j2) (e2:j2=((j+1:Nat):Int)) (k:tlH p z n β0 w (tlCf p z n P t false on e false may (j+1) [])) :
  tlH p z n β0 w (tlCf p z n P t false on e false may j (tlG p n P hp hj h++tlG2 p n P hp hj h++tlEn j hj2 e2)) :=
 piece_ok (Ns:=tlNs) (m:=800) [] [0,0,2,3,4,5,6,7,8] hmA (by kernel_rfl) (fun β=>ok_of_maps (by kernel_rfl)) k
end
def tgNo:Tg:=⟨false,r40,r40,2,r40,2,r40,2,r40,2⟩
def tlF0:Ev Tryz.prog:=eqEvF r40 r40 true tl_eq0
section
variable (p:Cq) (z:Gn) (n:Nat) (P:Nat→Pp) (β0:Env) (w:World)
theorem tl_endC (all may:Bool):tlH p z n β0 w (tlCf p z n P tgNo true false 2 all may n [.eqv 107 (.bool (decide ((n:Int)<(n:Int)))) (.bool false) (by rw [decide_eq_false (by omega)]),tlEq ⟨false,r40,r40⟩,(sNum11 2).e,tlF0,(sNum11 2).e,tlF0,(sNum11 2).e,tlF0,(sNum11 2).e,(sNum11 2).e,sWorks11.e]) :=
 last_ok (Ns:=tlNs) (m:=800) hmA (fun β=>ok_of_maps (by kernel_rfl))
end
noncomputable def fAR (x:Rat):R4:=⟨ansB x,ansS x,false,ansD x⟩
noncomputable def tgYY (r:RQ) (z:GQ):Tg:=⟨false,fR (tlC r).re,fR (tlC r).im,0,fAR (rpow r),ansK (rpow r),fAR (rpow r),ansK (rpow r),fAR (valQ r z),ansK (valQ r z)⟩
noncomputable def tlRp {p:Cq} (hp:p.B=true):Spec Tryz.prog:=(sCPower (cqR_ok hp).1.sz).as [.one (.a (cqL p))] (.one (.a (fC (rpow (cqR p))))) (by
 show [SV.one (.a (cC (cqR p)))]=_
 rw [(cqR_ok hp).2]) rfl
noncomputable def tlRcY {p:Cq} (hp:p.B=true) (h0:((cqR p).a.num.sign==0)=false):Spec Tryz.prog:=(sTlRCenY (r:=cqR p) h0).as [.one (.a (cqL p))] (.one (.a (lsX (Pt.fin (tlC (cqR p))).w.C))) (by
 show [SV.one (.a (cC (cqR p)))]=_
 rw [(cqR_ok hp).2]) rfl
noncomputable def tlRv {p:Cq} (hp:p.B=true) {z:GQ} (hz:FitG z):Spec Tryz.prog:=(sTlRVal (cqR_ok hp).1 hz).as [.one (.a (cqL p)),gS z] (.one (.a (fC (valQ (cqR p) z)))) (by
 show [SV.one (.a (cC (cqR p))),gS z]=_
 rw [(cqR_ok hp).2]) rfl
noncomputable def tlRcN {p:Cq} (hp:p.B=true) (h0:((cqR p).a.num.sign==0)=true):Spec Tryz.prog:=(sTlRCenN (r:=cqR p) h0).as [.one (.a (cqL p))] (.one (.a (lsX (Pt.w .inf).C))) (by
 show [SV.one (.a (cC (cqR p)))]=_
 rw [(cqR_ok hp).2]) rfl
noncomputable def tgYN (r:RQ):Tg:=⟨false,fR (tlC r).re,fR (tlC r).im,0,fAR (rpow r),ansK (rpow r),fAR (rpow r),ansK (rpow r),r40,2⟩
noncomputable def tgNY (r:RQ) (z:GQ):Tg:=⟨true,r40,r40,0,r40,7,fAR (rpow r),ansK (rpow r),fAR (valQ r z),ansK (valQ r z)⟩
noncomputable def tgNN (r:RQ):Tg:=⟨true,r40,r40,0,r40,7,fAR (rpow r),ansK (rpow r),r40,2⟩
section
variable (p:Cq) (n:Nat) (P:Nat→Pp) (β0:Env) (w:World) (hp:p.B=true)
theorem tl_endYY1 {z:GQ} (hz:FitG z) (h0:((cqR p).a.num.sign==0)=false):tlH p (.ok z hz) n β0 w (tlCf p (.ok z hz) n P (tgYY (cqR p) z) false true 0 true true n
  [.eqv 107 (.bool (decide ((n:Int)<(n:Int)))) (.bool false) (by rw [decide_eq_false (by omega)]),(sNum11 0).e,(tlRp hp).e,(sTlPart (rpow (cqR p))).e,(tlRcY hp h0).e,tlEq (Pt.fin (tlC (cqR p))).w,(sNum11 0).e,(tlRp hp).e,(sTlPart (rpow (cqR p))).e,(sR4MayG (.ok z hz) rfl).e,(tlRv hp hz).e,(sTlPart (valQ (cqR p) z)).e,sWorks11.e]) :=
 last_ok (Ns:=tlNs) (m:=800) hmA (fun β=>ok_of_maps (by kernel_rfl))
theorem tl_endYY0 {z:GQ} (hz:FitG z) (h0:((cqR p).a.num.sign==0)=false):tlH p (.ok z hz) n β0 w (tlCf p (.ok z hz) n P (tgYY (cqR p) z) false false 0 false true n
  [.eqv 107 (.bool (decide ((n:Int)<(n:Int)))) (.bool false) (by rw [decide_eq_false (by omega)]),(sNum11 0).e,(tlRp hp).e,(sTlPart (rpow (cqR p))).e,(tlRcY hp h0).e,tlEq (Pt.fin (tlC (cqR p))).w,(sNum11 0).e,(tlRp hp).e,(sTlPart (rpow (cqR p))).e,(sR4MayG (.ok z hz) rfl).e,(tlRv hp hz).e,(sTlPart (valQ (cqR p) z)).e,sWorks11.e]) :=
 last_ok (Ns:=tlNs) (m:=800) hmA (fun β=>ok_of_maps (by kernel_rfl))
theorem tl_endYYP {z:GQ} (hz:FitG z) (all:Bool) (h0:((cqR p).a.num.sign==0)=false):tlH p (.ok z hz) n β0 w (tlCf p (.ok z hz) n P (tgYY (cqR p) z) false false 2 all false n
  [.eqv 107 (.bool (decide ((n:Int)<(n:Int)))) (.bool false) (by rw [decide_eq_false (by omega)]),(sNum11 2).e,(tlRp hp).e,(sTlPart (rpow (cqR p))).e,(tlRcY hp h0).e,tlEq (Pt.fin (tlC (cqR p))).w,(sNum11 0).e,(tlRp hp).e,(sTlPart (rpow (cqR p))).e,(sR4MayG (.ok z hz) rfl).e,(tlRv hp hz).e,(sTlPart (valQ (cqR p) z)).e,sWorks11.e]) :=
 last_ok (Ns:=tlNs) (m:=800) hmA (fun β=>ok_of_maps (by kernel_rfl))
theorem tl_endYN1 (g:Gp) (hg:g.B=false) (h0:((cqR p).a.num.sign==0)=false):tlH p (.no g hg) n β0 w (tlCf p (.no g hg) n P (tgYN (cqR p)) false true 0 true true n
  [.eqv 107 (.bool (decide ((n:Int)<(n:Int)))) (.bool false) (by rw [decide_eq_false (by omega)]),(sNum11 0).e,(tlRp hp).e,(sTlPart (rpow (cqR p))).e,(tlRcY hp h0).e,tlEq (Pt.fin (tlC (cqR p))).w,(sNum11 0).e,(tlRp hp).e,(sTlPart (rpow (cqR p))).e,(sR4MayG (.no g hg) rfl).e,tlF0,(sNum11 2).e,sWorks11.e]) :=
 last_ok (Ns:=tlNs) (m:=800) hmA (fun β=>ok_of_maps (by kernel_rfl))
theorem tl_endYN0 (g:Gp) (hg:g.B=false) (h0:((cqR p).a.num.sign==0)=false):tlH p (.no g hg) n β0 w (tlCf p (.no g hg) n P (tgYN (cqR p)) false false 0 false true n
  [.eqv 107 (.bool (decide ((n:Int)<(n:Int)))) (.bool false) (by rw [decide_eq_false (by omega)]),(sNum11 0).e,(tlRp hp).e,(sTlPart (rpow (cqR p))).e,(tlRcY hp h0).e,tlEq (Pt.fin (tlC (cqR p))).w,(sNum11 0).e,(tlRp hp).e,(sTlPart (rpow (cqR p))).e,(sR4MayG (.no g hg) rfl).e,tlF0,(sNum11 2).e,sWorks11.e]) :=
 last_ok (Ns:=tlNs) (m:=800) hmA (fun β=>ok_of_maps (by kernel_rfl))
theorem tl_endYNP (g:Gp) (hg:g.B=false) (all:Bool) (h0:((cqR p).a.num.sign==0)=false):tlH p (.no g hg) n β0 w (tlCf p (.no g hg) n P (tgYN (cqR p)) false false 2 all false n
  [.eqv 107 (.bool (decide ((n:Int)<(n:Int)))) (.bool false) (by rw [decide_eq_false (by omega)]),(sNum11 2).e,(tlRp hp).e,(sTlPart (rpow (cqR p))).e,(tlRcY hp h0).e,tlEq (Pt.fin (tlC (cqR p))).w,(sNum11 0).e,(tlRp hp).e,(sTlPart (rpow (cqR p))).e,(sR4MayG (.no g hg) rfl).e,tlF0,(sNum11 2).e,sWorks11.e]) :=
 last_ok (Ns:=tlNs) (m:=800) hmA (fun β=>ok_of_maps (by kernel_rfl))
theorem tl_endNY1 {z:GQ} (hz:FitG z) (h0:((cqR p).a.num.sign==0)=true):tlH p (.ok z hz) n β0 w (tlCf p (.ok z hz) n P (tgNY (cqR p) z) false true 0 true true n
  [.eqv 107 (.bool (decide ((n:Int)<(n:Int)))) (.bool false) (by rw [decide_eq_false (by omega)]),(sNum11 0).e,(tlRp hp).e,(sTlPart (rpow (cqR p))).e,(tlRcN hp h0).e,tlEq (Pt.w .inf),(sNum11 0).e,tlF0,(sNum11 7).e,(sR4MayG (.ok z hz) rfl).e,(tlRv hp hz).e,(sTlPart (valQ (cqR p) z)).e,sWorks11.e]) :=
 last_ok (Ns:=tlNs) (m:=800) hmA (fun β=>ok_of_maps (by kernel_rfl))
theorem tl_endNY0 {z:GQ} (hz:FitG z) (h0:((cqR p).a.num.sign==0)=true):tlH p (.ok z hz) n β0 w (tlCf p (.ok z hz) n P (tgNY (cqR p) z) false false 0 false true n
  [.eqv 107 (.bool (decide ((n:Int)<(n:Int)))) (.bool false) (by rw [decide_eq_false (by omega)]),(sNum11 0).e,(tlRp hp).e,(sTlPart (rpow (cqR p))).e,(tlRcN hp h0).e,tlEq (Pt.w .inf),(sNum11 0).e,tlF0,(sNum11 7).e,(sR4MayG (.ok z hz) rfl).e,(tlRv hp hz).e,(sTlPart (valQ (cqR p) z)).e,sWorks11.e]) :=
 last_ok (Ns:=tlNs) (m:=800) hmA (fun β=>ok_of_maps (by kernel_rfl))
theorem tl_endNYP {z:GQ} (hz:FitG z) (all:Bool) (h0:((cqR p).a.num.sign==0)=true):tlH p (.ok z hz) n β0 w (tlCf p (.ok z hz) n P (tgNY (cqR p) z) false false 2 all false n
  [.eqv 107 (.bool (decide ((n:Int)<(n:Int)))) (.bool false) (by rw [decide_eq_false (by omega)]),(sNum11 2).e,(tlRp hp).e,(sTlPart (rpow (cqR p))).e,(tlRcN hp h0).e,tlEq (Pt.w .inf),(sNum11 0).e,tlF0,(sNum11 7).e,(sR4MayG (.ok z hz) rfl).e,(tlRv hp hz).e,(sTlPart (valQ (cqR p) z)).e,sWorks11.e]) :=
 last_ok (Ns:=tlNs) (m:=800) hmA (fun β=>ok_of_maps (by kernel_rfl))
theorem tl_endNN1 (g:Gp) (hg:g.B=false) (h0:((cqR p).a.num.sign==0)=true):tlH p (.no g hg) n β0 w (tlCf p (.no g hg) n P (tgNN (cqR p)) false true 0 true true n
  [.eqv 107 (.bool (decide ((n:Int)<(n:Int)))) (.bool false) (by rw [decide_eq_false (by omega)]),(sNum11 0).e,(tlRp hp).e,(sTlPart (rpow (cqR p))).e,(tlRcN hp h0).e,tlEq (Pt.w .inf),(sNum11 0).e,tlF0,(sNum11 7).e,(sR4MayG (.no g hg) rfl).e,tlF0,(sNum11 2).e,sWorks11.e]) :=
 last_ok (Ns:=tlNs) (m:=800) hmA (fun β=>ok_of_maps (by kernel_rfl))
theorem tl_endNN0 (g:Gp) (hg:g.B=false) (h0:((cqR p).a.num.sign==0)=true):tlH p (.no g hg) n β0 w (tlCf p (.no g hg) n P (tgNN (cqR p)) false false 0 false true n
  [.eqv 107 (.bool (decide ((n:Int)<(n:Int)))) (.bool false) (by rw [decide_eq_false (by omega)]),(sNum11 0).e,(tlRp hp).e,(sTlPart (rpow (cqR p))).e,(tlRcN hp h0).e,tlEq (Pt.w .inf),(sNum11 0).e,tlF0,(sNum11 7).e,(sR4MayG (.no g hg) rfl).e,tlF0,(sNum11 2).e,sWorks11.e]) :=
 last_ok (Ns:=tlNs) (m:=800) hmA (fun β=>ok_of_maps (by kernel_rfl))
theorem tl_endNNP (g:Gp) (hg:g.B=false) (all:Bool) (h0:((cqR p).a.num.sign==0)=true):tlH p (.no g hg) n β0 w (tlCf p (.no g hg) n P (tgNN (cqR p)) false false 2 all false n
  [.eqv 107 (.bool (decide ((n:Int)<(n:Int)))) (.bool false) (by rw [decide_eq_false (by omega)]),(sNum11 2).e,(tlRp hp).e,(sTlPart (rpow (cqR p))).e,(tlRcN hp h0).e,tlEq (Pt.w .inf),(sNum11 0).e,tlF0,(sNum11 7).e,(sR4MayG (.no g hg) rfl).e,tlF0,(sNum11 2).e,sWorks11.e]) :=
 last_ok (Ns:=tlNs) (m:=800) hmA (fun β=>ok_of_maps (by kernel_rfl))
end
end Go.Proofs.YtbepimnlleilfaaGreat.Y
end
section
namespace Go.Proofs.YtbepimnlleilfaaGreat.Y
open Go Go.RowKit
set_option maxRecDepth 100000
section
variable {p:Cq} {z:Gn} {n:Nat} {P:Nat→Pp}
noncomputable def tlWideP (h:CbWide p.a p.b p.b' p.c true):Spec Tryz.prog :=
 Spec.auto Tryz.call10 (tlAr p z n) [lpT n P] (tB' true) [] [(sWide1 h).e,sWorks11.e] [] 800 Tryz.func10 hmA (by kernel_rfl) (fun β=>by kernel_rfl)
noncomputable def tlLongP (h:CbWide p.a p.b p.b' p.c false) (h2:LgZ z true):Spec Tryz.prog :=
 Spec.auto Tryz.call10 (tlAr p z n) [lpT n P] (tB' true) [] [(sWide1 h).e,(sLgZ h2).e,sWorks11.e] [] 800 Tryz.func10 hmA (by kernel_rfl) (fun β=>by kernel_rfl)
noncomputable def tlOffP (h:CbWide p.a p.b p.b' p.c false) (h2:LgZ z false) (h3:TlOff n P true):Spec Tryz.prog :=
 Spec.auto Tryz.call10 (tlAr p z n) [lpT n P] (tB' true) [] [(sWide1 h).e,(sLgZ h2).e,(sTlOff h3).e,sWorks11.e] [] 800 Tryz.func10 hmA (by kernel_rfl) (fun β=>by kernel_rfl)
noncomputable def tlLenP (h:CbWide p.a p.b p.b' p.c false) (h2:LgZ z false) (h3:TlOff n P false) (h4:20<n):Spec Tryz.prog :=
 Spec.auto Tryz.call10 (tlAr p z n) [lpT n P] (tB' true) [] [(sWide1 h).e,(sLgZ h2).e,(sTlOff h3).e,.eqv 41 (.bool (decide ((20:Int)<(n:Int)))) (.bool true) (by rw [decide_eq_true (by omega)]),sWorks11.e] [] 800 Tryz.func10 hmA (by kernel_rfl) (fun β=>by kernel_rfl)
end
theorem LgZ.all (z:Gn):∃ r,LgZ z r:=by
 obtain ⟨a,ha⟩:=Lg1.all z.x
 obtain ⟨b,hb⟩:=Lg1.all z.y
 exact ⟨_,⟨a,b,ha,hb,rfl⟩⟩
theorem tl_w {j n:Nat} (hj:j≤n) (hn:n≤20):IntKind.i64.wrap ((j:Int)+1)=((j+1:Nat):Int):=by rw [IntKind.wrap_i64]; omega
section
variable (p:Cq) (z:Gn) (n:Nat) (P:Nat→Pp) (t:Tg) (β0:Env) (w:World) (hn:n≤20)
include hn in
theorem tl_runC (on:Bool) (e:Int) (hp:p.B=false) (k:∀ all may,tlH p z n β0 w (tlCf p z n P t true on e all may n [])):∀ d j all may,j+d=n→tlH p z n β0 w (tlCf p z n P t true on e all may j [])
 | 0,j,all,may,h=>by
  obtain rfl:j=n:=by omega
  exact k all may
 | d+1,j,all,may,h=>cx_hd (tl_badC p z n P t β0 w on e all may hp (by omega) (tl_w (n:=n) (by omega) hn) rfl (tl_runC on e hp k d (j+1) all false (by omega)))
include hn in
theorem tl_runA (on:Bool) (e:Int) (hp:p.B=true) (hB:∀ i,i<n→(P i).B=true) (hs:∀ i,i<n→(tlS p (P i)==0)=true) (k:tlH p z n β0 w (tlCf p z n P t false on e true true n [])):∀ d j,j+d=n→tlH p z n β0 w (tlCf p z n P t false on e true true j [])
 | 0,j,h=>by
  obtain rfl:j=n:=by omega
  exact k
 | d+1,j,h=>cx_hd (tl_on p z n P t β0 w on e true hp (by omega) (hB j (by omega)) (hs j (by omega)) (tl_w (n:=n) (by omega) hn) rfl (tl_runA on e hp hB hs k d (j+1) (by omega)))
include hn in
theorem tl_runO (on:Bool) (e:Int) (hp:p.B=true) (hB:∀ i,i<n→(P i).B=true) (k:tlH p z n β0 w (tlCf p z n P t false on e false true n [])):∀ d j all,j+d=n→(all=true→∃ i,j≤i∧i<n∧(tlS p (P i)==0)=false)→tlH p z n β0 w (tlCf p z n P t false on e all true j [])
 | 0,j,all,h,ha=>by
  obtain rfl:j=n:=by omega
  cases all with
  | false=>exact k
  | true=>obtain ⟨i,h1,h2,_⟩:=ha rfl; omega
 | d+1,j,all,h,ha=>by
  cases all with
  | false=>exact cx_hd (tl_off p z n P t β0 w on e true hp (by omega) (hB j (by omega)) (tl_w (n:=n) (by omega) hn) rfl (tl_runO on e hp hB k d (j+1) false (by omega) (fun h=>by cases h)))
  | true =>
   cases hb:(tlS p (P j)==0) with
   | false=>exact cx_hd (tl_on p z n P t β0 w on e true hp (by omega) (hB j (by omega)) hb (tl_w (n:=n) (by omega) hn) rfl (tl_runO on e hp hB k d (j+1) false (by omega) (fun h=>by cases h)))
   | true =>
    refine cx_hd (tl_on p z n P t β0 w on e true hp (by omega) (hB j (by omega)) hb (tl_w (n:=n) (by omega) hn) rfl (tl_runO on e hp hB k d (j+1) true (by omega) (fun _=>?_)))
    obtain ⟨i,h1,h2,h3⟩:=ha rfl
    have:i≠j:=fun e=>by subst e; rw [hb] at h3; cases h3
    exact ⟨i,by omega,h2,h3⟩
include hn in
theorem tl_runP (on:Bool) (e:Int) (hp:p.B=true) (k:∀ all,tlH p z n β0 w (tlCf p z n P t false on e all false n [])):∀ d j all may,j+d=n→(may=true→∃ i,j≤i∧i<n∧(P i).B=false)→tlH p z n β0 w (tlCf p z n P t false on e all may j [])
 | 0,j,all,may,h,ha=>by
  obtain rfl:j=n:=by omega
  cases may with
  | false=>exact k all
  | true=>obtain ⟨i,h1,h2,_⟩:=ha rfl; omega
 | d+1,j,all,may,h,ha=>by
  cases hB:(P j).B with
  | false=>exact cx_hd (tl_badP p z n P t β0 w on e all may hp (by omega) hB (tl_w (n:=n) (by omega) hn) rfl (tl_runP on e hp k d (j+1) all false (by omega) (fun h=>by cases h)))
  | true =>
   have next:may=true→∃ i,j+1≤i∧i<n∧(P i).B=false:=fun hm=>by
    obtain ⟨i,h1,h2,h3⟩:=ha hm
    have:i≠j:=fun e=>by subst e; rw [hB] at h3; cases h3
    exact ⟨i,by omega,h2,h3⟩
   cases all with
   | false=>exact cx_hd (tl_off p z n P t β0 w on e may hp (by omega) hB (tl_w (n:=n) (by omega) hn) rfl (tl_runP on e hp k d (j+1) false may (by omega) next))
   | true =>
    exact cx_hd (tl_on p z n P t β0 w on e may hp (by omega) hB rfl (tl_w (n:=n) (by omega) hn) rfl (tl_runP on e hp k d (j+1) _ may (by omega) next))
end
theorem Spec.on (S:Spec Tryz.prog) {p:Cq} {n N:Nat} {P:Nat→Pp} {b:Bool} {k:Int} (hf:S.f=66) (ha:S.args=onA (cqL p) n) (ho:S.obs=[lpT N P]) (hr:S.res=onR b k) (hw:S.news=[]):OnIs p n N P b k:=by
 obtain ⟨f,en,args,obs,res,news,ok,oa⟩:=S
 subst hf ha ho hr hw
 exact ok
structure TlRun (p:Cq) (z:Gn) (n:Nat) (P:Nat→Pp) (on:Bool) (e:Int) where
 t:Tg
 c:CenIs p t.i t.x t.y t.k1
 s:SqIs p t.s t.k2
 q:PowIs p t.q t.k3
 v:ValIs p z t.v t.k4
theorem tl_go {p:Cq} {z:Gn} {n:Nat} {P:Nat→Pp} {on:Bool} {e:Int} (R:TlRun p z n P on e) (β0:Env) (w:World) (hn:n≤20) (hwd:CbWide p.a p.b p.b' p.c false) (hz:LgZ z false) (ho:TlOff n P false) (hon:OnIs p n (n+1) P on e) (hP:P n=tl77)
  (hh:(lpT n P).D w (β0 0)) {b:Bool} (hb:p.B=b) (k:tlH p z n β0 w (tlCf p z n P R.t (!b) on e true true 0 [])) :
  Calls Tryz.prog 10 ((tlAr p z n).map (SV.den β0)).toArray w fun e w'=>e=.returned (.bool true)∧Below w.heap.size w w':=by
 have fin:∀ {e w'},Said Tryz.prog tlF 1 (tB' true) [] β0 w e w'→e=.returned (.bool true)∧Below w.heap.size w w':=fun {e w'} h=>by
  obtain ⟨β',q,obj,_,rfl,_,_,_,g⟩:=h
  exact ⟨rfl,g.bel⟩
 rcases Nat.eq_zero_or_pos n with rfl | hp
 · exact (tl_st0 p z P R.t β0 w (wd:=hwd) hz ho R.c R.s R.q R.v hon hb hP hh k).mono fun e w' h=>fin h
 · exact (tl_st p z n P R.t β0 w hn hp (wd:=hwd) hz ho R.c R.s R.q R.v hon hb hP (tl_w (Nat.le_refl n) hn) rfl hh k).mono fun e w' h=>fin h
def tlRunNo {p:Cq} (hp:p.B=false) (z:Gn) (n:Nat) (P:Nat→Pp):TlRun p z n P false 2 :=
 ⟨tgNo,(sTlCenNo hp).tl rfl rfl,(sTlSqNo hp).tl rfl rfl,(sTlPowNo hp).tl rfl rfl,(sTlValNo hp z).tl rfl rfl⟩
theorem TlIs.of {f:FuncId} {ar ar':List SV} {res:SV} (h:TlIs f ar res) (e:ar=ar'):TlIs f ar' res:=by rw [← e]; exact h
theorem tl_ar {p:Cq} (hp:p.B=true):[SV.one (.a (cC (cqR p)))]=[.one (.a (cqL p))]:=by rw [(cqR_ok hp).2]
theorem tl_ar2 {p:Cq} (hp:p.B=true) (l:SV):[SV.one (.a (cC (cqR p))),l]=[.one (.a (cqL p)),l]:=by rw [(cqR_ok hp).2]
noncomputable def tlRunYY {p:Cq} (hp:p.B=true) (h0:((cqR p).a.num.sign==0)=false) {z:GQ} (hz:FitG z) (n:Nat) (P:Nat→Pp) (on:Bool) (e:Int):TlRun p (.ok z hz) n P on e :=
 ⟨tgYY (cqR p) z,TlIs.of ((sTlCenY (cqR_ok hp).1 h0).tl rfl rfl) (tl_ar hp),TlIs.of ((sTlSqY (cqR_ok hp).1 h0).tl rfl rfl) (tl_ar hp),TlIs.of ((sTlPow (cqR_ok hp).1).tl rfl rfl) (tl_ar hp),TlIs.of ((sTlVal (cqR_ok hp).1 hz).tl rfl rfl) (tl_ar2 hp _)⟩
noncomputable def tlRunYN {p:Cq} (hp:p.B=true) (h0:((cqR p).a.num.sign==0)=false) (g:Gp) (hg:g.B=false) (n:Nat) (P:Nat→Pp) (on:Bool) (e:Int):TlRun p (.no g hg) n P on e :=
 ⟨tgYN (cqR p),TlIs.of ((sTlCenY (cqR_ok hp).1 h0).tl rfl rfl) (tl_ar hp),TlIs.of ((sTlSqY (cqR_ok hp).1 h0).tl rfl rfl) (tl_ar hp),TlIs.of ((sTlPow (cqR_ok hp).1).tl rfl rfl) (tl_ar hp),TlIs.of ((sTlValZ (cqR_ok hp).1 g hg).tl rfl rfl) (tl_ar2 hp _)⟩
noncomputable def tlRunNY {p:Cq} (hp:p.B=true) (h0:((cqR p).a.num.sign==0)=true) {z:GQ} (hz:FitG z) (n:Nat) (P:Nat→Pp) (on:Bool) (e:Int):TlRun p (.ok z hz) n P on e :=
 ⟨tgNY (cqR p) z,TlIs.of ((sTlCenN (cqR_ok hp).1 h0).tl rfl rfl) (tl_ar hp),TlIs.of ((sTlSqN (cqR_ok hp).1 h0).tl rfl rfl) (tl_ar hp),TlIs.of ((sTlPow (cqR_ok hp).1).tl rfl rfl) (tl_ar hp),TlIs.of ((sTlVal (cqR_ok hp).1 hz).tl rfl rfl) (tl_ar2 hp _)⟩
noncomputable def tlRunNN {p:Cq} (hp:p.B=true) (h0:((cqR p).a.num.sign==0)=true) (g:Gp) (hg:g.B=false) (n:Nat) (P:Nat→Pp) (on:Bool) (e:Int):TlRun p (.no g hg) n P on e :=
 ⟨tgNN (cqR p),TlIs.of ((sTlCenN (cqR_ok hp).1 h0).tl rfl rfl) (tl_ar hp),TlIs.of ((sTlSqN (cqR_ok hp).1 h0).tl rfl rfl) (tl_ar hp),TlIs.of ((sTlPow (cqR_ok hp).1).tl rfl rfl) (tl_ar hp),TlIs.of ((sTlValZ (cqR_ok hp).1 g hg).tl rfl rfl) (tl_ar2 hp _)⟩
theorem tl_walk (p:Cq) (z:Gn) (n:Nat) (hn63:n≤maxLen) (P:Nat→Pp) (hP:P n=tl77) (β0:Env) (w:World) (hh:(lpT n P).D w (β0 0)) :
  Calls Tryz.prog 10 ((tlAr p z n).map (SV.den β0)).toArray w fun e w'=>e=.returned (.bool true)∧Below w.heap.size w w':=by
 have fin2:∀ (S:Spec Tryz.prog),S.f=10→S.args=tlAr p z n→S.obs=[lpT n P]→S.res=tB' true→Calls Tryz.prog 10 ((tlAr p z n).map (SV.den β0)).toArray w fun e w'=>e=.returned (.bool true)∧Below w.heap.size w w':=fun S h1 h2 h3 h4=>by
  have:=S.ok β0 w (fun k t ht=>by
   rw [h3] at ht
   match k,ht with
   | 0,ht=>obtain rfl:=Option.some.inj ht; exact hh
   | k+1,ht=>cases ht)
  rw [h1,h2] at this
  refine this.mono fun e w' ⟨xs,_,he,_,hb⟩=>⟨?_,hb⟩
  rw [he,h4]
  rfl
 obtain ⟨r1,hwd⟩:=CbWide.all p.a p.b p.b' p.c
 cases r1 with
 | true=>exact fin2 (tlWideP (P:=P) hwd) rfl rfl rfl rfl
 | false =>
 obtain ⟨r2,hz⟩:=LgZ.all z
 cases r2 with
 | true=>exact fin2 (tlLongP hwd hz) rfl rfl rfl rfl
 | false =>
 obtain ⟨r3,ho⟩:=toff_all P hn63
 cases r3 with
 | true=>exact fin2 (tlOffP hwd hz ho) rfl rfl rfl rfl
 | false =>
 by_cases hn:n≤20
 · clear fin2
   have hNN:n≤n+1:=Nat.le_succ n
   have h4:n≤4096:=by omega
   cases hb:p.B with
   | false =>
    have hon:OnIs p n (n+1) P false 2:=by
     by_cases hB:∃ i,i<n∧(!(P i).B)=true
     · obtain ⟨i,i1,i2,i3⟩:=tl_first hB
       have i2:(P i).B=false:=by rw [Bool.not_eq_true'] at i2; exact i2
       have i3:∀ k,k<i→(P k).B=true:=fun k hk=>by have:=i3 k hk; rw [Bool.not_eq_false'] at this; exact this
       exact (sOnCP P hNN h4 hb i1 i2 i3).on rfl rfl rfl rfl rfl
     · have hA:∀ i,i<n→(P i).B=true:=fun i hi=>by
        cases hb:(P i).B with
        | true=>rfl
        | false=>exact absurd ⟨i,hi,by rw [hb]; rfl⟩ hB
       rcases Nat.eq_zero_or_pos n with rfl | hp
       · exact (sOnC0 P hb).on rfl rfl rfl rfl rfl
       · exact (sOnC P hNN h4 hb hp hA).on rfl rfl rfl rfl rfl
    exact tl_go (tlRunNo hb z n P) β0 w hn hwd hz ho hon hP hh hb (tl_runC p z n P tgNo β0 w hn false 2 hb (fun all may=>cx_hd (tl_endC p z n P β0 w all may)) n 0 true true (by omega))
   | true =>
    by_cases hB:∃ i,i<n∧(!(P i).B)=true
    · obtain ⟨i,i1,i2,i3⟩:=tl_first hB
      have i2:(P i).B=false:=by rw [Bool.not_eq_true'] at i2; exact i2
      have i3:∀ k,k<i→(P k).B=true:=fun k hk=>by have:=i3 k hk; rw [Bool.not_eq_false'] at this; exact this
      have hon:OnIs p n (n+1) P false 2:=(sOnP P hNN h4 hb i1 i2 i3).on rfl rfl rfl rfl rfl
      have hx:true=true→∃ i,0≤i∧i<n∧(P i).B=false:=fun _=>⟨i,Nat.zero_le i,i1,i2⟩
      cases h0:((cqR p).a.num.sign==0) with
      | false=>cases z with
       | ok z hzz=>exact tl_go (tlRunYY hb h0 hzz n P false 2) β0 w hn hwd hz ho hon hP hh hb (tl_runP p (.ok z hzz) n P _ β0 w hn false 2 hb (fun all=>cx_hd (tl_endYYP p n P β0 w hb hzz all h0)) n 0 true true (by omega) hx)
       | no g hg=>exact tl_go (tlRunYN hb h0 g hg n P false 2) β0 w hn hwd hz ho hon hP hh hb (tl_runP p (.no g hg) n P _ β0 w hn false 2 hb (fun all=>cx_hd (tl_endYNP p n P β0 w hb g hg all h0)) n 0 true true (by omega) hx)
      | true=>cases z with
       | ok z hzz=>exact tl_go (tlRunNY hb h0 hzz n P false 2) β0 w hn hwd hz ho hon hP hh hb (tl_runP p (.ok z hzz) n P _ β0 w hn false 2 hb (fun all=>cx_hd (tl_endNYP p n P β0 w hb hzz all h0)) n 0 true true (by omega) hx)
       | no g hg=>exact tl_go (tlRunNN hb h0 g hg n P false 2) β0 w hn hwd hz ho hon hP hh hb (tl_runP p (.no g hg) n P _ β0 w hn false 2 hb (fun all=>cx_hd (tl_endNNP p n P β0 w hb g hg all h0)) n 0 true true (by omega) hx)
    · have hA:∀ i,i<n→(P i).B=true:=fun i hi=>by
       cases hb:(P i).B with
       | true=>rfl
       | false=>exact absurd ⟨i,hi,by rw [hb]; rfl⟩ hB
      by_cases hS:∃ i,i<n∧onB (cqR p) (spQ P i)=true
      · obtain ⟨i,i1,i2,i3⟩:=tl_first hS
        have hon:OnIs p n (n+1) P false 0:=(sOnN P hNN h4 hb hA i1 i2 i3).on rfl rfl rfl rfl rfl
        have hx:true=true→∃ i,0≤i∧i<n∧(tlS p (P i)==0)=false:=fun _=>⟨i,Nat.zero_le i,i1,by
         have:(!(tlS p (P i)==0))=true:=i2
         rw [Bool.not_eq_true'] at this
         exact this⟩
        cases h0:((cqR p).a.num.sign==0) with
        | false=>cases z with
         | ok z hzz=>exact tl_go (tlRunYY hb h0 hzz n P false 0) β0 w hn hwd hz ho hon hP hh hb (tl_runO p (.ok z hzz) n P _ β0 w hn false 0 hb hA (cx_hd (tl_endYY0 p n P β0 w hb hzz h0)) n 0 true (by omega) hx)
         | no g hg=>exact tl_go (tlRunYN hb h0 g hg n P false 0) β0 w hn hwd hz ho hon hP hh hb (tl_runO p (.no g hg) n P _ β0 w hn false 0 hb hA (cx_hd (tl_endYN0 p n P β0 w hb g hg h0)) n 0 true (by omega) hx)
        | true=>cases z with
         | ok z hzz=>exact tl_go (tlRunNY hb h0 hzz n P false 0) β0 w hn hwd hz ho hon hP hh hb (tl_runO p (.ok z hzz) n P _ β0 w hn false 0 hb hA (cx_hd (tl_endNY0 p n P β0 w hb hzz h0)) n 0 true (by omega) hx)
         | no g hg=>exact tl_go (tlRunNN hb h0 g hg n P false 0) β0 w hn hwd hz ho hon hP hh hb (tl_runO p (.no g hg) n P _ β0 w hn false 0 hb hA (cx_hd (tl_endNN0 p n P β0 w hb g hg h0)) n 0 true (by omega) hx)
      · have hs:∀ i,i<n→onB (cqR p) (spQ P i)=false:=fun i hi=>by
         cases e:onB (cqR p) (spQ P i) with
         | false=>rfl
         | true=>exact absurd ⟨i,hi,e⟩ hS
        have hx:∀ i,i<n→(tlS p (P i)==0)=true:=fun i hi=>by
         have:(!(tlS p (P i)==0))=false:=hs i hi
         rw [Bool.not_eq_false'] at this
         exact this
        have hon:OnIs p n (n+1) P true 0:=by
         rcases Nat.eq_zero_or_pos n with rfl | hp
         · exact (sOn0 P hb).on rfl rfl rfl rfl rfl
         · exact (sOnY P hNN h4 hb hp hA hs).on rfl rfl rfl rfl rfl
        cases h0:((cqR p).a.num.sign==0) with
        | false=>cases z with
         | ok z hzz=>exact tl_go (tlRunYY hb h0 hzz n P true 0) β0 w hn hwd hz ho hon hP hh hb (tl_runA p (.ok z hzz) n P _ β0 w hn true 0 hb hA hx (cx_hd (tl_endYY1 p n P β0 w hb hzz h0)) n 0 (by omega))
         | no g hg=>exact tl_go (tlRunYN hb h0 g hg n P true 0) β0 w hn hwd hz ho hon hP hh hb (tl_runA p (.no g hg) n P _ β0 w hn true 0 hb hA hx (cx_hd (tl_endYN1 p n P β0 w hb g hg h0)) n 0 (by omega))
        | true=>cases z with
         | ok z hzz=>exact tl_go (tlRunNY hb h0 hzz n P true 0) β0 w hn hwd hz ho hon hP hh hb (tl_runA p (.ok z hzz) n P _ β0 w hn true 0 hb hA hx (cx_hd (tl_endNY1 p n P β0 w hb hzz h0)) n 0 (by omega))
         | no g hg=>exact tl_go (tlRunNN hb h0 g hg n P true 0) β0 w hn hwd hz ho hon hP hh hb (tl_runA p (.no g hg) n P _ β0 w hn true 0 hb hA hx (cx_hd (tl_endNN1 p n P β0 w hb g hg h0)) n 0 (by omega))
 · exact fin2 (tlLenP hwd hz ho (by omega)) rfl rfl rfl rfl
theorem RwD.congr {sz n:Nat} {L L':Nat→List Lf} {w:World} {g:Pl} (h:RwD sz n L w g) (e:∀ j,j<n→L j=L' j):RwD sz n L' w g:=by
 rcases h with h | ⟨h0,b,o,cs,t,fr,h1,h2,h3,h4⟩
 · exact .inl h
 · exact .inr ⟨h0,b,o,cs,t,fr,h1,h2,h3,fun j hj=>by rw [← e j hj]; exact h4 j hj⟩
end Go.Proofs.YtbepimnlleilfaaGreat.Y
namespace Go.Proofs.YtbepimnlleilfaaGreat
open Go.Proofs.YtbepimnlleilfaaGreat.Y Go Go.RowKit
theorem CircTells_walk (c:Y.Cq) (z:Y.Gn) (g:Y.Pl) (n:Nat) (Q:Nat→Pp) (W:World) (hn:n≤maxLen) (hr:Y.RwD 9 n (fun j=>Y.lsX (Q j).w.C) W g) :
  Calls Tryz.prog 10 #[.agg (c.a.V++(c.b.V++c.b'.V)++c.c.V).toArray,.agg (z.x.V++z.y.V).toArray,.slice (g.v 0) n (g.c 0)] W fun e W'=>e=.returned (.bool true)∧Below W.heap.size W W':=by
 have h:=Y.tl_walk c z n hn (fun j=>if j<n then Q j else Y.tl77) (if_neg (Nat.lt_irrefl n)) (fun _=>g) W (hr.congr fun j hj=>by
  show _=Y.lsX (if j<n then Q j else Y.tl77).w.C
  rw [if_pos hj])
 exact h
end Go.Proofs.YtbepimnlleilfaaGreat
end
section
namespace Go.Proofs.YtbepimnlleilfaaGreat
open Go.ChangeShapes Go.WideShapes Go.ChangeAt Go.RowKit
theorem cellsOf_bool:Tryz.prog.cellsOf 4=1:=by kernel_rfl
theorem cellsOf_string:Tryz.prog.cellsOf 9=1:=by kernel_rfl
theorem cellsOf_whole:Tryz.prog.cellsOf 23=2:=by kernel_rfl
theorem cellsOf_frac:Tryz.prog.cellsOf 25=4:=by kernel_rfl
section
variable {H:Type} {enc:TypeId × Value→H} {w:World} {base:Nat} {spare:Nat→Bool} {held:Bool}
set_option maxRecDepth 100000 in
theorem trod_whole {fuel:Nat} {cs:List Value} {x:DataW H × List MemPlace} (h:DataW.trod enc Tryz.prog w base spare held fuel 23 cs=some x) :
  ∃ (b:Bool) (s:ByteArray),cs=[.bool b,.string s]∧s.size≤maxLen:=by
 obtain ⟨xs,n,rfl,_,hlen,hxl,hf⟩:=DataW.trod_struct Tryz.underlying23 h
 rw [cellsOf_whole] at hlen
 have hx0:xs[0]?=some (xs[0]'(by rw [hxl]; decide)):=List.getElem?_eq_getElem _
 have hx1:xs[1]?=some (xs[1]'(by rw [hxl]; decide)):=List.getElem?_eq_getElem _
 have h0:DataW.trod enc Tryz.prog w base spare held n 4 ((cs.drop 0).take (Tryz.prog.cellsOf 4))=some _:=(hf 0 _ rfl).trans hx0
 have h1:DataW.trod enc Tryz.prog w base spare held n 9 ((cs.drop 1).take (Tryz.prog.cellsOf 9))=some _:=(hf 1 _ rfl).trans hx1
 rw [cellsOf_bool] at h0
 rw [cellsOf_string] at h1
 match cs,hlen with
 | [a,b],_ =>
  obtain ⟨p,e0,_⟩:=DataW.trod_bool Tryz.underlying4 h0
  obtain ⟨s,e1,_,hs⟩:=DataW.trod_string Tryz.underlying9 h1
  cases e0
  cases e1
  exact ⟨p,s,rfl,hs⟩
set_option maxRecDepth 100000 in
theorem trod_frac {fuel:Nat} {cs:List Value} {x:DataW H × List MemPlace} (h:DataW.trod enc Tryz.prog w base spare held fuel 25 cs=some x) :
  ∃ (b c:Bool) (s t:ByteArray),cs=[.bool b,.string s,.bool c,.string t]∧s.size≤maxLen∧t.size≤maxLen:=by
 obtain ⟨xs,n,rfl,_,hlen,hxl,hf⟩:=DataW.trod_struct Tryz.underlying25 h
 rw [cellsOf_frac] at hlen
 have hx0:xs[0]?=some (xs[0]'(by rw [hxl]; decide)):=List.getElem?_eq_getElem _
 have hx1:xs[1]?=some (xs[1]'(by rw [hxl]; decide)):=List.getElem?_eq_getElem _
 have h0:DataW.trod enc Tryz.prog w base spare held n 23 ((cs.drop 0).take (Tryz.prog.cellsOf 23))=some _:=(hf 0 _ rfl).trans hx0
 have h1:DataW.trod enc Tryz.prog w base spare held n 23 ((cs.drop 2).take (Tryz.prog.cellsOf 23))=some _:=(hf 1 _ rfl).trans hx1
 rw [cellsOf_whole] at h0 h1
 match cs,hlen with
 | [a,b,c,d],_ =>
  obtain ⟨p,s,e0,hs⟩:=trod_whole h0
  obtain ⟨q,t,e1,ht⟩:=trod_whole h1
  cases e0
  cases e1
  exact ⟨p,q,s,t,rfl,hs,ht⟩
end
end Go.Proofs.YtbepimnlleilfaaGreat
end
section
namespace Go.Proofs.YtbepimnlleilfaaGreat
open Go Go.ChangeShapes Go.WideShapes Go.ChangeAt Go.RowKit
theorem cellsOf_gauss:Tryz.prog.cellsOf 46=8:=by kernel_rfl
theorem cellsOf_point:Tryz.prog.cellsOf 61=9:=by kernel_rfl
theorem chunk {α:Type} (cs:List α) (a b:Nat):cs.drop a=(cs.drop a).take b++cs.drop (a+b):=by
 rw [← List.drop_drop,List.take_append_drop]
def R4.ok (x:R4):Prop:=x.s.size≤maxLen∧x.t.size≤maxLen
section
variable {H:Type} {enc:TypeId × Value→H} {w:World} {base:Nat} {spare:Nat→Bool} {held:Bool}
theorem trod_r4 {fuel:Nat} {cs:List Value} {x:DataW H × List MemPlace} (h:DataW.trod enc Tryz.prog w base spare held fuel 25 cs=some x):∃ r:R4,cs=r.V∧r.ok:=by
 obtain ⟨b,c,s,t,e,h1,h2⟩:=trod_frac h
 exact ⟨⟨b,s,c,t⟩,e,h1,h2⟩
set_option maxRecDepth 100000 in
theorem trod_gauss {fuel:Nat} {cs:List Value} {x:DataW H × List MemPlace} (h:DataW.trod enc Tryz.prog w base spare held fuel 46 cs=some x):∃ r s:R4,cs=r.V++s.V∧r.ok∧s.ok:=by
 obtain ⟨xs,n,rfl,_,hlen,hxl,hf⟩:=DataW.trod_struct Tryz.underlying46 h
 rw [cellsOf_gauss] at hlen
 have hx0:xs[0]?=some (xs[0]'(by rw [hxl]; decide)):=List.getElem?_eq_getElem _
 have hx1:xs[1]?=some (xs[1]'(by rw [hxl]; decide)):=List.getElem?_eq_getElem _
 have h0:DataW.trod enc Tryz.prog w base spare held n 25 ((cs.drop 0).take (Tryz.prog.cellsOf 25))=some _:=(hf 0 _ rfl).trans hx0
 have h1:DataW.trod enc Tryz.prog w base spare held n 25 ((cs.drop 4).take (Tryz.prog.cellsOf 25))=some _:=(hf 1 _ rfl).trans hx1
 rw [cellsOf_frac] at h0 h1
 obtain ⟨r,e0,k0⟩:=trod_r4 h0
 obtain ⟨s,e1,k1⟩:=trod_r4 h1
 refine ⟨r,s,?_,k0,k1⟩
 have:=chunk cs 0 4
 rw [e0,List.drop_zero] at this
 rw [this,chunk cs (0+4) 4,e1,List.drop_of_length_le (by omega),List.append_nil]
set_option maxRecDepth 100000 in
theorem trod_point {fuel:Nat} {cs:List Value} {x:DataW H × List MemPlace} (h:DataW.trod enc Tryz.prog w base spare held fuel 61 cs=some x):∃ (i:Bool) (r s:R4),cs=.bool i::(r.V++s.V)∧r.ok∧s.ok:=by
 obtain ⟨xs,n,rfl,_,hlen,hxl,hf⟩:=DataW.trod_struct Tryz.underlying61 h
 rw [cellsOf_point] at hlen
 have hx0:xs[0]?=some (xs[0]'(by rw [hxl]; decide)):=List.getElem?_eq_getElem _
 have hx1:xs[1]?=some (xs[1]'(by rw [hxl]; decide)):=List.getElem?_eq_getElem _
 have h0:DataW.trod enc Tryz.prog w base spare held n 4 ((cs.drop 0).take (Tryz.prog.cellsOf 4))=some _:=(hf 0 _ rfl).trans hx0
 have h1:DataW.trod enc Tryz.prog w base spare held n 46 ((cs.drop 1).take (Tryz.prog.cellsOf 46))=some _:=(hf 1 _ rfl).trans hx1
 rw [cellsOf_bool] at h0
 rw [cellsOf_gauss] at h1
 obtain ⟨r,s,e1,k1⟩:=trod_gauss h1
 have e3:cs.drop 1=r.V++s.V:=by
  have:=chunk cs 1 8
  rw [e1] at this
  rw [this,List.drop_of_length_le (show cs.length≤1+8 by omega),List.append_nil]
 have e2:cs=cs.take 1++(r.V++s.V):=by rw [← e3,List.take_append_drop]
 match hc:(cs.take 1),(show (cs.take 1).length=1 by rw [List.length_take]; omega) with
 | [a],_ =>
  rw [List.drop_zero,hc] at h0
  obtain ⟨i,e0,_⟩:=DataW.trod_bool Tryz.underlying4 h0
  refine ⟨i,r,s,?_,k1⟩
  rw [hc] at e2
  rw [e2]
  cases e0
  rfl
end
section
variable {H:Type} {enc:TypeId × Value→H} {w:World} {base:Nat} {spare:Nat→Bool} {held:Bool}
set_option maxRecDepth 100000 in
theorem open_gauss {r:Reach} {b0:Nat} {v:Value} {d:DataW H} {p:List MemPlace} (hv:Value.okWide Tryz.prog w r b0 46 v) (h:DataW.Trod enc Tryz.prog w base spare held 46 v d p) :
  ∃ x y:R4,v=.agg (x.V++y.V).toArray∧x.ok∧y.ok:=by
 obtain ⟨cs,rfl,hsz⟩:=okWide_struct Tryz.underlying46 hv
 obtain ⟨fuel,hf⟩:=h
 obtain ⟨l⟩:=cs
 obtain ⟨a,b,rfl,hh⟩:=trod_gauss hf
 exact ⟨a,b,rfl,hh⟩
end
end Go.Proofs.YtbepimnlleilfaaGreat
end
section
namespace Go.Proofs.YtbepimnlleilfaaGreat
open Go.ChangeShapes Go.WideShapes Go.ChangeAt Go.RowKit
section
variable {H:Type} {enc:TypeId × Value→H} {w:World} {base:Nat} {spare:Nat→Bool} {held:Bool}
theorem cellsOf_circle:Tryz.prog.cellsOf 95=16:=by kernel_rfl
set_option maxRecDepth 100000 in
theorem trod_circle {fuel:Nat} {cs:List Value} {x:DataW H × List MemPlace} (h:DataW.trod enc Tryz.prog w base spare held fuel 95 cs=some x) :
  ∃ (a b b' c:R4),cs=a.V++b.V++b'.V++c.V∧a.ok∧b.ok∧b'.ok∧c.ok:=by
 obtain ⟨xs,n,rfl,_,hlen,hxl,hf⟩:=DataW.trod_struct Tryz.underlying95 h
 rw [cellsOf_circle] at hlen
 have hx0:xs[0]?=some (xs[0]'(by rw [hxl]; decide)):=List.getElem?_eq_getElem _
 have hx1:xs[1]?=some (xs[1]'(by rw [hxl]; decide)):=List.getElem?_eq_getElem _
 have hx2:xs[2]?=some (xs[2]'(by rw [hxl]; decide)):=List.getElem?_eq_getElem _
 have h0:DataW.trod enc Tryz.prog w base spare held n 25 ((cs.drop 0).take (Tryz.prog.cellsOf 25))=some _:=(hf 0 _ rfl).trans hx0
 have h1:DataW.trod enc Tryz.prog w base spare held n 46 ((cs.drop 4).take (Tryz.prog.cellsOf 46))=some _:=(hf 1 _ rfl).trans hx1
 have h2:DataW.trod enc Tryz.prog w base spare held n 25 ((cs.drop 12).take (Tryz.prog.cellsOf 25))=some _:=(hf 2 _ rfl).trans hx2
 rw [cellsOf_frac] at h0 h2
 rw [cellsOf_gauss] at h1
 obtain ⟨a0,e0,k0⟩:=trod_r4 h0
 obtain ⟨a1,b1,e1,k1⟩:=trod_gauss h1
 obtain ⟨a2,e2,k2⟩:=trod_r4 h2
 refine ⟨a0,a1,b1,a2,?_,k0,k1.1,k1.2,k2⟩
 have c0:=chunk cs 0 4
 have c1:=chunk cs (0+4) 8
 have c2:=chunk cs (0+4+8) 4
 rw [List.drop_eq_nil_of_le (show cs.length≤0+4+8+4 by omega),List.append_nil] at c2
 rw [e2] at c2
 rw [e1,c2] at c1
 rw [e0,c1,List.drop_zero] at c0
 rw [c0]
 simp only [List.append_assoc]
end
end Go.Proofs.YtbepimnlleilfaaGreat
end
section
namespace Go.Proofs.YtbepimnlleilfaaGreat
open Go.ChangeShapes Go.WideShapes Go.ChangeAt Go.RowKit
set_option maxRecDepth 100000
section
variable {H:Type} {enc:TypeId × Value→H} {w:World} {base:Nat} {spare:Nat→Bool} {held:Bool}
theorem cell_cells {a:Addr} {v:Value} (h:w.cell? a=some v):a.spot=none∧∃ cs t fr,w.heap[a.block]?=some (.cells cs t fr):=by
 unfold World.cell? at h
 split at h
 · rename_i c t fr hb
   split at h
   · cases h
   · rename_i hs
     exact ⟨by simpa using hs,c,t,fr,hb⟩
 · cases h
theorem open_rows {α:Type} {T e:TypeId} (hT:Tryz.prog.underlying T=some (.slice e)) {sz:Nat} (hc:Tryz.prog.cellsOf e=sz) (h2:0<sz) (Lq:α→List Y.Lf) (q0:α)
  (hel:∀ fuel cs x,DataW.trod enc Tryz.prog w base spare held fuel e cs=some x→∃ q,cs=(Lq q).map (Y.Lf.den Y.idE))
  {r:Reach} {b0:Nat} {v:Value} {d:DataW H} {p:List MemPlace} (hv:Value.okWide Tryz.prog w r b0 T v) (h:DataW.Trod enc Tryz.prog w base spare held T v d p) :
  ∃ (g:Y.Pl) (n:Nat) (Q:Nat→α),v=.slice (g.v 0) n (g.c 0)∧n≤maxLen∧Y.RwD sz n (fun j=>Lq (Q j)) w g:=by
 obtain ⟨a,len,cap,rfl⟩:=okWide_slice hT hv
 obtain ⟨fuel,hf⟩:=h
 have hf:DataW.trod enc Tryz.prog w base spare held fuel T [.slice a len cap]=some (d,p):=hf
 rcases Go.Deep.open_slice hT hf with ⟨e1,_⟩ | ⟨a',len',cap',m,n,D,Pl,e1,hb,hl,hm,hmm,_,hx⟩
 · simp only [List.cons.injEq,and_true,Value.slice.injEq] at e1
   obtain ⟨rfl,rfl,rfl⟩:=e1
   exact ⟨Y.nilPl,0,fun _=>q0,rfl,Nat.zero_le _,.inl ⟨rfl,fun c hc=>hc⟩⟩
 · simp only [List.cons.injEq,and_true,Value.slice.injEq] at e1
   obtain ⟨rfl,rfl,rfl⟩:=e1
   have hlm:len≤m:=by rw [hmm]; split<;>omega
   by_cases h0:len=0
   · subst h0
     exact ⟨⟨0,fun _=>some a',fun _=>cap,fun _=>False,fun _=>undef⟩,0,fun _=>q0,rfl,Nat.zero_le _,.inl ⟨rfl,fun c hc=>hc⟩⟩
   rw [hc] at hx
   have each:∀ i,i<len→∃ q,∀ j,j<sz→w.cell? (a'.add (i*sz+j))=((Lq q).map (Y.Lf.den Y.idE))[j]?∧((Lq q).map (Y.Lf.den Y.idE)).length=sz:=fun i hi=>by
    obtain ⟨cs',k1,k2⟩:=hx i (by omega)
    obtain ⟨q,hq⟩:=hel _ _ _ k2
    obtain ⟨_,k4,k5⟩:=World.cells?_some k1
    exact ⟨q,fun j hj=>⟨by rw [← Go.Deep.add_add,k5 j hj,hq],by rw [← hq]; exact k4⟩⟩
   haveI:Inhabited α:=⟨q0⟩
   obtain ⟨Q,hQ⟩:=Go.Deep.choose_lt each
   have hfst:∃ u,w.cell? a'=some u:=by
    have k:=hQ 0 (by omega) 0 h2
    have:(a'.add (0*sz+0))=a':=by simp [Addr.add]
    rw [this] at k
    rw [k.1]
    exact ⟨_,List.getElem?_eq_getElem (by rw [k.2]; exact h2)⟩
   obtain ⟨u,hu⟩:=hfst
   obtain ⟨hs,cs,t,fr,hcs⟩:=cell_cells hu
   obtain ⟨b,o,s⟩:=a'
   obtain rfl:s=none:=hs
   refine ⟨⟨b,fun m=>some ⟨b,o+m,none⟩,fun _=>cap,fun c=>c=b,fun _=>undef⟩,len,Q,rfl,by omega,.inr ⟨by omega,b,o,cs,t,fr,fun m=>rfl,fun c=>Iff.rfl,hcs,fun j hj i v hv=>?_⟩⟩
   have hi:i<sz:=by
    have h4:i<((Lq (Q j)).map (Y.Lf.den Y.idE)).length:=(List.getElem?_eq_some_iff.1 hv).1
    have h5:=(hQ j hj 0 h2).2
    omega
   have h6:=(hQ j hj i hi).1
   rw [Addr.add_mid] at h6
   rw [Nat.add_assoc,h6]
   exact hv
end
section
variable {H:Type} {enc:TypeId × Value→H} {w:World} {base:Nat} {spare:Nat→Bool} {held:Bool}
theorem cellsOf_pt:Tryz.prog.cellsOf 61=9:=by kernel_rfl
theorem open_pt_row {r:Reach} {b0:Nat} {v:Value} {d:DataW H} {p:List MemPlace} (hv:Value.okWide Tryz.prog w r b0 70 v) (h:DataW.Trod enc Tryz.prog w base spare held 70 v d p) :
  ∃ (g:Y.Pl) (n:Nat) (Q:Nat→Pp),v=.slice (g.v 0) n (g.c 0)∧n≤maxLen∧Y.RwD 9 n (fun j=>Y.lsX (Q j).w.C) w g:=by
 refine open_rows Tryz.underlying70 cellsOf_pt (by decide) (fun q:Pp=>Y.lsX q.w.C) .inf (fun fuel cs x hx=>?_) hv h
 obtain ⟨i,a,b,rfl,ha,hb⟩:=trod_point hx
 obtain ⟨q,e⟩:=pp_of ⟨i,a,b⟩ ⟨ha,hb⟩
 refine ⟨q,?_⟩
 rw [e]
 rfl
theorem open_circq {r:Reach} {b0:Nat} {v:Value} {d:DataW H} {p:List MemPlace} (hv:Value.okWide Tryz.prog w r b0 95 v) (h:DataW.Trod enc Tryz.prog w base spare held 95 v d p) :
  ∃ q:Y.Cq,v=.agg (q.a.V++(q.b.V++q.b'.V)++q.c.V).toArray:=by
 obtain ⟨cs,rfl,hsz⟩:=okWide_struct Tryz.underlying95 hv
 obtain ⟨fuel,hf⟩:=h
 obtain ⟨l⟩:=cs
 obtain ⟨a,b,b',c,rfl,h1,h2,h3,h4⟩:=trod_circle hf
 obtain ⟨q,rfl,rfl,rfl,rfl⟩:=Y.cq_of a b b' c h1 h2 h3 h4
 exact ⟨q,by rw [List.append_assoc q.a.V q.b.V q.b'.V]⟩
theorem open_gn {r:Reach} {b0:Nat} {v:Value} {d:DataW H} {p:List MemPlace} (hv:Value.okWide Tryz.prog w r b0 46 v) (h:DataW.Trod enc Tryz.prog w base spare held 46 v d p) :
  ∃ z:Y.Gn,v=.agg (z.x.V++z.y.V).toArray:=by
 obtain ⟨x,y,rfl,h1,h2⟩:=open_gauss hv h
 obtain ⟨g,rfl,rfl⟩:=Y.gn_of x y h1 h2
 exact ⟨g,rfl⟩
end
end Go.Proofs.YtbepimnlleilfaaGreat
end
