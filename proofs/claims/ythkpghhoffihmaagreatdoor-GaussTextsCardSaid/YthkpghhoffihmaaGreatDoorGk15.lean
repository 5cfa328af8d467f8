/- HrA, GrB, HrB, GtA, Open, OpnB, OpnG. -/
import Derived.ProofKit
import Derived.OpenShut
import Derived.ShutString
import Derived.ChangeOld
import Derived.Below
import Derived.Test.YthkpghhoffihmaaGreatDoorGk14
set_option linter.unnecessarySimpa false
set_option linter.unusedVariables false
set_option linter.unusedSimpArgs false
section
namespace Go.Proofs.YthkpghhoffihmaaGreatDoor.Y
open Go Go.RowKit
set_option maxRecDepth 100000
def sR3RdE {q:List Nat} {x:Rat} (hx:Fit x) (hp:tqL x=q):Spec Tryz.prog :=
 ⟨23,Tryz.call23,[stV q],[],.tup [.a (fC x),nI' 0],[],fun β w hh=>by
  subst hp
  exact (sR3ReadY hx (Nat.le_trans (tq_len hx) (by decide))).ok β w hh,by kernel_rfl⟩
noncomputable abbrev hrF:Func:=Tryz.f26
noncomputable abbrev hrN:Nat:=sizeS hrF [stV []]
abbrev hrSl (xs:List Nat) (a:Nat):List (Nat × SV):=[(0,stV xs),(2,.one (.c (.b (.p 1 0)))),(3,rtI 0),(4,stV xs),(5,stV [48]),(6,rtI (a:Int))]
noncomputable abbrev hrc (xs:List Nat) (a:Nat) (ev:List (Ev Tryz.prog)):Cf Tryz.prog:=mkC Tryz.prog hrN 0 (hrSl xs a) [.dead,.box gz0 GAT] ev
noncomputable abbrev hrH (β0:Env) (w:World) (res:SV) (C:Cf Tryz.prog):Prop:=HdOk Tryz.prog 0 hrN w.heap.size w β0 (bodyPost Tryz.prog hrF (Said Tryz.prog hrF 0 res [] β0 w)) C (lpAt hrF 0)
abbrev hrNs:List (Nat × Nat):=[(8,11)]
theorem hrne_lit {a b:Int} {t:Bool} (h:(a==b)=t):Value.bool (!(a==b))=.bool (!t):=by rw [h]
def hrGo {xs:List Nat} (h8:B8 xs) {a x:Nat} (h0:0<a) (ha:a<xs.length) (hx:xs.getD a 0=x) {q:Bool} (hq:((x:Int)==43)=q):List (Ev Tryz.prog):=[.eqv 32 (.bool (decide (0<(a:Int)))) (.bool true) (lt_lit (decide_eq_true (by omega))),eStI h8 ha hx,.eqv 37 (.bool (!((x:Int)==43))) (.bool (!q)) (hrne_lit hq)]
def hrGo2 {xs:List Nat} (h8:B8 xs) {a x:Nat} (h0:0<a) (ha:a<xs.length) (hx:xs.getD a 0=x) (hq:((x:Int)==43)=false) {r:Bool} (hr:((x:Int)==45)=r):List (Ev Tryz.prog):=hrGo h8 h0 ha hx hq++[eStI h8 ha hx,.eqv 43 (.bool (!((x:Int)==45))) (.bool (!r)) (hrne_lit hr)]
def hrEnd {a:Nat} (h:a=0):List (Ev Tryz.prog):=[.eqv 32 (.bool (decide (0<(a:Int)))) (.bool false) (lt_lit (decide_eq_false (by omega)))]
theorem hr_step (β0:Env) (w:World) (res:SV) {xs:List Nat} (h8:B8 xs) {a x:Nat} (ha:a+1<xs.length) (hl:xs.length≤1000000) (hx:xs.getD (a+1) 0=x) (hq:((x:Int)==43)=false) (hr:((x:Int)==45)=false) (h:hrH β0 w res (hrc xs a [])) :
  hrH β0 w res (hrc xs (a+1) (hrGo2 h8 (Nat.succ_pos a) ha hx hq hr++[.eqv 46 (.int .i64 (IntKind.i64.wrap (((a+1:Nat):Int)-1))) (.int .i64 (a:Int)) (wi64 (by omega) (by omega)),.cut])):=piece_ok (Ns:=hrNs) (m:=400) [] [0,1] hmA (by kernel_rfl) (fun β=>ok_of_maps (by kernel_rfl)) h
abbrev hrIm (xs:List Nat) (M a:Nat):List Nat:=(xs.drop a).take (M-1-a)
def hrCut {xs:List Nat} {M a:Nat} (hM:xs.length=M) (hl:M≤10240) (h1:0<M) (ha:a≤M-1) {z:Bool} (hz:((a:Int)==0)=z):List (Ev Tryz.prog) :=
 [eStT xs (k:=a) (by omega),.eqv 53 (.int .i64 (((strN xs).size:Nat):Int)) (.int .i64 (M:Int)) (stz_lit hM),.eqv 54 (.int .i64 (IntKind.i64.wrap ((M:Int)-1))) (.int .i64 ((M-1:Nat):Int)) (wi64 (by omega) (by omega)),eStM xs (l:=a) (h:=M-1) ha (by omega),.eqv 57 (.bool ((a:Int)==0)) (.bool z) (eq_lit hz)]
def hrL0 {im:List Nat} (hL:im.length=0):List (Ev Tryz.prog):=[.eqv 59 (.int .i64 (((strN im).size:Nat):Int)) (.int .i64 ((0:Nat):Int)) (stz_lit hL)]
def hrL1 {im:List Nat} (h8:B8 im) {L c:Nat} (hL:im.length=L) (h0:0<L) (hc:im.getD 0 0=c) {q:Bool} (hq:((c:Int)==43)=q):List (Ev Tryz.prog):=[.eqv 59 (.int .i64 (((strN im).size:Nat):Int)) (.int .i64 (L:Int)) (stz_lit hL),.eqv 60 (.bool (decide (0<(L:Int)))) (.bool true) (lt_lit (decide_eq_true (by omega))),eStI (i:=0) h8 (by omega) hc,.eqv 64 (.bool ((c:Int)==43)) (.bool q) (eq_lit hq)]
section
variable {re im:List Nat}
noncomputable def hrYY {xs:List Nat} {z:GQ} (hz:FitG z) (h1:tqL z.re=re) (h2:tqL z.im=im) {r:Bool} (he:decide (textG z=strN xs)=r):List (Ev Tryz.prog):=[(sR3RdE hz.1 h1).e,(sR3RdE hz.2 h2).e,(sR4MayG (.ok z hz) rfl).e,(sR4Text hz).e,eStrNe (textG z) (strN xs) he]
def hrYN {x:Rat} (hx:Fit x) (h1:tqL x=re) (h8:B8 im) (h2:∀ y,Fit y→tqL y≠im):List (Ev Tryz.prog):=[(sR3RdE hx h1).e,(sR3ReadN h8 (.inl h2)).e]
def hrNY {y:Rat} (h8:B8 re) (h1:∀ y,Fit y→tqL y≠re) (hy:Fit y) (h2:tqL y=im):List (Ev Tryz.prog):=[(sR3ReadN h8 (.inl h1)).e,(sR3RdE hy h2).e]
def hrNN (h8:B8 re) (h1:∀ y,Fit y→tqL y≠re) (k8:B8 im) (h2:∀ y,Fit y→tqL y≠im):List (Ev Tryz.prog):=[(sR3ReadN h8 (.inl h1)).e,(sR3ReadN k8 (.inl h2)).e]
end
theorem hr_E0_YYt (β0:Env) (w:World) {xs:List Nat} {M a:Nat} (hM:xs.length=M) (hl:M≤10240) (h1M:0<M) (ha:a≤M-1) (h:a=0) (hL:(hrIm xs M a).length=0) {z:GQ} (hz:FitG z) (h1:tqL z.re=[48]) (h2:tqL z.im=hrIm xs M a) (he:decide (textG z=strN xs)=true):hrH β0 w (grOk z) (hrc xs a (hrEnd h++hrCut hM hl h1M ha (z:=true) (beq_iff_eq.2 (by omega))++hrL0 hL++hrYY hz h1 h2 he)):=last_ok (Ns:=hrNs) (m:=400) hmA (fun β=>ok_of_maps (by kernel_rfl))
theorem hr_E0_YYf (β0:Env) (w:World) {xs:List Nat} {M a:Nat} (hM:xs.length=M) (hl:M≤10240) (h1M:0<M) (ha:a≤M-1) (h:a=0) (hL:(hrIm xs M a).length=0) {z:GQ} (hz:FitG z) (h1:tqL z.re=[48]) (h2:tqL z.im=hrIm xs M a) (he:decide (textG z=strN xs)=false):hrH β0 w (grNo) (hrc xs a (hrEnd h++hrCut hM hl h1M ha (z:=true) (beq_iff_eq.2 (by omega))++hrL0 hL++hrYY hz h1 h2 he)):=last_ok (Ns:=hrNs) (m:=400) hmA (fun β=>ok_of_maps (by kernel_rfl))
theorem hr_E0_YN (β0:Env) (w:World) {xs:List Nat} {M a:Nat} (hM:xs.length=M) (hl:M≤10240) (h1M:0<M) (ha:a≤M-1) (h:a=0) (hL:(hrIm xs M a).length=0) {x:Rat} (hx:Fit x) (h1:tqL x=[48]) (k8:B8 (hrIm xs M a)) (h2:∀ y,Fit y→tqL y≠hrIm xs M a):hrH β0 w (grNo) (hrc xs a (hrEnd h++hrCut hM hl h1M ha (z:=true) (beq_iff_eq.2 (by omega))++hrL0 hL++hrYN hx h1 k8 h2)):=last_ok (Ns:=hrNs) (m:=400) hmA (fun β=>ok_of_maps (by kernel_rfl))
theorem hr_E0_NY (β0:Env) (w:World) {xs:List Nat} {M a:Nat} (hM:xs.length=M) (hl:M≤10240) (h1M:0<M) (ha:a≤M-1) (h:a=0) (hL:(hrIm xs M a).length=0) {y:Rat} (j8:B8 ([48])) (h1:∀ y,Fit y→tqL y≠[48]) (hy:Fit y) (h2:tqL y=hrIm xs M a):hrH β0 w (grNo) (hrc xs a (hrEnd h++hrCut hM hl h1M ha (z:=true) (beq_iff_eq.2 (by omega))++hrL0 hL++hrNY j8 h1 hy h2)):=last_ok (Ns:=hrNs) (m:=400) hmA (fun β=>ok_of_maps (by kernel_rfl))
theorem hr_E0_NN (β0:Env) (w:World) {xs:List Nat} {M a:Nat} (hM:xs.length=M) (hl:M≤10240) (h1M:0<M) (ha:a≤M-1) (h:a=0) (hL:(hrIm xs M a).length=0) (j8:B8 ([48])) (h1:∀ y,Fit y→tqL y≠[48]) (k8:B8 (hrIm xs M a)) (h2:∀ y,Fit y→tqL y≠hrIm xs M a):hrH β0 w (grNo) (hrc xs a (hrEnd h++hrCut hM hl h1M ha (z:=true) (beq_iff_eq.2 (by omega))++hrL0 hL++hrNN j8 h1 k8 h2)):=last_ok (Ns:=hrNs) (m:=400) hmA (fun β=>ok_of_maps (by kernel_rfl))
theorem hr_E1_YYt (β0:Env) (w:World) {xs:List Nat} {M a:Nat} (hM:xs.length=M) (hl:M≤10240) (h1M:0<M) (ha:a≤M-1) (h:a=0) (i8:B8 (hrIm xs M a)) {L c:Nat} (hL:(hrIm xs M a).length=L) (hL0:0<L) (hc:(hrIm xs M a).getD 0 0=c) (hq:((c:Int)==43)=false) {z:GQ} (hz:FitG z) (h1:tqL z.re=[48]) (h2:tqL z.im=hrIm xs M a) (he:decide (textG z=strN xs)=true):hrH β0 w (grOk z) (hrc xs a (hrEnd h++hrCut hM hl h1M ha (z:=true) (beq_iff_eq.2 (by omega))++hrL1 i8 hL hL0 hc hq++hrYY hz h1 h2 he)):=last_ok (Ns:=hrNs) (m:=400) hmA (fun β=>ok_of_maps (by kernel_rfl))
theorem hr_E1_YYf (β0:Env) (w:World) {xs:List Nat} {M a:Nat} (hM:xs.length=M) (hl:M≤10240) (h1M:0<M) (ha:a≤M-1) (h:a=0) (i8:B8 (hrIm xs M a)) {L c:Nat} (hL:(hrIm xs M a).length=L) (hL0:0<L) (hc:(hrIm xs M a).getD 0 0=c) (hq:((c:Int)==43)=false) {z:GQ} (hz:FitG z) (h1:tqL z.re=[48]) (h2:tqL z.im=hrIm xs M a) (he:decide (textG z=strN xs)=false):hrH β0 w (grNo) (hrc xs a (hrEnd h++hrCut hM hl h1M ha (z:=true) (beq_iff_eq.2 (by omega))++hrL1 i8 hL hL0 hc hq++hrYY hz h1 h2 he)):=last_ok (Ns:=hrNs) (m:=400) hmA (fun β=>ok_of_maps (by kernel_rfl))
theorem hr_E1_YN (β0:Env) (w:World) {xs:List Nat} {M a:Nat} (hM:xs.length=M) (hl:M≤10240) (h1M:0<M) (ha:a≤M-1) (h:a=0) (i8:B8 (hrIm xs M a)) {L c:Nat} (hL:(hrIm xs M a).length=L) (hL0:0<L) (hc:(hrIm xs M a).getD 0 0=c) (hq:((c:Int)==43)=false) {x:Rat} (hx:Fit x) (h1:tqL x=[48]) (k8:B8 (hrIm xs M a)) (h2:∀ y,Fit y→tqL y≠hrIm xs M a):hrH β0 w (grNo) (hrc xs a (hrEnd h++hrCut hM hl h1M ha (z:=true) (beq_iff_eq.2 (by omega))++hrL1 i8 hL hL0 hc hq++hrYN hx h1 k8 h2)):=last_ok (Ns:=hrNs) (m:=400) hmA (fun β=>ok_of_maps (by kernel_rfl))
theorem hr_E1_NY (β0:Env) (w:World) {xs:List Nat} {M a:Nat} (hM:xs.length=M) (hl:M≤10240) (h1M:0<M) (ha:a≤M-1) (h:a=0) (i8:B8 (hrIm xs M a)) {L c:Nat} (hL:(hrIm xs M a).length=L) (hL0:0<L) (hc:(hrIm xs M a).getD 0 0=c) (hq:((c:Int)==43)=false) {y:Rat} (j8:B8 ([48])) (h1:∀ y,Fit y→tqL y≠[48]) (hy:Fit y) (h2:tqL y=hrIm xs M a):hrH β0 w (grNo) (hrc xs a (hrEnd h++hrCut hM hl h1M ha (z:=true) (beq_iff_eq.2 (by omega))++hrL1 i8 hL hL0 hc hq++hrNY j8 h1 hy h2)):=last_ok (Ns:=hrNs) (m:=400) hmA (fun β=>ok_of_maps (by kernel_rfl))
theorem hr_E1_NN (β0:Env) (w:World) {xs:List Nat} {M a:Nat} (hM:xs.length=M) (hl:M≤10240) (h1M:0<M) (ha:a≤M-1) (h:a=0) (i8:B8 (hrIm xs M a)) {L c:Nat} (hL:(hrIm xs M a).length=L) (hL0:0<L) (hc:(hrIm xs M a).getD 0 0=c) (hq:((c:Int)==43)=false) (j8:B8 ([48])) (h1:∀ y,Fit y→tqL y≠[48]) (k8:B8 (hrIm xs M a)) (h2:∀ y,Fit y→tqL y≠hrIm xs M a):hrH β0 w (grNo) (hrc xs a (hrEnd h++hrCut hM hl h1M ha (z:=true) (beq_iff_eq.2 (by omega))++hrL1 i8 hL hL0 hc hq++hrNN j8 h1 k8 h2)):=last_ok (Ns:=hrNs) (m:=400) hmA (fun β=>ok_of_maps (by kernel_rfl))
theorem hr_E2_YYt (β0:Env) (w:World) {xs:List Nat} {M a:Nat} (hM:xs.length=M) (hl:M≤10240) (h1M:0<M) (ha:a≤M-1) (h:a=0) (i8:B8 (hrIm xs M a)) {L c:Nat} (hL:(hrIm xs M a).length=L) (hL0:0<L) (hc:(hrIm xs M a).getD 0 0=c) (hq:((c:Int)==43)=true) {z:GQ} (hz:FitG z) (h1:tqL z.re=[48]) (h2:tqL z.im=(hrIm xs M a).drop 1) (he:decide (textG z=strN xs)=true):hrH β0 w (grOk z) (hrc xs a (hrEnd h++hrCut hM hl h1M ha (z:=true) (beq_iff_eq.2 (by omega))++hrL1 i8 hL hL0 hc hq++[eStD (hrIm xs M a) (k:=1) (by omega)]++hrYY hz h1 h2 he)):=last_ok (Ns:=hrNs) (m:=400) hmA (fun β=>ok_of_maps (by kernel_rfl))
theorem hr_E2_YYf (β0:Env) (w:World) {xs:List Nat} {M a:Nat} (hM:xs.length=M) (hl:M≤10240) (h1M:0<M) (ha:a≤M-1) (h:a=0) (i8:B8 (hrIm xs M a)) {L c:Nat} (hL:(hrIm xs M a).length=L) (hL0:0<L) (hc:(hrIm xs M a).getD 0 0=c) (hq:((c:Int)==43)=true) {z:GQ} (hz:FitG z) (h1:tqL z.re=[48]) (h2:tqL z.im=(hrIm xs M a).drop 1) (he:decide (textG z=strN xs)=false):hrH β0 w (grNo) (hrc xs a (hrEnd h++hrCut hM hl h1M ha (z:=true) (beq_iff_eq.2 (by omega))++hrL1 i8 hL hL0 hc hq++[eStD (hrIm xs M a) (k:=1) (by omega)]++hrYY hz h1 h2 he)):=last_ok (Ns:=hrNs) (m:=400) hmA (fun β=>ok_of_maps (by kernel_rfl))
theorem hr_E2_YN (β0:Env) (w:World) {xs:List Nat} {M a:Nat} (hM:xs.length=M) (hl:M≤10240) (h1M:0<M) (ha:a≤M-1) (h:a=0) (i8:B8 (hrIm xs M a)) {L c:Nat} (hL:(hrIm xs M a).length=L) (hL0:0<L) (hc:(hrIm xs M a).getD 0 0=c) (hq:((c:Int)==43)=true) {x:Rat} (hx:Fit x) (h1:tqL x=[48]) (k8:B8 ((hrIm xs M a).drop 1)) (h2:∀ y,Fit y→tqL y≠(hrIm xs M a).drop 1):hrH β0 w (grNo) (hrc xs a (hrEnd h++hrCut hM hl h1M ha (z:=true) (beq_iff_eq.2 (by omega))++hrL1 i8 hL hL0 hc hq++[eStD (hrIm xs M a) (k:=1) (by omega)]++hrYN hx h1 k8 h2)):=last_ok (Ns:=hrNs) (m:=400) hmA (fun β=>ok_of_maps (by kernel_rfl))
theorem hr_E2_NY (β0:Env) (w:World) {xs:List Nat} {M a:Nat} (hM:xs.length=M) (hl:M≤10240) (h1M:0<M) (ha:a≤M-1) (h:a=0) (i8:B8 (hrIm xs M a)) {L c:Nat} (hL:(hrIm xs M a).length=L) (hL0:0<L) (hc:(hrIm xs M a).getD 0 0=c) (hq:((c:Int)==43)=true) {y:Rat} (j8:B8 ([48])) (h1:∀ y,Fit y→tqL y≠[48]) (hy:Fit y) (h2:tqL y=(hrIm xs M a).drop 1):hrH β0 w (grNo) (hrc xs a (hrEnd h++hrCut hM hl h1M ha (z:=true) (beq_iff_eq.2 (by omega))++hrL1 i8 hL hL0 hc hq++[eStD (hrIm xs M a) (k:=1) (by omega)]++hrNY j8 h1 hy h2)):=last_ok (Ns:=hrNs) (m:=400) hmA (fun β=>ok_of_maps (by kernel_rfl))
theorem hr_E2_NN (β0:Env) (w:World) {xs:List Nat} {M a:Nat} (hM:xs.length=M) (hl:M≤10240) (h1M:0<M) (ha:a≤M-1) (h:a=0) (i8:B8 (hrIm xs M a)) {L c:Nat} (hL:(hrIm xs M a).length=L) (hL0:0<L) (hc:(hrIm xs M a).getD 0 0=c) (hq:((c:Int)==43)=true) (j8:B8 ([48])) (h1:∀ y,Fit y→tqL y≠[48]) (k8:B8 ((hrIm xs M a).drop 1)) (h2:∀ y,Fit y→tqL y≠(hrIm xs M a).drop 1):hrH β0 w (grNo) (hrc xs a (hrEnd h++hrCut hM hl h1M ha (z:=true) (beq_iff_eq.2 (by omega))++hrL1 i8 hL hL0 hc hq++[eStD (hrIm xs M a) (k:=1) (by omega)]++hrNN j8 h1 k8 h2)):=last_ok (Ns:=hrNs) (m:=400) hmA (fun β=>ok_of_maps (by kernel_rfl))
theorem hr_P_YYt (β0:Env) (w:World) {xs:List Nat} {M a:Nat} (hM:xs.length=M) (hl:M≤10240) (h1M:0<M) (ha:a≤M-1) (h8:B8 xs) {g:Nat} (h0:0<a) (hg:xs.getD a 0=g) (hp:((g:Int)==43)=true) (i8:B8 (hrIm xs M a)) {L c:Nat} (hL:(hrIm xs M a).length=L) (hL0:0<L) (hc:(hrIm xs M a).getD 0 0=c) (hq:((c:Int)==43)=true) {z:GQ} (hz:FitG z) (h1:tqL z.re=xs.take a) (h2:tqL z.im=(hrIm xs M a).drop 1) (he:decide (textG z=strN xs)=true):hrH β0 w (grOk z) (hrc xs a (hrGo h8 h0 (by omega) hg hp++hrCut hM hl h1M ha (z:=false) (beq_eq_false_iff_ne.2 (by omega))++hrL1 i8 hL hL0 hc hq++[eStD (hrIm xs M a) (k:=1) (by omega)]++hrYY hz h1 h2 he)):=last_ok (Ns:=hrNs) (m:=400) hmA (fun β=>ok_of_maps (by kernel_rfl))
theorem hr_P_YYf (β0:Env) (w:World) {xs:List Nat} {M a:Nat} (hM:xs.length=M) (hl:M≤10240) (h1M:0<M) (ha:a≤M-1) (h8:B8 xs) {g:Nat} (h0:0<a) (hg:xs.getD a 0=g) (hp:((g:Int)==43)=true) (i8:B8 (hrIm xs M a)) {L c:Nat} (hL:(hrIm xs M a).length=L) (hL0:0<L) (hc:(hrIm xs M a).getD 0 0=c) (hq:((c:Int)==43)=true) {z:GQ} (hz:FitG z) (h1:tqL z.re=xs.take a) (h2:tqL z.im=(hrIm xs M a).drop 1) (he:decide (textG z=strN xs)=false):hrH β0 w (grNo) (hrc xs a (hrGo h8 h0 (by omega) hg hp++hrCut hM hl h1M ha (z:=false) (beq_eq_false_iff_ne.2 (by omega))++hrL1 i8 hL hL0 hc hq++[eStD (hrIm xs M a) (k:=1) (by omega)]++hrYY hz h1 h2 he)):=last_ok (Ns:=hrNs) (m:=400) hmA (fun β=>ok_of_maps (by kernel_rfl))
theorem hr_P_YN (β0:Env) (w:World) {xs:List Nat} {M a:Nat} (hM:xs.length=M) (hl:M≤10240) (h1M:0<M) (ha:a≤M-1) (h8:B8 xs) {g:Nat} (h0:0<a) (hg:xs.getD a 0=g) (hp:((g:Int)==43)=true) (i8:B8 (hrIm xs M a)) {L c:Nat} (hL:(hrIm xs M a).length=L) (hL0:0<L) (hc:(hrIm xs M a).getD 0 0=c) (hq:((c:Int)==43)=true) {x:Rat} (hx:Fit x) (h1:tqL x=xs.take a) (k8:B8 ((hrIm xs M a).drop 1)) (h2:∀ y,Fit y→tqL y≠(hrIm xs M a).drop 1):hrH β0 w (grNo) (hrc xs a (hrGo h8 h0 (by omega) hg hp++hrCut hM hl h1M ha (z:=false) (beq_eq_false_iff_ne.2 (by omega))++hrL1 i8 hL hL0 hc hq++[eStD (hrIm xs M a) (k:=1) (by omega)]++hrYN hx h1 k8 h2)):=last_ok (Ns:=hrNs) (m:=400) hmA (fun β=>ok_of_maps (by kernel_rfl))
theorem hr_P_NY (β0:Env) (w:World) {xs:List Nat} {M a:Nat} (hM:xs.length=M) (hl:M≤10240) (h1M:0<M) (ha:a≤M-1) (h8:B8 xs) {g:Nat} (h0:0<a) (hg:xs.getD a 0=g) (hp:((g:Int)==43)=true) (i8:B8 (hrIm xs M a)) {L c:Nat} (hL:(hrIm xs M a).length=L) (hL0:0<L) (hc:(hrIm xs M a).getD 0 0=c) (hq:((c:Int)==43)=true) {y:Rat} (j8:B8 (xs.take a)) (h1:∀ y,Fit y→tqL y≠xs.take a) (hy:Fit y) (h2:tqL y=(hrIm xs M a).drop 1):hrH β0 w (grNo) (hrc xs a (hrGo h8 h0 (by omega) hg hp++hrCut hM hl h1M ha (z:=false) (beq_eq_false_iff_ne.2 (by omega))++hrL1 i8 hL hL0 hc hq++[eStD (hrIm xs M a) (k:=1) (by omega)]++hrNY j8 h1 hy h2)):=last_ok (Ns:=hrNs) (m:=400) hmA (fun β=>ok_of_maps (by kernel_rfl))
theorem hr_P_NN (β0:Env) (w:World) {xs:List Nat} {M a:Nat} (hM:xs.length=M) (hl:M≤10240) (h1M:0<M) (ha:a≤M-1) (h8:B8 xs) {g:Nat} (h0:0<a) (hg:xs.getD a 0=g) (hp:((g:Int)==43)=true) (i8:B8 (hrIm xs M a)) {L c:Nat} (hL:(hrIm xs M a).length=L) (hL0:0<L) (hc:(hrIm xs M a).getD 0 0=c) (hq:((c:Int)==43)=true) (j8:B8 (xs.take a)) (h1:∀ y,Fit y→tqL y≠xs.take a) (k8:B8 ((hrIm xs M a).drop 1)) (h2:∀ y,Fit y→tqL y≠(hrIm xs M a).drop 1):hrH β0 w (grNo) (hrc xs a (hrGo h8 h0 (by omega) hg hp++hrCut hM hl h1M ha (z:=false) (beq_eq_false_iff_ne.2 (by omega))++hrL1 i8 hL hL0 hc hq++[eStD (hrIm xs M a) (k:=1) (by omega)]++hrNN j8 h1 k8 h2)):=last_ok (Ns:=hrNs) (m:=400) hmA (fun β=>ok_of_maps (by kernel_rfl))
theorem hr_M_YYt (β0:Env) (w:World) {xs:List Nat} {M a:Nat} (hM:xs.length=M) (hl:M≤10240) (h1M:0<M) (ha:a≤M-1) (h8:B8 xs) {g:Nat} (h0:0<a) (hg:xs.getD a 0=g) (hp:((g:Int)==43)=false) (hm:((g:Int)==45)=true) (i8:B8 (hrIm xs M a)) {L c:Nat} (hL:(hrIm xs M a).length=L) (hL0:0<L) (hc:(hrIm xs M a).getD 0 0=c) (hq:((c:Int)==43)=false) {z:GQ} (hz:FitG z) (h1:tqL z.re=xs.take a) (h2:tqL z.im=hrIm xs M a) (he:decide (textG z=strN xs)=true):hrH β0 w (grOk z) (hrc xs a (hrGo2 h8 h0 (by omega) hg hp hm++hrCut hM hl h1M ha (z:=false) (beq_eq_false_iff_ne.2 (by omega))++hrL1 i8 hL hL0 hc hq++hrYY hz h1 h2 he)):=last_ok (Ns:=hrNs) (m:=400) hmA (fun β=>ok_of_maps (by kernel_rfl))
theorem hr_M_YYf (β0:Env) (w:World) {xs:List Nat} {M a:Nat} (hM:xs.length=M) (hl:M≤10240) (h1M:0<M) (ha:a≤M-1) (h8:B8 xs) {g:Nat} (h0:0<a) (hg:xs.getD a 0=g) (hp:((g:Int)==43)=false) (hm:((g:Int)==45)=true) (i8:B8 (hrIm xs M a)) {L c:Nat} (hL:(hrIm xs M a).length=L) (hL0:0<L) (hc:(hrIm xs M a).getD 0 0=c) (hq:((c:Int)==43)=false) {z:GQ} (hz:FitG z) (h1:tqL z.re=xs.take a) (h2:tqL z.im=hrIm xs M a) (he:decide (textG z=strN xs)=false):hrH β0 w (grNo) (hrc xs a (hrGo2 h8 h0 (by omega) hg hp hm++hrCut hM hl h1M ha (z:=false) (beq_eq_false_iff_ne.2 (by omega))++hrL1 i8 hL hL0 hc hq++hrYY hz h1 h2 he)):=last_ok (Ns:=hrNs) (m:=400) hmA (fun β=>ok_of_maps (by kernel_rfl))
theorem hr_M_YN (β0:Env) (w:World) {xs:List Nat} {M a:Nat} (hM:xs.length=M) (hl:M≤10240) (h1M:0<M) (ha:a≤M-1) (h8:B8 xs) {g:Nat} (h0:0<a) (hg:xs.getD a 0=g) (hp:((g:Int)==43)=false) (hm:((g:Int)==45)=true) (i8:B8 (hrIm xs M a)) {L c:Nat} (hL:(hrIm xs M a).length=L) (hL0:0<L) (hc:(hrIm xs M a).getD 0 0=c) (hq:((c:Int)==43)=false) {x:Rat} (hx:Fit x) (h1:tqL x=xs.take a) (k8:B8 (hrIm xs M a)) (h2:∀ y,Fit y→tqL y≠hrIm xs M a):hrH β0 w (grNo) (hrc xs a (hrGo2 h8 h0 (by omega) hg hp hm++hrCut hM hl h1M ha (z:=false) (beq_eq_false_iff_ne.2 (by omega))++hrL1 i8 hL hL0 hc hq++hrYN hx h1 k8 h2)):=last_ok (Ns:=hrNs) (m:=400) hmA (fun β=>ok_of_maps (by kernel_rfl))
theorem hr_M_NY (β0:Env) (w:World) {xs:List Nat} {M a:Nat} (hM:xs.length=M) (hl:M≤10240) (h1M:0<M) (ha:a≤M-1) (h8:B8 xs) {g:Nat} (h0:0<a) (hg:xs.getD a 0=g) (hp:((g:Int)==43)=false) (hm:((g:Int)==45)=true) (i8:B8 (hrIm xs M a)) {L c:Nat} (hL:(hrIm xs M a).length=L) (hL0:0<L) (hc:(hrIm xs M a).getD 0 0=c) (hq:((c:Int)==43)=false) {y:Rat} (j8:B8 (xs.take a)) (h1:∀ y,Fit y→tqL y≠xs.take a) (hy:Fit y) (h2:tqL y=hrIm xs M a):hrH β0 w (grNo) (hrc xs a (hrGo2 h8 h0 (by omega) hg hp hm++hrCut hM hl h1M ha (z:=false) (beq_eq_false_iff_ne.2 (by omega))++hrL1 i8 hL hL0 hc hq++hrNY j8 h1 hy h2)):=last_ok (Ns:=hrNs) (m:=400) hmA (fun β=>ok_of_maps (by kernel_rfl))
theorem hr_M_NN (β0:Env) (w:World) {xs:List Nat} {M a:Nat} (hM:xs.length=M) (hl:M≤10240) (h1M:0<M) (ha:a≤M-1) (h8:B8 xs) {g:Nat} (h0:0<a) (hg:xs.getD a 0=g) (hp:((g:Int)==43)=false) (hm:((g:Int)==45)=true) (i8:B8 (hrIm xs M a)) {L c:Nat} (hL:(hrIm xs M a).length=L) (hL0:0<L) (hc:(hrIm xs M a).getD 0 0=c) (hq:((c:Int)==43)=false) (j8:B8 (xs.take a)) (h1:∀ y,Fit y→tqL y≠xs.take a) (k8:B8 (hrIm xs M a)) (h2:∀ y,Fit y→tqL y≠hrIm xs M a):hrH β0 w (grNo) (hrc xs a (hrGo2 h8 h0 (by omega) hg hp hm++hrCut hM hl h1M ha (z:=false) (beq_eq_false_iff_ne.2 (by omega))++hrL1 i8 hL hL0 hc hq++hrNN j8 h1 k8 h2)):=last_ok (Ns:=hrNs) (m:=400) hmA (fun β=>ok_of_maps (by kernel_rfl))
def hrS {xs:List Nat} {M:Nat} (hM:xs.length=M) (hl:M≤10240) {b:Bool} (hb:decide (0<(M:Int))=b):List (Ev Tryz.prog):=[.eqv 13 (.int .i64 (((strN xs).size:Nat):Int)) (.int .i64 (M:Int)) (stz_lit hM),.eqv 14 (.bool (decide (10240<(M:Int)))) (.bool false) (lt_lit (decide_eq_false (by omega))),.eqv 18 (.int .i64 (((strN xs).size:Nat):Int)) (.int .i64 (M:Int)) (stz_lit hM),.eqv 19 (.bool (decide (0<(M:Int)))) (.bool b) (lt_lit hb)]
def hrI {xs:List Nat} {M c:Nat} (h8:B8 xs) (hM:xs.length=M) (hl:M≤10240) (h0:0<M) (hc:xs.getD (M-1) 0=c) {q:Bool} (hq:((c:Int)==105)=q):List (Ev Tryz.prog):=hrS hM hl (b:=true) (decide_eq_true (by omega))++[.eqv 23 (.int .i64 (((strN xs).size:Nat):Int)) (.int .i64 (M:Int)) (stz_lit hM),.eqv 24 (.int .i64 (IntKind.i64.wrap ((M:Int)-1))) (.int .i64 ((M-1:Nat):Int)) (wi64 (by omega) (by omega)),eStI (i:=M-1) h8 (by omega) hc,.eqv 26 (.bool ((c:Int)==105)) (.bool q) (eq_lit hq)]
noncomputable def sHrYYt {xs:List Nat} {M c:Nat} (h8:B8 xs) (hM:xs.length=M) (hl:M≤10240) (h0:0<M) (hc:xs.getD (M-1) 0=c) (hq:((c:Int)==105)=false) {z:GQ} (hz:FitG z) (h1:tqL z.re=xs) (h2:tqL z.im=[48]) (he:decide (textG z=strN xs)=true):Spec Tryz.prog :=
 Spec.auto Tryz.call26 [stV xs] [] (grOk z) [] (hrI h8 hM hl h0 hc hq++hrYY hz h1 h2 he) hrNs 400 Tryz.func26 hmA (by kernel_rfl) (fun β=>by kernel_rfl)
noncomputable def sHrYYf {xs:List Nat} {M c:Nat} (h8:B8 xs) (hM:xs.length=M) (hl:M≤10240) (h0:0<M) (hc:xs.getD (M-1) 0=c) (hq:((c:Int)==105)=false) {z:GQ} (hz:FitG z) (h1:tqL z.re=xs) (h2:tqL z.im=[48]) (he:decide (textG z=strN xs)=false):Spec Tryz.prog :=
 Spec.auto Tryz.call26 [stV xs] [] (grNo) [] (hrI h8 hM hl h0 hc hq++hrYY hz h1 h2 he) hrNs 400 Tryz.func26 hmA (by kernel_rfl) (fun β=>by kernel_rfl)
noncomputable def sHrYN {xs:List Nat} {M c:Nat} (h8:B8 xs) (hM:xs.length=M) (hl:M≤10240) (h0:0<M) (hc:xs.getD (M-1) 0=c) (hq:((c:Int)==105)=false) {x:Rat} (hx:Fit x) (h1:tqL x=xs) (k8:B8 ([48])) (h2:∀ y,Fit y→tqL y≠[48]):Spec Tryz.prog :=
 Spec.auto Tryz.call26 [stV xs] [] (grNo) [] (hrI h8 hM hl h0 hc hq++hrYN hx h1 k8 h2) hrNs 400 Tryz.func26 hmA (by kernel_rfl) (fun β=>by kernel_rfl)
noncomputable def sHrNY {xs:List Nat} {M c:Nat} (h8:B8 xs) (hM:xs.length=M) (hl:M≤10240) (h0:0<M) (hc:xs.getD (M-1) 0=c) (hq:((c:Int)==105)=false) {y:Rat} (j8:B8 (xs)) (h1:∀ y,Fit y→tqL y≠xs) (hy:Fit y) (h2:tqL y=[48]):Spec Tryz.prog :=
 Spec.auto Tryz.call26 [stV xs] [] (grNo) [] (hrI h8 hM hl h0 hc hq++hrNY j8 h1 hy h2) hrNs 400 Tryz.func26 hmA (by kernel_rfl) (fun β=>by kernel_rfl)
noncomputable def sHrNN {xs:List Nat} {M c:Nat} (h8:B8 xs) (hM:xs.length=M) (hl:M≤10240) (h0:0<M) (hc:xs.getD (M-1) 0=c) (hq:((c:Int)==105)=false) (j8:B8 (xs)) (h1:∀ y,Fit y→tqL y≠xs) (k8:B8 ([48])) (h2:∀ y,Fit y→tqL y≠[48]):Spec Tryz.prog :=
 Spec.auto Tryz.call26 [stV xs] [] (grNo) [] (hrI h8 hM hl h0 hc hq++hrNN j8 h1 k8 h2) hrNs 400 Tryz.func26 hmA (by kernel_rfl) (fun β=>by kernel_rfl)
noncomputable def sHrE {y:Rat} (j8:B8 ([]:List Nat)) (h1:∀ y,Fit y→tqL y≠[]) (hy:Fit y) (h2:tqL y=[48]):Spec Tryz.prog :=
 Spec.auto Tryz.call26 [stV []] [] grNo [] (hrNY j8 h1 hy h2) hrNs 400 Tryz.func26 hmA (by kernel_rfl) (fun β=>by kernel_rfl)
theorem hr_start {xs:List Nat} {M c:Nat} (h8:B8 xs) (hM:xs.length=M) (hl:M≤10240) (h0:0<M) (hc:xs.getD (M-1) 0=c) (hq:((c:Int)==105)=true) (res:SV) (β:Env) (w:World) (h:hrH β w res (hrc xs (M-1) [])) :
  Calls Tryz.prog 26 (([stV xs]:List SV).map (SV.den β)).toArray w (Said Tryz.prog hrF 0 res [] β w) :=
 sx_cut (P:=Tryz.prog) [stV xs] [] (hrI h8 hM hl h0 hc hq++[.eqv 29 (.int .i64 (((strN xs).size:Nat):Int)) (.int .i64 (M:Int)) (stz_lit hM),.eqv 30 (.int .i64 (IntKind.i64.wrap ((M:Int)-1))) (.int .i64 ((M-1:Nat):Int)) (wi64 (by omega) (by omega)),.cut]) [] hrNs 400 res [] Tryz.func26 hmA (u:=0) (sl:=hrSl xs (M-1)) (ob:=[.dead,.box gz0 GAT]) (σ:=[0,0]) (p':=lpAt hrF 0) (by kernel_rfl) (fun β=>ok_of_maps (by kernel_rfl)) (by kernel_rfl) (by kernel_rfl) β w (fun k o ho=>by simp at ho) h
theorem gr_outP {xs re im:List Nat} (h8:B8 xs) (hP:∀ z,FitG z→tgL z.re z.im=xs→tqL z.re=re∧tqL z.im=im) {res:SV} (hY:∀ z,FitG z→tgL z.re z.im=xs→res=grOk z) (hN:(∀ z,FitG z→tgL z.re z.im≠xs)→res=grNo) {G:SV→Prop}
  (kYt:∀ z,FitG z→tqL z.re=re→tqL z.im=im→decide (textG z=strN xs)=true→G (grOk z)) (kYf:∀ z,FitG z→tqL z.re=re→tqL z.im=im→decide (textG z=strN xs)=false→G grNo)
  (kYN:∀ x,Fit x→tqL x=re→(∀ y,Fit y→tqL y≠im)→G grNo) (kNY:∀ y,(∀ x,Fit x→tqL x≠re)→Fit y→tqL y=im→G grNo) (kNN:(∀ x,Fit x→tqL x≠re)→(∀ y,Fit y→tqL y≠im)→G grNo):G res:=by
 have hdec:∀ z:GQ,tgL z.re z.im=xs↔textG z=strN xs:=fun z=>by
  rw [textG_tg]
  exact ⟨fun e=>by rw [e],fun e=>strN_inj (B8_tg _ _) h8 e⟩
 by_cases c1:∃ x,Fit x∧tqL x=re
 · obtain ⟨x,hx,ex⟩:=c1
   by_cases c2:∃ y,Fit y∧tqL y=im
   · obtain ⟨y,hy,ey⟩:=c2
     cases hd:decide (textG ⟨x,y⟩=strN xs) with
     | true =>
      rw [hY ⟨x,y⟩ ⟨hx,hy⟩ ((hdec ⟨x,y⟩).2 (of_decide_eq_true hd))]
      exact kYt ⟨x,y⟩ ⟨hx,hy⟩ ex ey hd
     | false =>
      rw [hN fun z hz e=>?_]
      · exact kYf ⟨x,y⟩ ⟨hx,hy⟩ ex ey hd
      · obtain ⟨j1,j2⟩:=hP z hz e
        have i1:z.re=x:=tq_inj (j1.trans ex.symm)
        have i2:z.im=y:=tq_inj (j2.trans ey.symm)
        have:(⟨x,y⟩:GQ)=z:=by rw [← i1,← i2]
        rw [this] at hd
        exact of_decide_eq_false hd ((hdec z).1 e)
   · rw [hN fun z hz e=>c2 ⟨z.im,hz.2,(hP z hz e).2⟩]
     exact kYN x hx ex fun y h1 h2=>c2 ⟨y,h1,h2⟩
 · rw [hN fun z hz e=>c1 ⟨z.re,hz.1,(hP z hz e).1⟩]
   by_cases c2:∃ y,Fit y∧tqL y=im
   · obtain ⟨y,hy,ey⟩:=c2
     exact kNY y (fun x h1 h2=>c1 ⟨x,h1,h2⟩) hy ey
   · exact kNN (fun x h1 h2=>c1 ⟨x,h1,h2⟩) fun y h1 h2=>c2 ⟨y,h1,h2⟩
theorem gr_out {xs re im:List Nat} (h8:B8 xs) (e1:gzRe xs=re) (e2:gzIm xs=im) {res:SV} (hY:∀ z,FitG z→tgL z.re z.im=xs→res=grOk z) (hN:(∀ z,FitG z→tgL z.re z.im≠xs)→res=grNo) {G:SV→Prop}
  (kYt:∀ z,FitG z→tqL z.re=re→tqL z.im=im→decide (textG z=strN xs)=true→G (grOk z)) (kYf:∀ z,FitG z→tqL z.re=re→tqL z.im=im→decide (textG z=strN xs)=false→G grNo)
  (kYN:∀ x,Fit x→tqL x=re→(∀ y,Fit y→tqL y≠im)→G grNo) (kNY:∀ y,(∀ x,Fit x→tqL x≠re)→Fit y→tqL y=im→G grNo) (kNN:(∀ x,Fit x→tqL x≠re)→(∀ y,Fit y→tqL y≠im)→G grNo):G res :=
 gr_outP h8 (fun z hz e=>by
  obtain ⟨h1,h2⟩:=tg_read z.re z.im
  rw [e] at h1 h2
  exact ⟨by rw [← h1,e1],by rw [← h2,e2]⟩) hY hN kYt kYf kYN kNY kNN
section
variable {β0:Env} {w:World} {res:SV} {b:List Nat} {n:Nat} (h8:B8 (b++[105])) (hn:b.length=n) (hl:n≤10240) (hY:∀ z,FitG z→tgL z.re z.im=b++[105]→res=grOk z) (hN:(∀ z,FitG z→tgL z.re z.im≠b++[105])→res=grNo)
include h8 hn hl hY hN
theorem gr_join (h0:lastAt b (n-1)=0→True):∀ a:Nat,a≤n-1→lastAt b (n-1)=lastAt b a→grH β0 w res (grc (b++[105]) b (a:Int) []):=by
 have b8:B8 b:=fun x hx=>h8 x (List.mem_append_left _ hx)
 obtain ⟨g1,g2⟩:=gz_snoc b
 have l48:B8 [48]:=fun x hx=>by obtain rfl:=List.mem_singleton.1 hx; decide
 intro a
 induction a with
 | zero =>
  intro ha hla
  have hz:lastAt b (n-1)=0:=hla
  have e1:gzRe (b++[105])=[48]:=by
   unfold gzRe
   rw [if_pos g1,g2,hn,if_pos hz]
  have e2:gzIm (b++[105])=b:=by
   unfold gzIm
   rw [if_pos g1,g2,hn,if_pos hz]
  refine gr_out (G:=fun r=>grH β0 w r (grc (b++[105]) b ((0:Nat):Int) [])) h8 e1 e2 hY hN ?_ ?_ ?_ ?_ ?_
  · exact fun z hz h1 h2 hd=>hd_ev (gr_E_YYt β0 w (a:=((0:Nat):Int)) (by omega) hz h1 h2 hd)
  · exact fun z hz h1 h2 hd=>hd_ev (gr_E_YYf β0 w (a:=((0:Nat):Int)) (by omega) hz h1 h2 hd)
  · exact fun x hx h1 h2=>hd_ev (gr_E_YN β0 w (a:=((0:Nat):Int)) (by omega) hx h1 b8 (by omega) h2)
  · exact fun y h1 hy h2=>hd_ev (gr_E_NY β0 w (a:=((0:Nat):Int)) (by omega) l48 (by decide) h1 hy h2)
  · exact fun h1 h2=>hd_ev (gr_E_NN β0 w (a:=((0:Nat):Int)) (by omega) l48 (by decide) h1 b8 (by omega) h2)
 | succ a ih =>
  intro ha hla
  have hab:a+1<b.length:=by omega
  obtain ⟨c,hc⟩:∃ c,b.getD (a+1) 0=c:=⟨_,rfl⟩
  have t8:B8 (b.take (a+1)):=b8.take _
  have tl:(b.take (a+1)).length<4294967281:=by rw [List.length_take]; omega
  cases hp:((c:Int)==43) with
  | true =>
   have e43:c=43:=by
    have:=beq_iff_eq.1 hp
    omega
   have hz:lastAt b (n-1)=a+1:=by
    rw [hla]
    unfold lastAt
    rw [if_pos (by rw [hc]; exact .inl e43)]
   have e1:gzRe (b++[105])=b.take (a+1):=by
    unfold gzRe
    rw [if_pos g1,g2,hn,hz,if_neg (by omega)]
   have e2:gzIm (b++[105])=b.drop (a+1+1):=by
    unfold gzIm
    rw [if_pos g1,g2,hn,hz,if_neg (by omega),if_pos (by rw [hc,e43])]
   have d8:B8 (b.drop (a+1+1)):=b8.drop _
   have dl:(b.drop (a+1+1)).length<4294967281:=by rw [List.length_drop]; omega
   refine gr_out (G:=fun r=>grH β0 w r (grc (b++[105]) b ((a+1:Nat):Int) [])) h8 e1 e2 hY hN ?_ ?_ ?_ ?_ ?_
   · exact fun z hz h1 h2 hd=>hd_ev (gr_P_YYt β0 w b8 (Nat.succ_pos a) hab (by omega) hc hp hz h1 h2 hd)
   · exact fun z hz h1 h2 hd=>hd_ev (gr_P_YYf β0 w b8 (Nat.succ_pos a) hab (by omega) hc hp hz h1 h2 hd)
   · exact fun x hx h1 h2=>hd_ev (gr_P_YN β0 w b8 (Nat.succ_pos a) hab (by omega) hc hp hx h1 d8 dl h2)
   · exact fun y h1 hy h2=>hd_ev (gr_P_NY β0 w b8 (Nat.succ_pos a) hab (by omega) hc hp t8 tl h1 hy h2)
   · exact fun h1 h2=>hd_ev (gr_P_NN β0 w b8 (Nat.succ_pos a) hab (by omega) hc hp t8 tl h1 d8 dl h2)
  | false =>
   have n43:c≠43:=fun e=>by
    rw [e] at hp
    exact absurd hp (by decide)
   cases hm:((c:Int)==45) with
   | true =>
    have e45:c=45:=by
     have:=beq_iff_eq.1 hm
     omega
    have hz:lastAt b (n-1)=a+1:=by
     rw [hla]
     unfold lastAt
     rw [if_pos (by rw [hc]; exact .inr e45)]
    have e1:gzRe (b++[105])=b.take (a+1):=by
     unfold gzRe
     rw [if_pos g1,g2,hn,hz,if_neg (by omega)]
    have e2:gzIm (b++[105])=b.drop (a+1):=by
     unfold gzIm
     rw [if_pos g1,g2,hn,hz,if_neg (by omega),if_neg (by rw [hc]; exact n43)]
    have d8:B8 (b.drop (a+1)):=b8.drop _
    have dl:(b.drop (a+1)).length<4294967281:=by rw [List.length_drop]; omega
    refine gr_out (G:=fun r=>grH β0 w r (grc (b++[105]) b ((a+1:Nat):Int) [])) h8 e1 e2 hY hN ?_ ?_ ?_ ?_ ?_
    · exact fun z hz h1 h2 hd=>hd_ev (gr_M_YYt β0 w b8 (Nat.succ_pos a) hab hc hp hm hz h1 h2 hd)
    · exact fun z hz h1 h2 hd=>hd_ev (gr_M_YYf β0 w b8 (Nat.succ_pos a) hab hc hp hm hz h1 h2 hd)
    · exact fun x hx h1 h2=>hd_ev (gr_M_YN β0 w b8 (Nat.succ_pos a) hab hc hp hm hx h1 d8 dl h2)
    · exact fun y h1 hy h2=>hd_ev (gr_M_NY β0 w b8 (Nat.succ_pos a) hab hc hp hm t8 tl h1 hy h2)
    · exact fun h1 h2=>hd_ev (gr_M_NN β0 w b8 (Nat.succ_pos a) hab hc hp hm t8 tl h1 d8 dl h2)
   | false =>
    have n45:c≠45:=fun e=>by
     rw [e] at hm
     exact absurd hm (by decide)
    refine hd_ev (gr_step β0 w res b8 hab (by omega) hc hp hm (ih (by omega) ?_))
    rw [hla]
    conv=>lhs; unfold lastAt
    rw [if_neg (by rw [hc]; exact fun h=>h.elim n43 n45)]
theorem gr_first:grH β0 w res (grc (b++[105]) b ((n:Int)-1) []):=by
 have b8:B8 b:=fun x hx=>h8 x (List.mem_append_left _ hx)
 rcases Nat.eq_zero_or_pos n with h0 | h0
 · subst h0
   have hb:b=[]:=List.eq_nil_of_length_eq_zero hn
   subst hb
   have l48:B8 [48]:=fun x hx=>by obtain rfl:=List.mem_singleton.1 hx; decide
   refine gr_out (G:=fun r=>grH β0 w r (grc ([]++[105]) [] (((0:Nat):Int)-1) [])) h8 (re:=[48]) (im:=[]) rfl rfl hY hN ?_ ?_ ?_ ?_ ?_
   · exact fun z hz h1 h2 hd=>hd_ev (gr_E_YYt β0 w (by omega) hz h1 h2 hd)
   · exact fun z hz h1 h2 hd=>hd_ev (gr_E_YYf β0 w (by omega) hz h1 h2 hd)
   · exact fun x hx h1 h2=>hd_ev (gr_E_YN β0 w (by omega) hx h1 b8 (by decide) h2)
   · exact fun y h1 hy h2=>hd_ev (gr_E_NY β0 w (by omega) l48 (by decide) h1 hy h2)
   · exact fun h1 h2=>hd_ev (gr_E_NN β0 w (by omega) l48 (by decide) h1 b8 (by decide) h2)
 · have:=gr_join (β0:=β0) (w:=w) h8 hn hl hY hN (fun _=>trivial) (n-1) (Nat.le_refl _) rfl
   rwa [show ((n-1:Nat):Int)=(n:Int)-1 by omega] at this
end
theorem gr_specOf {res:SV} {β:Env} {w:World} {e:Ending} {w':World} (hr:(∃ z,res=grOk z)∨res=grNo) (h:Said Tryz.prog grF 0 res [] β w e w'):∃ xs:List Pl,freshS β w 0 xs∧e=.returned (res.den (extE β 0 xs))∧newHold w' [] xs∧Below w.heap.size w w':=by
 rcases hr with ⟨z,rfl⟩ | rfl
 · obtain ⟨β',q,obj,_,rfl,_,_,_,g⟩:=h
   exact ⟨[],(fun _ h=>by cases h),rfl,trivial,g.bel⟩
 · obtain ⟨β',q,obj,_,rfl,_,_,_,g⟩:=h
   exact ⟨[],(fun _ h=>by cases h),rfl,trivial,g.bel⟩
theorem gread_all {xs:List Nat} (h8:B8 xs) (hl:xs.length≤10240) {res:SV} (hY:∀ z,FitG z→tgL z.re z.im=xs→res=grOk z) (hN:(∀ z,FitG z→tgL z.re z.im≠xs)→res=grNo) (β:Env) (w:World) :
  Calls Tryz.prog 16 (([stV xs]:List SV).map (SV.den β)).toArray w fun e w'=>∃ ys:List Pl,freshS β w 0 ys∧e=.returned (res.den (extE β 0 ys))∧newHold w' [] ys∧Below w.heap.size w w':=by
 by_cases hi:xs.getLast?=some 105
 · obtain ⟨b,rfl⟩:∃ b,xs=b++[105]:=by
    rcases List.eq_nil_or_concat xs with h | ⟨r,x,h⟩
    · rw [h] at hi
      cases hi
    · rw [List.concat_eq_append] at h
      refine ⟨r,?_⟩
      rw [h] at hi ⊢
      have:x=105:=by simpa using hi
      rw [this]
   have hres:(∃ z,res=grOk z)∨res=grNo:=by
    by_cases hR:∃ z,FitG z∧tgL z.re z.im=b++[105]
    · obtain ⟨z,h1,h2⟩:=hR
      exact .inl ⟨z,hY z h1 h2⟩
    · exact .inr (hN fun z h1 h2=>hR ⟨z,h1,h2⟩)
   have hlb:(b++[105]).length=b.length+1:=by simp
   exact (gr_start h8 hlb (by omega) rfl res β w (gr_first h8 rfl (by omega) hY hN)).mono fun e w' h=>gr_specOf hres h
 · have e1:gzRe xs=xs:=if_neg hi
   have e2:gzIm xs=[48]:=if_neg hi
   have l48:B8 [48]:=fun x hx=>by obtain rfl:=List.mem_singleton.1 hx; decide
   refine gr_out (G:=fun r=>Calls Tryz.prog 16 (([stV xs]:List SV).map (SV.den β)).toArray w fun e w'=>∃ ys:List Pl,freshS β w 0 ys∧e=.returned (r.den (extE β 0 ys))∧newHold w' [] ys∧Below w.heap.size w w') h8 e1 e2 hY hN ?_ ?_ ?_ ?_ ?_
   · exact fun z hz h1 h2 hd=>(sGrYYt h8 rfl hl hi hz h1 h2 hd).ok β w (hh0 β w)
   · exact fun z hz h1 h2 hd=>(sGrYYf h8 rfl hl hi hz h1 h2 hd).ok β w (hh0 β w)
   · exact fun x hx h1 h2=>(sGrYN h8 rfl hl hi hx h1 l48 (by decide) h2).ok β w (hh0 β w)
   · exact fun y h1 hy h2=>(sGrNY h8 rfl hl hi h8 (by omega) h1 hy h2).ok β w (hh0 β w)
   · exact fun h1 h2=>(sGrNN h8 rfl hl hi h8 (by omega) h1 l48 (by decide) h2).ok β w (hh0 β w)
def sGReadY {z:GQ} (hz:FitG z) (hl:(tgL z.re z.im).length≤10240):Spec Tryz.prog :=
 ⟨16,Tryz.call16,[stV (tgL z.re z.im)],[],grOk z,[],fun β w _=>gread_all (B8_tg _ _) hl (fun y _ e=>by
  obtain ⟨h1,h2⟩:=tg_read z.re z.im
  obtain ⟨j1,j2⟩:=tg_read y.re y.im
  rw [e] at j1 j2
  have i1:y.re=z.re:=tq_inj (j1.symm.trans h1)
  have i2:y.im=z.im:=tq_inj (j2.symm.trans h2)
  have:z=y:=by
   cases z
   cases y
   simp only at i1 i2
   rw [i1,i2]
  rw [this]) (fun h=>absurd rfl (h z hz)) β w,by kernel_rfl⟩
def sGReadN {xs:List Nat} (h8:B8 xs) (hl:xs.length≤10240) (h:∀ z,FitG z→tgL z.re z.im≠xs):Spec Tryz.prog :=
 ⟨16,Tryz.call16,[stV xs],[],grNo,[],fun β w _=>gread_all h8 hl (fun z h1 h2=>absurd h2 (h z h1)) (fun _=>rfl) β w,by kernel_rfl⟩
theorem txt_h43 (n:Int):(txt n).getD 0 0≠43:=by
 rcases txt_is n with ⟨_,h,_⟩ | ⟨_,xs,h,_⟩
 · have hp:0<(txt n).length:=List.length_pos_iff.2 h.1
   have:=h.2.1 ((txt n).getD 0 0) (getD_mem hp)
   have:=this.1
   omega
 · rw [h]
   show (45:Nat)≠43
   decide
theorem tq_h43 (x:Rat):(tqL x).getD 0 0≠43:=by
 unfold tqL
 split
 · exact txt_h43 _
 · have hp:0<(txt x.num).length:=List.length_pos_iff.2 (txt_ne _)
   rw [List.getD_eq_getElem?_getD,List.getElem?_append_left hp,← List.getD_eq_getElem?_getD]
   exact txt_h43 _
theorem hr_im {b:List Nat} {n a:Nat} (hn:b.length=n) (ha:a≤n):hrIm (b++[105]) (n+1) a=b.drop a:=by
 unfold hrIm
 rw [List.drop_append_of_le_length (by omega),List.take_append_of_le_length (by rw [List.length_drop]; omega),List.take_of_length_le (by rw [List.length_drop]; omega)]
theorem hr_tk {b:List Nat} {n a:Nat} (hn:b.length=n) (ha:a≤n):(b++[105]).take a=b.take a:=List.take_append_of_le_length (by omega)
theorem hr_gt {b:List Nat} {n a:Nat} (hn:b.length=n) (ha:a<n):(b++[105]).getD a 0=b.getD a 0:=by
 rw [List.getD_eq_getElem?_getD,List.getElem?_append_left (by omega),← List.getD_eq_getElem?_getD]
theorem hr_gi {b:List Nat} {n:Nat} (hn:b.length=n):(b++[105]).getD n 0=105:=by
 have:=getD_app b [105] 0
 rw [Nat.add_zero,hn] at this
 exact this
theorem dr_get {b:List Nat} (a:Nat):(b.drop a).getD 0 0=b.getD a 0:=by rw [getD_drop,Nat.add_zero]
section
variable {β0:Env} {w:World} {res:SV} {b:List Nat} {n:Nat} (h8:B8 (b++[105])) (hn:b.length=n) (hl:n+1≤10240) (hY:∀ z,FitG z→tgL z.re z.im=b++[105]→res=grOk z) (hN:(∀ z,FitG z→tgL z.re z.im≠b++[105])→res=grNo)
include h8 hn hl hY hN
theorem hr_zero (hla:lastAt b (n-1)=0):hrH β0 w res (hrc (b++[105]) 0 []):=by
 have b8:B8 b:=fun x hx=>h8 x (List.mem_append_left _ hx)
 obtain ⟨g1,g2⟩:=gz_snoc b
 have l48:B8 [48]:=fun x hx=>by obtain rfl:=List.mem_singleton.1 hx; decide
 have hM:(b++[105]).length=n+1:=by rw [List.length_append,hn]; rfl
 have hi:=hr_im (a:=0) hn (Nat.zero_le n)
 rw [List.drop_zero] at hi
 have e1:gzRe (b++[105])=[48]:=by
  unfold gzRe
  rw [if_pos g1,g2,hn,if_pos hla]
 have e2:gzIm (b++[105])=hrIm (b++[105]) (n+1) 0:=by
  unfold gzIm
  rw [if_pos g1,g2,hn,if_pos hla,hi]
 have i8:B8 (hrIm (b++[105]) (n+1) 0):=by rw [hi]; exact b8
 obtain ⟨L,hL⟩:∃ L,(hrIm (b++[105]) (n+1) 0).length=L:=⟨_,rfl⟩
 rcases Nat.eq_zero_or_pos L with h0 | h0
 · subst h0
   refine gr_out (G:=fun r=>hrH β0 w r (hrc (b++[105]) 0 [])) h8 e1 e2 hY hN ?_ ?_ ?_ ?_ ?_
   · exact fun z hz h1 h2 hd=>hd_ev (hr_E0_YYt β0 w hM hl (Nat.succ_pos n) (Nat.zero_le _) rfl hL hz h1 h2 hd)
   · exact fun z hz h1 h2 hd=>hd_ev (hr_E0_YYf β0 w hM hl (Nat.succ_pos n) (Nat.zero_le _) rfl hL hz h1 h2 hd)
   · exact fun x hx h1 h2=>hd_ev (hr_E0_YN β0 w hM hl (Nat.succ_pos n) (Nat.zero_le _) rfl hL hx h1 i8 h2)
   · exact fun y h1 hy h2=>hd_ev (hr_E0_NY β0 w hM hl (Nat.succ_pos n) (Nat.zero_le _) rfl hL l48 h1 hy h2)
   · exact fun h1 h2=>hd_ev (hr_E0_NN β0 w hM hl (Nat.succ_pos n) (Nat.zero_le _) rfl hL l48 h1 i8 h2)
 obtain ⟨c,hc⟩:∃ c,(hrIm (b++[105]) (n+1) 0).getD 0 0=c:=⟨_,rfl⟩
 cases hq:((c:Int)==43) with
 | false =>
  refine gr_out (G:=fun r=>hrH β0 w r (hrc (b++[105]) 0 [])) h8 e1 e2 hY hN ?_ ?_ ?_ ?_ ?_
  · exact fun z hz h1 h2 hd=>hd_ev (hr_E1_YYt β0 w hM hl (Nat.succ_pos n) (Nat.zero_le _) rfl i8 hL h0 hc hq hz h1 h2 hd)
  · exact fun z hz h1 h2 hd=>hd_ev (hr_E1_YYf β0 w hM hl (Nat.succ_pos n) (Nat.zero_le _) rfl i8 hL h0 hc hq hz h1 h2 hd)
  · exact fun x hx h1 h2=>hd_ev (hr_E1_YN β0 w hM hl (Nat.succ_pos n) (Nat.zero_le _) rfl i8 hL h0 hc hq hx h1 i8 h2)
  · exact fun y h1 hy h2=>hd_ev (hr_E1_NY β0 w hM hl (Nat.succ_pos n) (Nat.zero_le _) rfl i8 hL h0 hc hq l48 h1 hy h2)
  · exact fun h1 h2=>hd_ev (hr_E1_NN β0 w hM hl (Nat.succ_pos n) (Nat.zero_le _) rfl i8 hL h0 hc hq l48 h1 i8 h2)
 | true =>
  have e43:c=43:=by
   have:=beq_iff_eq.1 hq
   omega
  have d8:B8 ((hrIm (b++[105]) (n+1) 0).drop 1):=i8.drop 1
  refine gr_outP (G:=fun r=>hrH β0 w r (hrc (b++[105]) 0 [])) (re:=[48]) (im:=(hrIm (b++[105]) (n+1) 0).drop 1) h8 (fun z hz e=>?_) hY hN ?_ ?_ ?_ ?_ ?_
  · obtain ⟨_,k2⟩:=tg_read z.re z.im
    rw [e,e2] at k2
    rw [k2] at hc
    exact absurd (hc.trans e43) (tq_h43 _)
  · exact fun z hz h1 h2 hd=>hd_ev (hr_E2_YYt β0 w hM hl (Nat.succ_pos n) (Nat.zero_le _) rfl i8 hL h0 hc hq hz h1 h2 hd)
  · exact fun z hz h1 h2 hd=>hd_ev (hr_E2_YYf β0 w hM hl (Nat.succ_pos n) (Nat.zero_le _) rfl i8 hL h0 hc hq hz h1 h2 hd)
  · exact fun x hx h1 h2=>hd_ev (hr_E2_YN β0 w hM hl (Nat.succ_pos n) (Nat.zero_le _) rfl i8 hL h0 hc hq hx h1 d8 h2)
  · exact fun y h1 hy h2=>hd_ev (hr_E2_NY β0 w hM hl (Nat.succ_pos n) (Nat.zero_le _) rfl i8 hL h0 hc hq l48 h1 hy h2)
  · exact fun h1 h2=>hd_ev (hr_E2_NN β0 w hM hl (Nat.succ_pos n) (Nat.zero_le _) rfl i8 hL h0 hc hq l48 h1 d8 h2)
theorem hr_join:∀ a:Nat,a≤n→lastAt b (n-1)=lastAt b (min a (n-1))→hrH β0 w res (hrc (b++[105]) a []):=by
 have b8:B8 b:=fun x hx=>h8 x (List.mem_append_left _ hx)
 obtain ⟨g1,g2⟩:=gz_snoc b
 have hM:(b++[105]).length=n+1:=by rw [List.length_append,hn]; rfl
 intro a
 induction a with
 | zero =>
  intro ha hla
  rw [Nat.zero_min] at hla
  exact hr_zero h8 hn hl hY hN hla
 | succ a ih =>
  intro ha hla
  by_cases hend:a+1=n
  · refine hd_ev (hr_step β0 w res h8 (a:=a) (x:=105) (by omega) (by omega) (by rw [hend]; exact hr_gi hn) rfl rfl (ih (by omega) ?_))
    rw [Nat.min_eq_left (by omega),show n-1=a by omega]
  have hab:a+1<n:=by omega
  obtain ⟨c,hc⟩:∃ c,(b++[105]).getD (a+1) 0=c:=⟨_,rfl⟩
  have hcb:b.getD (a+1) 0=c:=by rw [← hr_gt hn hab]; exact hc
  rw [Nat.min_eq_left (by omega)] at hla
  have hi:=hr_im (a:=a+1) hn (by omega)
  have i8:B8 (hrIm (b++[105]) (n+1) (a+1)):=by rw [hi]; exact b8.drop _
  have hL:(hrIm (b++[105]) (n+1) (a+1)).length=n-(a+1):=by rw [hi,List.length_drop,hn]
  have h0:0<n-(a+1):=by omega
  have hc0:(hrIm (b++[105]) (n+1) (a+1)).getD 0 0=c:=by rw [hi,dr_get,hcb]
  have t8:B8 ((b++[105]).take (a+1)):=h8.take _
  have h1M:0<n+1:=Nat.succ_pos n
  have haM:a+1≤n+1-1:=by omega
  cases hp:((c:Int)==43) with
  | true =>
   have e43:c=43:=by
    have:=beq_iff_eq.1 hp
    omega
   have hz:lastAt b (n-1)=a+1:=by
    rw [hla]
    unfold lastAt
    rw [if_pos (by rw [hcb]; exact .inl e43)]
   have e1:gzRe (b++[105])=(b++[105]).take (a+1):=by
    unfold gzRe
    rw [if_pos g1,g2,hn,hz,if_neg (by omega),hr_tk hn (by omega)]
   have e2:gzIm (b++[105])=(hrIm (b++[105]) (n+1) (a+1)).drop 1:=by
    unfold gzIm
    rw [if_pos g1,g2,hn,hz,if_neg (by omega),if_pos (by rw [hcb,e43]),hi,List.drop_drop]
   have d8:B8 ((hrIm (b++[105]) (n+1) (a+1)).drop 1):=i8.drop 1
   refine gr_out (G:=fun r=>hrH β0 w r (hrc (b++[105]) (a+1) [])) h8 e1 e2 hY hN ?_ ?_ ?_ ?_ ?_
   · exact fun z hz h1 h2 hd=>hd_ev (hr_P_YYt β0 w hM hl h1M haM h8 (Nat.succ_pos a) hc hp i8 hL h0 hc0 hp hz h1 h2 hd)
   · exact fun z hz h1 h2 hd=>hd_ev (hr_P_YYf β0 w hM hl h1M haM h8 (Nat.succ_pos a) hc hp i8 hL h0 hc0 hp hz h1 h2 hd)
   · exact fun x hx h1 h2=>hd_ev (hr_P_YN β0 w hM hl h1M haM h8 (Nat.succ_pos a) hc hp i8 hL h0 hc0 hp hx h1 d8 h2)
   · exact fun y h1 hy h2=>hd_ev (hr_P_NY β0 w hM hl h1M haM h8 (Nat.succ_pos a) hc hp i8 hL h0 hc0 hp t8 h1 hy h2)
   · exact fun h1 h2=>hd_ev (hr_P_NN β0 w hM hl h1M haM h8 (Nat.succ_pos a) hc hp i8 hL h0 hc0 hp t8 h1 d8 h2)
  | false =>
   have n43:c≠43:=fun e=>by
    rw [e] at hp
    exact absurd hp (by decide)
   cases hm:((c:Int)==45) with
   | true =>
    have e45:c=45:=by
     have:=beq_iff_eq.1 hm
     omega
    have hz:lastAt b (n-1)=a+1:=by
     rw [hla]
     unfold lastAt
     rw [if_pos (by rw [hcb]; exact .inr e45)]
    have e1:gzRe (b++[105])=(b++[105]).take (a+1):=by
     unfold gzRe
     rw [if_pos g1,g2,hn,hz,if_neg (by omega),hr_tk hn (by omega)]
    have e2:gzIm (b++[105])=hrIm (b++[105]) (n+1) (a+1):=by
     unfold gzIm
     rw [if_pos g1,g2,hn,hz,if_neg (by omega),if_neg (by rw [hcb]; exact n43),hi]
    refine gr_out (G:=fun r=>hrH β0 w r (hrc (b++[105]) (a+1) [])) h8 e1 e2 hY hN ?_ ?_ ?_ ?_ ?_
    · exact fun z hz h1 h2 hd=>hd_ev (hr_M_YYt β0 w hM hl h1M haM h8 (Nat.succ_pos a) hc hp hm i8 hL h0 hc0 hp hz h1 h2 hd)
    · exact fun z hz h1 h2 hd=>hd_ev (hr_M_YYf β0 w hM hl h1M haM h8 (Nat.succ_pos a) hc hp hm i8 hL h0 hc0 hp hz h1 h2 hd)
    · exact fun x hx h1 h2=>hd_ev (hr_M_YN β0 w hM hl h1M haM h8 (Nat.succ_pos a) hc hp hm i8 hL h0 hc0 hp hx h1 i8 h2)
    · exact fun y h1 hy h2=>hd_ev (hr_M_NY β0 w hM hl h1M haM h8 (Nat.succ_pos a) hc hp hm i8 hL h0 hc0 hp t8 h1 hy h2)
    · exact fun h1 h2=>hd_ev (hr_M_NN β0 w hM hl h1M haM h8 (Nat.succ_pos a) hc hp hm i8 hL h0 hc0 hp t8 h1 i8 h2)
   | false =>
    have n45:c≠45:=fun e=>by
     rw [e] at hm
     exact absurd hm (by decide)
    refine hd_ev (hr_step β0 w res h8 (a:=a) (by omega) (by omega) hc hp hm (ih (by omega) ?_))
    rw [hla,Nat.min_eq_left (by omega)]
    conv=>lhs; unfold lastAt
    rw [if_neg (by rw [hcb]; exact fun h=>h.elim n43 n45)]
end
theorem hr_specOf {res:SV} {β:Env} {w:World} {e:Ending} {w':World} (hr:(∃ z,res=grOk z)∨res=grNo) (h:Said Tryz.prog hrF 0 res [] β w e w'):∃ xs:List Pl,freshS β w 0 xs∧e=.returned (res.den (extE β 0 xs))∧newHold w' [] xs∧Below w.heap.size w w':=by
 rcases hr with ⟨z,rfl⟩ | rfl
 · obtain ⟨β',q,obj,_,rfl,_,_,_,g⟩:=h
   exact ⟨[],(fun _ h=>by cases h),rfl,trivial,g.bel⟩
 · obtain ⟨β',q,obj,_,rfl,_,_,_,g⟩:=h
   exact ⟨[],(fun _ h=>by cases h),rfl,trivial,g.bel⟩
theorem fit_0:Fit (0:Rat):=⟨by decide +kernel,by decide +kernel⟩
theorem hread_all {xs:List Nat} (h8:B8 xs) (hl:xs.length≤10240) {res:SV} (hY:∀ z,FitG z→tgL z.re z.im=xs→res=grOk z) (hN:(∀ z,FitG z→tgL z.re z.im≠xs)→res=grNo) (β:Env) (w:World) :
  Calls Tryz.prog 26 (([stV xs]:List SV).map (SV.den β)).toArray w fun e w'=>∃ ys:List Pl,freshS β w 0 ys∧e=.returned (res.den (extE β 0 ys))∧newHold w' [] ys∧Below w.heap.size w w':=by
 by_cases hnil:xs=[]
 · subst hnil
   have h1:∀ y,Fit y→tqL y≠[]:=fun y _ e=>tq_ne y e
   rw [hN fun z hz e=>?_]
   · exact (sHrE h8 h1 fit_0 tq_zero).ok β w (hh0 β w)
   · obtain ⟨k1,_⟩:=tg_read z.re z.im
     rw [e] at k1
     exact tq_ne z.re k1.symm
 have hpos:0<xs.length:=List.length_pos_iff.2 hnil
 by_cases hi:xs.getLast?=some 105
 · obtain ⟨b,rfl⟩:∃ b,xs=b++[105]:=by
    rcases List.eq_nil_or_concat xs with h | ⟨r,x,h⟩
    · rw [h] at hi
      cases hi
    · rw [List.concat_eq_append] at h
      refine ⟨r,?_⟩
      rw [h] at hi ⊢
      have:x=105:=by simpa using hi
      rw [this]
   have hres:(∃ z,res=grOk z)∨res=grNo:=by
    by_cases hR:∃ z,FitG z∧tgL z.re z.im=b++[105]
    · obtain ⟨z,h1,h2⟩:=hR
      exact .inl ⟨z,hY z h1 h2⟩
    · exact .inr (hN fun z h1 h2=>hR ⟨z,h1,h2⟩)
   have hlb:(b++[105]).length=b.length+1:=by simp
   exact (hr_start (M:=b.length+1) h8 hlb (by omega) (Nat.succ_pos _) (hr_gi rfl) rfl res β w (hr_join h8 rfl (by omega) hY hN b.length (Nat.le_refl _) (by rw [Nat.min_eq_right (by omega)]))).mono fun e w' h=>hr_specOf hres h
 · have e1:gzRe xs=xs:=if_neg hi
   have e2:gzIm xs=[48]:=if_neg hi
   have l48:B8 [48]:=fun x hx=>by obtain rfl:=List.mem_singleton.1 hx; decide
   obtain ⟨c,hc⟩:∃ c,xs.getD (xs.length-1) 0=c:=⟨_,rfl⟩
   have hq:((c:Int)==105)=false:=by
    refine beq_eq_false_iff_ne.2 fun e=>hi ?_
    rw [List.getLast?_eq_getElem?,List.getElem?_eq_getElem (by omega),← getD_in (by omega),hc]
    congr 1
    omega
   refine gr_out (G:=fun r=>Calls Tryz.prog 26 (([stV xs]:List SV).map (SV.den β)).toArray w fun e w'=>∃ ys:List Pl,freshS β w 0 ys∧e=.returned (r.den (extE β 0 ys))∧newHold w' [] ys∧Below w.heap.size w w') h8 e1 e2 hY hN ?_ ?_ ?_ ?_ ?_
   · exact fun z hz h1 h2 hd=>(sHrYYt h8 rfl hl hpos hc hq hz h1 h2 hd).ok β w (hh0 β w)
   · exact fun z hz h1 h2 hd=>(sHrYYf h8 rfl hl hpos hc hq hz h1 h2 hd).ok β w (hh0 β w)
   · exact fun x hx h1 h2=>(sHrYN h8 rfl hl hpos hc hq hx h1 l48 h2).ok β w (hh0 β w)
   · exact fun y h1 hy h2=>(sHrNY h8 rfl hl hpos hc hq h8 h1 hy h2).ok β w (hh0 β w)
   · exact fun h1 h2=>(sHrNN h8 rfl hl hpos hc hq h8 h1 l48 h2).ok β w (hh0 β w)
theorem tg_same {y z:GQ} (e:tgL y.re y.im=tgL z.re z.im):y=z:=by
 obtain ⟨h1,h2⟩:=tg_read z.re z.im
 obtain ⟨j1,j2⟩:=tg_read y.re y.im
 rw [e] at j1 j2
 have i1:y.re=z.re:=tq_inj (j1.symm.trans h1)
 have i2:y.im=z.im:=tq_inj (j2.symm.trans h2)
 cases z
 cases y
 simp only at i1 i2
 rw [i1,i2]
theorem tg_len {z:GQ} (hz:FitG z):(tgL z.re z.im).length≤9876:=by
 have h1:=tq_len hz.1
 have h2:=tq_len hz.2
 unfold tgL
 split
 · omega
 · split
   · rw [List.length_append,List.length_singleton]
     omega
   · split
     · rw [List.length_append,List.length_append,List.length_singleton]
       omega
     · rw [List.length_append,List.length_append,List.length_cons,List.length_singleton]
       omega
def sR4ReadY {z:GQ} (hz:FitG z):Spec Tryz.prog :=
 ⟨26,Tryz.call26,[stV (tgL z.re z.im)],[],grOk z,[],fun β w _=>hread_all (B8_tg _ _) (Nat.le_trans (tg_len hz) (by decide)) (fun y _ e=>by rw [tg_same e]) (fun h=>absurd rfl (h z hz)) β w,by kernel_rfl⟩
def sR4ReadN {xs:List Nat} (h8:B8 xs) (hl:xs.length≤10240) (h:∀ z,FitG z→tgL z.re z.im≠xs):Spec Tryz.prog :=
 ⟨26,Tryz.call26,[stV xs],[],grNo,[],fun β w _=>hread_all h8 hl (fun z h1 h2=>absurd h2 (h z h1)) (fun _=>rfl) β w,by kernel_rfl⟩
def sGRdY {z:GQ} (hz:FitG z):Spec Tryz.prog:=sGReadY hz (Nat.le_trans (tg_len hz) (by decide))
def sGTextNo (a:Gn) (h:a.B=false):Spec Tryz.prog :=
 Spec.auto Tryz.call17 [gnS a] [] (.tup [.c (.b (.v (.string ⟨#[]⟩))),nI' 2]) [] [(sGM a.gp (a.gpB.trans h)).e] [] 400 Tryz.func17 hmA (by kernel_rfl) (fun β=>by kernel_rfl)
noncomputable def sGRdT {z:GQ} (hz:FitG z):Spec Tryz.prog:=(sGRdY hz).as [txS (textG z)] (grOk z) (by
 show [stV (tgL z.re z.im)]=_
 rw [textG_tg]) rfl
def eqG00:Ev Tryz.prog:=eqEvG r40 r40 r40 r40 true (geq_self2 _ _)
abbrev gtA (a:Gn) (xs:List Nat):List SV:=[gnS a,stV xs]
def gtM {xs:List Nat} {M:Nat} (hM:xs.length=M) {b:Bool} (hb:decide ((M:Int)≤600)=b):List (Ev Tryz.prog):=[.eqv 14 (.int .i64 (((strN xs).size:Nat):Int)) (.int .i64 (M:Int)) (stz_lit hM),.eqv 15 (.bool (decide ((M:Int)≤600))) (.bool b) (by rw [hb])]
noncomputable def gtY {z:GQ} (hz:FitG z) {M:Nat} (hM:(tgL z.re z.im).length=M) (h:M≤600):List (Ev Tryz.prog):=gtM hM (b:=true) (decide_eq_true (by omega))++[(sGRdY hz).e,(sR4ReadY hz).e,eqGz z,(sNum4 0).e]
def gtN {xs:List Nat} {M:Nat} (h8:B8 xs) (hM:xs.length=M) (h:M≤600) (hn:∀ z,FitG z→tgL z.re z.im≠xs):List (Ev Tryz.prog):=gtM hM (b:=true) (decide_eq_true (by omega))++[(sGReadN h8 (by omega) hn).e,(sR4ReadN h8 (by omega) hn).e,eqG00,(sNum4 140).e]
def gtL {xs:List Nat} {M:Nat} (hM:xs.length=M) (h:600<M):List (Ev Tryz.prog):=gtM hM (b:=false) (decide_eq_false (by omega))
noncomputable def gtB (a:Gn) (h:smB 80 a.x a.y=false):List (Ev Tryz.prog):=[(sR4Small 80 a.x a.y h).e,sKnown4.e]
noncomputable def gtC (a:Gn) (h:smB 80 a.x a.y=true) (ha:a.B=false):List (Ev Tryz.prog):=[(sR4Small 80 a.x a.y h).e,(sGTextNo a ha).e,(sR4MayG a ha).e,eStrEq ⟨#[]⟩ ⟨#[]⟩ (r:=true) (decide_eq_true rfl),(sNum4 2).e,sKnown4.e]
noncomputable def gtD {z:GQ} (hz:FitG z) (h:smB 80 (fR z.re) (fR z.im)=true):List (Ev Tryz.prog):=[(sR4Small 80 (fR z.re) (fR z.im) h).e,(sGText hz).e,(sR4MayG (.ok z hz) rfl).e,(sGRdT hz).e,(sR4Text hz).e,eStrEq (textG z) (textG z) (r:=true) (decide_eq_true rfl),(sNum4 0).e,eqGz z,(sNum4 0).e,sKnown4.e]
section
variable {z:GQ} (hz:FitG z) {M:Nat} (hM:(tgL z.re z.im).length=M) (h6:M≤600)
noncomputable def sGtYB (a:Gn) (h:smB 80 a.x a.y=false):Spec Tryz.prog:=Spec.auto Tryz.call5 (gtA a (tgL z.re z.im)) [] (tB' true) [] (gtY hz hM h6++gtB a h) [] 2000 Tryz.func5 hmA (by kernel_rfl) (fun β=>by kernel_rfl)
noncomputable def sGtYC (a:Gn) (h:smB 80 a.x a.y=true) (ha:a.B=false):Spec Tryz.prog:=Spec.auto Tryz.call5 (gtA a (tgL z.re z.im)) [] (tB' true) [] (gtY hz hM h6++gtC a h ha) [] 2000 Tryz.func5 hmA (by kernel_rfl) (fun β=>by kernel_rfl)
noncomputable def sGtYD {y:GQ} (hy:FitG y) (h:smB 80 (fR y.re) (fR y.im)=true):Spec Tryz.prog:=Spec.auto Tryz.call5 (gtA (.ok y hy) (tgL z.re z.im)) [] (tB' true) [] (gtY hz hM h6++gtD hy h) [] 2000 Tryz.func5 hmA (by kernel_rfl) (fun β=>by kernel_rfl)
end
section
variable {xs:List Nat} {M:Nat} (h8:B8 xs) (hM:xs.length=M) (h6:M≤600) (hn:∀ z,FitG z→tgL z.re z.im≠xs)
noncomputable def sGtNB (a:Gn) (h:smB 80 a.x a.y=false):Spec Tryz.prog:=Spec.auto Tryz.call5 (gtA a xs) [] (tB' true) [] (gtN h8 hM h6 hn++gtB a h) [] 2000 Tryz.func5 hmA (by kernel_rfl) (fun β=>by kernel_rfl)
noncomputable def sGtNC (a:Gn) (h:smB 80 a.x a.y=true) (ha:a.B=false):Spec Tryz.prog:=Spec.auto Tryz.call5 (gtA a xs) [] (tB' true) [] (gtN h8 hM h6 hn++gtC a h ha) [] 2000 Tryz.func5 hmA (by kernel_rfl) (fun β=>by kernel_rfl)
noncomputable def sGtND {y:GQ} (hy:FitG y) (h:smB 80 (fR y.re) (fR y.im)=true):Spec Tryz.prog:=Spec.auto Tryz.call5 (gtA (.ok y hy) xs) [] (tB' true) [] (gtN h8 hM h6 hn++gtD hy h) [] 2000 Tryz.func5 hmA (by kernel_rfl) (fun β=>by kernel_rfl)
end
section
variable {xs:List Nat} {M:Nat} (hM:xs.length=M) (h6:600<M)
noncomputable def sGtLB (a:Gn) (h:smB 80 a.x a.y=false):Spec Tryz.prog:=Spec.auto Tryz.call5 (gtA a xs) [] (tB' true) [] (gtL hM h6++gtB a h) [] 2000 Tryz.func5 hmA (by kernel_rfl) (fun β=>by kernel_rfl)
noncomputable def sGtLC (a:Gn) (h:smB 80 a.x a.y=true) (ha:a.B=false):Spec Tryz.prog:=Spec.auto Tryz.call5 (gtA a xs) [] (tB' true) [] (gtL hM h6++gtC a h ha) [] 2000 Tryz.func5 hmA (by kernel_rfl) (fun β=>by kernel_rfl)
noncomputable def sGtLD {y:GQ} (hy:FitG y) (h:smB 80 (fR y.re) (fR y.im)=true):Spec Tryz.prog:=Spec.auto Tryz.call5 (gtA (.ok y hy) xs) [] (tB' true) [] (gtL hM h6++gtD hy h) [] 2000 Tryz.func5 hmA (by kernel_rfl) (fun β=>by kernel_rfl)
end
theorem _root_.Go.Proofs.YthkpghhoffihmaaGreatDoor.GaussTexts_walk (x y:R4) (u:ByteArray) (h:(x.s.size≤maxLen∧x.t.size≤maxLen)∧y.s.size≤maxLen∧y.t.size≤maxLen) (w:World) :
  Calls Tryz.prog 5 #[.agg (x.V++y.V).toArray,.string u] w fun e w'=>e=.returned (.bool true)∧Below w.heap.size w w':=by
 obtain ⟨xs,hxs,h8⟩:∃ xs,u=strN xs∧B8 xs:=⟨bsN u,(strN_bs u).symm,B8_bs u⟩
 subst hxs
 obtain ⟨a,rfl,rfl⟩:=gn_of x y h.1 h.2
 by_cases h6:xs.length≤600
 · by_cases hy:∃ z,FitG z∧tgL z.re z.im=xs
   · obtain ⟨z,hz,rfl⟩:=hy
     cases h1:smB 80 a.x a.y with
     | false=>exact spec_yes (sGtYB hz rfl h6 a h1) rfl rfl w
     | true=>cases a with
      | no g hg=>exact spec_yes (sGtYC hz rfl h6 (.no g hg) h1 rfl) rfl rfl w
      | ok q hq=>exact spec_yes (sGtYD hz rfl h6 hq h1) rfl rfl w
   · have hn:∀ z,FitG z→tgL z.re z.im≠xs:=fun z h1 h2=>hy ⟨z,h1,h2⟩
     cases h1:smB 80 a.x a.y with
     | false=>exact spec_yes (sGtNB h8 rfl h6 hn a h1) rfl rfl w
     | true=>cases a with
      | no g hg=>exact spec_yes (sGtNC h8 rfl h6 hn (.no g hg) h1 rfl) rfl rfl w
      | ok q hq=>exact spec_yes (sGtND h8 rfl h6 hn hq h1) rfl rfl w
 · have h7:600<xs.length:=by omega
   cases h1:smB 80 a.x a.y with
   | false=>exact spec_yes (sGtLB rfl h7 a h1) rfl rfl w
   | true=>cases a with
    | no g hg=>exact spec_yes (sGtLC rfl h7 (.no g hg) h1 rfl) rfl rfl w
    | ok q hq=>exact spec_yes (sGtLD rfl h7 hq h1) rfl rfl w
end Go.Proofs.YthkpghhoffihmaaGreatDoor.Y
end
section
namespace Go.Proofs.YthkpghhoffihmaaGreatDoor
open Go.ChangeShapes Go.WideShapes Go.ChangeAt Go.RowKit
theorem cellsOf_bool:Tryz.prog.cellsOf 4=1:=by kernel_rfl
theorem cellsOf_string:Tryz.prog.cellsOf 9=1:=by kernel_rfl
theorem cellsOf_whole:Tryz.prog.cellsOf 23=2:=by kernel_rfl
theorem cellsOf_frac:Tryz.prog.cellsOf 25=4:=by kernel_rfl
section
variable {H:Type} {enc:TypeId × Value→H} {w:World} {base:Nat} {spare:Nat→Bool} {held:Bool}
set_option maxRecDepth 100000 in
theorem trod_whole {fuel:Nat} {cs:List Value} {x:DataW H × List MemPlace} (h:DataW.trod enc Tryz.prog w base spare held fuel 23 cs=some x) :
  ∃ (b:Bool) (s:ByteArray),cs=[.bool b,.string s]∧s.size≤maxLen:=by
 obtain ⟨xs,n,rfl,_,hlen,hxl,hf⟩:=DataW.trod_struct Tryz.underlying23 h
 rw [cellsOf_whole] at hlen
 have hx0:xs[0]?=some (xs[0]'(by rw [hxl]; decide)):=List.getElem?_eq_getElem _
 have hx1:xs[1]?=some (xs[1]'(by rw [hxl]; decide)):=List.getElem?_eq_getElem _
 have h0:DataW.trod enc Tryz.prog w base spare held n 4 ((cs.drop 0).take (Tryz.prog.cellsOf 4))=some _:=(hf 0 _ rfl).trans hx0
 have h1:DataW.trod enc Tryz.prog w base spare held n 9 ((cs.drop 1).take (Tryz.prog.cellsOf 9))=some _:=(hf 1 _ rfl).trans hx1
 rw [cellsOf_bool] at h0
 rw [cellsOf_string] at h1
 match cs,hlen with
 | [a,b],_ =>
  obtain ⟨p,e0,_⟩:=DataW.trod_bool Tryz.underlying4 h0
  obtain ⟨s,e1,_,hs⟩:=DataW.trod_string Tryz.underlying9 h1
  cases e0
  cases e1
  exact ⟨p,s,rfl,hs⟩
set_option maxRecDepth 100000 in
theorem trod_frac {fuel:Nat} {cs:List Value} {x:DataW H × List MemPlace} (h:DataW.trod enc Tryz.prog w base spare held fuel 25 cs=some x) :
  ∃ (b c:Bool) (s t:ByteArray),cs=[.bool b,.string s,.bool c,.string t]∧s.size≤maxLen∧t.size≤maxLen:=by
 obtain ⟨xs,n,rfl,_,hlen,hxl,hf⟩:=DataW.trod_struct Tryz.underlying25 h
 rw [cellsOf_frac] at hlen
 have hx0:xs[0]?=some (xs[0]'(by rw [hxl]; decide)):=List.getElem?_eq_getElem _
 have hx1:xs[1]?=some (xs[1]'(by rw [hxl]; decide)):=List.getElem?_eq_getElem _
 have h0:DataW.trod enc Tryz.prog w base spare held n 23 ((cs.drop 0).take (Tryz.prog.cellsOf 23))=some _:=(hf 0 _ rfl).trans hx0
 have h1:DataW.trod enc Tryz.prog w base spare held n 23 ((cs.drop 2).take (Tryz.prog.cellsOf 23))=some _:=(hf 1 _ rfl).trans hx1
 rw [cellsOf_whole] at h0 h1
 match cs,hlen with
 | [a,b,c,d],_ =>
  obtain ⟨p,s,e0,hs⟩:=trod_whole h0
  obtain ⟨q,t,e1,ht⟩:=trod_whole h1
  cases e0
  cases e1
  exact ⟨p,q,s,t,rfl,hs,ht⟩
end
end Go.Proofs.YthkpghhoffihmaaGreatDoor
end
section
namespace Go.Proofs.YthkpghhoffihmaaGreatDoor
open Go Go.ChangeShapes Go.WideShapes Go.ChangeAt Go.RowKit
theorem cellsOf_gauss:Tryz.prog.cellsOf 27=8:=by kernel_rfl
theorem chunk {α:Type} (cs:List α) (a b:Nat):cs.drop a=(cs.drop a).take b++cs.drop (a+b):=by
 rw [← List.drop_drop,List.take_append_drop]
def R4.ok (x:R4):Prop:=x.s.size≤maxLen∧x.t.size≤maxLen
section
variable {H:Type} {enc:TypeId × Value→H} {w:World} {base:Nat} {spare:Nat→Bool} {held:Bool}
theorem trod_r4 {fuel:Nat} {cs:List Value} {x:DataW H × List MemPlace} (h:DataW.trod enc Tryz.prog w base spare held fuel 25 cs=some x):∃ r:R4,cs=r.V∧r.ok:=by
 obtain ⟨b,c,s,t,e,h1,h2⟩:=trod_frac h
 exact ⟨⟨b,s,c,t⟩,e,h1,h2⟩
set_option maxRecDepth 100000 in
theorem trod_gauss {fuel:Nat} {cs:List Value} {x:DataW H × List MemPlace} (h:DataW.trod enc Tryz.prog w base spare held fuel 27 cs=some x):∃ r s:R4,cs=r.V++s.V∧r.ok∧s.ok:=by
 obtain ⟨xs,n,rfl,_,hlen,hxl,hf⟩:=DataW.trod_struct Tryz.underlying27 h
 rw [cellsOf_gauss] at hlen
 have hx0:xs[0]?=some (xs[0]'(by rw [hxl]; decide)):=List.getElem?_eq_getElem _
 have hx1:xs[1]?=some (xs[1]'(by rw [hxl]; decide)):=List.getElem?_eq_getElem _
 have h0:DataW.trod enc Tryz.prog w base spare held n 25 ((cs.drop 0).take (Tryz.prog.cellsOf 25))=some _:=(hf 0 _ rfl).trans hx0
 have h1:DataW.trod enc Tryz.prog w base spare held n 25 ((cs.drop 4).take (Tryz.prog.cellsOf 25))=some _:=(hf 1 _ rfl).trans hx1
 rw [cellsOf_frac] at h0 h1
 obtain ⟨r,e0,k0⟩:=trod_r4 h0
 obtain ⟨s,e1,k1⟩:=trod_r4 h1
 refine ⟨r,s,?_,k0,k1⟩
 have:=chunk cs 0 4
 rw [e0,List.drop_zero] at this
 rw [this,chunk cs (0+4) 4,e1,List.drop_of_length_le (by omega),List.append_nil]
end
section
variable {H:Type} {enc:TypeId × Value→H} {w:World} {base:Nat} {spare:Nat→Bool} {held:Bool}
set_option maxRecDepth 100000 in
theorem open_gauss {r:Reach} {b0:Nat} {v:Value} {d:DataW H} {p:List MemPlace} (hv:Value.okWide Tryz.prog w r b0 27 v) (h:DataW.Trod enc Tryz.prog w base spare held 27 v d p) :
  ∃ x y:R4,v=.agg (x.V++y.V).toArray∧x.ok∧y.ok:=by
 obtain ⟨cs,rfl,hsz⟩:=okWide_struct Tryz.underlying27 hv
 obtain ⟨fuel,hf⟩:=h
 obtain ⟨l⟩:=cs
 obtain ⟨a,b,rfl,hh⟩:=trod_gauss hf
 exact ⟨a,b,rfl,hh⟩
end
end Go.Proofs.YthkpghhoffihmaaGreatDoor
end
