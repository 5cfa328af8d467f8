/- GsC, GsD, L4, Wof, Ops, Near, Txt, GsT, Yd, G1, F1A, TxR, TxB, TxS, StE. -/
import Derived.Test.YthkpghhoffihmaaGreatDoorGk11
set_option linter.unnecessarySimpa false
set_option linter.unusedVariables false
set_option linter.unusedSimpArgs false
section
namespace Go.Proofs.YthkpghhoffihmaaGreatDoor.Y
open Go Go.RowKit
set_option maxRecDepth 100000
noncomputable def sDiv1 {z w:GQ} (hz:FitG z) (hw:FitG w) (h0:gzero w=false):Spec Tryz.prog :=
 Spec.auto Tryz.call251 [nV 0,nV 2] (gM z++gM w) (.tup [nA 4,nI' 0]) (gT (gdiv z w)) [(sZero h0).e,(sDiv (hz.gsz.mono (by decide)) (hw.gsz.mono (by decide)) h0).e] [] 400 Tryz.func251 hmA (by kernel_rfl) (fun β=>by kernel_rfl)
noncomputable def sDiv0 (z:GQ) {w:GQ} (h0:gzero w=true):Spec Tryz.prog :=
 Spec.auto Tryz.call251 [nV 0,nV 2] (gM z++gM w) (.tup [nA 2,nI' 5]) [] [(sZero h0).e] [] 400 Tryz.func251 hmA (by kernel_rfl) (fun β=>by kernel_rfl)
noncomputable def sTwoDiv {z w:GQ} (hz:FitG z) (hw:FitG w) (h0:gzero w=false):Spec Tryz.prog :=
 Spec.auto Tryz.call120 [gS z,gS w,.one (.c (fnL 251))] [] (gA2 (gdiv z w)) [] [(sOpened hz hw).e,dIdx 165 (numR z w),dNum 165 (numR z w),dIdx 165 (numR z w),dNum 165 (numR z w),(sDiv1 hz hw h0).e,(sTold ((hz.gsz.div hw.gsz h0).mono (by decide))).e] [(4,12012013)] 800 Tryz.func120 hmA (by kernel_rfl) (fun β=>by kernel_rfl)
noncomputable def sTwoDiv0 {z w:GQ} (hz:FitG z) (hw:FitG w) (h0:gzero w=true):Spec Tryz.prog :=
 Spec.auto Tryz.call120 [gS z,gS w,.one (.c (fnL 251))] [] (ga0 5) [] [(sOpened hz hw).e,dIdx 165 (numR z w),dNum 165 (numR z w),dIdx 165 (numR z w),dNum 165 (numR z w),(sDiv0 z h0).e] [(4,10012013)] 800 Tryz.func120 hmA (by kernel_rfl) (fun β=>by kernel_rfl)
noncomputable def sGDiv {z w:GQ} (hz:FitG z) (hw:FitG w) (h0:gzero w=false):Spec Tryz.prog :=
 Spec.auto Tryz.call114 [gS z,gS w] [] (gA2 (gdiv z w)) [] [(sTwoDiv hz hw h0).e] [] 400 Tryz.func114 hmA (by kernel_rfl) (fun β=>by kernel_rfl)
noncomputable def sGDiv0 {z w:GQ} (hz:FitG z) (hw:FitG w) (h0:gzero w=true):Spec Tryz.prog :=
 Spec.auto Tryz.call114 [gS z,gS w] [] (ga0 5) [] [(sTwoDiv0 hz hw h0).e] [] 400 Tryz.func114 hmA (by kernel_rfl) (fun β=>by kernel_rfl)
abbrev bxI (n:Int):Ob:=.box [.b (.v (.int .i64 n))] 3
abbrev powL (k:Nat):Lf:=.f (.func 256) [] [.p k 0]
noncomputable def sPow1 {z:GQ} (h0:gzero z=true):OSpec Tryz.prog :=
 OSpec.auto Tryz.call256 [nV 0,.one (.c (.b (.p 2 0)))] [(ratM z.re).ob,(ratM z.im).ob,bxI (-1)] (.tup [nA 0,nI' 5]) [] [(sZero h0).e] [(6,3)] 800 Tryz.func256 hmA (by kernel_rfl) (fun β=>by kernel_rfl)
noncomputable def sMadePow1 {z:GQ} (h0:gzero z=true):OSpec Tryz.prog :=
 OSpec.auto Tryz.call332 [nV 0,nV 2,.one (.c (.b (.p 4 0)))] [(ratM z.re).ob,(ratM z.im).ob,(ratM z.re).ob,(ratM z.im).ob,.box [powL 5] FT1,bxI (-1)] (.tup [nA 0,nI' 5]) [] [(sPow1 h0).e] [] 400 Tryz.func332 hmA (by kernel_rfl) (fun β=>by kernel_rfl)
noncomputable def sTwoPow {z:GQ} (hz:FitG z) (h0:gzero z=true):OSpec Tryz.prog :=
 OSpec.auto Tryz.call120 [gS z,gS z,.one (.c madeL)] [.box [powL 1] FT1,bxI (-1)] (ga0 5) [] [(sOpened hz hz).e,dIdx 165 (numR z z),dNum 165 (numR z z),dIdx 165 (numR z z),dNum 165 (numR z z),(sMadePow1 h0).e] [(4,12012013)] 800 Tryz.func120 hmA (by kernel_rfl) (fun β=>by kernel_rfl)
noncomputable def sMadePow {z:GQ} (hz:FitG z) (h0:gzero z=true):OSpec Tryz.prog :=
 OSpec.auto Tryz.call253 [gS z,.one (.c (powL 0))] [bxI (-1)] (ga0 5) [] [(sTwoPow hz h0).e] [] 400 Tryz.func253 hmA (by kernel_rfl) (fun β=>by kernel_rfl)
noncomputable def sGPow {z:GQ} (hz:FitG z) (h0:gzero z=true):Spec Tryz.prog :=
 Spec.auto Tryz.call116 [gS z,.one (nI' (-1))] [] (ga0 5) [] [(sMadePow hz h0).e] [] 400 Tryz.func116 hmA (by kernel_rfl) (fun β=>by kernel_rfl)
theorem root_uniq {n a b:Nat} (h1:a*a≤n) (h2:n<(a+1)*(a+1)) (k1:b*b≤n) (k2:n<(b+1)*(b+1)):a=b:=by
 rcases Nat.lt_trichotomy a b with h | h | h
 · have:(a+1)*(a+1)≤b*b:=Nat.mul_le_mul h h
   omega
 · exact h
 · have:(b+1)*(b+1)≤a*a:=Nat.mul_le_mul h h
   omega
def eSqrt {m:Int} {n r:Nat} (i p k:Nat) (hm:m=(n:Int)) (h1:r*r≤n) (h2:n<(r+1)*(r+1)) (hn:(dig (5*n)).length≤4294967296):Ev Tryz.prog:=.fill 333 Tryz.call333 (fun β=>#[.pointer (some ⟨(β i).b,0,none⟩),.pointer ((β k).v 0)]) [(k,(intT m).ob)] i 2 p (intT (r:Int))
 (fun β w h ho hs=>by
  obtain ⟨b,hb,kb⟩:=needI (n:=m) (k:=k) h (by simp)
  simp only [hb.1]
  rw [hm] at kb
  refine (Sqrt_any hs kb hn).mono fun e w' ⟨he,⟨r',k1,k2,k3⟩,k4⟩=>?_
  rw [root_uniq h1 h2 k1 k2]
  exact ⟨he,⟨_,ho.at1,k3⟩,k4⟩)
def fSqrt {m:Int} {n r:Nat} (hm:m=(n:Int)) (h1:r*r≤n) (h2:n<(r+1)*(r+1)) (hn:(dig (5*n)).length≤4294967296):Ev Tryz.prog:=dyn2 fun i p k=>eSqrt i p k hm h1 h2 hn
def mkI:Ev Tryz.prog:=dynMk 177 2
theorem dig_small {n:Nat} (h:n<4294967296):(dig n).length≤4294967296:=Nat.le_trans (dig_len_le n 1 (by omega)) (by decide)
theorem cmp_root {x y:Rat} {t:Bool} (h:decide (x=y)=t):Value.bool (cmpQ x y==0)=.bool t:=by
 rw [← h]
 congr 1
 rw [Bool.eq_iff_iff,beq_iff_eq,decide_eq_true_iff]
 unfold cmpQ
 constructor
 · intro h
   by_cases a:x<y
   · rw [if_pos a] at h; exact absurd h (by decide)
   · by_cases b:y<x
     · rw [if_neg a,if_pos b] at h; exact absurd h (by decide)
     · exact Rat.le_antisymm (Rat.not_lt.1 b) (Rat.not_lt.1 a)
 · rintro rfl
   rw [if_neg Rat.lt_irrefl,if_neg Rat.lt_irrefl]
theorem nat_sign {m:Int} {n:Nat} (h:m=(n:Int)):Value.bool (decide (m.sign<0))=.bool false:=by
 rw [h]
 cases n<;>rfl
structure RootD (x:Rat) (n d a b:Nat):Prop where
 hn:x.num=(n:Int)
 hd:(x.den:Int)=(d:Int)
 a1:a*a≤n
 a2:n<(a+1)*(a+1)
 b1:b*b≤d
 b2:d<(b+1)*(b+1)
 sn:5*n<4294967296
 sd:5*d<4294967296
 b0:(b:Int)≠0
 sa:sz (a:Int)≤100
 sb:sz (b:Int)≤100
def sRoot {x:Rat} (hx:Sz KB x) {n d a b:Nat} (h:RootD x n d a b) {t:Bool} (ht:decide (Rat.divInt a b*Rat.divInt a b=x)=t):Spec Tryz.prog :=
 Spec.auto Tryz.call255 [rV 0] [ratT x] (.tup [.c (.b (.z 1 0)),.c (.b (.v (.bool t)))]) [ratT (Rat.divInt a b)]
  [nSign (x:=x) rfl,.eqv 9 (.bool (decide (x.num.sign<0))) (.bool false) (nat_sign h.hn),mkI,nNum x,fSqrt h.hn h.a1 h.a2 (dig_small h.sn),mkI,nDenom x,fSqrt h.hd h.b1 h.b2 (dig_small h.sd),mkR,fSetFrac h.b0 (Nat.le_trans h.sa (by decide)) (Nat.le_trans h.sb (by decide)),
   mkR,fMul ((sz_divInt h.b0 h.sa h.sb).mono (by decide)) ((sz_divInt h.b0 h.sa h.sb).mono (by decide)),nCmp (c:=cmpQ (Rat.divInt a b*Rat.divInt a b) x) (((sz_divInt h.b0 h.sa h.sb).mul (sz_divInt h.b0 h.sa h.sb)).mono (by decide)) hx rfl,.eqv 29 (.bool (cmpQ (Rat.divInt a b*Rat.divInt a b) x==0)) (.bool t) (cmp_root ht)]
  [] 800 Tryz.func255 hmA (by kernel_rfl) (fun β=>by kernel_rfl)
abbrev z20:GQ:=gint 2 0
theorem z20_fit:FitG z20:=fit_int (by decide) (by decide)
abbrev nrm20:Rat:=(gmul z20 (gconj z20)).re
abbrev rt20:Rat:=Rat.divInt (2:Nat) (1:Nat)
abbrev half12:Rat:=Rat.divInt 1 2
abbrev mid20:Rat:=(rt20+z20.re)*half12
theorem root_nrm20:RootD nrm20 4 1 2 1:=⟨by kernel_rfl,by kernel_rfl,by decide,by decide,by decide,by decide,by decide,by decide,by decide,by rw [sz_le]; decide,by rw [sz_le]; decide⟩
theorem root_mid20:RootD mid20 2 1 1 1:=⟨by kernel_rfl,by kernel_rfl,by decide,by decide,by decide,by decide,by decide,by decide,by decide,by rw [sz_le]; decide,by rw [sz_le]; decide⟩
theorem sz_half:Sz 8 half12:=sz_lit 1 2 (by decide) (by decide) (by decide)
theorem sz_rt20:Sz 8 rt20:=sz_lit 2 1 (by decide) (by decide) (by decide)
noncomputable def sSqrt20:Spec Tryz.prog :=
 Spec.auto Tryz.call254 [nV 0] (gM z20) (.tup [nA 0,nI' 7]) []
  [(sParts z20).e,(sConj z20).e,(sMul (z20_fit.gsz.mono (by decide)) (z20_fit.gsz.conj.mono (by decide))).e,(sParts (gmul z20 (gconj z20))).e,
   (sRoot ((z20_fit.gsz.mul z20_fit.gsz.conj).1.mono (by decide)) root_nrm20 (t:=true) (by kernel_rfl)).e,nNew 1 2 (by decide) (by decide) (by decide),mkR,mkR,fAdd (sz_rt20.mono (by decide)) (z20_fit.gsz.1.mono (by decide)),fMul ((sz_rt20.add z20_fit.gsz.1).mono (by decide)) (sz_half.mono (by decide)),
   (sRoot (((sz_rt20.add z20_fit.gsz.1).mul sz_half).mono (by decide)) root_mid20 (t:=false) (by kernel_rfl)).e] [(2,10)] 1200 Tryz.func254 hmA (by kernel_rfl) (fun β=>by kernel_rfl)
noncomputable def sMadeSqrt20:OSpec Tryz.prog :=
 OSpec.auto Tryz.call332 [nV 0,nV 2,.one (.c (.b (.p 4 0)))] ([(ratM z20.re).ob,(ratM z20.im).ob,(ratM z20.re).ob,(ratM z20.im).ob,.box [fnL 254] FT1]) (.tup [nA 0,nI' 7]) [] [sSqrt20.e] [] 400 Tryz.func332 hmA (by kernel_rfl) (fun β=>by kernel_rfl)
noncomputable def sTwoSqrt20:OSpec Tryz.prog :=
 OSpec.auto Tryz.call120 [gS z20,gS z20,.one (.c madeL)] [.box [fnL 254] FT1] (ga0 7) [] [(sOpened z20_fit z20_fit).e,dIdx 165 (numR z20 z20),dNum 165 (numR z20 z20),dIdx 165 (numR z20 z20),dNum 165 (numR z20 z20),sMadeSqrt20.e] [(4,11012013)] 800 Tryz.func120 hmA (by kernel_rfl) (fun β=>by kernel_rfl)
noncomputable def sMadeS20:Spec Tryz.prog :=
 Spec.auto Tryz.call253 [gS z20,.one (.c (fnL 254))] [] (ga0 7) [] [sTwoSqrt20.e] [] 400 Tryz.func253 hmA (by kernel_rfl) (fun β=>by kernel_rfl)
noncomputable def sGSqrt20:Spec Tryz.prog :=
 Spec.auto Tryz.call115 [gS z20] [] (ga0 7) [] [sMadeS20.e] [] 400 Tryz.func115 hmA (by kernel_rfl) (fun β=>by kernel_rfl)
def alOf (ob:List Ob) (j:Nat):Nat:=match ob[j]? with
 | some (.al i _)=>i
 | _=>0
def dynRf {P:Program} (f:Nat→Nat→Nat→Nat→Ev P):Ev P:=.dyn (fun o _ _=>isCallB o) fun _ xs ob=>lit ob.length fun n=>lit (ptOf (xs.getD 0 undefS)) fun j=>lit (alOf ob j) fun i=>lit (ptOf (xs.getD 2 undefS)) fun k=>f i j n k
theorem one_at {g:Pl} {b:Nat} (h:g.one) (k:At1 g b):b=g.b:=((k.2 g.b).1 ((h.1 _).2 rfl)).symm
def eRQuo {x y:Rat} (i j n k:Nat) (hx:Sz KB x) (hy:Sz KB y) (h0:y≠0):Ev Tryz.prog:=.refill 163 Tryz.call163 (fun β=>#[.pointer ((β j).v 0),.pointer ((β j).v 0),.pointer ((β k).v 0)]) [(j,(ratT x).ob),(k,(ratT y).ob)] i j 4 n (ratT (x/y))
 (fun β w h hji ho hs=>by
  obtain ⟨a,ha,ka⟩:=needP (x:=x) (k:=j) h (by simp)
  obtain ⟨b,hb,kb⟩:=needP (x:=y) (k:=k) h (by simp)
  have e:=one_at ho (hji▸ha)
  subst e
  simp only [ha.1,hb.1]
  exact fillP ho (rQuo_any hs ka kb (hx.okR2 (by decide)) (hy.okR2 (by decide)) h0))
def rQuo {x y:Rat} (hx:Sz KB x) (hy:Sz KB y) (h0:y≠0):Ev Tryz.prog:=dynRf fun i j n k=>eRQuo i j n k hx hy h0
def sEReal (x:Rat):Spec Tryz.prog :=
 Spec.auto Tryz.call141 [rV 0] [ratT x] (.one (.a [.b (.z 0 0),.b (.v (.pointer none))])) [] [] [] 100 Tryz.func141 hmA (by kernel_rfl) (fun β=>by kernel_rfl)
def sEInt (n m:Int) (hn : -9223372036854775808≤n∧n≤9223372036854775807) (hm : -9223372036854775808≤m∧m≤9223372036854775807):Spec Tryz.prog :=
 Spec.auto Tryz.call126 [.one (.c (.b (.v (.int .i64 n)))),.one (.c (.b (.v (.int .i64 m))))] [] (nV 0) [ratT (Rat.divInt n 1),ratT (Rat.divInt m 1)]
  [nNew n 1 hn (by decide) (by decide),nNew m 1 hm (by decide) (by decide)] [] 400 Tryz.func126 hmA (by kernel_rfl) (fun β=>by kernel_rfl)
abbrev z34:GQ:=gint (-3) 4
theorem z34_fit:FitG z34:=fit_int (by decide) (by decide)
abbrev nrm34:Rat:=(gmul z34 (gconj z34)).re
abbrev rt34:Rat:=Rat.divInt (5:Nat) (1:Nat)
abbrev mid34:Rat:=(rt34+z34.re)*half12
abbrev a34:Rat:=Rat.divInt (1:Nat) (1:Nat)
abbrev b34:Rat:=z34.im*half12
abbrev q34:GQ:=⟨b34/a34,0⟩
abbrev i01:GQ:=⟨Rat.divInt 0 1,Rat.divInt 1 1⟩
abbrev s34:GQ:=gadd ⟨a34,0⟩ (gmul q34 i01)
theorem root_nrm34:RootD nrm34 25 1 5 1:=⟨by kernel_rfl,by kernel_rfl,by decide,by decide,by decide,by decide,by decide,by decide,by decide,by rw [sz_le]; decide,by rw [sz_le]; decide⟩
theorem root_mid34:RootD mid34 1 1 1 1:=⟨by kernel_rfl,by kernel_rfl,by decide,by decide,by decide,by decide,by decide,by decide,by decide,by rw [sz_le]; decide,by rw [sz_le]; decide⟩
theorem sz_rt34:Sz 8 rt34:=sz_lit 5 1 (by decide) (by decide) (by decide)
theorem sz_a34:Sz 8 a34:=sz_lit 1 1 (by decide) (by decide) (by decide)
theorem a34_ne:a34≠0:=by
 have:decide (a34=0)=false:=by kernel_rfl
 exact of_decide_eq_false this
theorem sz_b34:Sz KB b34:=(z34_fit.gsz.2.mul sz_half).mono (by decide)
theorem sz_q34:GSz 2048 q34:=⟨((z34_fit.gsz.2.mul sz_half).div sz_a34 a34_ne).mono (by decide),sz_zero.mono (by decide)⟩
theorem sz_i01:GSz 8 i01:=⟨sz_lit 0 1 (by decide) (by decide) (by decide),sz_lit 1 1 (by decide) (by decide) (by decide)⟩
theorem sz_a340:GSz 8 ⟨a34,0⟩:=⟨sz_a34,sz_zero.mono (by decide)⟩
noncomputable def sSqrt34:Spec Tryz.prog :=
 Spec.auto Tryz.call254 [nV 0] (gM z34) (.tup [nA 2,nI' 0]) (gT s34)
  [(sParts z34).e,(sConj z34).e,(sMul (z34_fit.gsz.mono (by decide)) (z34_fit.gsz.conj.mono (by decide))).e,(sParts (gmul z34 (gconj z34))).e,
   (sRoot ((z34_fit.gsz.mul z34_fit.gsz.conj).1.mono (by decide)) root_nrm34 (t:=true) (by kernel_rfl)).e,nNew 1 2 (by decide) (by decide) (by decide),mkR,mkR,fAdd (sz_rt34.mono (by decide)) (z34_fit.gsz.1.mono (by decide)),fMul ((sz_rt34.add z34_fit.gsz.1).mono (by decide)) (sz_half.mono (by decide)),
   (sRoot (((sz_rt34.add z34_fit.gsz.1).mul sz_half).mono (by decide)) root_mid34 (t:=true) (by kernel_rfl)).e,nSign (x:=a34) (c:=1) (by kernel_rfl),mkR,fMul (z34_fit.gsz.2.mono (by decide)) (sz_half.mono (by decide)),
   (sEReal a34).e,rQuo sz_b34 (sz_a34.mono (by decide)) a34_ne,(sEReal (b34/a34)).e,(sEInt 0 1 (by decide) (by decide)).e,(sMul (sz_q34.mono (by decide)) (sz_i01.mono (by decide))).e,(sAdd (sz_a340.mono (by decide)) ((sz_q34.mul sz_i01).mono (by decide))).e] [(2,10)] 1200 Tryz.func254 hmA (by kernel_rfl) (fun β=>by kernel_rfl)
theorem s34_eq:s34=gint 1 2:=by
 have h1:decide (s34.re=(gint 1 2).re)=true:=by kernel_rfl
 have h2:decide (s34.im=(gint 1 2).im)=true:=by kernel_rfl
 exact congr (congrArg GQ.mk (of_decide_eq_true h1)) (of_decide_eq_true h2)
abbrev z12:GQ:=gint 1 2
theorem z12_fit:FitG z12:=fit_int (by decide) (by decide)
noncomputable def sMadeSqrt34:OSpec Tryz.prog :=
 OSpec.auto Tryz.call332 [nV 0,nV 2,.one (.c (.b (.p 4 0)))] ([(ratM z34.re).ob,(ratM z34.im).ob,(ratM z34.re).ob,(ratM z34.im).ob,.box [fnL 254] FT1]) (.tup [nA 5,nI' 0]) [s34.re,s34.im] [sSqrt34.e] [] 400 Tryz.func332 hmA (by kernel_rfl) (fun β=>by kernel_rfl)
noncomputable def sTwoSqrt34:OSpec Tryz.prog :=
 OSpec.auto Tryz.call120 [gS z34,gS z34,.one (.c madeL)] [.box [fnL 254] FT1] (gA2 s34) [] [(sOpened z34_fit z34_fit).e,dIdx 165 (numR z34 z34),dNum 165 (numR z34 z34),dIdx 165 (numR z34 z34),dNum 165 (numR z34 z34),sMadeSqrt34.e,(sTold (z:=s34) (by rw [s34_eq]; exact z12_fit.gsz.mono (by decide))).e] [(4,13012013)] 800 Tryz.func120 hmA (by kernel_rfl) (fun β=>by kernel_rfl)
noncomputable def sMadeS34:Spec Tryz.prog :=
 Spec.auto Tryz.call253 [gS z34,.one (.c (fnL 254))] [] (gA2 s34) [] [sTwoSqrt34.e] [] 400 Tryz.func253 hmA (by kernel_rfl) (fun β=>by kernel_rfl)
noncomputable def sGSqrt34:Spec Tryz.prog :=
 Spec.auto Tryz.call115 [gS z34] [] (gA2 s34) [] [sMadeS34.e] [] 400 Tryz.func115 hmA (by kernel_rfl) (fun β=>by kernel_rfl)
def sNum4 (k:Int):Spec Tryz.prog:=Spec.auto Tryz.call27 [.one (nI' k)] [] (.one (nI' k)) [] [] [] 400 Tryz.func27 hmA (by kernel_rfl) (fun β=>by kernel_rfl)
theorem geq_self2 (x y:R4):(x.eq x&&(y.eq y&&true))=true:=geq_self x y
def sR4Real (z:GQ) {b:Bool} (hb:decide (z.im=0)=b):Spec Tryz.prog :=
 Spec.auto Tryz.call118 [gS z] [] (tB' b) [] [(sR3Sign (x:=z.im) rfl).e,.eqv 6 (.bool (z.im.num.sign==0)) (.bool b) (sign_num _ hb)] [] 400 Tryz.func118 hmA (by kernel_rfl) (fun β=>by kernel_rfl)
def sGM (g:Gp) {r:Bool} (h:g.B=r):Spec Tryz.prog :=
 (sGMay g.a.a g.b.a).as [g.C] (tB' r) (by
  show [SV.one (.a (g.a.a.C++g.b.a.C))]=[SV.one (.a (rL g.a.r++rL g.b.r))]
  rw [show g.a.a.C=rL g.a.r from g.a.e,show g.b.a.C=rL g.b.r from g.b.e]) (congrArg tB' h)
end Go.Proofs.YthkpghhoffihmaaGreatDoor.Y
end
section
namespace Go.Proofs.YthkpghhoffihmaaGreatDoor
open Go.RowKit
def pv (g:Nat):Value:=.pointer (some ⟨g,0,none⟩)
theorem ptr_info:(Tryz.prog.info? 149).map (fun i=>(i.zero,i.size,i.bytes))=some (some (.pointer none),1,8):=by kernel_rfl
def PRow (w:World) (base:Nat) (v:Value) (zs:List Nat):Prop:=w.ownsRow base 149 1 v zs.length (zs.map pv)
theorem PRow.nil (w:World) (base:Nat):PRow w base (.slice none 0 0) []:=by simpa [PRow] using World.ownsRow_nil w base 149 1
theorem PRow.alloc {w:World} {base:Nat} {v:Value} {zs:List Nat} (h:PRow w base v zs) (o:Obj):PRow (w.alloc o) base v zs:=World.ownsRow.alloc h o
theorem PRow.open_ {w:World} {base:Nat} {v:Value} {zs:List Nat} (h:PRow w base v zs) (h0:0<zs.length) :
  ∃ g cap,v=.slice (some ⟨g,0,none⟩) zs.length cap∧base≤g∧g<w.heap.size∧∀ i,i<zs.length→w.cell? ⟨g,i,none⟩=some (pv (zs.getD i 0)):=by
 obtain ⟨hlen,h2⟩:=h
 rcases h2 with ⟨rfl,h1⟩ | ⟨g,cap,cur,rfl,hg,hh,hc,_,hcs,ht⟩
 · omega
 · refine ⟨g,cap,rfl,hg,heap_some_lt hh,fun i hi=>?_⟩
   have h3:(cur.toList.take (zs.length*1))[i]?=(zs.map pv)[i]?:=by rw [ht]
   rw [List.getElem?_take_of_lt (by omega),List.getElem?_map,List.getElem?_eq_getElem hi] at h3
   rw [cell_of_row _ _ _ _ _ _ hh,← Array.getElem?_toList,h3,getD_in hi]
   rfl
theorem wpList_append_ptr {ops:Array Oper} {rest:List Oper} {o:Oper} {a:Act} {w:World} {Q:Exit→Act→World→Prop} (hg:o.guard=none) (s x:Operand)
  (ho:o.op=.call { callee:=.builtin .append,args:=#[s,x],argTypes:=#[283,283] })
  (base:Nat) (v:Value) (zs:List Nat) (hs:a.eval s=v) (hown:PRow w base v zs) (ad:Addr) (c:Nat) (y:Nat) (hx:a.eval x=.slice (some ad) 1 c) (hcell:w.cell? ad=some (pv y))
  (hlen:zs.length≤17179869184) (hbase:base≤w.heap.size)
  (hK:∀ v' w',PRow w' base v' (zs++[y])→Below base w w'→w.grownBy w' v.ownBlock→wpList Tryz.prog ops Q rest (a.put o.dst v') w'):wpList Tryz.prog ops Q (o::rest) a w:=by
 obtain ⟨i0,hi,hz0,hz1,hz2⟩:=info_parts ptr_info
 refine wpList_append_own w hg s x 283 ho base 149 i0 (.pointer none) 1 8 Tryz.underlying283 hi hz0 hz1 hz2 rfl (by decide) v zs.length (zs.map pv) hs hown ad 1 c [pv y] hx rfl ?_ ?_ (by simp only [maxLen]; omega) (by omega) hbase ?_
 · intro j u hj
   cases j with
   | zero =>
    simp at hj
    subst hj
    simpa [Addr.add] using hcell
   | succ j=>simp at hj
 · intro u hu
   simp at hu
   subst hu
   rfl
 · intro v' w' h1 h2 _
   refine hK v' w' (by simpa [PRow] using h1) ((Below.refl _ _).grown h2 hbase fun k hk=>?_) h2
   · rcases hown.2 with ⟨rfl,_⟩ | ⟨g,cap,cur,rfl,hb,_⟩
     · simp [Value.ownBlock] at hk
     · simp [Value.ownBlock] at hk
       omega
def OfPost (b:Bool) (s:ByteArray) (w:World) (e:Ending) (w':World):Prop :=
 ((WholeOk b s∧∃ h cap p,e=.returned (.tuple #[.slice (some ⟨h,0,none⟩) 1 cap,.bool true])∧w'.cell? ⟨h,0,none⟩=some (.pointer (some ⟨p,0,none⟩))∧IntAt w' p 0 (numOf b s)) ∨
  (¬ WholeOk b s∧e=.returned (.tuple #[.slice none 0 0,.bool false])))∧Below w.heap.size w w'
def OfPost2 (b:Bool) (s:ByteArray) (w:World) (e:Ending) (w':World):Prop :=
 ((WholeOk b s∧∃ h cap p,e=.returned (.tuple #[.slice (some ⟨h,0,none⟩) 1 cap,.bool true])∧w'.cell? ⟨h,0,none⟩=some (.pointer (some ⟨p,0,none⟩))∧IntAt w' p 0 (numOf b s)∧Hid (w.heap.size≤h∧w.heap.size≤p)) ∨
  (¬ WholeOk b s∧e=.returned (.tuple #[.slice none 0 0,.bool false])))∧Below w.heap.size w w'
set_option maxHeartbeats 1600000 in
set_option maxRecDepth 100000 in
theorem of_one2 {w0:World} {a cap:Nat} (b:Bool) (s:ByteArray) (hs:s.size≤4294967296) {T:TypeId} (ha:BoxAt w0 a #[.bool b,.string s] T) :
  Calls Tryz.prog 235 #[.slice (some ⟨a,0,none⟩) 1 cap] w0 (OfPost2 b s w0):=by
 have hcv:=fun (w:World)=>run_bytes_of_string (P:=Tryz.prog) w 9 57 5 s Tryz.underlying9 Tryz.underlying57 Tryz.underlying5
 have HS:=Lib.hid hs
 have HS2:Hid (s.size≤maxLen):=by unfold Hid maxLen; omega
 have HX:=Lib.hid ha
 have hc0:=ha.cell 0 (.bool b) rfl
 have hc1:=ha.cell 1 (.string s) rfl
 clear hs ha
 go_enter Tryz.func235,Tryz.ntmps235
 go_wp2
 go_loopw [4,10] (fun v i wr=>Below w0.heap.size w0 wr∧((v=.slice none 0 0∧i=.int .i64 0)∨(WholeOk b s∧i=.int .i64 1∧∃ h cap p,v=.slice (some ⟨h,0,none⟩) 1 cap∧wr.cell? ⟨h,0,none⟩=some (.pointer (some ⟨p,0,none⟩))∧IntAt wr p 0 (numOf b s)∧Hid (w0.heap.size≤h∧w0.heap.size≤p)))) (fun _ i _=>1-(intOf i).toNat)
 case atStart=>exact ⟨Below.refl _ _,.inl ⟨rfl,rfl⟩⟩
 case round =>
  obtain ⟨hb,h | h⟩:=hrel
  · obtain ⟨rfl,rfl⟩:=h
    have HBR:=Lib.hid hb
    have hd0:=(HX.out.on hb).cell 0 (.bool b) rfl
    have hd1:=(HX.out.on hb).cell 1 (.string s) rfl
    have HN:=Lib.hid (BoxAt.new wr #[.bool b,.string s] 23)
    have HBN:=Lib.hid (below_new wr (.cells #[.bool b,.string s] 23))
    clear hb hc0 hc1
    go_wp2_with fail
    refine (Check_any b s HS2.out).mono ?_
    rintro e w1 ⟨k,rfl,hk,hb⟩
    have HB1:=Lib.hid ((HBR.out.trans (HBN.out.mono HBR.out.size)).trans (hb.mono (Nat.le_trans HBR.out.size HBN.out.size)))
    have HN1:=Lib.hid (HN.out.on hb)
    have hl1:wr.heap.size<w1.heap.size:=HN1.out.lt
    clear hb hd0 hd1
    by_cases ho:WholeOk b s
    · obtain rfl:k=0:=hk.elim (fun h=>h.1) (fun h=>absurd ho h.2)
      have HO:=Lib.hid ho
      have hn0:=HN1.out.cell 0 (.bool b) rfl
      have hn1:=HN1.out.cell 1 (.string s) rfl
      clear hk ho
      go_wp2_with fail
      generalize hW2:w1.alloc (.cells #[.bool false,.slice none 0 0] 177)=W2
      have hi:IntAt W2 w1.heap.size 0 0:=by rw [← hW2]; exact IntAt.new _
      have hx:BoxAt W2 wr.heap.size #[.bool b,.string s] 23:=by rw [← hW2]; exact HN1.out.on (below_new _ _)
      have hb:Below w1.heap.size w1 W2:=by rw [← hW2]; exact below_new _ _
      have hsz:w1.heap.size+1=W2.heap.size:=by rw [← hW2]; simp
      have hby:=byt_row (W:=W2) s (grownCap W2 s.size 0 5) (grownCap W2 s.size 0 5) (w1.heap.size+1) ((bytesRow s (grownCap W2 s.size 0 5)).size,(bytesRow s (grownCap W2 s.size 0 5)).size+1) hsz
      have hbl:=below_row W2 (bytesRow s (grownCap W2 s.size 0 5)) 5 ((bytesRow s (grownCap W2 s.size 0 5)).size,(bytesRow s (grownCap W2 s.size 0 5)).size+1)
      clear hW2
      generalize grownCap W2 s.size 0 5=c at hby hbl ⊢
      generalize (W2.alloc (.cells (bytesRow s c) 5 ((bytesRow s c).size,(bytesRow s c).size+1))).drew=W3 at hby hbl ⊢
      refine (SetBytes_any (hi.on hbl).slot hby HS.out).mono ?_
      rintro e w4 ⟨rfl,h1,h2⟩
      rw [List.reverse_reverse] at h1
      have HT:=Lib.hid (h2.below (B:=w1.heap.size) (Nat.le_refl _) (by have:=hbl.size; omega))
      have HB4:=Lib.hid ((hb.trans (hbl.mono hb.size)).trans HT.out)
      have hd0:w4.cell? ⟨wr.heap.size,0,none⟩=some (.bool b):=by rw [HB4.out.cell (by simp; omega)]; exact HN1.out.cell 0 _ rfl
      have HI:=Lib.hid h1
      have HBB:=Lib.hid (HB1.out.trans (HB4.out.mono HB1.out.size))
      clear h1 h2 hi hx hb hsz hby hbl hn0 hn1
      cases b
      · have HV:Hid (IntAt w4 w1.heap.size 0 (numOf false s)):=by
         have:=HI.out
         simpa [Hid,numOf,sg,num] using this
        go_wp2_with (at_builtin; refine wpList_append_ptr rfl (.tmp 32) (.tmp 34) rfl w0.heap.size _ [] rfl ((PRow.nil _ _).alloc _) ⟨w4.heap.size,0,none⟩ 1 w1.heap.size rfl (cell_new0 _ _ _) ?_ ?_ ?_)
        · exact Nat.zero_le _
        · have:=HBB.out.size; simp; omega
        intro v' w6 hrow hb6 hgr
        obtain ⟨h,cap2,rfl,hge,hlt,hcc⟩:=hrow.open_ (by simp)
        have HG:Hid (w0.heap.size≤h∧w0.heap.size≤w1.heap.size):=⟨hge,HB1.out.size⟩
        clear hge
        have HC:=Lib.hid (hcc 0 (by simp))
        have HB6:=Lib.hid ((HBB.out.trans ((below_new w4 (.cells #[.pointer (some ⟨w1.heap.size,0,none⟩)] 149)).mono HBB.out.size)).trans hb6)
        have HV6:=Lib.hid ((HV.out.on (below_new w4 (.cells #[.pointer (some ⟨w1.heap.size,0,none⟩)] 149))).on (Below.grown (Below.refl _ _) hgr (Nat.le_refl _) (fun k hk=>by simp [Value.ownBlock] at hk)))
        clear hrow hb6 hgr hcc
        go_wp2
        go_roundw
        case rel=>exact ⟨HB6.out,.inr ⟨HO.out,by go_num,h,cap2,_,rfl,HC.out,HV6.out,HG⟩⟩
        case measure=>simp [intOf]
      · go_wp2_with fail
        refine (neg_any HI.out.slot HI.out).mono ?_
        rintro e w5 ⟨rfl,h1,h2⟩
        have HV:Hid (IntAt w5 w1.heap.size 0 (numOf true s)):=by
         have:=h1
         simpa [Hid,numOf,sg,num] using this
        have HB5:=Lib.hid (HBB.out.trans (h2.below (B:=w0.heap.size) (by have:=HB1.out.size; omega) HBB.out.size))
        clear h1 h2 hd0
        go_wp2_with (at_builtin; refine wpList_append_ptr rfl (.tmp 32) (.tmp 34) rfl w0.heap.size _ [] rfl ((PRow.nil _ _).alloc _) ⟨w5.heap.size,0,none⟩ 1 w1.heap.size rfl (cell_new0 _ _ _) ?_ ?_ ?_)
        · exact Nat.zero_le _
        · have:=HB5.out.size; simp; omega
        intro v' w6 hrow hb6 hgr
        obtain ⟨h,cap2,rfl,hge,hlt,hcc⟩:=hrow.open_ (by simp)
        have HG:Hid (w0.heap.size≤h∧w0.heap.size≤w1.heap.size):=⟨hge,HB1.out.size⟩
        clear hge
        have HC:=Lib.hid (hcc 0 (by simp))
        have HB6:=Lib.hid ((HB5.out.trans ((below_new w5 (.cells #[.pointer (some ⟨w1.heap.size,0,none⟩)] 149)).mono HB5.out.size)).trans hb6)
        have HV6:=Lib.hid ((HV.out.on (below_new w5 (.cells #[.pointer (some ⟨w1.heap.size,0,none⟩)] 149))).on (Below.grown (Below.refl _ _) hgr (Nat.le_refl _) (fun k hk=>by simp [Value.ownBlock] at hk)))
        clear hrow hb6 hgr hcc
        go_wp2
        go_roundw
        case rel=>exact ⟨HB6.out,.inr ⟨HO.out,by go_num,h,cap2,_,rfl,HC.out,HV6.out,HG⟩⟩
        case measure=>simp [intOf]
    · obtain rfl:k=2:=hk.elim (fun h=>absurd h.2 ho) (fun h=>h.1)
      have HO:=Lib.hid ho
      clear hk ho
      go_wp2
      go_ret2
      exact ⟨.inr ⟨HO.out,rfl⟩,HB1.out⟩
  · obtain ⟨ho,rfl,h,cap2,p,rfl,hc,hi,HG⟩:=h
    have HO:=Lib.hid ho
    have HC:=Lib.hid hc
    have HI:=Lib.hid hi
    have HB:=Lib.hid hb
    clear ho hc hi hb hc0 hc1
    go_wp2
    go_ret2
    exact ⟨.inl ⟨HO.out,h,cap2,p,rfl,HC.out,HI.out,HG⟩,HB.out⟩
theorem of_one {w0:World} {a cap:Nat} (b:Bool) (s:ByteArray) (hs:s.size≤4294967296) {T:TypeId} (ha:BoxAt w0 a #[.bool b,.string s] T) :
  Calls Tryz.prog 235 #[.slice (some ⟨a,0,none⟩) 1 cap] w0 (OfPost b s w0) :=
 (of_one2 b s hs ha).mono fun e w' ⟨h,hb⟩=>⟨h.imp (fun ⟨ho,h,cap,p,h1,h2,h3,_⟩=>⟨ho,h,cap,p,h1,h2,h3⟩) id,hb⟩
theorem fracV_num {b c:Bool} {s t:ByteArray} {x:Rat} (h:FracParts b s c t x):WholeOk b s∧numOf b s=x.num:=by
 have h1:=(isFrac_parts h.isFrac).1
 obtain ⟨rfl,rfl,_,_⟩:=agg4 h.val
 exact ⟨h1,numOf_mag _⟩
theorem fracV_inj {x y:Rat} (h:fracV x=fracV y):x=y:=by
 obtain ⟨h1,h2,_,h4⟩:=agg4 h
 have e1:x.num=y.num:=sg_inj h1 (mag_inj h2)
 have e2:x.den=y.den:=mag_inj h4
 exact Rat.ext e1 e2
theorem sz_i64 {n:Int} (h : -9223372036854775808≤n∧n≤9223372036854775807):sz n≤8:=by
 rw [sz_le]
 have:n.natAbs≤9223372036854775808:=by omega
 exact Nat.lt_of_le_of_lt this (by decide)
theorem okn_i64 {n:Int} (h : -9223372036854775808≤n∧n≤9223372036854775807):Okn n:=okn_size (Nat.le_trans (sz_i64 h) (by decide))
set_option maxHeartbeats 1600000 in
set_option maxRecDepth 100000 in
theorem WText_any {w0:World} (b:Bool) (s:ByteArray) (hs:s.size≤4294967296) :
  Calls Tryz.prog 105 #[.agg #[.bool b,.string s]] w0 fun e w'=>∃ u k,e=.returned (.tuple #[.string u,.int .i64 k])∧(WholeOk b s∧u=textN (numOf b s)∧k=0∨¬ WholeOk b s∧u=⟨#[]⟩∧k=2)∧Below w0.heap.size w0 w':=by
 have HS:=Lib.hid hs
 have h1:=below_new w0 (.cells #[.bool b,.string s] 23)
 have h2:=below_new (w0.alloc (.cells #[.bool b,.string s] 23)) (.cells #[.bool b,.string s] 23)
 have HB:=Lib.hid (h1.trans (h2.mono h1.size))
 have HX:=Lib.hid (BoxAt.new_at (w:=w0.alloc (.cells #[.bool b,.string s] 23)) #[.bool b,.string s] 23 (size_alloc w0 _).symm)
 clear hs h1 h2
 go_enter Tryz.func105,Tryz.ntmps105
 go_wp2_with fail
 refine (of_one b s HS.out HX.out).mono ?_
 rintro e w1 ⟨h,hb⟩
 have HB1:=Lib.hid (HB.out.trans (hb.mono HB.out.size))
 clear hb
 rcases h with ⟨ho,g,cap,p,rfl,hc,hi⟩ | ⟨ho,rfl⟩
 · have HO:=Lib.hid ho
   have HI:=Lib.hid hi
   have KT:Hid (Okt (numOf b s)):=by
    have h3:(mag (numOf b s).natAbs).size≤16384:=by rw [(numOf_ok ho).2.1]; exact ho.2
    have:=wl_size h3
    unfold Hid Okt
    omega
   clear ho hi
   go_wp2_with fail
   refine (String_any HI.out KT.out).mono ?_
   rintro e w2 ⟨rfl,hb⟩
   have HB2:=Lib.hid (HB1.out.trans (hb.mono HB1.out.size))
   clear hb hc
   go_wp2
   go_ret2
   exact ⟨_,_,rfl,.inl ⟨HO.out,rfl,rfl⟩,HB2.out⟩
 · have HO:=Lib.hid ho
   clear ho
   go_wp2
   go_ret2
   exact ⟨_,_,rfl,.inr ⟨HO.out,rfl,rfl⟩,HB1.out⟩
theorem textN_len (n:Int):(textN n).size≤32*(dig n.natAbs).length+1:=by
 rw [textN_size]
 unfold txt
 have:=dd_len_words n.natAbs
 split
 · simp
 · rw [List.length_reverse,List.length_append]
   split<;>simp<;>omega
theorem textN_small {n:Int} (h:(mag n.natAbs).size≤16384):(textN n).size≤200000:=by
 have h1:=textN_len n
 have h2:=wl_size h
 omega
def textQ (x:Rat):ByteArray:=if x.den=1 then textN x.num else textN x.num++(⟨#[47]⟩++textN (x.den:Int))
def TextAns (va:Value) (u:ByteArray) (k:Int):Prop:=(∃ x,Fit x∧va=fracV x∧u=textQ x∧k=0)∨(¬ IsFrac va∧u=⟨#[]⟩∧k=2)
theorem parts_den {b c:Bool} {s t:ByteArray} {x:Rat} (h:FracParts b s c t x):c=false∧t=mag x.den∧WholeOk false t∧numOf false t=(x.den:Int):=by
 have h2:=(isFrac_parts h.isFrac).2.1
 obtain ⟨rfl,rfl,rfl,rfl⟩:=agg4 h.val
 refine ⟨rfl,rfl,h2,?_⟩
 have:=numOf_mag (x.den:Int)
 rwa [show decide ((x.den:Int)<0)=false by simp,Int.natAbs_natCast] at this
set_option maxHeartbeats 3200000 in
set_option maxRecDepth 100000 in
theorem FText_any {w0:World} (b c:Bool) (s t:ByteArray) (hs:s.size≤maxLen) (ht:t.size≤maxLen) :
  Calls Tryz.prog 21 #[.agg #[.bool b,.string s,.bool c,.string t]] w0 fun e w'=>∃ u k,e=.returned (.tuple #[.string u,.int .i64 k])∧TextAns (.agg #[.bool b,.string s,.bool c,.string t]) u k∧Below w0.heap.size w0 w':=by
 have HS:=Lib.hid hs
 have HT:=Lib.hid ht
 have HW0:=Lib.hid (below_new w0 (.cells #[.bool b,.string s,.bool c,.string t] 25))
 have HX0:=Lib.hid (BoxAt.new w0 #[.bool b,.string s,.bool c,.string t] 25)
 clear hs ht
 go_enter Tryz.func21,Tryz.ntmps21
 go_wp2_with fail
 refine (May_any b c s t HS.out HT.out).mono ?_
 rintro e w1 ⟨r,rfl,hr,hb⟩
 have HX1:=Lib.hid (HX0.out.on hb)
 have HW1:=Lib.hid (HW0.out.trans (hb.mono HW0.out.size))
 have HR:=Lib.hid hr
 clear hb hr
 cases r
 · go_wp2
   go_ret2
   exact ⟨_,_,rfl,.inr ⟨fun h=>Bool.noConfusion (HR.out.2 h),rfl,rfl⟩,HW1.out⟩
 obtain ⟨x,hx⟩:=parts_of (by first | exact HR.out.1 rfl | exact HR.out.1 trivial)
 have HX:=Lib.hid hx
 obtain ⟨rfl,ht2,ho2,hn2⟩:=parts_den hx
 have HT2:=Lib.hid ht2
 have HO2:=Lib.hid ho2
 have HN2:=Lib.hid hn2
 have hc0:=HX1.out.cell 0 (.bool b) rfl
 have hc1:=HX1.out.cell 1 (.string s) rfl
 clear hx HR ht2 ho2 hn2
 go_wp2_with fail
 refine (WText_any b s HX.out.hs).mono ?_
 rintro e w2 ⟨un,k,rfl,hu,hb⟩
 have HU:Hid (un=textN x.num):=by
  obtain ⟨h1,h2⟩:=fracV_num HX.out
  rcases hu with h | h
  · rw [← h2]; exact h.2.1
  · exact absurd h1 h.1
 have HX2:=Lib.hid (HX1.out.on hb)
 have HW2:=Lib.hid (HW1.out.trans (hb.mono HW1.out.size))
 clear hu hb hc0 hc1
 go_wp2
 refine wp_region_acts 4 (fun w'=>Below w0.heap.size w0 w'∧BoxAt w' w0.heap.size #[.bool b,.string s,.bool false,.string t] 25) (fun w w'=>Below w.heap.size w w') (fun i w v=>match i with
   | 0=>v=.pointer (some ⟨w0.heap.size,2,none⟩)
   | 1=>v=.agg #[.bool false,.string t]
   | 2=>∃ g,v=.pointer (some ⟨g,0,none⟩)∧IntAt w g 0 1
   | _=>∃ s',v=.agg #[.bool false,.string s']∧Hid (s'=mag 1)) (by kernel_rfl) (by kernel_rfl) (by kernel_rfl) ⟨HW2.out.drew,HX2.out⟩ (fun _ _=>(Below.refl _ _)) ?_ ⟨?_,?_,?_,?_,trivial⟩ ?_
 · intro i w1 w2 v hC hC2 hE hV
   match i with
   | 0=>exact hV
   | 1=>exact hV
   | 2=>obtain ⟨g,e,h⟩:=hV; exact ⟨g,e,h.on hE⟩
   | _+3=>exact hV
 · intro a' w' hag hC hd K hK
   have e1:a'.tmps.getD 1 undef=.pointer (some ⟨w0.heap.size,0,none⟩):=hag 1 rfl
   go_step
   exact hK _ _ hC ((Below.refl _ _)) rfl
 · intro a' w' hag hC hd K hK
   have e17:a'.tmps.getD 17 undef=.pointer (some ⟨w0.heap.size,2,none⟩):=hd.1
   have hc0:=hC.2.cell 2 (.bool false) rfl
   have hc1:=hC.2.cell 3 (.string t) rfl
   have HK:=Lib.hid (hK (.agg #[.bool false,.string t]) _ hC (Below.refl _ _) rfl)
   clear hK hC
   go_step
   exact HK.out
 · intro a' w' hag hC hd K hK
   go_step
   refine (NewInt_any (n:=1) (by decide)).mono ?_
   rintro e w2 ⟨g,rfl,hg,h1,h2⟩
   exact hK _ _ ⟨hC.1.trans (h2.mono hC.1.size),hC.2.on h2⟩ h2 ⟨_,rfl,h1⟩
 · intro a' w' hag hC hd K hK
   obtain ⟨g19,e19,h19⟩:=hd.1
   have e19:a'.tmps.getD 19 undef=.pointer (some ⟨g19,0,none⟩):=e19
   go_step
   refine (back_agg h19 (okn_i64 (by decide))).mono ?_
   rintro e w2 ⟨p,s',rfl,h1,h2,hb⟩
   have hp:p=false:=by rw [h1.out]; rfl
   subst hp
   exact hK _ _ ⟨hC.1.trans (hb.mono hC.1.size),hC.2.on hb⟩ hb ⟨s',rfl,h2⟩
 · intro u w' hC hall
   obtain ⟨u0,u1,u2,u3,_⟩:=hall
   have u0:u 0=.pointer (some ⟨w0.heap.size,2,none⟩):=u0
   have u1:u 1=.agg #[.bool false,.string t]:=u1
   obtain ⟨s20,eu3,hs20⟩:=u3
   have u3:u 3=.agg #[.bool false,.string s20]:=eu3
   simp only [fillR,List.take_succ_cons,List.take_zero,Act.put,List.setIfInBounds_toArray,List.set_cons_succ,List.set_cons_zero,Nat.zero_add,Nat.reduceAdd,u0,u1,u3]
   clear u0 u1 u3
   have HC:=Lib.hid hC.1
   have HX3:=Lib.hid hC.2
   clear hC
   by_cases hd:t.toList=s20.toList
   · have HD:Hid (x.den=1):=by
      have h1:=toList_inj.1 hd
      rw [HT2.out,hs20.out] at h1
      exact mag_inj h1
     go_wp2
     go_ret2
     exact ⟨_,_,rfl,.inl ⟨x,HX.out.fit,HX.out.val,by rw [textQ,if_pos HD.out]; exact HU.out,rfl⟩,HC.out⟩
   · have HD:Hid (¬ x.den=1):=fun e=>hd (by rw [HT2.out,hs20.out,e])
     have hc0:=HX3.out.cell 2 (.bool false) rfl
     have hc1:=HX3.out.cell 3 (.string t) rfl
     go_wp2_with fail
     refine (WText_any false t HX.out.ht).mono ?_
     rintro e w4 ⟨u2,k2,rfl,hu,hb⟩
     have HU2:Hid (u2=textN (x.den:Int)):=by
      rcases hu with h | h
      · rw [← HN2.out]; exact h.2.1
      · exact absurd HO2.out h.1
     have HB:=Lib.hid (HC.out.trans (hb.mono HC.out.size))
     have hu1:un.size≤200000:=by rw [HU.out]; exact textN_small (Nat.le_trans HX.out.fit.1 (by decide))
     have hu2:u2.size≤200000:=by rw [HU2.out]; exact textN_small (by rw [Int.natAbs_natCast]; exact Nat.le_trans HX.out.fit.2 (by decide))
     have hu3:((⟨#[47]⟩:ByteArray)++u2).size≤200001:=by rw [ByteArray.size_append]; show 1+u2.size≤_; omega
     clear hu hb hc0 hc1
     go_wp2
     go_ret2
     exact ⟨_,_,rfl,.inl ⟨x,HX.out.fit,HX.out.val,by rw [textQ,if_neg HD.out,← HU.out,← HU2.out],rfl⟩,HB.out⟩
end Go.Proofs.YthkpghhoffihmaaGreatDoor
end
section
namespace Go.Proofs.YthkpghhoffihmaaGreatDoor.Y
open Go Go.RowKit
set_option maxRecDepth 100000
def sFText {x:Rat} (h:Fit x) {u:ByteArray} (hu:textQ x=u):Spec Tryz.prog :=
 ⟨21,Tryz.call21,[.one (.a (fC x))],[],.tup [.c (.b (.v (.string u))),nI' 0],[],fun β w hh=>by
  refine (FText_any (decide (x.num<0)) false (mag x.num.natAbs) (mag x.den) (Nat.le_trans h.1 (by decide)) (Nat.le_trans h.2 (by decide))).mono ?_
  rintro e w' ⟨v,k,rfl,⟨y,_,hy,rfl,rfl⟩ | ⟨hn,_⟩,hb⟩
  · obtain rfl:x=y:=fracV_inj hy
    rw [hu]
    exact ⟨[],(fun _ h=>by cases h),rfl,trivial,hb⟩
  · exact absurd (fitF x h) hn,by kernel_rfl⟩
abbrev zb:GQ:=⟨Rat.divInt 1 2,Rat.divInt (-1) 2⟩
theorem zb_fit:FitG zb:=fit_small (by decide +kernel) (by decide +kernel) (by decide +kernel) (by decide +kernel)
theorem zb_eq:gdiv (gint 1 0) (gint 1 1)=zb:=by
 have h1:decide ((gdiv (gint 1 0) (gint 1 1)).re=zb.re)=true:=by kernel_rfl
 have h2:decide ((gdiv (gint 1 0) (gint 1 1)).im=zb.im)=true:=by kernel_rfl
 exact congr (congrArg GQ.mk (of_decide_eq_true h1)) (of_decide_eq_true h2)
abbrev tre:ByteArray:=⟨#[49,47,50]⟩
abbrev tim:ByteArray:=⟨#[45,49,47,50]⟩
theorem tre_eq:textQ zb.re=tre:=by kernel_rfl
theorem tim_eq:textQ zb.im=tim:=by kernel_rfl
noncomputable def sGTextB:Spec Tryz.prog :=
 Spec.auto Tryz.call17 [gS zb] [] (.tup [.c (.b (.v (.string ⟨#[49,47,50,45,49,47,50,105]⟩))),nI' 0]) []
  [(sGM (gpX zb zb_fit) (r:=true) rfl).e,(sFText zb_fit.1 tre_eq).e,(sFText zb_fit.2 tim_eq).e] [] 400 Tryz.func17 hmA (by kernel_rfl) (fun β=>by kernel_rfl)
noncomputable def sGRealNo (a:Gn) (h:a.B=false):Spec Tryz.prog :=
 Spec.auto Tryz.call117 [gnS a] [] (tB' false) [] [(sGM a.gp (r:=false) (a.gpB.trans h)).e] [(1,9)] 400 Tryz.func117 hmA (by kernel_rfl) (fun β=>by kernel_rfl)
theorem no_frac:¬ IsFrac (rawV false false ⟨#[]⟩ ⟨#[]⟩):=fun h=>by
 unfold rawV at h
 rw [isFrac_doc] at h
 exact absurd h.2.2.2.1 (by decide)
def noFr:Fr:=⟨r40,.no false false ⟨#[]⟩ ⟨#[]⟩ no_frac (by decide) (by decide),rfl⟩
def noGn:Gn:=.no ⟨noFr,frX (Rat.divInt 0 1) fit00.2⟩ rfl
theorem ga_eq {z w:GQ} (e:z=w) (h:FitG w):SV.tup [.a (gaC z),nI' (gaK z)]=.tup [.a (gC w),nI' 0]:=by
 rw [e,(ga_fit h).1,(ga_fit h).2]
theorem f11:FitG (gint 1 1):=fit_int (by decide) (by decide)
theorem f12:FitG (gint 1 2):=fit_int (by decide) (by decide)
theorem f31:FitG (gint 3 (-1)):=fit_int (by decide) (by decide)
theorem f55:FitG (gint 5 5):=fit_int (by decide) (by decide)
theorem mul55:gmul (gint 1 2) (gint 3 (-1))=gint 5 5:=by
 have h1:decide ((gmul (gint 1 2) (gint 3 (-1))).re=(gint 5 5).re)=true:=by kernel_rfl
 have h2:decide ((gmul (gint 1 2) (gint 3 (-1))).im=(gint 5 5).im)=true:=by kernel_rfl
 exact congr (congrArg GQ.mk (of_decide_eq_true h1)) (of_decide_eq_true h2)
noncomputable def kMul:Spec Tryz.prog:=(sGMul f12 f31).conv (.tup [.a (gC (gint 5 5)),nI' 0]) (ga_eq mul55 f55)
noncomputable def kDiv:Spec Tryz.prog:=(sGDiv fit10 f11 (by kernel_rfl)).conv (.tup [.a (gC zb),nI' 0]) (ga_eq zb_eq zb_fit)
noncomputable def kSq:Spec Tryz.prog:=sGSqrt34.conv (.tup [.a (gC (gint 1 2)),nI' 0]) (ga_eq s34_eq f12)
noncomputable def kDiv0:Spec Tryz.prog:=sGDiv0 fit10 fit00 (by kernel_rfl)
noncomputable def kPow:Spec Tryz.prog:=sGPow fit00 (by kernel_rfl)
def eqGz (z:GQ):Ev Tryz.prog:=eqEvG (fR z.re) (fR z.im) (fR z.re) (fR z.im) true (geq_self2 _ _)
noncomputable def sKnown4:Spec Tryz.prog :=
 Spec.auto Tryz.call29 [] [] (tB' true) []
  [(sR4Int 1 2).e,(sR4Int 3 (-1)).e,kMul.e,(sR4Int 1 0).e,(sR4Int 1 1).e,kDiv.e,(sR4Int (-3) 4).e,kSq.e,(sR4Int 2 0).e,sGSqrt20.e,sGTextB.e,(sR4Int 1 0).e,(sR4Int 0 0).e,kDiv0.e,(sR4Int 0 0).e,kPow.e,
   (sNum4 5).e,(sNum4 5).e,(sR4Int 0 0).e,(sGRealNo noGn rfl).e,(sR4Int 5 5).e,eqGz (gint 5 5),(sNum4 0).e,(sNum4 0).e,(sNum4 0).e,(sR4Int 1 2).e,eqGz (gint 1 2),(sNum4 0).e,(sNum4 7).e]
  [(8,53)] 3000 Tryz.func29 hmA (by kernel_rfl) (fun β=>by kernel_rfl)
end Go.Proofs.YthkpghhoffihmaaGreatDoor.Y
end
section
namespace Go.Proofs.YthkpghhoffihmaaGreatDoor.Y
open Go Go.RowKit
theorem spec_yes {P:Program} (S:Spec P) (ho:S.obs=[]) (hr:S.res=.one (.c (.b (.v (.bool true))))) (w:World):Calls P S.f (S.args.map (SV.den idE)).toArray w fun e w'=>e=.returned (.bool true)∧Below w.heap.size w w':=by
 refine (S.ok idE w (by rw [ho]; intro k t h; simp at h)).mono ?_
 rintro e w' ⟨xs,_,rfl,_,hb⟩
 exact ⟨by rw [hr]; rfl,hb⟩
end Go.Proofs.YthkpghhoffihmaaGreatDoor.Y
end
section
namespace Go.Proofs.YthkpghhoffihmaaGreatDoor.Y
open Go Go.RowKit
set_option maxRecDepth 100000
abbrev I64 (n:Int):Prop:=-9223372036854775808≤n∧n≤9223372036854775807
theorem sz_i64 {n:Int} (h:I64 n):Sz 8 (Rat.divInt n 1):=sz_lit n 1 (by omega) (by decide) (by decide)
def sFIntA (n:Int) (h:I64 n):Spec Tryz.prog :=
 Spec.auto Tryz.call108 [.one (svI n)] [] (.one (.a (fC (Rat.divInt n 1)))) []
  [mkR,fSetI n h,(sTldF ((sz_i64 h).mono (by decide))).e] [] 400 Tryz.func108 hmA (by kernel_rfl) (fun β=>by kernel_rfl)
def sR4MayG (a:Gn) {r:Bool} (h:a.B=r):Spec Tryz.prog :=
 (sR4May a.gp.a.a a.gp.b.a).as [gnS a] (tB' r) (by
  show [SV.one (.a (a.gp.a.a.C++a.gp.b.a.C))]=[SV.one (.a (rL a.gp.a.r++rL a.gp.b.r))]
  rw [show a.gp.a.a.C=rL a.gp.a.r from a.gp.a.e,show a.gp.b.a.C=rL a.gp.b.r from a.gp.b.e]) (congrArg tB' (a.gpB.trans h))
def nISign {n c:Int} (hc:n.sign=c):Ev Tryz.prog:=dyn1 fun k _ =>
 .call 237 Tryz.call237 (fun β=>#[.pointer ((β k).v 0)]) [(k,(intT n).ob)] 0 (tag (.int .i64 c)) []
  (fun β w h=>by
   obtain ⟨a,ha,ka⟩:=needI (n:=n) (k:=k) h (by simp)
   simp only [ha.1]
   exact of_pure0 ((sign_any ka).mono fun e w' ⟨he,hb⟩=>⟨by rw [he,hc],by rw [← hb]; exact Below.refl _ _⟩) (fun _=>rfl))
theorem bits_same {m L K:Nat} (h:Bits m L) (k:Bits m K):L=K:=by
 have key:∀ {a b:Nat},Bits m a→Bits m b→a≤b:=fun {a b} ha hb=>by
  rcases Nat.lt_or_ge b a with hlt | hge
  · exfalso
    have h1:=ha.2 (by omega)
    have h2:2^b≤2^(a-1):=Nat.pow_le_pow_right (by decide) (by omega)
    have:=hb.1
    omega
  · exact hge
 exact Nat.le_antisymm (key h k) (key k h)
def nBitLen {n:Int} {L:Nat} (hL:Bits n.natAbs L):Ev Tryz.prog:=dyn1 fun k _ =>
 .call 327 Tryz.call327 (fun β=>#[.pointer ((β k).v 0)]) [(k,(intT n).ob)] 0 (tag (.int .i64 (L:Int))) []
  (fun β w h=>by
   obtain ⟨a,ha,ka⟩:=needI (n:=n) (k:=k) h (by simp)
   simp only [ha.1]
   exact of_pure0 ((BitLen_any ka).mono fun e w' ⟨K,he,hK,_,hb⟩=>⟨by rw [he,bits_same hK hL],hb⟩) (fun _=>rfl))
theorem bits_of (m:Nat) (h:(mag m).size≤16384):∃ L,Bits m L∧L≤131072:=by
 rcases Nat.eq_zero_or_pos m with rfl | hm
 · exact ⟨0,⟨by decide,fun h=>absurd h (by decide)⟩,by decide⟩
 · refine ⟨m.log2+1,⟨Nat.lt_log2_self,fun _=>by rw [Nat.add_sub_cancel]; exact Nat.log2_self_le (by omega)⟩,?_⟩
   obtain ⟨K,hK⟩:∃ K:Nat,K=16384:=⟨_,rfl⟩
   have h1:m<256^K:=by
    have:=sz_le (n:=(m:Int)) (k:=K)
    unfold sz at this
    rw [Int.natAbs_natCast] at this
    exact this.1 (by rw [hK]; exact h)
   have h2:m<2^(8*K):=by
    have e:(256:Nat)^K=2^(8*K):=by rw [show (256:Nat)=2^8 from rfl,← Nat.pow_mul]
    rwa [e] at h1
   have:=(Nat.log2_lt (by omega)).2 h2
   omega
theorem sign_neg_lit (n:Int):Value.bool (decide (n.sign<0))=.bool (decide (n<0)):=by
 congr 1
 exact decide_eq_decide.2 Int.sign_neg_iff
theorem gt_no {L K:Nat} (h:L≤K):Value.bool (decide ((K:Int)<(L:Int)))=.bool false:=by rw [decide_eq_false (by omega)]
abbrev w2C (p:Bool) (m:Nat):List Lf:=[.b (.v (.bool p)),.b (.v (.string (mag m)))]
abbrev w00:List Lf:=[.b (.v (.bool false)),.b (.v (.string ⟨#[]⟩))]
theorem p_lit {p b:Bool} (h:p=b):Value.bool p=.bool b:=by rw [h]
def sWTold {n:Int} {b:Bool} (hb:decide (n<0)=b) (hn:sz n≤16384) {L:Nat} (hL:Bits n.natAbs L) (hl:L≤131072):Spec Tryz.prog :=
 Spec.auto Tryz.call242 [rV 0] [intT n] (.tup [.a (w2C b n.natAbs),nI' 0]) []
  [nBitLen hL,.eqv 6 (.bool (decide ((131072:Int)<(L:Int)))) (.bool false) (gt_no (K:=131072) hl),nISign (n:=n) rfl,.eqv 10 (.bool (decide (n.sign<0))) (.bool b) ((sign_neg_lit n).trans (p_lit hb)),nBytes (Nat.le_trans hn (by decide)),dStr n]
  [] 400 Tryz.func242 hmA (by kernel_rfl) (fun β=>by kernel_rfl)
end Go.Proofs.YthkpghhoffihmaaGreatDoor.Y
end
section
namespace Go.Proofs.YthkpghhoffihmaaGreatDoor
open Go.RowKit
set_option maxRecDepth 100000 in
set_option maxHeartbeats 1600000 in
theorem rText_any {w0:World} (p:Bool) (s:ByteArray) (n:Int) (hp:p=decide (n<0)) (hs:s=mag n.natAbs) (hm:s.size≤16384) :
  Calls Tryz.prog 113 #[.agg #[.bool p,.string s]] w0 fun e w'=>e=.returned (.string (textN n))∧Below w0.heap.size w0 w':=by
 have HB0:=Lib.hid (below_new w0 (.cells #[.bool p,.string s] 23))
 have HX0:=Lib.hid (BoxAt.new w0 #[.bool p,.string s] 23)
 have HP:=Lib.hid hp
 have HE:=Lib.hid (str_empty hs)
 by_cases h0:s.size=0
 · obtain rfl:=empty_data h0
   have HN:Hid (n=0):=by have:=HE.out.1 h0; unfold Hid; omega
   clear h0 hp hs hm
   go_enter Tryz.func113,Tryz.ntmps113
   go_wp2
   go_ret
   exact ⟨by rw [HN.out]; rfl,HB0.out⟩
 · obtain ⟨hE,hE2⟩:=toList_some h0
   obtain ⟨N,hN⟩:∃ N,N=n.natAbs:=⟨_,rfl⟩
   have hn:(dig N).length≤134217728:=by
    have:=wl_size (n:=N) (by rw [hN,← hs]; exact hm)
    omega
   have hNp:0<N:=by
    rcases Nat.eq_zero_or_pos N with h | h
    · exact absurd (HE.out.2 (by omega)) h0
    · exact h
   rw [← hN] at hs
   have HN:=Lib.hid hN
   have HO:=Lib.hid hn
   have HNP:=Lib.hid hNp
   have HS:=Lib.hid hs
   have HM:=Lib.hid hm
   clear hN hn hNp hs hm hp h0
   go_enter Tryz.func113,Tryz.ntmps113
   go_wp2_with fail
   refine (words_any s N HS.out (by have:=HM.out; omega)).mono ?_
   rintro e w ⟨A,c,rfl,hw,hb0⟩
   have HX:=Lib.hid (HX0.out.on hb0)
   have HB:=Lib.hid (HB0.out.trans (hb0.mono HB0.out.size))
   have HW:=Lib.hid hw
   clear hw hb0 hE hE2
   go_wp2
   go_loopg [3,4] N (fun k v x wr=>∃ (B:Option Addr) (lb cb R:Nat) (ds:List Nat),x=.slice B lb cb∧R≤k∧Hid (Words wr (.slice B lb cb) (dig R))∧Hid (BRow wr w.heap.size v ds)∧Hid (dd N=ds++dd R)∧Hid (Below w.heap.size w wr))
   case atStart=>exact ⟨A,_,c,N,[],rfl,Nat.le_refl _,HW.out,BRow.nil _ _,rfl,Below.refl _ _⟩
   case round =>
    obtain ⟨B,lb,cb,R,ds,rfl,hR,hRW,hrow,hdd,hb⟩:=hrel
    have hlb:=hRW.out.len.1
    have hlm:=hRW.out.2.1
    by_cases hlp:0<lb
    · have hRp:0<R:=by
       rcases Nat.eq_zero_or_pos R with h | h
       · rw [h,dig_zero] at hlb; simp at hlb; omega
       · exact h
      have HRP:=Lib.hid hRp
      have hlm2:lb≤17179869184:=by omega
      clear hlb hlm hRp
      go_wp2_with fail
      refine (small_dig hRW.out 1000000000 (by omega) (by omega)).mono ?_
      rintro e w1 ⟨v1,r0,rfl,hr,hrb,hq,hb1⟩
      obtain ⟨q,hqd⟩:∃ q,q=R/1000000000:=⟨_,rfl⟩
      rw [← hqd] at hq
      obtain ⟨A1,l1,c1,rfl⟩:=hq.form
      have HQ:=Lib.hid hq
      have HB1:=Lib.hid hb1
      have HQD:=Lib.hid hqd
      have hl1:=hq.len
      have hl1b:l1≤17179869184:=by have:=hq.2.1; omega
      have HL1:Hid (l1=0↔q=0):=by
       have:=dig_nil_iff q
       rw [Hid,hl1.1]
       exact List.length_eq_zero_iff.trans this
      clear hq hb1 hqd hl1
      go_wp2
      go_loopw [3,6,7] (fun v r k wr=>∃ (i R' r':Nat) (ds':List Nat),i≤9∧k=.int .i64 (i:Int)∧r=.int .u64 (r':Int)∧r'<1000000000∧Hid (r'<10^(9-i))∧Hid (R'=r'+10^(9-i)*q)∧Hid (dd N=ds'++dd R')∧Hid (BRow wr w.heap.size v ds')∧Hid (Words wr (.slice A1 l1 c1) (dig q))∧Hid (Below w.heap.size w wr)) (fun _ _ k _=>9-(intOf k).toNat)
      case atStart =>
       refine ⟨0,R,r0,ds,by omega,rfl,rfl,hrb,by rw [Hid,Nat.sub_zero]; exact hrb,?_,hdd,?_,HQ.out,?_⟩
       · rw [Hid,Nat.sub_zero,hr.out,HQD.out]; omega
       · exact hrow.out.on HB1.out
       · exact hb.out.trans (HB1.out.mono hb.out.size)
      case round =>
       obtain ⟨i,R',r',ds',hi,rfl,rfl,hr9,hrp,hRR,hdd',hrow',hQ',hb'⟩:=hrel
       have hdl:ds'.length≤4294967296:=by
        have h1:=dd_len_words N
        have h2:=HO.out
        have h3:=congrArg List.length hdd'.out
        rw [List.length_append] at h3
        omega
       by_cases hgo:i<9∧(0<r'∨0<l1)
       · obtain ⟨hi9,hor⟩:=hgo
         have hpq:0<r'∨0<q:=hor.imp id fun h=>by have:=HL1.out; omega
         obtain ⟨k1,k2⟩:=dd_step hdd'.out hRR.out hi9 hpq
         have K1:=Lib.hid k1
         have K2:=Lib.hid k2
         have K3:Hid (r'/10<10^(9-(i+1))):=by
          have h1:=hrp.out
          rw [show 9-i=(9-(i+1))+1 by omega,Nat.pow_succ] at h1
          exact Nat.div_lt_of_lt_mul (by rw [Nat.mul_comm]; exact h1)
         have hd0:(48:Int)+(r':Int) % 10=((48+r' % 10:Nat):Int):=by omega
         have hd1:48+r' % 10<256:=by omega
         obtain ⟨z,hz'⟩:∃ z,z=48+r' % 10:=⟨_,rfl⟩
         rw [← hz'] at hd0 hd1 K1
         have hbl:=Lib.hid hb'.out.size
         have hrowA:=Lib.hid hrow'
         clear k1 k2 hz' hpq
         have hstep:∀ (v':Value) (w':World),BRow w' w.heap.size v' (ds'++[z])→Below w.heap.size w w'→Words w' (.slice A1 l1 c1) (dig q)→True:=fun _ _ _ _ _=>trivial
         clear hstep
         rcases (by omega:0<l1∨(l1=0∧0<r')) with hor | ⟨rfl,hor⟩
         all_goals
          go_wp2_with (at_builtin; refine wpList_append_byte rfl (.tmp 39) (.tmp 44) rfl w.heap.size _ ds' rfl (hrow'.out.alloc _) ⟨wr.heap.size,0,none⟩ 1 z _ rfl (cell_new0 _ _ _) ?_ hd1 ?_ ?_ ?_)
          · omega
          · omega
          · have:=hbl.out; simp; omega
          · intro v' w' hrow2 hb2 hws
            have HR2:=Lib.hid hrow2
            have HB3:=Lib.hid ((hb'.out.alloc hb'.out.size _).trans hb2)
            have HW2:=Lib.hid (hws _ _ (hQ'.out.below ((Below.refl _ _).alloc (Nat.le_refl _) _)))
            clear hrow2 hb2 hws
            go_wp2
            go_roundw
            case rel=>first | exact ⟨i+1,R'/10,r'/10,ds'++[z],by omega,by go_num,rfl,by omega,K3,K2,K1,HR2,HW2,HB3⟩ | exact ⟨i+1,R'/10,0,ds'++[z],by omega,by go_num,rfl,by omega,K3,K2,K1,HR2,HW2,HB3⟩
            case measure=>simp [intOf]; omega
       · have hend:r'=0∧R'=q∧(i=9∨(i<9∧l1=0)):=by
          have h1:=hrp.out
          have h2:=hRR.out
          have h3:=HL1.out
          rcases Nat.lt_or_ge i 9 with h | h
          · have:r'=0:=by omega
            have h5:l1=0:=by omega
            have h4:=h3.1 h5
            subst h4
            refine ⟨this,by rw [h2,this]; simp,.inr ⟨h,h5⟩⟩
          · obtain rfl:i=9:=by omega
            simp at h1 h2
            exact ⟨by omega,by omega,.inl rfl⟩
         obtain ⟨rfl,e2,hcase⟩:=hend
         have HE2:=Lib.hid e2
         have HQR:Hid (q<R):=by have:=HQD.out; have:=HRP.out; unfold Hid; omega
         clear hgo e2
         rcases hcase with rfl | ⟨h9,rfl⟩
         all_goals
          go_wp2
          go_roundg q
          case measure=>exact Nat.lt_of_lt_of_le HQR.out hR
          case rel=>exact ⟨A1,_,c1,q,ds',rfl,Nat.le_refl _,hQ',hrow',by rw [← HE2.out]; exact hdd',hb'⟩
    · obtain rfl:lb=0:=by omega
      have hR0:=(dig_nil_iff R).1 (List.eq_nil_of_length_eq_zero hlb.symm)
      subst hR0
      have hdd2:=hdd.out
      rw [dd_zero,List.append_nil] at hdd2
      have hbl:=Lib.hid hb.out.size
      have hneg:=(HX.out.on hb.out).cell 0 (.bool p) rfl
      have hdl:ds.length≤4294967296:=by
       have h1:=dd_len_words N
       have h2:=HO.out
       rw [hdd2] at h1
       omega
      have hdp:0<ds.length:=by
       have:=HNP.out
       rw [← hdd2,dd_pos N this]
       simp
      have HDD:=Lib.hid hdd2
      clear hlb hlm hdd2
      cases p
      · obtain ⟨zs,hzs⟩:∃ zs,zs=ds:=⟨_,rfl⟩
        obtain ⟨len,hlen⟩:∃ len,len=ds.length:=⟨_,rfl⟩
        have HTXT:Hid (strN zs.reverse=textN n):=by
         have h1:¬ n<0:=by have:=HP.out; simpa using this
         have h2:n≠0:=by have:=HNP.out; have:=HN.out; omega
         rw [Hid,textN,txt,if_neg h2,if_neg h1,List.append_nil,← HN.out,HDD.out,hzs]
        have HLEN:Hid (zs.length=len):=by rw [hzs,hlen]; rfl
        have HROW:=hrow
        rw [← hzs] at HROW
        have hlenp:0<len:=by omega
        have hlenb:len≤4294967297:=by omega
        have HBB:=hb
        clear hzs hlen hdp hdl hrow hb
        obtain ⟨g,cap,cs,rfl,hg,hcap,hh,hcs⟩:=HROW.out.open_ (by rw [HLEN.out]; omega)
        rw [HLEN.out]
        have hbb:BBuf wr g (turned zs 0):=by rw [turned_zero]; exact ⟨HROW.out.1,cs,hh,by have:=HROW.out.size_le hh rfl; exact this,hcs⟩
        clear hh hcs hcap
        go_wp2
        go_loopw [8,9] (fun i k wr=>∃ (j:Nat),j≤len∧i=.int .i64 (j:Int)∧k=.int .i64 ((len:Int)-1-(j:Int))∧BBuf wr g (turned zs j)∧Below w.heap.size w wr) (fun i _ _=>len-(intOf i).toNat)
        case atStart=>exact ⟨0,by omega,rfl,by go_num,hbb,HBB.out⟩
        case round =>
         obtain ⟨j,hj,rfl,rfl,hb',hbl⟩:=hrel
         have hsz:=hbl.size
         have hgl:=hb'.lt
         clear hbb
         by_cases hlt:(j:Int)<(len:Int)-1-(j:Int)
         · obtain ⟨m,hm⟩:∃ m,m=len-1-j:=⟨_,rfl⟩
           have hmi:(len:Int)-1-(j:Int)=(m:Int):=by omega
           obtain ⟨x,hx⟩:∃ x,x=zs.getD j 0:=⟨_,rfl⟩
           obtain ⟨y,hy⟩:∃ y,y=zs.getD m 0:=⟨_,rfl⟩
           have hjm:j<m:=by omega
           have hml:m<len:=by omega
           have hc1:=hb'.cell j (by rw [turned_len,HLEN.out]; omega)
           have hc2:=hb'.cell m (by rw [turned_len,HLEN.out]; omega)
           rw [turned_getD zs j j (Nat.le_refl _) (by rw [HLEN.out]; omega),← hx] at hc1
           rw [turned_getD zs j m (by omega) (by rw [HLEN.out]; omega),← hy] at hc2
           have hx8:x<256:=by rw [hx]; exact HROW.out.1.getD _
           have hy8:y<256:=by rw [hy]; exact HROW.out.1.getD _
           have hf1:=hb'.frozen j
           have hf2:=hb'.frozen m
           have hset:=(hb'.set j y _ hy8 rfl).set m x _ hx8 rfl
           have hset2:=(hb'.set m x _ hx8 rfl).set j y _ hy8 rfl
           have hts:=turned_step zs j m (by rw [HLEN.out]; omega) hjm
           rw [← hx,← hy] at hts
           have hts2:((turned zs j).set m x).set j y=turned zs (j+1):=by rw [List.set_comm _ _ (by omega)]; exact hts
           rw [hts] at hset
           rw [hts2] at hset2
           have HS:=Lib.hid hset
           have HS2:=Lib.hid hset2
           have HBL:=Lib.hid hbl
           have HM:=Lib.hid hm
           have hgg:w.heap.size≤g:=hg
           rw [hmi]
           clear hset hset2 hts hts2 hx hy hb' hbl hm hmi hlt
           go_wp2
           go_roundw
           case rel =>
            have hm:=HM.out
            refine ⟨j+1,by omega,by go_num,by go_num,?_,?_⟩
            · first | exact HS.out | exact HS2.out
            · exact (HBL.out.setCell hgg _).setCell hgg _
           case measure=>simp [intOf]; omega
         · have ht:=turned_done zs j (by rw [HLEN.out]; omega)
           rw [ht] at hb'
           have hs:=fun cap=>string_of_byt (hb'.byt (n:=len) (cap:=cap) (by rw [List.length_reverse,HLEN.out]))
           rw [HTXT.out] at hs
           have HBL:=Lib.hid hbl
           clear ht hb' hbl
           go_wp2
           go_ret
           exact ⟨rfl,HB.out.trans (HBL.out.mono HB.out.size)⟩
      · go_wp2_with (at_builtin; refine wpList_append_byte rfl (.tmp 50) (.tmp 51) rfl w.heap.size _ ds rfl (hrow.out.alloc _) ⟨wr.heap.size,0,none⟩ 1 45 _ rfl (cell_new0 _ _ _) rfl (by omega) ?_ ?_ ?_)
        · omega
        · have:=hbl.out; simp; omega
        intro v' w' hrow2 hb2 hws
        obtain ⟨zs,hzs⟩:∃ zs,zs=ds++[45]:=⟨_,rfl⟩
        obtain ⟨len,hlen⟩:∃ len,len=ds.length+1:=⟨_,rfl⟩
        have HTXT:Hid (strN zs.reverse=textN n):=by
         have h1:n<0:=by have:=HP.out; simpa using this.symm
         have h2:n≠0:=by omega
         rw [Hid,textN,txt,if_neg h2,if_pos h1,← HN.out,HDD.out,hzs]
        have HLEN:Hid (zs.length=len):=by rw [hzs,hlen]; simp [Hid]
        have HROW:=Lib.hid hrow2
        rw [← hzs] at HROW
        have hlenp:0<len:=by omega
        have hlenb:len≤4294967297:=by omega
        have HBB:=Lib.hid ((hb.out.alloc hb.out.size _).trans hb2)
        clear hzs hlen hdp hdl hrow hb hrow2 hb2 hws
        obtain ⟨g,cap,cs,rfl,hg,hcap,hh,hcs⟩:=HROW.out.open_ (by rw [HLEN.out]; omega)
        rw [HLEN.out]
        have hbb:BBuf w' g (turned zs 0):=by rw [turned_zero]; exact ⟨HROW.out.1,cs,hh,by have:=HROW.out.size_le hh rfl; exact this,hcs⟩
        clear hh hcs hcap
        go_wp2
        go_loopw [8,9] (fun i k wr=>∃ (j:Nat),j≤len∧i=.int .i64 (j:Int)∧k=.int .i64 ((len:Int)-1-(j:Int))∧BBuf wr g (turned zs j)∧Below w.heap.size w wr) (fun i _ _=>len-(intOf i).toNat)
        case atStart=>exact ⟨0,by omega,rfl,by go_num,hbb,HBB.out⟩
        case round =>
         obtain ⟨j,hj,rfl,rfl,hb',hbl⟩:=hrel
         have hsz:=hbl.size
         have hgl:=hb'.lt
         clear hbb
         by_cases hlt:(j:Int)<(len:Int)-1-(j:Int)
         · obtain ⟨m,hm⟩:∃ m,m=len-1-j:=⟨_,rfl⟩
           have hmi:(len:Int)-1-(j:Int)=(m:Int):=by omega
           obtain ⟨x,hx⟩:∃ x,x=zs.getD j 0:=⟨_,rfl⟩
           obtain ⟨y,hy⟩:∃ y,y=zs.getD m 0:=⟨_,rfl⟩
           have hjm:j<m:=by omega
           have hml:m<len:=by omega
           have hc1:=hb'.cell j (by rw [turned_len,HLEN.out]; omega)
           have hc2:=hb'.cell m (by rw [turned_len,HLEN.out]; omega)
           rw [turned_getD zs j j (Nat.le_refl _) (by rw [HLEN.out]; omega),← hx] at hc1
           rw [turned_getD zs j m (by omega) (by rw [HLEN.out]; omega),← hy] at hc2
           have hx8:x<256:=by rw [hx]; exact HROW.out.1.getD _
           have hy8:y<256:=by rw [hy]; exact HROW.out.1.getD _
           have hf1:=hb'.frozen j
           have hf2:=hb'.frozen m
           have hset:=(hb'.set j y _ hy8 rfl).set m x _ hx8 rfl
           have hset2:=(hb'.set m x _ hx8 rfl).set j y _ hy8 rfl
           have hts:=turned_step zs j m (by rw [HLEN.out]; omega) hjm
           rw [← hx,← hy] at hts
           have hts2:((turned zs j).set m x).set j y=turned zs (j+1):=by rw [List.set_comm _ _ (by omega)]; exact hts
           rw [hts] at hset
           rw [hts2] at hset2
           have HS:=Lib.hid hset
           have HS2:=Lib.hid hset2
           have HBL:=Lib.hid hbl
           have HM:=Lib.hid hm
           have hgg:w.heap.size≤g:=hg
           rw [hmi]
           clear hset hset2 hts hts2 hx hy hb' hbl hm hmi hlt
           go_wp2
           go_roundw
           case rel =>
            have hm:=HM.out
            refine ⟨j+1,by omega,by go_num,by go_num,?_,?_⟩
            · first | exact HS.out | exact HS2.out
            · exact (HBL.out.setCell hgg _).setCell hgg _
           case measure=>simp [intOf]; omega
         · have ht:=turned_done zs j (by rw [HLEN.out]; omega)
           rw [ht] at hb'
           have hs:=fun cap=>string_of_byt (hb'.byt (n:=len) (cap:=cap) (by rw [List.length_reverse,HLEN.out]))
           rw [HTXT.out] at hs
           have HBL:=Lib.hid hbl
           clear ht hb' hbl
           go_wp2
           go_ret
           exact ⟨rfl,HB.out.trans (HBL.out.mono HB.out.size)⟩
end Go.Proofs.YthkpghhoffihmaaGreatDoor
end
section
namespace Go.Proofs.YthkpghhoffihmaaGreatDoor
theorem mag_1:mag 1=⟨#[1]⟩:=by unfold mag; rw [led_pos 1 (by decide),led_zero]; rfl
end Go.Proofs.YthkpghhoffihmaaGreatDoor
namespace Go.Proofs.YthkpghhoffihmaaGreatDoor.Y
open Go Go.RowKit
set_option maxRecDepth 100000
end Go.Proofs.YthkpghhoffihmaaGreatDoor.Y
end
section
namespace Go.Proofs.YthkpghhoffihmaaGreatDoor.Y
open Go Go.RowKit
set_option maxRecDepth 100000
abbrev txS (s:ByteArray):SV:=.one (.c (.b (.v (.string s))))
abbrev txW (n:Int):SV:=.one (.a [.b (.v (.bool (decide (n<0)))),.b (.v (.string (mag n.natAbs)))])
def sR2Text {n:Int} (h:(mag n.natAbs).size≤16384):Spec Tryz.prog :=
 ⟨113,Tryz.call113,[txW n],[],txS (textN n),[],fun β w _=>by
  refine (rText_any (decide (n<0)) (mag n.natAbs) n rfl rfl h).mono fun e w' ⟨he,hb⟩=>⟨[],(fun _ h=>by cases h),he,trivial,hb⟩,by kernel_rfl⟩
def sR2TextD {k:Nat} (h:(mag k).size≤16384):Spec Tryz.prog :=
 (sR2Text (n:=(k:Int)) (by rw [Int.natAbs_natCast]; exact h)).as [.one (.a [.b (.v (.bool false)),.b (.v (.string (mag k)))])] (txS (textN k)) (by
  show [txW (k:Int)]=_
  unfold txW
  rw [Int.natAbs_natCast,show decide ((k:Int)<0)=false from decide_eq_false (by omega)]) rfl
theorem tx_den1 {x:Rat} {b:Bool} (h:decide (x.den=1)=b):weq false false (mag x.den) ⟨#[1]⟩=b:=by
 rw [← h,Bool.eq_iff_iff,weq_iff,decide_eq_true_iff,show (⟨#[1]⟩:ByteArray)=mag 1 from mag_1.symm]
 exact ⟨fun e=>mag_inj e.2,fun e=>⟨rfl,by rw [e]⟩⟩
def eOf1:Ev Tryz.prog:=.ret 103 Tryz.call103 #[.int .i64 1] (.agg #[.bool false,.string ⟨#[1]⟩]) (fun w=>by rw [show Value.agg #[.bool false,.string ⟨#[1]⟩]=wholeV 1 by unfold wholeV; rw [show (1:Int).natAbs=1 from rfl,mag_1]; rfl]; exact rof_any (by decide))
theorem tx_cat {a b:ByteArray} (h:a.size+b.size≤4194304) {u:TypeId} (x y:Operand) (ρ:Operand→Value) (o:Oper) (w:World) (ho:o.op=.binOp .add 9 x y u) (hx:(Op.binOp .add 9 x y u).operands.toList.map ρ=[.string a,.string b]):(execOp ρ o).run Tryz.prog w=.ok (.value (.string (a++b))) w:=by
 have h3:ρ x=.string a∧ρ y=.string b:=by simpa [Op.operands] using hx
 unfold execOp
 rw [ho]
 dsimp only
 rw [h3.1,h3.2]
 have h4:=run_string_add (P:=Tryz.prog) (w:=w) a b (by omega) (by omega)
 simp [go_sem,binOp,h4]
def eCat (a b:ByteArray) (h:a.size+b.size≤4194304):Ev Tryz.prog:=.dyn (fun o _ _=>match o.op with
 | .binOp .add t _ _ _=>Nat.beq t 9
 | _=>false) fun o _ _=>match o.op with
 | .binOp .add _ x y u=>.gen (o.dst.getD 0) (.binOp .add 9 x y u) [.string a,.string b] (.string (a++b)) (fun ρ o w ho hx=>tx_cat h x y ρ o w ho hx)
 | _=>.cut
theorem tx_eq {a b:ByteArray} {r:Bool} (h:decide (a=b)=r) {u:TypeId} (x y:Operand) (ρ:Operand→Value) (o:Oper) (w:World) (ho:o.op=.binOp .eql 9 x y u) (hx:(Op.binOp .eql 9 x y u).operands.toList.map ρ=[.string a,.string b]):(execOp ρ o).run Tryz.prog w=.ok (.value (.bool r)) w:=by
 have h3:ρ x=.string a∧ρ y=.string b:=by simpa [Op.operands] using hx
 unfold execOp
 rw [ho]
 dsimp only
 rw [h3.1,h3.2,← h]
 simp [go_sem,binOp,Op.stringOp]
 rw [Bool.eq_iff_iff,beq_iff_eq,decide_eq_true_iff,toList_inj]
def eStrEq (a b:ByteArray) {r:Bool} (h:decide (a=b)=r):Ev Tryz.prog:=.dyn (fun o _ _=>match o.op with
 | .binOp .eql t _ _ _=>Nat.beq t 9
 | _=>false) fun o _ _=>match o.op with
 | .binOp .eql _ x y u=>.gen (o.dst.getD 0) (.binOp .eql 9 x y u) [.string a,.string b] (.bool r) (fun ρ o w ho hx=>tx_eq h x y ρ o w ho hx)
 | _=>.cut
theorem tx_a {a b:ByteArray} {i j:Nat} (h:a.size≤i) (k:b.size≤j) (hs:i+j≤4194304:=by decide):a.size+b.size≤4194304:=by omega
theorem tx_b {a b:ByteArray} {i j:Nat} (h:a.size≤i) (k:b.size≤j):(a++b).size≤i+j:=by rw [ByteArray.size_append]; omega
def sR3Text {x:Rat} (hx:Fit x):Spec Tryz.prog :=
 ⟨25,Tryz.call25,[.one (.a (fC x))],[],txS (textQ x),[],fun β w hh=>by
  have h1:(mag x.num.natAbs).size≤16384:=Nat.le_trans hx.1 (by decide)
  have h2:(mag x.den).size≤16384:=Nat.le_trans hx.2 (by decide)
  cases hd:decide (x.den=1) with
  | true =>
   rw [show textQ x=textN x.num by unfold textQ; rw [if_pos (of_decide_eq_true hd)]]
   exact spec_auto (args:=[.one (.a (fC x))]) (obs:=[]) (evs:=[eOf1,eqEvW _ _ _ _ true (tx_den1 hd),(sR2Text h1).e]) (Ns:=[(1,4),(3,9)]) (m:=400) Tryz.func25 hmA (fun β=>by kernel_rfl) (by kernel_rfl) β w hh
  | false =>
   rw [show textQ x=textN x.num++⟨#[47]⟩++textN (x.den:Int) by
    unfold textQ
    rw [if_neg (of_decide_eq_false hd),ByteArray.append_assoc]]
   exact spec_auto (args:=[.one (.a (fC x))]) (obs:=[]) (evs:=[eOf1,eqEvW _ _ _ _ false (tx_den1 hd),(sR2Text h1).e,eCat (textN x.num) ⟨#[47]⟩ (tx_a (textN_small h1) (j:=1) (by decide)),(sR2TextD h2).e,eCat (textN x.num++⟨#[47]⟩) (textN x.den) (tx_a (tx_b (textN_small h1) (j:=1) (by decide)) (textN_small (n:=(x.den:Int)) (by rw [Int.natAbs_natCast]; exact h2)))]) (Ns:=[(1,4),(3,9)]) (m:=400) Tryz.func25 hmA (fun β=>by kernel_rfl) (by kernel_rfl) β w hh,by kernel_rfl⟩
end Go.Proofs.YthkpghhoffihmaaGreatDoor.Y
end
section
namespace Go.Proofs.YthkpghhoffihmaaGreatDoor
theorem textQ_tq (x:Rat):textQ x=strN (tqL x):=by
 unfold textQ tqL
 split
 · rfl
 · rw [show (⟨#[47]⟩:ByteArray)=strN [47] from rfl,textN,textN,strN_app,strN_app]
   rfl
end Go.Proofs.YthkpghhoffihmaaGreatDoor
namespace Go.Proofs.YthkpghhoffihmaaGreatDoor.Y
open Go Go.RowKit
set_option maxRecDepth 100000
abbrev stV (xs:List Nat):SV:=.one (.c (.b (.v (.string (strN xs)))))
theorem st_ix {xs:List Nat} (h8:B8 xs) {i x:Nat} (hi:i<xs.length) (hx:xs.getD i 0=x) (a b:Operand) (ρ:Operand→Value) (o:Oper) (w:World) (ho:o.op=.index 9 a b) (hv:(Op.index 9 a b).operands.toList.map ρ=[.string (strN xs),.int .i64 (i:Int)]):(execOp ρ o).run Tryz.prog w=.ok (.value (.int .u8 (x:Int))) w:=by
 have h3:ρ a=.string (strN xs)∧ρ b=.int .i64 (i:Int):=by simpa [Op.operands] using hv
 unfold execOp
 rw [ho]
 dsimp only
 rw [h3.1,h3.2]
 have hs:i<(strN xs).size:=by rw [strN_size]; exact hi
 have h4:=run_index_string (P:=Tryz.prog) w 9 (strN xs) .i64 (i:Int) Tryz.underlying9
 rw [dif_pos ⟨by omega,by omega⟩] at h4
 simp only [Int.toNat_natCast] at h4
 rw [strN_at h8 hs,hx] at h4
 simp [go_sem,h4]
def eStI {xs:List Nat} (h8:B8 xs) {i x:Nat} (hi:i<xs.length) (hx:xs.getD i 0=x):Ev Tryz.prog:=.dyn (fun o _ _=>match o.op with
 | .index t _ _=>Nat.beq t 9
 | _=>false) fun o _ _=>match o.op with
 | .index _ a b=>.gen (o.dst.getD 0) (.index 9 a b) [.string (strN xs),.int .i64 (i:Int)] (.int .u8 (x:Int)) (fun ρ o w ho hv=>st_ix h8 hi hx a b ρ o w ho hv)
 | _=>.cut
theorem st_dr {xs:List Nat} {k:Nat} (hk:k≤xs.length) (a b:Operand) (ρ:Operand→Value) (o:Oper) (w:World) (ho:o.op=.slice 9 a (some b) none none) (hv:(Op.slice 9 a (some b) none none).operands.toList.map ρ=[.string (strN xs),.int .i64 (k:Int)]):(execOp ρ o).run Tryz.prog w=.ok (.value (.string (strN (xs.drop k)))) w:=by
 have h3:ρ a=.string (strN xs)∧ρ b=.int .i64 (k:Int):=by simpa [Op.operands] using hv
 unfold execOp
 rw [ho]
 dsimp only
 rw [h3.1]
 have h4:=run_slice_string_from_if (P:=Tryz.prog) (w:=w) 9 (strN xs) .i64 (k:Int) Tryz.underlying9
 rw [if_pos ⟨by omega,by rw [strN_size]; omega⟩,strN_ext,strN_size,Int.toNat_natCast,List.take_of_length_le (by rw [List.length_drop]; exact Nat.le_refl _)] at h4
 have h5:=run_sliceAt_string (P:=Tryz.prog) (w:=w) 9 (.string (strN xs)) (some (.int .i64 (k:Int))) none none Tryz.underlying9
 rw [h4] at h5
 simp [h3.2,go_sem,h5]
def eStD (xs:List Nat) {k:Nat} (hk:k≤xs.length):Ev Tryz.prog:=.dyn (fun o _ _=>match o.op with
 | .slice t _ (some _) none none=>Nat.beq t 9
 | _=>false) fun o _ _=>match o.op with
 | .slice _ a (some b) none none=>.gen (o.dst.getD 0) (.slice 9 a (some b) none none) [.string (strN xs),.int .i64 (k:Int)] (.string (strN (xs.drop k))) (fun ρ o w ho hv=>st_dr hk a b ρ o w ho hv)
 | _=>.cut
theorem st_tk {xs:List Nat} {k:Nat} (hk:k≤xs.length) (a b:Operand) (ρ:Operand→Value) (o:Oper) (w:World) (ho:o.op=.slice 9 a none (some b) none) (hv:(Op.slice 9 a none (some b) none).operands.toList.map ρ=[.string (strN xs),.int .i64 (k:Int)]):(execOp ρ o).run Tryz.prog w=.ok (.value (.string (strN (xs.take k)))) w:=by
 have h3:ρ a=.string (strN xs)∧ρ b=.int .i64 (k:Int):=by simpa [Op.operands] using hv
 unfold execOp
 rw [ho]
 dsimp only
 rw [h3.1]
 have h4:=run_slice_string_to_if (P:=Tryz.prog) (w:=w) 9 (strN xs) .i64 (k:Int) Tryz.underlying9
 rw [if_pos ⟨by omega,by rw [strN_size]; omega⟩,strN_ext,List.drop_zero,Nat.sub_zero,Int.toNat_natCast] at h4
 have h5:=run_sliceAt_string (P:=Tryz.prog) (w:=w) 9 (.string (strN xs)) none (some (.int .i64 (k:Int))) none Tryz.underlying9
 rw [h4] at h5
 simp [h3.2,go_sem,h5]
def eStT (xs:List Nat) {k:Nat} (hk:k≤xs.length):Ev Tryz.prog:=.dyn (fun o _ _=>match o.op with
 | .slice t _ none (some _) none=>Nat.beq t 9
 | _=>false) fun o _ _=>match o.op with
 | .slice _ a none (some b) none=>.gen (o.dst.getD 0) (.slice 9 a none (some b) none) [.string (strN xs),.int .i64 (k:Int)] (.string (strN (xs.take k))) (fun ρ o w ho hv=>st_tk hk a b ρ o w ho hv)
 | _=>.cut
theorem st_md {xs:List Nat} {l h:Nat} (hl:l≤h) (hh:h≤xs.length) (a b c:Operand) (ρ:Operand→Value) (o:Oper) (w:World) (ho:o.op=.slice 9 a (some b) (some c) none) (hv:(Op.slice 9 a (some b) (some c) none).operands.toList.map ρ=[.string (strN xs),.int .i64 (l:Int),.int .i64 (h:Int)]):(execOp ρ o).run Tryz.prog w=.ok (.value (.string (strN ((xs.drop l).take (h-l))))) w:=by
 have h3:ρ a=.string (strN xs)∧ρ b=.int .i64 (l:Int)∧ρ c=.int .i64 (h:Int):=by simpa [Op.operands] using hv
 unfold execOp
 rw [ho]
 dsimp only
 rw [h3.1]
 have h4:=run_slice_string (P:=Tryz.prog) (w:=w) 9 (strN xs) .i64 .i64 (l:Int) (h:Int) Tryz.underlying9 (by omega) (by omega) (by rw [strN_size]; omega)
 rw [strN_ext,Int.toNat_natCast,Int.toNat_natCast] at h4
 have h5:=run_sliceAt_string (P:=Tryz.prog) (w:=w) 9 (.string (strN xs)) (some (.int .i64 (l:Int))) (some (.int .i64 (h:Int))) none Tryz.underlying9
 rw [h4] at h5
 simp [h3.2.1,h3.2.2,go_sem,h5]
def eStM (xs:List Nat) {l h:Nat} (hl:l≤h) (hh:h≤xs.length):Ev Tryz.prog:=.dyn (fun o _ _=>match o.op with
 | .slice t _ (some _) (some _) none=>Nat.beq t 9
 | _=>false) fun o _ _=>match o.op with
 | .slice _ a (some b) (some c) none=>.gen (o.dst.getD 0) (.slice 9 a (some b) (some c) none) [.string (strN xs),.int .i64 (l:Int),.int .i64 (h:Int)] (.string (strN ((xs.drop l).take (h-l)))) (fun ρ o w ho hv=>st_md hl hh a b c ρ o w ho hv)
 | _=>.cut
theorem tx_ne {a b:ByteArray} {r:Bool} (h:decide (a=b)=r) {u:TypeId} (x y:Operand) (ρ:Operand→Value) (o:Oper) (w:World) (ho:o.op=.binOp .neq 9 x y u) (hx:(Op.binOp .neq 9 x y u).operands.toList.map ρ=[.string a,.string b]):(execOp ρ o).run Tryz.prog w=.ok (.value (.bool (!r))) w:=by
 have h3:ρ x=.string a∧ρ y=.string b:=by simpa [Op.operands] using hx
 unfold execOp
 rw [ho]
 dsimp only
 rw [h3.1,h3.2,← h]
 simp [go_sem,binOp,Op.stringOp]
 rw [Bool.eq_iff_iff,beq_iff_eq,decide_eq_true_iff,toList_inj]
def eStrNe (a b:ByteArray) {r:Bool} (h:decide (a=b)=r):Ev Tryz.prog:=.dyn (fun o _ _=>match o.op with
 | .binOp .neq t _ _ _=>Nat.beq t 9
 | _=>false) fun o _ _=>match o.op with
 | .binOp .neq _ x y u=>.gen (o.dst.getD 0) (.binOp .neq 9 x y u) [.string a,.string b] (.bool (!r)) (fun ρ o w ho hx=>tx_ne h x y ρ o w ho hx)
 | _=>.cut
end Go.Proofs.YthkpghhoffihmaaGreatDoor.Y
end
