/- Rs4, Pts, Alg, Rs7, Rs10, Nrm, EyF, Rs8, MoA, TxB, MoD, MoC, CkM, PwM, PwN, PwO, MdA. -/
import Derived.Test.YtbepimnlleilfaaGreatOk10
set_option linter.unnecessarySimpa false
set_option linter.unusedVariables false
set_option linter.unusedSimpArgs false
section
namespace Go.Proofs.YtbepimnlleilfaaGreat
open Go.Proofs.YtbepimnlleilfaaGreat.Y
open Go Go.RowKit
set_option maxRecDepth 100000
theorem gres {z w:GQ} (h:z=w):SV.one (.a (gC z))=.one (.a (gC w)):=by rw [h]
theorem Sz.le {i k:Nat} {x:Rat} (h:Sz i x) (hk:Nat.ble i k=true:=by decide):Sz k x:=h.mono (Nat.le_of_ble_eq_true hk)
theorem GSz.le {i k:Nat} {z:GQ} (h:GSz i z) (hk:Nat.ble i k=true:=by decide):GSz k z:=h.mono (Nat.le_of_ble_eq_true hk)
theorem gsub_eq (z w:GQ):gadd z (gneg w)=gsub z w:=by
 unfold gadd gneg gsub
 simp only [Rat.sub_eq_add_neg]
theorem gdiv_eq (z w:GQ):gscale (gmul z (gconj w)) (Rat.divInt 1 1/gnorm w)=gdiv z w:=by
 unfold gdiv
 congr 1
 rw [Rat.div_def,show (Rat.divInt 1 1)=1 by rfl,Rat.one_mul]
abbrev svG (z:GQ):SV:=.one (.a (gC z))
abbrev svF (x:Rat):SV:=.one (.a (fC x))
section
variable {z w:GQ} {x:Rat}
def sR4Neg (z:GQ):Y.Spec Tryz.prog:=Y.Spec.auto Tryz.call169 [svG z] [] (svG (gneg z)) [] [(sR3Neg z.re).e,(sR3Neg z.im).e] [(1,7)] 400 Tryz.func169 hmA (by kernel_rfl) (fun β=>by kernel_rfl)
def sR4Conj (z:GQ):Y.Spec Tryz.prog:=Y.Spec.auto Tryz.call178 [svG z] [] (svG (gconj z)) [] [(sR3Neg z.im).e] [(1,6)] 400 Tryz.func178 hmA (by kernel_rfl) (fun β=>by kernel_rfl)
def sR4Plus (hz:GSz KE z) (hw:GSz KE w):Y.Spec Tryz.prog:=Y.Spec.auto Tryz.call291 [svG z,svG w] [] (svG (gadd z w)) [] [(sR3Plus hz.1.le hw.1.le).e,(sR3Plus hz.2.le hw.2.le).e] [(1,11)] 400 Tryz.func291 hmA (by kernel_rfl) (fun β=>by kernel_rfl)
def sR4Minus (hz:GSz KE z) (hw:GSz KE w):Y.Spec Tryz.prog:=(Y.Spec.auto Tryz.call228 [svG z,svG w] [] (svG (gadd z (gneg w))) [] [(sR4Neg w).e,(sR4Plus hz hw.neg).e] [(1,4)] 400 Tryz.func228 hmA (by kernel_rfl) (fun β=>by kernel_rfl)).conv (svG (gsub z w)) (gres (gsub_eq z w))
def sR4Times (hz:GSz KE z) (hw:GSz KE w):Y.Spec Tryz.prog:=Y.Spec.auto Tryz.call51 [svG z,svG w] [] (svG (gmul z w)) []
 [(sR3Times hz.1.le hw.1.le).e,(sR3Times hz.2.le hw.2.le).e,(sR3Minus (hz.1.mul hw.1).le (hz.2.mul hw.2).le).e,(sR3Times hz.1.le hw.2.le).e,(sR3Times hz.2.le hw.1.le).e,(sR3Plus (hz.1.mul hw.2).le (hz.2.mul hw.1).le).e] [(1,12),(2,12)] 400 Tryz.func51 hmA (by kernel_rfl) (fun β=>by kernel_rfl)
def sR4Dot (hz:GSz KE z) (hw:GSz KE w):Y.Spec Tryz.prog:=Y.Spec.auto Tryz.call299 [svG z,svG w] [] (svF (z.re*w.re+z.im*w.im)) []
 [(sR3Times hz.1.le hw.1.le).e,(sR3Times hz.2.le hw.2.le).e,(sR3Plus (hz.1.mul hw.1).le (hz.2.mul hw.2).le).e] [(1,11)] 400 Tryz.func299 hmA (by kernel_rfl) (fun β=>by kernel_rfl)
def sR4Norm (hz:GSz KE z):Y.Spec Tryz.prog:=Y.Spec.auto Tryz.call179 [svG z] [] (svF (gnorm z)) [] [(sR4Dot hz hz).e] [] 400 Tryz.func179 hmA (by kernel_rfl) (fun β=>by kernel_rfl)
def sR4Scale (hz:GSz K3 z) (hx:Sz K3 x):Y.Spec Tryz.prog:=Y.Spec.auto Tryz.call177 [svG z,svF x] [] (svG (gscale z x)) [] [(sR3Times hz.1 hx).e,(sR3Times hz.2 hx).e] [(1,9)] 400 Tryz.func177 hmA (by kernel_rfl) (fun β=>by kernel_rfl)
theorem sz_one:Sz 1 (Rat.divInt 1 1):=Sz.small (by decide)
def sR4Over (hz:GSz KE z) (hw:GSz KE w) (h0:gzero w=false):Y.Spec Tryz.prog:=(Y.Spec.auto Tryz.call50 [svG z,svG w] [] (svG (gscale (gmul z (gconj w)) (Rat.divInt 1 1/gnorm w))) []
 [(sR4Conj w).e,(sR4Times hz hw.conj).e,(sR3Int 1 (by decide)).e,(sR4Norm hw).e,(sR3Over sz_one.le hw.norm.le (gnorm_ne h0)).e,(sR4Scale (hz.mul hw.conj).le (sz_one.div hw.norm (gnorm_ne h0)).le).e] [(1,9)] 400 Tryz.func50 hmA (by kernel_rfl) (fun β=>by kernel_rfl)).conv (svG (gdiv z w)) (gres (gdiv_eq z w))
end
def sR4Int (n m:Int) (hn : -9223372036854775808≤n∧n≤9223372036854775807:=by decide) (hm : -9223372036854775808≤m∧m≤9223372036854775807:=by decide):Y.Spec Tryz.prog :=
 Y.Spec.auto Tryz.call55 [.one (.c (.b (.v (.int .i64 n)))),.one (.c (.b (.v (.int .i64 m))))] [] (svG (gint n m)) [] [(sR3Int n hn).e,(sR3Int m hm).e] [] 400 Tryz.func55 hmA (by kernel_rfl) (fun β=>by kernel_rfl)
theorem sign_num (x:Rat) {b:Bool} (h:decide (x=0)=b):Value.bool (x.num.sign==0)=.bool b:=sign_lit h
def sR4Zero (z:GQ) {b:Bool} (hb:gzero z=b):Y.Spec Tryz.prog :=
 ⟨152,Tryz.call152,[svG z],[],.one (.c (.b (.v (.bool b)))),[],fun β w hh=>by
  cases h1:decide (z.re=0) with
  | false =>
   obtain rfl:b=false:=by rw [← hb]; unfold gzero; rw [h1]; rfl
   exact spec_auto (evs:=[(sR3Sign (x:=z.re) rfl).e,.eqv 6 (.bool (z.re.num.sign==0)) (.bool false) (sign_num _ h1)]) (Ns:=[]) (m:=400) Tryz.func152 hmA (fun β=>by kernel_rfl) (by kernel_rfl) β w hh
  | true =>
   obtain rfl:b=decide (z.im=0):=by rw [← hb]; unfold gzero; rw [h1]; rfl
   cases h2:decide (z.im=0) with
   | false=>exact spec_auto (evs:=[(sR3Sign (x:=z.re) rfl).e,.eqv 6 (.bool (z.re.num.sign==0)) (.bool true) (sign_num _ h1),(sR3Sign (x:=z.im) rfl).e,.eqv 11 (.bool (z.im.num.sign==0)) (.bool false) (sign_num _ h2)]) (Ns:=[]) (m:=400) Tryz.func152 hmA (fun β=>by kernel_rfl) (by kernel_rfl) β w hh
   | true=>exact spec_auto (evs:=[(sR3Sign (x:=z.re) rfl).e,.eqv 6 (.bool (z.re.num.sign==0)) (.bool true) (sign_num _ h1),(sR3Sign (x:=z.im) rfl).e,.eqv 11 (.bool (z.im.num.sign==0)) (.bool true) (sign_num _ h2)]) (Ns:=[]) (m:=400) Tryz.func152 hmA (fun β=>by kernel_rfl) (by kernel_rfl) β w hh,by kernel_rfl⟩
def sR4Fits (z:GQ) {b:Bool} (hb:b=true↔FitG z):Y.Spec Tryz.prog :=
 ⟨208,Tryz.call208,[svG z],[],.one (.c (.b (.v (.bool b)))),[],fun β w hh=>by
  by_cases h1:Fit z.re
  · have h2:b=true↔Fit z.im:=hb.trans ⟨fun h=>h.2,fun h=>⟨h1,h⟩⟩
    cases b<;>exact spec_auto (evs:=[eFFit (iff_true_of h1),eFFit h2]) (Ns:=[]) (m:=400) Tryz.func208 hmA (fun β=>by kernel_rfl) (by kernel_rfl) β w hh
  · obtain rfl:=eq_false_of hb fun h=>h1 h.1
    exact spec_auto (evs:=[eFFit (iff_false_of h1)]) (Ns:=[]) (m:=400) Tryz.func208 hmA (fun β=>by kernel_rfl) (by kernel_rfl) β w hh,by kernel_rfl⟩
def Fp.may3:Fp→Y.Spec Tryz.prog
 | .ok x h=>sR3May _ _ _ _ true (iff_true_of (fitF x h))
 | .no b c s t h hs ht=>sR3May b c s t false (iff_false_of h)
def may4E (a b:Fp):List (Ev Tryz.prog):=match a with
 | .ok ..=>[a.may3.e,b.may3.e]
 | .no ..=>[a.may3.e]
def sR4May (a b:Fp):Y.Spec Tryz.prog :=
 Y.Spec.auto Tryz.call75 [.one (.a (a.C++b.C))] [] (.one (.c (.b (.v (.bool (a.B&&b.B)))))) [] (may4E a b) [] 400 Tryz.func75 hmA (by cases a<;>cases b<;>kernel_rfl) (fun β=>by cases a<;>cases b<;>kernel_rfl)
def Fp.raw:Fp→R4
 | .ok x _=>⟨decide (x.num<0),mag x.num.natAbs,false,mag x.den⟩
 | .no b c s t _ _ _=>⟨b,s,c,t⟩
def Pp.rI:Pp→Bool
 | .fin ..=>false
 | _=>true
def Pp.rX:Pp→R4
 | .inf=>r40
 | .fin a _=>a.raw
 | .odd x _ _=>x
def Pp.rY:Pp→R4
 | .inf=>r40
 | .fin _ b=>b.raw
 | .odd _ y _=>y
def rawC (i:Bool) (x y:R4):List Lf:=.b (.v (.bool i))::(x.L++y.L)
def Y.Spec.as {P:Program} (S:Y.Spec P) (args:List SV) (res:SV) (ha:S.args=args) (hr:S.res=res):Y.Spec P :=
 ⟨S.f,S.en,args,S.obs,res,S.news,fun β w hh=>by subst ha; subst hr; exact S.ok β w hh,by subst ha; subst hr; exact S.closed⟩
def fR (x:Rat):R4:=⟨decide (x.num<0),mag x.num.natAbs,false,mag x.den⟩
def Pt.i:Pt→Bool
 | .inf=>true
 | .fin _=>false
def Pt.x:Pt→R4
 | .inf=>r40
 | .fin z=>fR z.re
def Pt.y:Pt→R4
 | .inf=>r40
 | .fin z=>fR z.im
abbrev svR (i:Bool) (x y:R4):SV:=.one (.a (rawC i x y))
abbrev svP (p:Pt):SV:=svR p.i p.x p.y
def FitP:Pt→Prop
 | .inf=>True
 | .fin z=>FitG z
theorem FitP.sz {p:Pt} (h:FitP p):PSz 1024 p:=by
 cases p
 · trivial
 · exact ⟨h.1.sz,h.2.sz⟩
structure Rw where
 i:Bool
 x:R4
 y:R4
def Pt.w (p:Pt):Rw:=⟨p.i,p.x,p.y⟩
def Pp.w (p:Pp):Rw:=⟨p.rI,p.rX,p.rY⟩
theorem fp_of (x:R4) (h1:x.s.size≤maxLen) (h2:x.t.size≤maxLen):∃ a:Fp,a.raw=x:=by
 obtain ⟨b,s,c,t⟩:=x
 rcases fp_all b c s t with ⟨q,h,rfl,rfl,rfl,rfl⟩ | h
 · exact ⟨.ok q h,rfl⟩
 · exact ⟨.no b c s t h h1 h2,rfl⟩
theorem fR_inj {x y:Rat} (h:fR x=fR y):x=y:=by
 injection h with h1 h2 h3 h4
 have hn:x.num.natAbs=y.num.natAbs:=mag_inj h2
 have hd:x.den=y.den:=mag_inj h4
 have hb:(x.num<0)=(y.num<0):=by simpa using h1
 refine Rat.ext ?_ hd
 by_cases h0:x.num<0
 · have:y.num<0:=by rw [← hb]; exact h0
   omega
 · have:¬ y.num<0:=by rw [← hb]; exact h0
   omega
theorem Pt.w_inj {p q:Pt} (h:p.w=q.w):p=q:=by
 cases p<;>cases q
 · rfl
 · injection h with h1; cases h1
 · injection h with h1; cases h1
 · rename_i z w
   injection h with _ h2 h3
   exact congrArg Pt.fin (GQ.ext2 (fR_inj h2) (fR_inj h3))
def rwB (i i':Bool) (x y x' y':R4):Bool:=(i==i')&&((x.eq x'&&(y.eq y'&&true))&&true)
theorem rwB_iff {i i':Bool} {x y x' y':R4}:rwB i i' x y x' y'=true↔i=i'∧x=x'∧y=y':=by
 unfold rwB
 simp only [Bool.and_true,Bool.and_eq_true,R4.eq_iff,beq_iff_eq]
def ptB (p q:Pt):Bool:=rwB p.i q.i p.x p.y q.x q.y
theorem ptB_iff {p q:Pt}:ptB p q=true↔p=q:=by
 unfold ptB
 rw [rwB_iff]
 constructor
 · rintro ⟨h1,h2,h3⟩
   exact Pt.w_inj (by unfold Pt.w; rw [h1,h2,h3])
 · rintro rfl; exact ⟨rfl,rfl,rfl⟩
open Classical in
noncomputable def paI (p:Pt):Bool:=if FitP p then p.i else false
open Classical in
noncomputable def paX (p:Pt):R4:=if FitP p then p.x else r40
open Classical in
noncomputable def paY (p:Pt):R4:=if FitP p then p.y else r40
theorem pa_fit {p:Pt} (h:FitP p):paI p=p.i∧paX p=p.x∧paY p=p.y:=⟨if_pos h,if_pos h,if_pos h⟩
theorem pa_not {p:Pt} (h:¬ FitP p):paI p=false∧paX p=r40∧paY p=r40:=⟨if_neg h,if_neg h,if_neg h⟩
theorem paK_fit {p:Pt} (h:FitP p):paK p=0:=by
 cases p
 · rfl
 · exact (ga_fit h).2
theorem paC_raw (p:Pt):paC p=rawC (paI p) (paX p) (paY p):=by
 by_cases h:FitP p
 · rw [(pa_fit h).1,(pa_fit h).2.1,(pa_fit h).2.2]
   cases p
   · rfl
   · show _::gaC _=_
     rw [(ga_fit h).1]; rfl
 · rw [(pa_not h).1,(pa_not h).2.1,(pa_not h).2.2]
   cases p
   · exact absurd trivial h
   · show _::gaC _=_
     rw [(ga_not h).1]; rfl
def mC (m:MQ):List Lf:=gC m.a++gC m.b++gC m.c++gC m.d++[.b (.v (.bool m.t))]
abbrev svM (m:MQ):SV:=.one (.a (mC m))
theorem gz_true {z:GQ}:gzero z=true↔z=g0:=by
 rw [gzero_iff]
 exact ⟨fun h=>GQ.ext2 h.1 h.2,fun h=>by rw [h]; exact ⟨rfl,rfl⟩⟩
theorem gz_false {z:GQ}:gzero z=false↔z≠g0:=by
 cases h:gzero z with
 | true=>exact ⟨fun e=>Bool.noConfusion e,fun e=>absurd (gz_true.1 h) e⟩
 | false=>exact ⟨fun _ e=>by rw [gz_true.2 e] at h; exact Bool.noConfusion h,fun _=>rfl⟩
theorem gnorm_mul (z w:GQ):gnorm (gmul z w)=gnorm z*gnorm w:=by
 simp only [gnorm,gmul]; grind
theorem gnorm_zero {z:GQ} (h:gnorm z=0):z=g0:=by
 cases h1:gzero z with
 | true=>exact gz_true.1 h1
 | false=>exact absurd h (gnorm_ne h1)
theorem gmul_zero {z w:GQ} (h:gmul z w=g0):z=g0∨w=g0:=by
 have h1:gnorm z*gnorm w=0:=by rw [← gnorm_mul,h]; simp only [gnorm,g0]; grind
 rcases Rat.mul_eq_zero.1 h1 with h | h
 · exact .inl (gnorm_zero h)
 · exact .inr (gnorm_zero h)
theorem gmul_ne {z w:GQ} (h:z≠g0) (k:w≠g0):gmul z w≠g0:=fun e=>(gmul_zero e).elim h k
theorem gnorm_inv {w:GQ} (h:w≠g0):gnorm w*(gnorm w)⁻¹=1:=Rat.mul_inv_cancel _ (gnorm_ne (gz_false.2 h))
theorem gdiv_mul {z w:GQ} (h:w≠g0):gmul (gdiv z w) w=z:=by
 have hn:=gnorm_inv h
 unfold gdiv
 generalize hi:(gnorm w)⁻¹=i at hn
 unfold gnorm at hn
 refine GQ.ext2 ?_ ?_
 · simp only [gmul,gscale,gconj]; grind
 · simp only [gmul,gscale,gconj]; grind
theorem gmul_cancel {z w u:GQ} (h:u≠g0) (e:gmul z u=gmul w u):z=w:=by
 have h1:gmul (gsub z w) u=g0:=by
  have e1:=congrArg GQ.re e
  have e2:=congrArg GQ.im e
  simp only [gmul] at e1 e2
  refine GQ.ext2 ?_ ?_
  · simp only [gmul,gsub,g0]; grind
  · simp only [gmul,gsub,g0]; grind
 rcases gmul_zero h1 with k | k
 · have e1:=congrArg GQ.re k
   have e2:=congrArg GQ.im k
   simp only [gsub,g0] at e1 e2
   exact GQ.ext2 (by grind) (by grind)
 · exact absurd k h
theorem gdiv_eq_iff {z w u:GQ} (h:w≠g0):gdiv z w=u↔z=gmul u w:=by
 constructor
 · intro e; rw [← e,gdiv_mul h]
 · intro e; exact gmul_cancel h (by rw [gdiv_mul h,e])
theorem gneg_ne {z:GQ} (h:z≠g0):gneg z≠g0:=fun e=>h (by
 have e1:=congrArg GQ.re e
 have e2:=congrArg GQ.im e
 simp only [gneg,g0] at e1 e2
 exact GQ.ext2 (by show z.re=0; grind) (by show z.im=0; grind))
theorem gconj_ne {z:GQ} (h:z≠g0):gconj z≠g0:=fun e=>h (by
 have e1:=congrArg GQ.re e
 have e2:=congrArg GQ.im e
 simp only [gconj,g0] at e1 e2
 exact GQ.ext2 e1 (by show z.im=0; grind))
def Reg (m:MQ):Prop:=mdet m≠g0
theorem Reg.by_ {m:MQ} (h:Reg m) {b:Bool} (hb:gzero m.c=b):(bif b then m.d else m.c)≠g0:=by
 cases b
 · exact gz_false.1 hb
 · intro e
   refine h ?_
   have hc:=gz_true.1 hb
   unfold mdet
   rw [hc,show m.d=g0 from e]
   refine GQ.ext2 ?_ ?_<;>(simp only [gsub,gmul,g0]; grind)
theorem Reg.by0 {m:MQ} (h:Reg m) {b:Bool} (hb:gzero m.c=b):gzero (bif b then m.d else m.c)=false:=gz_false.2 (h.by_ hb)
theorem det_norm {m:MQ} {b:Bool} {u:GQ} (hu:(bif b then m.d else m.c)=u) (h:u≠g0):gmul (gmul (mdet (mnormB m b)) u) u=mdet m:=by
 unfold mnormB
 rw [hu]
 have ha:=gdiv_mul (z:=m.a) h
 have hb:=gdiv_mul (z:=m.b) h
 have hc:=gdiv_mul (z:=m.c) h
 have hd:=gdiv_mul (z:=m.d) h
 unfold mdet
 show gmul (gmul (gsub (gmul (gdiv m.a u) (gdiv m.d u)) (gmul (gdiv m.b u) (gdiv m.c u))) u) u=_
 rw [← ha,← hb,← hc,← hd]
 rw [ha,hb,hc,hd]
 generalize gdiv m.a u=a' at *
 generalize gdiv m.b u=b' at *
 generalize gdiv m.c u=c' at *
 generalize gdiv m.d u=d' at *
 rw [← ha,← hb,← hc,← hd]
 refine GQ.ext2 ?_ ?_<;>(simp only [gsub,gmul]; grind)
theorem Reg.norm {m:MQ} (h:Reg m) {b:Bool} (hu:(bif b then m.d else m.c)≠g0):Reg (mnormB m b):=fun e=>h (by
 rw [← det_norm rfl hu,e]
 refine GQ.ext2 ?_ ?_<;>(simp only [gmul,g0]; grind))
theorem Reg.undo0 {m:MQ} (h:Reg m):Reg (mundo0 m):=fun e=>h (by
 have e1:=congrArg GQ.re e
 have e2:=congrArg GQ.im e
 simp only [mdet,mundo0,gsub,gmul,gneg,g0] at e1 e2
 refine GQ.ext2 ?_ ?_<;>(simp only [mdet,gsub,gmul,g0]; grind))
theorem Reg.conj {m:MQ} (h:Reg m) (t:Bool):Reg (mconj m t):=by
 cases t
 · exact h
 · intro e
   refine h ?_
   have e1:=congrArg GQ.re e
   have e2:=congrArg GQ.im e
   simp only [mdet,mconj,cond_true,gsub,gmul,gconj,g0] at e1 e2
   refine GQ.ext2 ?_ ?_<;>(simp only [mdet,gsub,gmul,g0]; grind)
theorem det_beh (m n:MQ):mdet (mbeh m n)=gmul (mdet m) (mdet (mconj n m.t)):=by
 unfold mbeh mdet
 generalize mconj n m.t=n'
 refine GQ.ext2 ?_ ?_<;>(simp only [gsub,gadd,gmul]; grind)
theorem Reg.beh {m n:MQ} (h:Reg m) (k:Reg n):Reg (mbeh m n):=by
 unfold Reg
 rw [det_beh]
 exact gmul_ne h (k.conj _)
theorem gint00:gint 0 0=g0:=rfl
theorem gint10:gint 1 0=⟨1,0⟩:=rfl
theorem across_ne {p q:Pt} (h:p≠q):gacross p q≠g0:=by
 intro e
 have e1:=congrArg GQ.re e
 have e2:=congrArg GQ.im e
 cases p<;>cases q<;>simp only [gacross,byA,byB,gint00,gint10,gsub,gmul,g0] at e1 e2
 · exact h rfl
 · exact absurd e1 (by grind)
 · exact absurd e1 (by grind)
 · rename_i z w
   refine h (congrArg Pt.fin (GQ.ext2 ?_ ?_))
   · grind
   · grind
theorem Reg.chart {p q r:Pt} (h1:p≠q) (h2:q≠r) (h3:p≠r):Reg (mchart0 p q r):=by
 have k1:=across_ne h1
 have k2:=across_ne h2
 have k3:=across_ne h3
 unfold Reg
 have:mdet (mchart0 p q r)=gmul (gmul (gacross q r) (gneg (gacross p q))) (gacross p r):=by
  unfold mdet mchart0 gacross
  generalize byA p=a
  generalize byB p=b
  generalize byA q=c
  generalize byB q=d
  generalize byA r=e
  generalize byB r=f
  refine GQ.ext2 ?_ ?_<;>(simp only [gsub,gmul,gneg]; grind)
 rw [this]
 exact gmul_ne (gmul_ne k2 (gneg_ne k1)) k3
structure BSpec (P:Program) where
 f:FuncId
 en:Enters P f
 args:List SV
 cs:List Lf
 t:TypeId
 r:Value
 ok:∀ β w,(Ob.box cs t).holds β w (β 0)→Calls P f (args.map (SV.den β)).toArray w fun e w'=>e=.returned r∧Below w.heap.size w w'
 cl:(cs.all (Lf.of fun _=>false)&&args.all (SV.of fun k=>Nat.beq k 0))=true
 hr:∀ β,(tag r).den β=r
def bkOf:List SV→Nat
 | []=>0
 | .one (.c (.b (.s k _ _ _)))::_=>k
 | _::r=>bkOf r
theorem cells_closed {β β':Env} {cs:List Lf} (h:cs.all (Lf.of fun _=>false)=true):cs.map (Lf.den β)=cs.map (Lf.den β') :=
 List.map_congr_left fun x hx=>Lf.den_congr (q:=fun _=>false) (fun k hk=>by cases hk) x (List.all_eq_true.1 h x hx)
def BSpec.e {P:Program} (S:BSpec P):Ev P:=.dyn (fun o _ _=>isCallB o) fun _ xs ob=>lit (bkOf xs) fun i =>
 .call S.f S.en (fun β=>(S.args.map (SV.den fun _=>β i)).toArray) [(i,.box S.cs S.t)] 0 (tag S.r) [] (fun β w h=>of_pure0 (by
  have hc:=S.cl
  rw [Bool.and_eq_true] at hc
  refine S.ok (fun _=>β i) w ?_
  have h1:(β i).one∧w.heap[(β i).b]?=some (.cells (S.cs.map (Lf.den β)).toArray S.t (0,0)):=h _ (List.mem_singleton.2 rfl)
  show (β i).one∧w.heap[(β i).b]?=some (.cells (S.cs.map (Lf.den fun _=>β i)).toArray S.t (0,0))
  rw [cells_closed (β':=β) hc.1]
  exact h1) S.hr)
theorem bspec_ok {P:Program} {f:FuncId} {fn:Func} {args:List SV} {cs:List Lf} {t:TypeId} {r:Value} (evs:List (Ev P)) (Ns:List (Nat × Nat)) (m:Nat) (hf:P.funcs[f]?=some fn) (hm:P.follows .mixedOrders=true)
  (h:∀ β,(allS P fn args [.box cs t] evs Ns m (tag r) [] β).map Prod.fst=(allS P fn args [.box cs t] evs Ns m (tag r) [] β).map Prod.snd)
  (hB:(args.all (SV.of fun k=>Nat.blt k 1)&&[Ob.box cs t].all fun x=>x.of (fun k=>Nat.blt k 1)&&x.own)=true) (hr:∀ β,(tag r).den β=r) (β:Env) (w:World) (hh:(Ob.box cs t).holds β w (β 0)) :
  Calls P f (args.map (SV.den β)).toArray w fun e w'=>e=.returned r∧Below w.heap.size w w':=by
 rw [Bool.and_eq_true] at hB
 refine (sx (P:=P) args [.box cs t] evs Ns m (tag r) [] hf hm (fun β=>ok_of_maps (h β)) hB.1 hB.2 β w (fun k o ho=>?_)).mono ?_
 · cases k with
   | zero=>simp only [List.getElem?_cons_zero] at ho; obtain rfl:=Option.some.inj ho; exact hh
   | succ k=>simp at ho
 · rintro e w' ⟨β',q,obj,e1,rfl,e2,e4,e5,g⟩
   exact ⟨by rw [hr],g.bel⟩
def Rw.C (r:Rw):List Lf:=rawC r.i r.x r.y
def sR8Normal {a b c d:GQ} (t:Bool) (h:MSz KE ⟨a,b,c,d,t⟩) {f:Bool} (hf:gzero c=f) (h0:gzero (bif f then d else c)=false):Y.Spec Tryz.prog :=
 ⟨167,Tryz.call167,[svG a,svG b,svG c,svG d,.one (.c (.b (.v (.bool t))))],[],svM (mnormB ⟨a,b,c,d,t⟩ f),[],fun β w hh=>by
  cases f
  · exact spec_auto (evs:=[(sR4Zero c hf).e,(sR4Over h.a h.c h0).e,(sR4Over h.b h.c h0).e,(sR4Over h.c h.c h0).e,(sR4Over h.d h.c h0).e]) (Ns:=[(4,14)]) (m:=400) Tryz.func167 hmA (fun β=>by kernel_rfl) (by kernel_rfl) β w hh
  · exact spec_auto (evs:=[(sR4Zero c hf).e,(sR4Over h.a h.d h0).e,(sR4Over h.b h.d h0).e,(sR4Over h.c h.d h0).e,(sR4Over h.d h.d h0).e]) (Ns:=[(4,14)]) (m:=400) Tryz.func167 hmA (fun β=>by kernel_rfl) (by kernel_rfl) β w hh,by kernel_rfl⟩
def sR8turned (z:GQ) (t:Bool):Y.Spec Tryz.prog :=
 ⟨168,Tryz.call168,[svG z,.one (.c (.b (.v (.bool t))))],[],svG (mcj t z),[],fun β w hh=>by
  cases t
  · exact spec_auto (evs:=[]) (Ns:=[]) (m:=400) Tryz.func168 hmA (fun β=>by kernel_rfl) (by kernel_rfl) β w hh
  · exact spec_auto (evs:=[(sR4Conj z).e]) (Ns:=[]) (m:=400) Tryz.func168 hmA (fun β=>by kernel_rfl) (by kernel_rfl) β w hh,by kernel_rfl⟩
def minv0 (m:MQ):MQ:=mconj (mundo0 m) m.t
theorem minv0_sz {k:Nat} {m:MQ} (h:MSz k m):MSz k (minv0 m):=h.undo0.conj _
def sR8Inverse {m:MQ} (h:MSz KE m) {f:Bool} (hf:gzero (minv0 m).c=f) (h0:gzero (bif f then (minv0 m).d else (minv0 m).c)=false):Y.Spec Tryz.prog :=
 Y.Spec.auto Tryz.call42 [svM m] [] (svM (mnormB (minv0 m) f)) []
  [(sR8turned m.d m.t).e,(sR4Neg m.b).e,(sR8turned (gneg m.b) m.t).e,(sR4Neg m.c).e,(sR8turned (gneg m.c) m.t).e,(sR8turned m.a m.t).e,(sR8Normal (a:=(minv0 m).a) (b:=(minv0 m).b) (c:=(minv0 m).c) (d:=(minv0 m).d) m.t (minv0_sz h) hf h0).e]
  [(1,25)] 400 Tryz.func42 hmA (by kernel_rfl) (fun β=>by kernel_rfl)
def sR8Fits (m:MQ) {b:Bool} (hb:b=true↔FitM m):Y.Spec Tryz.prog :=
 ⟨156,Tryz.call156,[svM m],[],.one (.c (.b (.v (.bool b)))),[],fun β w hh=>by
  by_cases h1:FitG m.a
  · by_cases h2:FitG m.b
    · by_cases h3:FitG m.c
      · have h4:b=true↔FitG m.d:=hb.trans ⟨fun h=>h.2.2.2,fun h=>⟨h1,h2,h3,h⟩⟩
        cases b<;>exact spec_auto (evs:=[(sR4Fits m.a (iff_true_of h1)).e,(sR4Fits m.b (iff_true_of h2)).e,(sR4Fits m.c (iff_true_of h3)).e,(sR4Fits m.d h4).e]) (Ns:=[]) (m:=400) Tryz.func156 hmA (fun β=>by kernel_rfl) (by kernel_rfl) β w hh
      · obtain rfl:=eq_false_of hb fun h=>h3 h.2.2.1
        exact spec_auto (evs:=[(sR4Fits m.a (iff_true_of h1)).e,(sR4Fits m.b (iff_true_of h2)).e,(sR4Fits m.c (iff_false_of h3)).e]) (Ns:=[]) (m:=400) Tryz.func156 hmA (fun β=>by kernel_rfl) (by kernel_rfl) β w hh
    · obtain rfl:=eq_false_of hb fun h=>h2 h.2.1
      exact spec_auto (evs:=[(sR4Fits m.a (iff_true_of h1)).e,(sR4Fits m.b (iff_false_of h2)).e]) (Ns:=[]) (m:=400) Tryz.func156 hmA (fun β=>by kernel_rfl) (by kernel_rfl) β w hh
  · obtain rfl:=eq_false_of hb fun h=>h1 h.1
    exact spec_auto (evs:=[(sR4Fits m.a (iff_false_of h1)).e]) (Ns:=[]) (m:=400) Tryz.func156 hmA (fun β=>by kernel_rfl) (by kernel_rfl) β w hh,by kernel_rfl⟩
theorem maC_fit {m:MQ} (h:FitM m):maC m=mC m∧maK m=0:=by
 obtain ⟨h1,h2⟩:=maC_yes h
 refine ⟨?_,h2⟩
 rw [h1,(ga_fit h.1).1,(ga_fit h.2.1).1,(ga_fit h.2.2.1).1,(ga_fit h.2.2.2).1]
 rfl
noncomputable def sR8Told (m:MQ):Y.Spec Tryz.prog :=
 ⟨157,Tryz.call157,[svM m],[],.tup [.a (maC m),.c (.b (.v (.int .i64 (maK m))))],[],fun β w hh=>by
  by_cases h:FitM m
  · rw [(maC_fit h).1,(maC_fit h).2]
    exact spec_auto (evs:=[(sR8Fits m (iff_true_of h)).e]) (Ns:=[]) (m:=400) Tryz.func157 hmA (fun β=>by kernel_rfl) (by kernel_rfl) β w hh
  · rw [(maC_no h).1,(maC_no h).2]
    exact spec_auto (evs:=[(sR8Fits m (iff_false_of h)).e]) (Ns:=[]) (m:=400) Tryz.func157 hmA (fun β=>by kernel_rfl) (by kernel_rfl) β w hh,by kernel_rfl⟩
abbrev KQ:Nat:=250
theorem MSz.le {i k:Nat} {m:MQ} (h:MSz i m) (hk:Nat.ble i k=true:=by decide):MSz k m:=h.mono (Nat.le_of_ble_eq_true hk)
abbrev csz (k:Nat):Nat:=k+(k+k+(k+k)+1+(k+k+(k+k)+1)+1)+(k+(k+k+(k+k)+1+(k+k+(k+k)+1)+1))+1
theorem mchart0_sz {k:Nat} {p q r:Pt} (hp:PSz k p) (hq:PSz k q) (hr:PSz k r) (hk:1≤k):MSz (csz k) (mchart0 p q r) :=
 ⟨(byB_sz hk).mul (gacross_sz hq hr hk),((byA_sz hp hk).mul (gacross_sz hq hr hk)).neg,(byB_sz hk).mul (gacross_sz hq hp hk),((byA_sz hr hk).mul (gacross_sz hq hp hk)).neg⟩
theorem minv_reg {m:MQ} (h:Reg m):Reg (minv0 m):=h.undo0.conj _
theorem gq_one_ne:(⟨1,0⟩:GQ)≠g0:=fun e=>by have:=congrArg GQ.re e; exact absurd this (by show (1:Rat)≠0; decide)
theorem gq_div_self {u:GQ} (h:u≠g0):gdiv u u=⟨1,0⟩:=by
 rw [gdiv_eq_iff h]
 refine GQ.ext2 ?_ ?_<;>(simp only [gmul]; grind)
theorem gq_div_one (z:GQ):gdiv z ⟨1,0⟩=z:=by
 rw [gdiv_eq_iff gq_one_ne]
 refine GQ.ext2 ?_ ?_<;>(simp only [gmul]; grind)
theorem ptB_ne' {p q:Pt} (h:p≠q):ptB p q=false:=by
 cases k:ptB p q
 · rfl
 · exact absurd (ptB_iff.1 k) h
def mnorm (m:MQ):MQ:=mnormB m (gzero m.c)
def Nrm (m:MQ):Prop:=(bif gzero m.c then m.d else m.c)=⟨1,0⟩
theorem Nrm.id {m:MQ} (h:Nrm m):mnorm m=m:=by
 unfold Nrm at h
 unfold mnorm mnormB
 rw [h,gq_div_one,gq_div_one,gq_div_one,gq_div_one]
theorem Reg.nrm {m:MQ} (h:Reg m):Nrm (mnorm m):=by
 have h0:=h.by_ rfl
 unfold Nrm mnorm
 cases hc:gzero m.c with
 | false =>
  have hc':=gz_false.1 hc
  show (bif gzero (gdiv m.c m.c) then _ else gdiv m.c m.c)=_
  rw [gq_div_self hc',gz_false.2 gq_one_ne]
  rfl
 | true =>
  rw [hc] at h0
  have hd:m.d≠g0:=h0
  show (bif gzero (gdiv m.c m.d) then gdiv m.d m.d else _)=_
  have:gzero (gdiv m.c m.d)=true:=by
   rw [gz_true.1 hc,gz_true,gdiv_eq_iff hd]
   refine GQ.ext2 ?_ ?_<;>(simp only [gmul,g0]; grind)
  rw [this,gq_div_self hd]
  rfl
theorem Reg.mnorm {m:MQ} (h:Reg m):Reg (mnorm m):=h.norm (h.by_ rfl)
theorem Reg.b0 {m:MQ} (h:Reg m):gzero (bif gzero m.c then m.d else m.c)=false:=h.by0 rfl
theorem MSz.nrm {k:Nat} {m:MQ} (h:MSz k m) (hr:Reg m):MSz (dsz k) (Go.Proofs.YtbepimnlleilfaaGreat.mnorm m):=h.normB hr.b0
def mcmp (m n:MQ):MQ:=mnorm (mbeh m n)
def minv (m:MQ):MQ:=mnorm (minv0 m)
def mcha (p q r:Pt):MQ:=mnorm (mchart0 p q r)
def mid (t:Bool):MQ:=⟨gint 1 0,g0,g0,gint 1 0,t⟩
theorem Reg.cmp {m n:MQ} (h:Reg m) (k:Reg n):Reg (mcmp m n):=(h.beh k).mnorm
theorem Reg.id (t:Bool):Reg (mid t):=fun e=>by
 have:=congrArg GQ.re e
 simp only [mdet,mid,gint10,gsub,gmul,g0] at this
 exact absurd this (by grind)
theorem Nrm.cmp {m n:MQ} (h:Reg m) (k:Reg n):Nrm (mcmp m n):=(h.beh k).nrm
theorem Nrm.inv {m:MQ} (h:Reg m):Nrm (minv m):=(minv_reg h).nrm
def mof (p q r s u v:Pt) (t:Bool):MQ:=mcmp (minv (mcha s u v)) (mcmp (mid t) (mcha p q r))
end Go.Proofs.YtbepimnlleilfaaGreat
end
section
namespace Go.Proofs.YtbepimnlleilfaaGreat.Y
open Go Go.RowKit
set_option maxRecDepth 100000
def sSpotP (p:Pt) (h:FitP p):Spec Tryz.prog :=
 ⟨158,Tryz.call158,[.one (.a (lsX p.w.C))],[],.tup [.a (pL 0 p),.c (.b (.v (.bool true)))],pM p,fun β w hh=>by
  cases p with
  | inf=>exact (sSpot .inf).ok β w hh
  | fin z =>
   refine ((sSpot (.fin (.ok z.re h.1) (.ok z.im h.2))).ok β w hh).mono fun e w' ⟨xs,h1,he,h2,h3⟩=>⟨xs,h1,he,?_,h3⟩
   have h4:newHold w' [ratT z.re,ratT z.im] xs:=h2
   match xs,h4 with
   | [a,b],h4=>exact ⟨(ratT z.re).imp _ _ h4.1,(ratT z.im).imp _ _ h4.2.1,trivial⟩,by kernel_rfl⟩
def OpenNo (m:Mp) (t:Bool):Prop:=∀ (β:Env) (w:World),Calls Tryz.prog 144 (([.one (.a m.C)]:List SV).map (SV.den β)).toArray w fun e w'=>∃ xs:List Pl,freshS β w 0 xs∧e=.returned ((SV.tup [mB 0 t,.c (.b (.v (.bool false)))]).den (extE β 0 xs))∧newHold w' any8 xs∧Below w.heap.size w w'
def sOpenNo {m:Mp} {t:Bool} (h:OpenNo m t):Spec Tryz.prog :=
 ⟨144,Tryz.call144,[.one (.a m.C)],[],.tup [mB 0 t,.c (.b (.v (.bool false)))],any8,fun β w _=>h β w,by kernel_rfl⟩
theorem newHold8 {w:World} {t1 t2 t3 t4 t5 t6 t7 t8:Thing} {xs:List Pl} (h:newHold w [t1,t2,t3,t4,t5,t6,t7,t8] xs):newHold w any8 xs:=by
 match xs,h with
 | [a,b,c,d,e,f,g,i],h=>exact ⟨an_of t1.st h.1,an_of t2.st h.2.1,an_of t3.st h.2.2.1,an_of t4.st h.2.2.2.1,an_of t5.st h.2.2.2.2.1,an_of t6.st h.2.2.2.2.2.1,an_of t7.st h.2.2.2.2.2.2.1,an_of t8.st h.2.2.2.2.2.2.2.1,trivial⟩
def MayQ (q:MQ):Prop:=FitM q∧gzero (mdet q)=false∧(gzero (gsub q.c (gint 1 0))=true∨gzero q.c=true∧gzero (gsub q.d (gint 1 0))=true)
theorem fp_fit {a:Fr} (h:a.a.B=true):∃ x,∃ k:Fit x,rL a.r=lsX (Fp.C (.ok x k)):=by
 obtain ⟨r,a,e⟩:=a
 cases a with
 | ok x hx=>exact ⟨x,hx,e.symm⟩
 | no=>cases h
theorem open_all (m:Mp):(∃ q,MayQ q∧m.C=mCl q)∨∃ t,OpenNo m t:=by
 by_cases hn:((m.a.a.B&&m.a'.a.B)&&(m.b.a.B&&m.b'.a.B)&&(m.c.a.B&&m.c'.a.B)&&(m.d.a.B&&m.d'.a.B))=true
 · simp only [Bool.and_eq_true] at hn
   obtain ⟨⟨⟨⟨p1,p2⟩,p3,p4⟩,p5,p6⟩,p7,p8⟩:=hn
   obtain ⟨x1,h1,e1⟩:=fp_fit p1
   obtain ⟨x2,h2,e2⟩:=fp_fit p2
   obtain ⟨x3,h3,e3⟩:=fp_fit p3
   obtain ⟨x4,h4,e4⟩:=fp_fit p4
   obtain ⟨x5,h5,e5⟩:=fp_fit p5
   obtain ⟨x6,h6,e6⟩:=fp_fit p6
   obtain ⟨x7,h7,e7⟩:=fp_fit p7
   obtain ⟨x8,h8,e8⟩:=fp_fit p8
   obtain ⟨q,hq⟩:∃ q:MQ,q=⟨⟨x1,x2⟩,⟨x3,x4⟩,⟨x5,x6⟩,⟨x7,x8⟩,m.t⟩:=⟨_,rfl⟩
   have hf:FitM q:=by rw [hq]; exact ⟨⟨h1,h2⟩,⟨h3,h4⟩,⟨h5,h6⟩,h7,h8⟩
   have hC:m.C=mCl q:=by
    unfold Mp.C
    rw [e1,e2,e3,e4,e5,e6,e7,e8,hq]
    rfl
   cases hd:gzero (mdet q) with
   | true =>
    refine .inr ⟨false,fun β w=>?_⟩
    rw [hC]
    exact (sOpenDet hf hd).ok β w (fun k t h=>by simp [sOpenDet] at h)
   | false =>
    obtain ⟨r1,k1⟩:∃ r,gzero (gsub q.c (gint 1 0))=r:=⟨_,rfl⟩
    obtain ⟨r2,k2⟩:∃ r,gzero q.c=r:=⟨_,rfl⟩
    obtain ⟨r3,k3⟩:∃ r,gzero (gsub q.d (gint 1 0))=r:=⟨_,rfl⟩
    cases hr:mayR r1 r2 r3 with
    | true =>
     refine .inl ⟨q,⟨hf,hd,?_⟩,hC⟩
     rw [k1,k2,k3]
     cases r1<;>cases r2<;>cases r3<;>first | exact .inl rfl | exact .inr ⟨rfl,rfl⟩ | cases hr
    | false =>
     refine .inr ⟨q.t,fun β w=>?_⟩
     rw [hC]
     refine ((sOpenM hf hd k1 k2 k3).ok β w (fun k t h=>by simp [sOpenM] at h)).mono fun e w' ⟨xs,h1,he,h2,h3⟩=>⟨xs,h1,?_,newHold8 h2,h3⟩
     rw [he]
     show Ending.returned ((SV.tup [mA 0 q,.c (.b (.v (.bool (mayR r1 r2 r3))))]).den (extE β 0 xs))=_
     rw [hr]
     rfl
 · refine .inr ⟨false,fun β w=>?_⟩
   exact (sOpenNum m rfl rfl rfl rfl (Bool.eq_false_iff.2 hn)).ok β w (fun k t h=>by simp [sOpenNum] at h)
def sOpenYes {q:MQ} (h:MayQ q):Spec Tryz.prog :=
 ⟨144,Tryz.call144,[.one (.a (mCl q))],[],.tup [mA 0 q,.c (.b (.v (.bool true)))],mT q,fun β w hh=>by
  obtain ⟨hf,hd,hr⟩:=h
  have hk:mayR (gzero (gsub q.c (gint 1 0))) (gzero q.c) (gzero (gsub q.d (gint 1 0)))=true:=by
   unfold mayR
   rcases hr with h | ⟨h,k⟩
   · rw [h]; rfl
   · rw [h,k]; cases gzero (gsub q.c (gint 1 0))<;>rfl
  refine ((sOpenM hf hd rfl rfl rfl).ok β w hh).mono fun e w' ⟨xs,h1,he,h2,h3⟩=>⟨xs,h1,?_,h2,h3⟩
  rw [he]
  show Ending.returned ((SV.tup [mA 0 q,.c (.b (.v (.bool (mayR (gzero (gsub q.c (gint 1 0))) (gzero q.c) (gzero (gsub q.d (gint 1 0)))))))]).den (extE β 0 xs))=_
  rw [hk]
  rfl,by kernel_rfl⟩
end Go.Proofs.YtbepimnlleilfaaGreat.Y
end
section
namespace Go.Proofs.YtbepimnlleilfaaGreat
open Go.Proofs.YtbepimnlleilfaaGreat.Y
open Go Go.RowKit
set_option maxRecDepth 100000
def sR8unit:Y.Spec Tryz.prog:=Y.Spec.auto Tryz.call150 [] [] (svG (gint 1 0)) [] [(sR4Int 1 0).e] [] 400 Tryz.func150 hmA (by kernel_rfl) (fun β=>by kernel_rfl)
def sR8zero:Y.Spec Tryz.prog:=Y.Spec.auto Tryz.call151 [] [] (svG (gint 0 0)) [] [(sR4Int 0 0).e] [] 400 Tryz.func151 hmA (by kernel_rfl) (fun β=>by kernel_rfl)
def sR8One:Y.Spec Tryz.prog:=Y.Spec.auto Tryz.call154 [] [] (svM (mid false)) [] [sR8unit.e,sR8zero.e,sR8zero.e,sR8unit.e] [] 400 Tryz.func154 hmA (by kernel_rfl) (fun β=>by kernel_rfl)
abbrev KD:Nat:=1000000
abbrev KT:Nat:=125
def mmA {z w u v:GQ} (hz:GSz KD z) (hw:GSz KD w) (hu:GSz KD u) (hv:GSz KD v):List (Ev Tryz.prog) :=
 [(sR4Times (GSz.le hz) (GSz.le hw)).e,(sR4Times (GSz.le hu) (GSz.le hv)).e,(sR4Plus (hz.mul hw).le (hu.mul hv).le).e]
def sR8Compose {m n:MQ} (h:MSz KD m) (k:MSz KD n) (h0:Reg (mbeh m n)):Y.Spec Tryz.prog :=
 Y.Spec.auto Tryz.call155 [svM m,svM n] [] (svM (mcmp m n)) []
  ([(sR8turned n.a m.t).e,(sR8turned n.b m.t).e,(sR8turned n.c m.t).e,(sR8turned n.d m.t).e]++mmA h.a (mcj_sz (t:=m.t) k.a) h.b (mcj_sz (t:=m.t) k.c)++mmA h.a (mcj_sz (t:=m.t) k.b) h.b (mcj_sz (t:=m.t) k.d)++mmA h.c (mcj_sz (t:=m.t) k.a) h.d (mcj_sz (t:=m.t) k.c)++mmA h.c (mcj_sz (t:=m.t) k.b) h.d (mcj_sz (t:=m.t) k.d) ++
   [(sR8Normal (a:=(mbeh m n).a) (b:=(mbeh m n).b) (c:=(mbeh m n).c) (d:=(mbeh m n).d) (m.t != n.t) (h.beh k).le (f:=gzero (mbeh m n).c) rfl h0.b0).e]) [(1,24),(2,42)] 800 Tryz.func155 hmA (by kernel_rfl) (fun β=>by kernel_rfl)
def sR8Inv {m:MQ} (h:MSz KE m) (h0:Reg (minv0 m)):Y.Spec Tryz.prog:=(sR8Inverse h (f:=gzero (minv0 m).c) rfl h0.b0).as [svM m] (svM (minv m)) rfl rfl
abbrev P6 (p q r s u v:Pt) (k:Pt→Prop):Prop:=k p∧k q∧k r∧k s∧k u∧k v
section
variable {p q r s u v:Pt} (z:P6 p q r s u v (PSz KT)) (t:Bool)
theorem mid_sz (t:Bool) {k:Nat} (hk:1≤k:=by decide):MSz k (mid t):=by
 have h1:GSz k (gint 1 0):=(GSz.int (by decide) (by decide)).mono hk
 have h0:GSz k g0:=g0_sz hk
 exact ⟨h1,h0,h0,h1⟩
theorem mcha_sz {k:Nat} (hp:PSz k p) (hq:PSz k q) (hr:PSz k r) (hk:1≤k) (h0:Reg (mchart0 p q r)):MSz (dsz (csz k)) (mcha p q r):=(mchart0_sz hp hq hr hk).nrm h0
theorem minv_sz {k:Nat} {m:MQ} (h:MSz k m) (h0:Reg (minv0 m)):MSz (dsz k) (minv m):=(minv0_sz h).nrm h0
theorem mcmp_sz {i j:Nat} {m n:MQ} (h:MSz i m) (k:MSz j n) (h0:Reg (mbeh m n)):MSz (dsz (bsz i j)) (mcmp m n):=(h.beh k).nrm h0
structure Six (p q r s u v:Pt):Prop where
 a:p≠q
 b:q≠r
 c:r≠p
 d:s≠u
 e:u≠v
 f:v≠s
theorem Six.r1 (h:Six p q r s u v):Reg (mchart0 p q r):=Reg.chart h.a h.b (Ne.symm h.c)
theorem Six.r2 (h:Six p q r s u v):Reg (mchart0 s u v):=Reg.chart h.d h.e (Ne.symm h.f)
theorem Six.r3 (h:Six p q r s u v) (t:Bool):Reg (mbeh (mid t) (mcha p q r)):=(Reg.id t).beh h.r1.mnorm
theorem Six.r4 (h:Six p q r s u v):Reg (minv0 (mcha s u v)):=minv_reg h.r2.mnorm
theorem Six.r5 (h:Six p q r s u v) (t:Bool):Reg (mbeh (minv (mcha s u v)) (mcmp (mid t) (mcha p q r))):=h.r4.mnorm.beh (h.r3 t).mnorm
end
end Go.Proofs.YtbepimnlleilfaaGreat
end
section
namespace Go.Proofs.YtbepimnlleilfaaGreat.Y
open Go Go.RowKit
set_option maxRecDepth 100000
def eqEvPt {p q:Pt} {r:Bool} (h:ptB p q=r):Ev Tryz.prog:=eqEvP p.i q.i p.x p.y q.x q.y r h
def mob0:SC:=.a (lsX g0C++lsX g0C++lsX g0C++lsX g0C++[.b (.v (.bool false))])
theorem MayQ.reg {q:MQ} (h:MayQ q):Reg q:=gz_false.1 h.2.1
theorem sub_one {z:GQ} (h:gzero (gsub z (gint 1 0))=true):z=⟨1,0⟩:=by
 have:=gz_true.1 h
 have e1:=congrArg GQ.re this
 have e2:=congrArg GQ.im this
 simp only [gint10,gsub,g0] at e1 e2
 exact GQ.ext2 (by grind) (by grind)
theorem MayQ.nrm {q:MQ} (h:MayQ q):Nrm q:=by
 rcases h.2.2 with h1 | ⟨h1,h2⟩
 · unfold Nrm
   rw [sub_one h1,gz_false.2 gq_one_ne]
   rfl
 · unfold Nrm
   rw [h1,sub_one h2]
   rfl
def sBehR {m n:MQ} (h:MSz KE m) (k:MSz KE n) (h0:Reg (mbeh m n)):Spec Tryz.prog:=sBehind h k (b:=gzero (mbeh m n).c) rfl h0.b0
def sUndoR {m:MQ} (h:MSz KM m) (h0:Reg m):Spec Tryz.prog:=sUndo h (b:=gzero (minv0 m).c) rfl (minv_reg h0).b0
def sChaR {p q r:Pt} (hp:PSz KC p) (hq:PSz KC q) (hr:PSz KC r) (h0:Reg (mchart0 p q r)):Spec Tryz.prog:=sChart hp hq hr (b:=gzero (mchart0 p q r).c) rfl h0.b0
theorem nrm_b0 {m:MQ} (h:Nrm m):gzero (bif gzero m.c then m.d else m.c)=false:=by
 unfold Nrm at h
 rw [h]
 exact gz_false.2 gq_one_ne
noncomputable def sToldN {m:MQ} (h:MSz KM m) (h0:Nrm m):Spec Tryz.prog :=
 ⟨148,Tryz.call148,[mV 0 m],mM m,.tup [.a (lsX (maC m)),.c (.b (.v (.int .i64 (maK m))))],[],fun β w hh=>by
  have k:=(sToldM h (b:=gzero m.c) rfl (nrm_b0 h0)).ok β w hh
  rw [show (sToldM h (b:=gzero m.c) rfl (nrm_b0 h0)).res=.tup [.a (lsX (maC m)),.c (.b (.v (.int .i64 (maK m))))] from congrArg (fun m=>SV.tup [.a (lsX (maC m)),.c (.b (.v (.int .i64 (maK m))))]) h0.id] at k
  exact k,by kernel_rfl⟩
theorem send_sz {q:MQ} (h:MSz 1024 q) {p:Pt} (hp:PSz 1024 p) {b:Bool} (hb:gzero (msD q p)=b):PSz KB (msend q p b):=by
 cases b
 · exact (GSz.div (msN_sz h hp) (msD_sz h hp) hb).mono (by decide)
 · trivial
noncomputable def sAt {q:MQ} (h:MayQ q) {p:Pt} (hp:FitP p) {b:Bool} (hb:gzero (msD q p)=b):Spec Tryz.prog :=
 Spec.auto Tryz.call141 [.one (.a (mCl q)),.one (.a (lsX p.w.C))] [] (.tup [.a (lsX (paC (msend q p b))),.c (.b (.v (.int .i64 (paK (msend q p b)))))]) []
  [(sOpenYes h).e,(sSpotP p hp).e,(sSend ((fitM_sz h.1).mono (by decide)) (hp.sz.mono (by decide)) hb).e,(sToldP (msend q p b) (send_sz (fitM_sz h.1) hp.sz hb)).e] [] 800 Tryz.func141 hmA (by cases b<;>kernel_rfl) (fun β=>by cases b<;>kernel_rfl)
noncomputable def sInv {q:MQ} (h:MayQ q):Spec Tryz.prog :=
 Spec.auto Tryz.call41 [.one (.a (mCl q))] [] (.tup [.a (lsX (maC (minv q))),.c (.b (.v (.int .i64 (maK (minv q)))))]) []
  [(sOpenYes h).e,(sUndoR ((fitM_sz h.1).mono (by decide)) h.reg).e,(sToldN ((minv_sz (fitM_sz h.1) (minv_reg h.reg)).mono (by decide)) (Nrm.inv h.reg)).e] [] 800 Tryz.func41 hmA (by kernel_rfl) (fun β=>by kernel_rfl)
end Go.Proofs.YtbepimnlleilfaaGreat.Y
end
section
namespace Go.Proofs.YtbepimnlleilfaaGreat
theorem mag_1:mag 1=⟨#[1]⟩:=by unfold mag; rw [led_pos 1 (by decide),led_zero]; rfl
theorem mag_2:mag 2=⟨#[2]⟩:=by unfold mag; rw [led_pos 2 (by decide),led_zero]; rfl
theorem mag_0:mag 0=⟨#[]⟩:=by unfold mag; rw [led_zero]; rfl
theorem dig_1:dig 1=[1]:=by rw [dig_pos 1 (by decide),dig_zero]
theorem dig_2:dig 2=[2]:=by rw [dig_pos 2 (by decide),dig_zero]
end Go.Proofs.YtbepimnlleilfaaGreat
namespace Go.Proofs.YtbepimnlleilfaaGreat.Y
open Go Go.RowKit
set_option maxRecDepth 100000
def WR (xs:List Nat) (w:World) (g:Pl):Prop:=(∀ c,¬ g.F c)∧Words w (.slice (g.v 0) xs.length (g.c 0)) xs
theorem wr_stable (xs:List Nat):Stable (WR xs) :=
 ⟨fun w g ⟨h,_⟩ c hc=>(h c hc).elim,fun w w' g ⟨h,k⟩ hb=>⟨h,k.below hb⟩,fun w w' g b o m n ⟨h,k⟩ hs ht _=>⟨h,Words.touchN k hs ht⟩⟩
def wrT (xs:List Nat):Thing:=thing (WR xs) (wr_stable xs)
def wPl (A:Option Addr) (c:Nat):Pl:=⟨0,fun _=>A,fun _=>c,fun _=>False,fun _=>undef⟩
theorem words_ok {s:ByteArray} {n:Nat} {xs:List Nat} (hs:s=mag n) (hm:s.size≤4294967296) (hx:dig n=xs) (β:Env) (w:World) :
  Calls Tryz.prog 279 #[.string s] w fun e w'=>∃ ys:List Pl,freshS β w 0 ys∧e=.returned ((SV.one (.c (.b (.y 0 0 xs.length)))).den (extE β 0 ys))∧newHold w' [wrT xs] ys∧Below w.heap.size w w':=by
 refine (words_any s n hs hm).mono fun e w' ⟨A,c,he,h1,h2⟩=>⟨[wPl A c],fun x hx c hc=>?_,?_,⟨⟨fun _ h=>h,?_⟩,trivial⟩,h2⟩
 · rw [List.mem_singleton.1 hx] at hc; exact hc.elim
 · rw [he,hx]; rfl
 · rw [hx] at h1; exact h1
def sWords {s:ByteArray} {n:Nat} {xs:List Nat} (hs:s=mag n) (hm:s.size≤4294967296) (hx:dig n=xs) {l:Nat} (hl:xs.length=l):Spec Tryz.prog :=
 ⟨279,Tryz.call279,[.one (.c (.b (.v (.string s))))],[],.one (.c (.b (.y 0 0 l))),[wrT xs],fun β w _=>by rw [← hl]; exact words_ok hs hm hx β w,by kernel_rfl⟩
theorem small_ok {xs:List Nat} {d:Nat} (h1:xs.length≤17179869184) (hd0:0<d) (hd:d<4294967296) {ys:List Nat} (hq:dig (val xs/d)=ys) {r:Nat} (hr:val xs % d=r) (β:Env) (w:World) (hh:(wrT xs).D w (β 0)) :
  Calls Tryz.prog 378 #[.slice ((β 0).v 0) xs.length ((β 0).c 0),.int .u64 (d:Int)] w fun e w'=>∃ zs:List Pl,freshS β w 1 zs∧e=.returned ((SV.tup [.c (.b (.y 1 0 ys.length)),.c (.b (.v (.int .u64 (r:Int))))]).den (extE β 1 zs))∧newHold w' [wrT ys] zs∧Below w.heap.size w w':=by
 refine (small_any hh.2 h1 d hd0 hd).mono fun e w' ⟨v,he,h2,h3⟩=>?_
 rw [hq] at h2
 obtain ⟨A,c,rfl,hc⟩:=h2.shape
 refine ⟨[wPl A c],fun x hx c hc=>?_,?_,⟨⟨fun _ h=>h,h2⟩,trivial⟩,h3⟩
 · rw [List.mem_singleton.1 hx] at hc; exact hc.elim
 · rw [he,hr]; rfl
def sSmall {xs:List Nat} {d:Nat} (h1:xs.length≤17179869184) (hd0:0<d) (hd:d<4294967296) {ys:List Nat} (hq:dig (val xs/d)=ys) {r:Nat} (hr:val xs % d=r) {l m:Nat} (hl:xs.length=l) (hm:ys.length=m):Spec Tryz.prog :=
 ⟨378,Tryz.call378,[.one (.c (.b (.y 0 0 l))),.one (.c (.b (.v (.int .u64 (d:Int)))))],[wrT xs],.tup [.c (.b (.y 1 0 m)),.c (.b (.v (.int .u64 (r:Int))))],[wrT ys],fun β w hh=>by
  rw [← hl,← hm]; exact small_ok h1 hd0 hd hq hr β w (hh 0 _ rfl),by kernel_rfl⟩
theorem u8_some:(Tryz.prog.info? 5).isSome=true:=by kernel_rfl
noncomputable def appB:AppT Tryz.prog :=
 ⟨306,5,(Tryz.prog.info? 5).get u8_some,.int .u8 0,1,1,Tryz.underlying306,(Option.some_get u8_some).symm,by kernel_rfl,by kernel_rfl,by kernel_rfl,rfl,by decide,by decide⟩
abbrev tS (s:ByteArray):SV:=.one (.c (.b (.v (.string s))))
abbrev tW (b:Bool) (s:ByteArray):SV:=.one (.a [.b (.v (.bool b)),.b (.v (.string s))])
def smE1:Ev Tryz.prog:=(sSmall (xs:=[1]) (d:=1000000000) (by decide) (by decide) (by decide) (ys:=[]) (by rw [show val [1]/1000000000=0 by decide]; exact dig_zero) (r:=1) (by decide) (l:=1) rfl (m:=0) rfl).e
def smE2:Ev Tryz.prog:=(sSmall (xs:=[2]) (d:=1000000000) (by decide) (by decide) (by decide) (ys:=[]) (by rw [show val [2]/1000000000=0 by decide]; exact dig_zero) (r:=2) (by decide) (l:=1) rfl (m:=0) rfl).e
noncomputable def sTxtM1:Spec Tryz.prog:=Spec.auto Tryz.call351 [tW true ⟨#[1]⟩] [] (tS ⟨#[45,49]⟩) []
 [(sWords (s:=⟨#[1]⟩) (n:=1) mag_1.symm (by decide) dig_1 (l:=1) rfl).e,smE1,.app appB,.app appB] [] 3000 Tryz.func351 hmA (by kernel_rfl) (fun β=>by kernel_rfl)
noncomputable def sTxt2:Spec Tryz.prog:=Spec.auto Tryz.call351 [tW false ⟨#[2]⟩] [] (tS ⟨#[50]⟩) []
 [(sWords (s:=⟨#[2]⟩) (n:=2) mag_2.symm (by decide) dig_2 (l:=1) rfl).e,smE2,.app appB] [] 3000 Tryz.func351 hmA (by kernel_rfl) (fun β=>by kernel_rfl)
end Go.Proofs.YtbepimnlleilfaaGreat.Y
end
section
namespace Go.Proofs.YtbepimnlleilfaaGreat.Y
open Go Go.RowKit
set_option maxRecDepth 100000
noncomputable def sIsA {m n:MQ} (h:MSz KE m) (k:MSz KE n) (ht:m.t=false) (hu:n.t=false) (h0:gzero (gsub m.a n.a)=false):Spec Tryz.prog :=
 ⟨289,Tryz.call289,[mV 0 m,mV 8 n],mM m++mM n,.one (.c (.b (.v (.bool false)))),[],fun β w hh=>by
  obtain ⟨a,b,c,d,t⟩:=m
  obtain ⟨a',b',c',d',t'⟩:=n
  cases ht
  cases hu
  exact spec_auto (args:=[mV 0 ⟨a,b,c,d,false⟩,mV 8 ⟨a',b',c',d',false⟩]) (obs:=mM ⟨a,b,c,d,false⟩++mM ⟨a',b',c',d',false⟩) (evs:=[(sSame (z:=a) (w:=a') h.a k.a h0).e]) (Ns:=[]) (m:=400) Tryz.func289 hmA (fun β=>by kernel_rfl) (by kernel_rfl) β w hh,by kernel_rfl⟩
theorem still_sz {t:Bool}:MSz KE (mstill t):=⟨(GSz.int (by decide) (by decide)).mono (by decide),g0_sz (by decide),g0_sz (by decide),(GSz.int (by decide) (by decide)).mono (by decide)⟩
noncomputable def sOrder2 {m:MQ} (h:MSz 1024 m) (ht:m.t=false) (h0:gzero (gsub m.a (gint 1 0))=false) (h1:gzero (gmul (gadd m.a m.d) (gadd m.a m.d))=true):Spec Tryz.prog :=
 ⟨149,Tryz.call149,[mV 0 m],mM m,.one (.c (.b (.v (.int .i64 2)))),[],fun β w hh=>by
  obtain ⟨a,b,c,d,t⟩:=m
  cases ht
  have ha:GSz KE (gadd a d):=(h.a.add h.d).mono (by decide)
  exact spec_auto (args:=[mV 0 ⟨a,b,c,d,false⟩]) (obs:=mM ⟨a,b,c,d,false⟩) (evs:=[sStill.e,(sIsA (m:=⟨a,b,c,d,false⟩) (n:=mstill false) (h.mono (by decide)) still_sz rfl rfl h0).e,(sAdd (h.a.mono (by decide)) (h.d.mono (by decide))).e,mulE ha ha,(sZero (z:=gmul (gadd a d) (gadd a d)) h1).e]) (Ns:=[(1,4)]) (m:=800) Tryz.func149 hmA (fun β=>by kernel_rfl) (by kernel_rfl) β w hh,by kernel_rfl⟩
noncomputable def sOrd2 {m:MQ} (h:MayQ m) (ht:m.t=false) (h0:gzero (gsub m.a (gint 1 0))=false) (h1:gzero (gmul (gadd m.a m.d) (gadd m.a m.d))=true):Spec Tryz.prog :=
 Spec.auto Tryz.call28 [.one (.a (mCl m))] [] (.tup [.c (.b (.v (.int .i64 2))),.c (.b (.v (.int .i64 0)))]) []
  [(sOpenYes h).e,(sOrder2 (fitM_sz h.1) ht h0 h1).e] [] 800 Tryz.func28 hmA (by kernel_rfl) (fun β=>by kernel_rfl)
abbrev tF (b:Bool) (s t:ByteArray):SV:=.one (.a [.b (.v (.bool b)),.b (.v (.string s)),.b (.v (.bool false)),.b (.v (.string t))])
theorem whole1:wholeV 1=.agg #[.bool false,.string ⟨#[1]⟩]:=by unfold wholeV; rw [show (1:Int).natAbs=1 from rfl,mag_1]; rfl
def yWOf1:Ev Tryz.prog:=.ret 108 Tryz.call108 #[.int .i64 1] (.agg #[.bool false,.string ⟨#[1]⟩]) (fun w=>by rw [← whole1]; exact rof_any (by decide))
noncomputable def sTxtH:Spec Tryz.prog:=Spec.auto Tryz.call283 [tF true ⟨#[1]⟩ ⟨#[2]⟩] [] (tS ⟨#[45,49,47,50]⟩) []
 [yWOf1,eqEvW false false ⟨#[2]⟩ ⟨#[1]⟩ false (by decide +kernel),sTxtM1.e,sTxt2.e] [(1,4),(3,9)] 800 Tryz.func283 hmA (by kernel_rfl) (fun β=>by kernel_rfl)
abbrev svN0 (k:Int):SV:=.one (.c (.b (.v (.int .i64 k))))
def sSgM:Spec Tryz.prog:=Spec.auto Tryz.call255 [tW true ⟨#[1]⟩] [] (svN0 (-1)) [] [] [] 400 Tryz.func255 hmA (by kernel_rfl) (fun β=>by kernel_rfl)
def sSg0:Spec Tryz.prog:=Spec.auto Tryz.call255 [tW false ⟨#[]⟩] [] (svN0 0) [] [] [] 400 Tryz.func255 hmA (by kernel_rfl) (fun β=>by kernel_rfl)
def sSg3M:Spec Tryz.prog:=Spec.auto Tryz.call114 [tF true ⟨#[1]⟩ ⟨#[2]⟩] [] (svN0 (-1)) [] [sSgM.e] [] 400 Tryz.func114 hmA (by kernel_rfl) (fun β=>by kernel_rfl)
def sSg30:Spec Tryz.prog:=Spec.auto Tryz.call114 [tF false ⟨#[]⟩ ⟨#[1]⟩] [] (svN0 0) [] [sSg0.e] [] 400 Tryz.func114 hmA (by kernel_rfl) (fun β=>by kernel_rfl)
noncomputable def sRealNo:Spec Tryz.prog:=Spec.auto Tryz.call244 [.one (.a [.b (.v (.bool false)),.b (.v (.string ⟨#[]⟩)),.b (.v (.bool false)),.b (.v (.string ⟨#[1]⟩)),.b (.v (.bool true)),.b (.v (.string ⟨#[1]⟩)),.b (.v (.bool false)),.b (.v (.string ⟨#[2]⟩))])] [] (.one (.c (.b (.v (.bool false))))) []
 [sSg3M.e] [] 400 Tryz.func244 hmA (by kernel_rfl) (fun β=>by kernel_rfl)
noncomputable def sTxtG:Spec Tryz.prog:=Spec.auto Tryz.call143 [.one (.a [.b (.v (.bool false)),.b (.v (.string ⟨#[]⟩)),.b (.v (.bool false)),.b (.v (.string ⟨#[1]⟩)),.b (.v (.bool true)),.b (.v (.string ⟨#[1]⟩)),.b (.v (.bool false)),.b (.v (.string ⟨#[2]⟩))])] [] (tS ⟨#[45,49,47,50,105]⟩) []
 [sTxtH.e,sRealNo.e,sSg30.e] [] 800 Tryz.func143 hmA (by kernel_rfl) (fun β=>by kernel_rfl)
theorem num_some:(Tryz.prog.info? 183).isSome=true:=by kernel_rfl
noncomputable def appN:AppT Tryz.prog :=
 ⟨319,183,(Tryz.prog.info? 183).get num_some,.agg #[.pointer none,.pointer none],2,16,Tryz.underlying319,(Option.some_get num_some).symm,by kernel_rfl,by kernel_rfl,by kernel_rfl,rfl,by decide,by decide⟩
structure Gp where
 a:Fr
 b:Fr
def Gp.B (g:Gp):Bool:=g.a.a.B&&g.b.a.B
abbrev tB' (t:Bool):SV:=.one (.c (.b (.v (.bool t))))
abbrev nI' (k:Int):SC:=.c (.b (.v (.int .i64 k)))
abbrev gS (z:GQ):SV:=.one (.a (lsX (gC z)))
noncomputable def mkOkE {m:MQ} (h:FitM m):List (Ev Tryz.prog):=[ofE h.1,.app appN,ofE h.2.1,.app appN,ofE h.2.2.1,.app appN,ofE h.2.2.2,.app appN,(sDet ((fitM_sz h).mono (by decide))).e]
noncomputable def sToldR {m:MQ} (h:MSz KM m) (h0:Reg m):Spec Tryz.prog:=sToldM h (b:=gzero m.c) rfl h0.b0
noncomputable def sMake {m:MQ} (h:FitM m) (h0:gzero (mdet m)=false):Spec Tryz.prog :=
 Spec.auto Tryz.call140 [gS m.a,gS m.b,gS m.c,gS m.d,tB' m.t] [] (.tup [.a (lsX (maC (mnorm m))),nI' (maK (mnorm m))]) []
  (mkOkE h++[(sZero h0).e,(sToldR ((fitM_sz h).mono (by decide)) (gz_false.1 h0)).e]) [(10,15)] 1200 Tryz.func140 hmA (by kernel_rfl) (fun β=>by kernel_rfl)
end Go.Proofs.YtbepimnlleilfaaGreat.Y
end
section
namespace Go.Proofs.YtbepimnlleilfaaGreat
open Go.Proofs.YtbepimnlleilfaaGreat.Y
def gnat (n:Nat):GQ:=⟨((n:Int):Rat),0⟩
def gpow (z:GQ):Nat→GQ
 | 0=>gnat 1
 | n+1=>gmul (gpow z n) z
instance gqRing:Lean.Grind.CommRing GQ where
 add:=gadd
 mul:=gmul
 natCast:=⟨gnat⟩
 ofNat:=fun n=>⟨gnat n⟩
 nsmul:=⟨fun n z=>gmul (gnat n) z⟩
 npow:=⟨gpow⟩
 neg:=gneg
 sub:=gsub
 intCast:=⟨fun i=>⟨(i:Rat),0⟩⟩
 zsmul:=⟨fun i z=>gmul ⟨(i:Rat),0⟩ z⟩
 add_zero a:=by refine GQ.ext2 ?_ ?_<;>(show _+_=_; first | exact Rat.add_zero _)
 add_comm a b:=GQ.ext2 (Rat.add_comm _ _) (Rat.add_comm _ _)
 add_assoc a b c:=GQ.ext2 (Rat.add_assoc _ _ _) (Rat.add_assoc _ _ _)
 mul_assoc a b c:=by
  refine GQ.ext2 ?_ ?_
  · show (gmul (gmul a b) c).re=(gmul a (gmul b c)).re; simp only [gmul]; grind
  · show (gmul (gmul a b) c).im=(gmul a (gmul b c)).im; simp only [gmul]; grind
 mul_one a:=by
  refine GQ.ext2 ?_ ?_
  · show a.re*((1:Nat):Int)-a.im*0=a.re; grind
  · show a.re*0+a.im*((1:Nat):Int)=a.im; grind
 left_distrib a b c:=by
  refine GQ.ext2 ?_ ?_
  · show (gmul a (gadd b c)).re=(gadd (gmul a b) (gmul a c)).re; simp only [gmul,gadd]; grind
  · show (gmul a (gadd b c)).im=(gadd (gmul a b) (gmul a c)).im; simp only [gmul,gadd]; grind
 zero_mul a:=by
  refine GQ.ext2 ?_ ?_
  · show ((0:Nat):Int)*a.re-0*a.im=((0:Nat):Int); grind
  · show ((0:Nat):Int)*a.im+0*a.re=0; grind
 mul_comm a b:=by
  refine GQ.ext2 ?_ ?_
  · show (gmul a b).re=(gmul b a).re; simp only [gmul]; grind
  · show (gmul a b).im=(gmul b a).im; simp only [gmul]; grind
 one_mul a:=by
  refine GQ.ext2 ?_ ?_
  · show ((1:Nat):Int)*a.re-0*a.im=a.re; grind
  · show ((1:Nat):Int)*a.im+0*a.re=a.im; grind
 right_distrib a b c:=by
  refine GQ.ext2 ?_ ?_
  · show (gmul (gadd a b) c).re=(gadd (gmul a c) (gmul b c)).re; simp only [gmul,gadd]; grind
  · show (gmul (gadd a b) c).im=(gadd (gmul a c) (gmul b c)).im; simp only [gmul,gadd]; grind
 mul_zero a:=by
  refine GQ.ext2 ?_ ?_
  · show a.re*((0:Nat):Int)-a.im*0=((0:Nat):Int); grind
  · show a.re*0+a.im*((0:Nat):Int)=0; grind
 pow_zero a:=rfl
 pow_succ a n:=rfl
 ofNat_succ n:=by
  refine GQ.ext2 ?_ ?_
  · show (((n+1:Nat):Int):Rat)=((n:Int):Rat)+((1:Nat):Int); simp [Rat.intCast_add]
  · show (0:Rat)=0+0; rw [Rat.add_zero]
 neg_add_cancel a:=by
  refine GQ.ext2 ?_ ?_
  · show -a.re+a.re=((0:Nat):Int); grind
  · show -a.im+a.im=0; grind
 sub_eq_add_neg a b:=GQ.ext2 (Rat.sub_eq_add_neg _ _) (Rat.sub_eq_add_neg _ _)
 neg_zsmul i a:=by
  refine GQ.ext2 ?_ ?_
  · show ((-i:Int):Rat)*a.re-0*a.im = -((i:Rat)*a.re-0*a.im); rw [Rat.intCast_neg]; grind
  · show ((-i:Int):Rat)*a.im+0*a.re = -((i:Rat)*a.im+0*a.re); rw [Rat.intCast_neg]; grind
 intCast_neg i:=by
  refine GQ.ext2 ?_ ?_
  · show ((-i:Int):Rat) = -(i:Rat); exact Rat.intCast_neg i
  · show (0:Rat) = -0; rfl
theorem gsub_def (z w:GQ):gsub z w=z-w:=rfl
theorem g0_def:g0=0:=GQ.ext2 rfl rfl
theorem g1_def:gint 1 0=1:=gint10.trans (GQ.ext2 rfl rfl)
theorem mcj_mul (t:Bool) (z w:GQ):mcj t (z*w)=mcj t z*mcj t w:=by
 cases t
 · rfl
 · show gconj (gmul z w)=gmul (gconj z) (gconj w)
   refine GQ.ext2 ?_ ?_<;>(simp only [gconj,gmul]; grind)
theorem mcj_ne (t:Bool) {z:GQ} (h:z≠0):mcj t z≠0:=by
 cases t
 · exact h
 · rw [← g0_def] at h ⊢; exact gconj_ne h
theorem mul0 {z w:GQ} (h:z*w=0):z=0∨w=0:=by
 rw [← g0_def] at h ⊢; exact gmul_zero h
theorem mulne {z w:GQ} (h:z≠0) (k:w≠0):z*w≠0:=fun e=>(mul0 e).elim h k
theorem mulc {z w u:GQ} (h:u≠0) (e:u*z=u*w):z=w:=by
 have:u*(z-w)=0:=by grind
 rcases mul0 this with k | k
 · exact absurd k h
 · grind
theorem gz0 {z:GQ}:gzero z=true↔z=0:=by rw [gz_true,g0_def]
theorem gz_eq {z w:GQ} (h:z=0↔w=0):gzero z=gzero w:=by
 rw [Bool.eq_iff_iff,gz0,gz0]; exact h
theorem gdv_eq {z w u:GQ} (h:w≠0):gdiv z w=u↔z=u*w:=gdiv_eq_iff (fun e=>h (e.trans g0_def))
def Cg (q a b:Int):Prop:=∃ k,a=b+q*k
theorem Cg.rfl' {q:Int} (a:Int):Cg q a a:=⟨0,by grind⟩
theorem Cg.add {q a b c d:Int}:Cg q a b→Cg q c d→Cg q (a+c) (b+d):=fun ⟨k,h⟩ ⟨l,g⟩=>⟨k+l,by rw [h,g]; grind⟩
theorem Cg.sub {q a b c d:Int}:Cg q a b→Cg q c d→Cg q (a-c) (b-d):=fun ⟨k,h⟩ ⟨l,g⟩=>⟨k-l,by rw [h,g]; grind⟩
theorem Cg.mul {q a b c d:Int}:Cg q a b→Cg q c d→Cg q (a*c) (b*d):=fun ⟨k,h⟩ ⟨l,g⟩=>⟨b*l+k*d+q*k*l,by rw [h,g]; grind⟩
theorem Cg.mod (q a:Int):Cg q a (a % q):=⟨a/q,(Int.emod_add_mul_ediv a q).symm⟩
theorem Cg.zero {q a:Int} (h:Cg q 0 a):a % q=0:=by
 obtain ⟨k,h⟩:=h
 have:a=q*(-k):=by grind
 rw [this]
 exact Int.mul_emod_right _ _
abbrev ZZ:=Int × Int
abbrev zzM (x y:ZZ):ZZ:=(x.1*y.1-x.2*y.2,x.1*y.2+x.2*y.1)
abbrev zzS (k:Int) (x:ZZ):ZZ:=(k*x.1,k*x.2)
abbrev zzA (x y:ZZ):ZZ:=(x.1+y.1,x.2+y.2)
def CgZ (q:Int) (x y:ZZ):Prop:=Cg q x.1 y.1∧Cg q x.2 y.2
theorem CgZ.mul {q:Int} {x y z w:ZZ} (h:CgZ q x y) (k:CgZ q z w):CgZ q (zzM x z) (zzM y w):=⟨(h.1.mul k.1).sub (h.2.mul k.2),(h.1.mul k.2).add (h.2.mul k.1)⟩
theorem CgZ.scale {q a b:Int} {x y:ZZ} (h:Cg q a b) (k:CgZ q x y):CgZ q (zzS a x) (zzS b y):=⟨h.mul k.1,h.mul k.2⟩
theorem CgZ.add {q:Int} {x y z w:ZZ} (h:CgZ q x y) (k:CgZ q z w):CgZ q (zzA x z) (zzA y w):=⟨h.1.add k.1,h.2.add k.2⟩
def frm:List Int→ZZ→Int→ZZ × Int
 | [],_,_=>((0,0),1)
 | c::r,x,w=>(zzA (zzM (frm r x w).1 x) (zzS (c*(frm r x w).2) (1,0)),(frm r x w).2*w)
theorem frm_cg {q:Int} {x y:ZZ} {w v:Int} (h:CgZ q x y) (k:Cg q w v):∀ l,CgZ q (frm l x w).1 (frm l y v).1∧Cg q (frm l x w).2 (frm l y v).2
 | []=>⟨⟨Cg.rfl' _,Cg.rfl' _⟩,Cg.rfl' _⟩
 | c::r=>⟨CgZ.add ((frm_cg h k r).1.mul h) (CgZ.scale ((Cg.rfl' _).mul (frm_cg h k r).2) ⟨Cg.rfl' _,Cg.rfl' _⟩),(frm_cg h k r).2.mul k⟩
theorem frm_len (q:Int) (x:ZZ) (w:Int):∀ l,(frm l (zzS q x) (q*w)).2=q^l.length*(frm l x w).2∧q*(frm l (zzS q x) (q*w)).1.1=q^l.length*(frm l x w).1.1∧q*(frm l (zzS q x) (q*w)).1.2=q^l.length*(frm l x w).1.2
 | []=>⟨by simp [frm],by simp [frm],by simp [frm]⟩
 | c::r=>by
  obtain ⟨h1,h2,h3⟩:=frm_len q x w r
  simp only [frm,List.length_cons,Int.pow_succ]
  generalize q^r.length=Q at *
  generalize frm r x w=A at *
  generalize frm r (zzS q x) (q*w)=B at *
  obtain ⟨⟨a1,a2⟩,a3⟩:=A
  obtain ⟨⟨b1,b2⟩,b3⟩:=B
  obtain ⟨x1,x2⟩:=x
  dsimp only at *
  refine ⟨?_,?_,?_⟩
  · rw [h1]; grind
  · have e:q*(b1*(q*x1)-b2*(q*x2)+c*b3*1)=(q*b1)*(q*x1)-(q*b2)*(q*x2)+q*c*b3:=by grind
    rw [e,h1,h2,h3]; grind
  · have e:q*(b1*(q*x2)+b2*(q*x1)+c*b3*0)=(q*b1)*(q*x2)+(q*b2)*(q*x1):=by grind
    rw [e,h2,h3]; grind
theorem frm_desc {q:Int} (hq:1<q) (l:List Int) (hz:∀ a b c:Int,0≤a→a<q→0≤b→b<q→0≤c→c<q→(frm l (a,b) c).1.1 % q=0→(frm l (a,b) c).1.2 % q=0→c=0∧a=0∧b=0) :
  ∀ (N:Nat) (x:ZZ) (w:Int),w.natAbs≤N→(frm l x w).1=(0,0)→w=0:=by
 intro N
 induction N with
 | zero=>intro x w hw _; omega
 | succ N ih =>
  intro x w hw h
  have q0:q≠0:=by omega
  obtain ⟨x1,x2⟩:=x
  have hc:=(frm_cg (q:=q) (x:=(x1,x2)) (y:=(x1 % q,x2 % q)) (w:=w) (v:=w % q) ⟨Cg.mod _ _,Cg.mod _ _⟩ (Cg.mod _ _) l).1
  rw [h] at hc
  obtain ⟨e1,e2,e3⟩:=hz (x1 % q) (x2 % q) (w % q) (Int.emod_nonneg _ q0) (Int.emod_lt_of_pos _ (by omega)) (Int.emod_nonneg _ q0) (Int.emod_lt_of_pos _ (by omega)) (Int.emod_nonneg _ q0) (Int.emod_lt_of_pos _ (by omega)) hc.1.zero hc.2.zero
  obtain ⟨w',rfl⟩:=Int.dvd_of_emod_eq_zero e1
  obtain ⟨u,rfl⟩:=Int.dvd_of_emod_eq_zero e2
  obtain ⟨v,rfl⟩:=Int.dvd_of_emod_eq_zero e3
  have hl:=frm_len q (u,v) w' l
  have hp:q^l.length≠0:=Int.pow_ne_zero q0
  have h':frm l (zzS q (u,v)) (q*w')=frm l (q*u,q*v) (q*w'):=rfl
  rw [h',h] at hl
  have k1:(frm l (u,v) w').1.1=0:=by
   have:=hl.2.1
   dsimp only at this
   rw [Int.mul_zero] at this
   rcases Int.mul_eq_zero.1 this.symm with k | k
   · exact absurd k hp
   · exact k
  have k2:(frm l (u,v) w').1.2=0:=by
   have:=hl.2.2
   dsimp only at this
   rw [Int.mul_zero] at this
   rcases Int.mul_eq_zero.1 this.symm with k | k
   · exact absurd k hp
   · exact k
  by_cases hw0:w'=0
  · rw [hw0,Int.mul_zero]
  · have hlt:w'.natAbs≤N:=by
     have h3:0<w'.natAbs:=by omega
     have h2:q.natAbs*w'.natAbs≤N+1:=by rw [← Int.natAbs_mul]; exact hw
     have h4:2≤q.natAbs:=by omega
     have h5:2*w'.natAbs≤q.natAbs*w'.natAbs:=Nat.mul_le_mul_right _ h4
     omega
    exact absurd (ih (u,v) w' hlt (Prod.ext k1 k2)) hw0
def frm7:List Int:=[-1,6,-5,1]
def frm9:List Int:=[-1,9,-6,1]
def frm11:List Int:=[-1,15,-35,28,-9,1]
theorem fin_int {q:Nat} {P:Int→Prop} (h:∀ a:Fin q,P (a.val:Int)) (a:Int) (h0:0≤a) (h1:a<q):P a:=by
 have:=h ⟨a.toNat,by omega⟩
 rwa [show ((a.toNat:Nat):Int)=a by omega] at this
theorem frm7_no {x:ZZ} {w:Int} (h:(frm frm7 x w).1=(0,0)):w=0 :=
 frm_desc (q:=3) (by decide) frm7 (fun a b c a0 a1 b0 b1 c0 c1=>fin_int (q:=3) (P:=fun a=>(frm frm7 (a,b) c).1.1 % 3=0→(frm frm7 (a,b) c).1.2 % 3=0→c=0∧a=0∧b=0) (fun a=>fin_int (q:=3) (P:=fun b=>(frm frm7 (a,b) c).1.1 % 3=0→(frm frm7 (a,b) c).1.2 % 3=0→c=0∧(a:Int)=0∧b=0) (fun b=>fin_int (q:=3) (P:=fun c=>(frm frm7 (a,b) c).1.1 % 3=0→(frm frm7 (a,b) c).1.2 % 3=0→c=0∧(a:Int)=0∧(b:Int)=0) (by revert a b; decide +kernel) c c0 c1) b b0 b1) a a0 a1) _ x w (Nat.le_refl _) h
theorem frm11_no {x:ZZ} {w:Int} (h:(frm frm11 x w).1=(0,0)):w=0 :=
 frm_desc (q:=3) (by decide) frm11 (fun a b c a0 a1 b0 b1 c0 c1=>fin_int (q:=3) (P:=fun a=>(frm frm11 (a,b) c).1.1 % 3=0→(frm frm11 (a,b) c).1.2 % 3=0→c=0∧a=0∧b=0) (fun a=>fin_int (q:=3) (P:=fun b=>(frm frm11 (a,b) c).1.1 % 3=0→(frm frm11 (a,b) c).1.2 % 3=0→c=0∧(a:Int)=0∧b=0) (fun b=>fin_int (q:=3) (P:=fun c=>(frm frm11 (a,b) c).1.1 % 3=0→(frm frm11 (a,b) c).1.2 % 3=0→c=0∧(a:Int)=0∧(b:Int)=0) (by revert a b; decide +kernel) c c0 c1) b b0 b1) a a0 a1) _ x w (Nat.le_refl _) h
theorem frm9_no {x:ZZ} {w:Int} (h:(frm frm9 x w).1=(0,0)):w=0 :=
 frm_desc (q:=7) (by decide) frm9 (fun a b c a0 a1 b0 b1 c0 c1=>fin_int (q:=7) (P:=fun a=>(frm frm9 (a,b) c).1.1 % 7=0→(frm frm9 (a,b) c).1.2 % 7=0→c=0∧a=0∧b=0) (fun a=>fin_int (q:=7) (P:=fun b=>(frm frm9 (a,b) c).1.1 % 7=0→(frm frm9 (a,b) c).1.2 % 7=0→c=0∧(a:Int)=0∧b=0) (fun b=>fin_int (q:=7) (P:=fun c=>(frm frm9 (a,b) c).1.1 % 7=0→(frm frm9 (a,b) c).1.2 % 7=0→c=0∧(a:Int)=0∧(b:Int)=0) (by revert a b; decide +kernel) c c0 c1) b b0 b1) a a0 a1) _ x w (Nat.le_refl _) h
def frq:List Int→GQ→GQ
 | [],_=>0
 | c::r,s=>frq r s*s+⟨(c:Rat),0⟩
theorem frq_int (s:GQ) (x:ZZ) (w:Int) (h1:s.re*(w:Rat)=(x.1:Int)) (h2:s.im*(w:Rat)=(x.2:Int)):∀ l,((frm l x w).2:Rat)*(frq l s).re=((frm l x w).1.1:Int)*(w:Rat)∧((frm l x w).2:Rat)*(frq l s).im=((frm l x w).1.2:Int)*(w:Rat)
 | []=>⟨by show ((1:Int):Rat)*((0:GQ).re)=((0:Int):Rat)*_; rw [show (0:GQ).re=0 from rfl]; grind,by show ((1:Int):Rat)*((0:GQ).im)=((0:Int):Rat)*_; rw [show (0:GQ).im=0 from rfl]; grind⟩
 | c::r=>by
  obtain ⟨k1,k2⟩:=frq_int s x w h1 h2 r
  have e1:(frq (c::r) s).re=(frq r s).re*s.re-(frq r s).im*s.im+c:=rfl
  have e2:(frq (c::r) s).im=(frq r s).re*s.im+(frq r s).im*s.re+0:=rfl
  rw [e1,e2]
  simp only [frm]
  generalize frm r x w=A at *
  obtain ⟨⟨a1,a2⟩,a3⟩:=A
  generalize frq r s=S at *
  obtain ⟨x1,x2⟩:=x
  dsimp only at *
  simp only [Rat.intCast_mul,Rat.intCast_add,Rat.intCast_sub,Rat.intCast_one,Rat.intCast_zero] at *
  generalize ((a1:Int):Rat)=A1 at *
  generalize ((a2:Int):Rat)=A2 at *
  generalize ((a3:Int):Rat)=A3 at *
  generalize ((x1:Int):Rat)=X1 at *
  generalize ((x2:Int):Rat)=X2 at *
  generalize ((w:Int):Rat)=W at *
  constructor
  · have:A3*W*(S.re*s.re-S.im*s.im+(c:Rat))=(A3*S.re)*(s.re*W)-(A3*S.im)*(s.im*W)+A3*W*c:=by grind
    rw [this,k1,k2,h1,h2]; grind
  · have:A3*W*(S.re*s.im+S.im*s.re+0)=(A3*S.re)*(s.im*W)+(A3*S.im)*(s.re*W):=by grind
    rw [this,k1,k2,h1,h2]; grind
theorem rat_nd (x:Rat):x*((x.den:Int):Rat)=(x.num:Rat):=by
 have e:Rat.divInt x.num x.den=x:=Rat.mkRat_self x
 have h:=Rat.divInt_eq_div x.num (x.den:Int)
 rw [e] at h
 have hd:((x.den:Int):Rat)≠0:=fun e=>by
  have h0:(x.den:Int)=0:=by exact_mod_cast e
  exact x.den_nz (by omega)
 have hi:=Rat.mul_inv_cancel _ hd
 have h2:x*((x.den:Int):Rat)=((x.num:Rat)/((x.den:Int):Rat))*((x.den:Int):Rat):=by rw [← h]
 rw [h2,Rat.div_def]
 grind
theorem gq_whole (s:GQ):∃ (x:ZZ) (w:Int),w≠0∧s.re*(w:Rat)=(x.1:Int)∧s.im*(w:Rat)=(x.2:Int):=by
 have hr:=rat_nd s.re
 have hi:=rat_nd s.im
 refine ⟨(s.re.num*s.im.den,s.im.num*s.re.den),s.re.den*s.im.den,?_,?_,?_⟩
 · exact Int.mul_ne_zero (by have:=s.re.den_nz; omega) (by have:=s.im.den_nz; omega)
 · simp only [Rat.intCast_mul]
   rw [← hr]; grind
 · simp only [Rat.intCast_mul]
   rw [← hi]; grind
theorem frq_no {l:List Int} (h:∀ {x:ZZ} {w:Int},(frm l x w).1=(0,0)→w=0) (s:GQ):frq l s≠0:=fun e=>by
 obtain ⟨x,w,w0,h1,h2⟩:=gq_whole s
 obtain ⟨k1,k2⟩:=frq_int s x w h1 h2 l
 have w0':(w:Rat)≠0:=fun e=>w0 (by exact_mod_cast e)
 rw [e] at k1 k2
 have z1:(((frm l x w).1.1:Int):Rat)=0:=by
  have:(((frm l x w).1.1:Int):Rat)*(w:Rat)=0:=by rw [← k1,show (0:GQ).re=0 from rfl]; grind
  rcases Rat.mul_eq_zero.1 this with k | k
  · exact k
  · exact absurd k w0'
 have z2:(((frm l x w).1.2:Int):Rat)=0:=by
  have:(((frm l x w).1.2:Int):Rat)*(w:Rat)=0:=by rw [← k2,show (0:GQ).im=0 from rfl]; grind
  rcases Rat.mul_eq_zero.1 this with k | k
  · exact k
  · exact absurd k w0'
 exact w0 (h (Prod.ext (by exact_mod_cast z1) (by exact_mod_cast z2)))
theorem g1_ne:(1:GQ)≠0:=fun e=>by have:=congrArg GQ.re (g1_def.trans e); exact absurd this (by decide)
theorem MQ.ext2 {m n:MQ} (h1:m.a=n.a) (h2:m.b=n.b) (h3:m.c=n.c) (h4:m.d=n.d) (h5:m.t=n.t):m=n:=by
 obtain ⟨a,b,c,d,t⟩:=m
 obtain ⟨a',b',c',d',t'⟩:=n
 dsimp only at *
 rw [h1,h2,h3,h4,h5]
def Mli (m n:MQ):Prop:=∃ z:GQ,z≠0∧m.a=z*n.a∧m.b=z*n.b∧m.c=z*n.c∧m.d=z*n.d∧m.t=n.t
theorem Mli.rf (m:MQ):Mli m m:=⟨1,g1_ne,by grind,by grind,by grind,by grind,rfl⟩
theorem Mli.tr {m n o:MQ}:Mli m n→Mli n o→Mli m o:=fun ⟨z,h,h1,h2,h3,h4,h5⟩ ⟨y,g,g1,g2,g3,g4,g5⟩ =>
 ⟨z*y,mulne h g,by rw [h1,g1]; grind,by rw [h2,g2]; grind,by rw [h3,g3]; grind,by rw [h4,g4]; grind,h5.trans g5⟩
theorem gdv_mul {z w:GQ} (h:w≠0):gdiv z w*w=z:=gdiv_mul fun e=>h (e.trans g0_def)
theorem Mli.sy {m n:MQ}:Mli m n→Mli n m:=fun ⟨z,h,h1,h2,h3,h4,h5⟩=>by
 have e:gdiv 1 z*z=1:=gdv_mul h
 have hn:gdiv 1 z≠0:=fun k=>by rw [k] at e; exact g1_ne (by grind)
 exact ⟨gdiv 1 z,hn,by rw [h1]; grind,by rw [h2]; grind,by rw [h3]; grind,by rw [h4]; grind,h5.symm⟩
theorem Mli.norm {m:MQ} (h:Reg m):Mli m (mnorm m):=by
 have h0:=h.by_ rfl
 have h0:(bif gzero m.c then m.d else m.c)≠0:=fun e=>h0 (e.trans g0_def.symm)
 refine ⟨_,h0,?_,?_,?_,?_,rfl⟩
 all_goals
  show _=_*gdiv _ _
  generalize (bif gzero m.c then m.d else m.c)=u at *
  have:=fun z=>gdv_mul (z:=z) h0
  grind
theorem Mli.det {m n:MQ}:Mli m n→Reg n→Reg m:=fun ⟨z,h,h1,h2,h3,h4,h5⟩ hr e=>by
 refine hr ?_
 have:z*z*mdet n=0:=by
  have e:mdet m=0:=e.trans g0_def
  have e1:mdet m=m.a*m.d-m.b*m.c:=rfl
  have e2:mdet n=n.a*n.d-n.b*n.c:=rfl
  rw [e1,h1,h2,h3,h4] at e
  rw [e2,← e]; grind
 rw [g0_def]
 exact (mul0 this).resolve_left (mulne h h)
theorem gdv_li {x y z:GQ} (hz:z≠0) (hy:y≠0):gdiv (z*x) (z*y)=gdiv x y:=by
 refine (gdv_eq (mulne hz hy)).2 ?_
 have:=gdv_mul (z:=x) hy
 grind
theorem Mli.eq {m n:MQ} (hr:Reg n):Mli m n→mnorm m=mnorm n:=fun ⟨z,h,h1,h2,h3,h4,h5⟩=>by
 have h0:=hr.by_ rfl
 have h0:(bif gzero n.c then n.d else n.c)≠0:=fun e=>h0 (e.trans g0_def.symm)
 have hg:gzero m.c=gzero n.c:=gz_eq (by rw [h3]; exact ⟨fun e=>(mul0 e).resolve_left h,fun e=>by rw [e]; grind⟩)
 have hb:(bif gzero n.c then m.d else m.c)=z*(bif gzero n.c then n.d else n.c):=by
  cases gzero n.c
  · exact h3
  · exact h4
 unfold mnorm mnormB
 rw [hg,hb,h1,h2,h3,h4,h5,gdv_li h h0,gdv_li h h0,gdv_li h h0,gdv_li h h0]
theorem beh_a (m n:MQ):(mbeh m n).a=m.a*mcj m.t n.a+m.b*mcj m.t n.c:=rfl
theorem beh_b (m n:MQ):(mbeh m n).b=m.a*mcj m.t n.b+m.b*mcj m.t n.d:=rfl
theorem beh_c (m n:MQ):(mbeh m n).c=m.c*mcj m.t n.a+m.d*mcj m.t n.c:=rfl
theorem beh_d (m n:MQ):(mbeh m n).d=m.c*mcj m.t n.b+m.d*mcj m.t n.d:=rfl
theorem beh_t (m n:MQ):(mbeh m n).t=(m.t != n.t):=rfl
theorem Mli.beh {m m' n n':MQ}:Mli m m'→Mli n n'→Mli (mbeh m n) (mbeh m' n'):=fun ⟨z,h,h1,h2,h3,h4,h5⟩ ⟨y,g,g1,g2,g3,g4,g5⟩=>by
 refine ⟨z*mcj m'.t y,mulne h (mcj_ne _ g),?_,?_,?_,?_,?_⟩
 · rw [beh_a,beh_a,h1,h2,h5,g1,g3,mcj_mul,mcj_mul]; grind
 · rw [beh_b,beh_b,h1,h2,h5,g2,g4,mcj_mul,mcj_mul]; grind
 · rw [beh_c,beh_c,h3,h4,h5,g1,g3,mcj_mul,mcj_mul]; grind
 · rw [beh_d,beh_d,h3,h4,h5,g2,g4,mcj_mul,mcj_mul]; grind
 · rw [beh_t,beh_t,h5,g5]
theorem mcj_add (t:Bool) (z w:GQ):mcj t (z+w)=mcj t z+mcj t w:=by
 cases t
 · rfl
 · show gconj (gadd z w)=gadd (gconj z) (gconj w)
   refine GQ.ext2 ?_ ?_<;>(simp only [gconj,gadd]; try grind)
theorem mcj_mcj (s t:Bool) (z:GQ):mcj s (mcj t z)=mcj (s != t) z:=by
 cases s<;>cases t
 · rfl
 · rfl
 · rfl
 · show gconj (gconj z)=z
   refine GQ.ext2 rfl ?_
   show - -z.im=z.im
   grind
theorem beh_assoc (m n o:MQ):mbeh (mbeh m n) o=mbeh m (mbeh n o):=by
 refine MQ.ext2 ?_ ?_ ?_ ?_ ?_
 · rw [beh_a,beh_a,beh_a,beh_b,beh_a,beh_c,beh_t,mcj_add,mcj_add,mcj_mul,mcj_mul,mcj_mul,mcj_mul,mcj_mcj,mcj_mcj]; grind
 · rw [beh_b,beh_b,beh_a,beh_b,beh_b,beh_d,beh_t,mcj_add,mcj_add,mcj_mul,mcj_mul,mcj_mul,mcj_mul,mcj_mcj,mcj_mcj]; grind
 · rw [beh_c,beh_c,beh_c,beh_d,beh_a,beh_c,beh_t,mcj_add,mcj_add,mcj_mul,mcj_mul,mcj_mul,mcj_mul,mcj_mcj,mcj_mcj]; grind
 · rw [beh_d,beh_d,beh_c,beh_d,beh_b,beh_d,beh_t,mcj_add,mcj_add,mcj_mul,mcj_mul,mcj_mul,mcj_mul,mcj_mcj,mcj_mcj]; grind
 · show ((m.t != n.t) != o.t)=(m.t != (n.t != o.t))
   cases m.t<;>cases n.t<;>cases o.t<;>rfl
def mpw (m:MQ):Nat→MQ
 | 0=>mid false
 | k+1=>mcmp m (mpw m k)
def mrw (m:MQ):Nat→MQ
 | 0=>mid false
 | k+1=>mbeh m (mrw m k)
theorem mrw_reg {m:MQ} (h:Reg m):∀ k,Reg (mrw m k)
 | 0=>Reg.id false
 | k+1=>h.beh (mrw_reg h k)
theorem mpw_li {m:MQ} (h:Reg m):∀ k,Mli (mpw m k) (mrw m k)
 | 0=>Mli.rf _
 | k+1=>(Mli.norm (h.beh ((mpw_li h k).det (mrw_reg h k)))).sy.tr ((Mli.rf m).beh (mpw_li h k))
theorem mpw_reg {m:MQ} (h:Reg m) (k:Nat):Reg (mpw m k):=(mpw_li h k).det (mrw_reg h k)
theorem mpw_nrm {m:MQ} (h:Reg m):∀ k,Nrm (mpw m k)
 | 0=>by unfold Nrm mpw mid; rfl
 | k+1=>(h.beh (mpw_reg h k)).nrm
theorem mpw_eq {m:MQ} (h:Reg m) (k:Nat):mpw m k=mnorm (mrw m k):=by
 rw [← (mpw_nrm h k).id]
 exact (mpw_li h k).eq (mrw_reg h k)
def Scl (m:MQ):Prop:=m.b=0∧m.c=0∧m.a=m.d∧m.t=false
theorem scl_norm {m:MQ} (h:Reg m):mnorm m=mid false↔Scl m:=by
 have hl:=Mli.norm h
 constructor
 · intro e
   rw [e] at hl
   obtain ⟨z,h0,h1,h2,h3,h4,h5⟩:=hl
   have m1:(mid false).a=1:=g1_def
   have m2:(mid false).b=0:=g0_def
   have m3:(mid false).c=0:=g0_def
   have m4:(mid false).d=1:=g1_def
   rw [m1] at h1; rw [m2] at h2; rw [m3] at h3; rw [m4] at h4
   exact ⟨by rw [h2]; grind,by rw [h3]; grind,by rw [h1,h4],h5⟩
 · rintro ⟨h2,h3,h4,h5⟩
   have h0:m.d≠0:=fun e=>h (by
    have:mdet m=m.a*m.d-m.b*m.c:=rfl
    rw [this,h2,h3,e,g0_def]; grind)
   have hl2:Mli m (mid false):=⟨m.d,h0,by rw [show (mid false).a=1 from g1_def,h4]; grind,by rw [show (mid false).b=0 from g0_def,h2]; grind,by rw [show (mid false).c=0 from g0_def,h3]; grind,by rw [show (mid false).d=1 from g1_def]; grind,h5⟩
   rw [hl2.eq (Reg.id false)]
   exact Nrm.id (by unfold Nrm mid; rfl)
theorem mpw_scl {m:MQ} (h:Reg m) (k:Nat):mpw m k=mid false↔Scl (mrw m k):=by
 rw [mpw_eq h k]
 exact scl_norm (mrw_reg h k)
section
variable (m:MQ) (ht:m.t=false)
def mtr:GQ:=m.a+m.d
def mU:Nat→GQ
 | 0=>0
 | 1=>1
 | k+2=>mtr m*mU (k+1)-mdet m*mU k
theorem mdet_e:mdet m=m.a*m.d-m.b*m.c:=rfl
include ht in
theorem mrw_t:∀ k,(mrw m k).t=false
 | 0=>rfl
 | k+1=>by
  show (m.t != (mrw m k).t)=false
  rw [ht,mrw_t k]
  rfl
include ht in
theorem mrw_U:∀ k,(mrw m (k+1)).a=mU m (k+1)*m.a-mdet m*mU m k∧(mrw m (k+1)).b=mU m (k+1)*m.b∧(mrw m (k+1)).c=mU m (k+1)*m.c∧(mrw m (k+1)).d=mU m (k+1)*m.d-mdet m*mU m k
 | 0=>by
  have e:mrw m 1=mbeh m (mid false):=rfl
  have m1:(mid false).a=1:=g1_def
  have m2:(mid false).b=0:=g0_def
  have m3:(mid false).c=0:=g0_def
  have m4:(mid false).d=1:=g1_def
  have hc:∀ z,mcj m.t z=z:=fun z=>by rw [ht]; rfl
  have u1:mU m 1=1:=rfl
  have u0:mU m 0=0:=rfl
  rw [e,beh_a,beh_b,beh_c,beh_d,m1,m2,m3,m4,hc,hc,u1,u0]
  exact ⟨by grind,by grind,by grind,by grind⟩
 | k+1=>by
  obtain ⟨h1,h2,h3,h4⟩:=mrw_U k
  have e:mrw m (k+1+1)=mbeh m (mrw m (k+1)):=rfl
  have hc:∀ z,mcj m.t z=z:=fun z=>by rw [ht]; rfl
  have u2:mU m (k+1+1)=mtr m*mU m (k+1)-mdet m*mU m k:=rfl
  rw [e,beh_a,beh_b,beh_c,beh_d,hc,hc,hc,hc,h1,h2,h3,h4,u2,mdet_e,mtr]
  generalize mU m (k+1)=x
  generalize mU m k=y
  exact ⟨by grind,by grind,by grind,by grind⟩
include ht in
theorem mrw_scl (k:Nat):Scl (mrw m (k+1))↔Scl m∨mU m (k+1)=0:=by
 obtain ⟨h1,h2,h3,h4⟩:=mrw_U m ht k
 unfold Scl
 rw [h1,h2,h3,h4,mrw_t m ht]
 constructor
 · rintro ⟨k1,k2,k3,_⟩
   by_cases h:mU m (k+1)=0
   · exact .inr h
   · refine .inl ⟨(mul0 k1).resolve_left h,(mul0 k2).resolve_left h,?_,ht⟩
     exact mulc h (by grind)
 · rintro (⟨k1,k2,k3,_⟩ | h)
   · rw [k1,k2,k3]; exact ⟨by grind,by grind,rfl,rfl⟩
   · rw [h]; exact ⟨by grind,by grind,by grind,rfl⟩
end
theorem mU_2 (m:MQ):mU m 2=mtr m:=by
 have:mU m 2=mtr m*1-mdet m*0:=rfl
 rw [this]; grind
theorem mU_3 (m:MQ):mU m 3=mtr m*mtr m-mdet m:=by
 have:mU m 3=mtr m*mU m 2-mdet m*1:=rfl
 rw [this,mU_2]; grind
theorem mU_4 (m:MQ):mU m 4=mtr m*(mtr m*mtr m-(mdet m+mdet m)):=by
 have:mU m 4=mtr m*mU m 3-mdet m*mU m 2:=rfl
 rw [this,mU_2,mU_3]; grind
theorem mU_5 (m:MQ):mU m 5=(mtr m*mtr m)*(mtr m*mtr m)-3*(mtr m*mtr m)*mdet m+mdet m*mdet m:=by
 have:mU m 5=mtr m*mU m 4-mdet m*mU m 3:=rfl
 rw [this,mU_3,mU_4]; grind
theorem mU_6 (m:MQ):mU m 6=mtr m*((mtr m*mtr m-mdet m)*(mtr m*mtr m-3*mdet m)):=by
 have:mU m 6=mtr m*mU m 5-mdet m*mU m 4:=rfl
 rw [this,mU_4,mU_5]; grind
theorem mU_7 (m:MQ):mU m 7=(mtr m*mtr m)*(mtr m*mtr m)*(mtr m*mtr m)-5*((mtr m*mtr m)*(mtr m*mtr m))*mdet m+6*(mtr m*mtr m)*(mdet m*mdet m)-mdet m*mdet m*mdet m:=by
 have:mU m 7=mtr m*mU m 6-mdet m*mU m 5:=rfl
 rw [this,mU_5,mU_6]; grind
theorem mU_8 (m:MQ):mU m 8=mtr m*((mtr m*mtr m-2*mdet m)*((mtr m*mtr m)*(mtr m*mtr m)-4*(mtr m*mtr m)*mdet m+2*(mdet m*mdet m))):=by
 have:mU m 8=mtr m*mU m 7-mdet m*mU m 6:=rfl
 rw [this,mU_6,mU_7]; grind
theorem mU_9 (m:MQ):mU m 9=(mtr m*mtr m-mdet m)*((mtr m*mtr m)*(mtr m*mtr m)*(mtr m*mtr m)-6*((mtr m*mtr m)*(mtr m*mtr m))*mdet m+9*(mtr m*mtr m)*(mdet m*mdet m)-mdet m*mdet m*mdet m):=by
 have:mU m 9=mtr m*mU m 8-mdet m*mU m 7:=rfl
 rw [this,mU_7,mU_8]; grind
theorem mU_10 (m:MQ):mU m 10=mtr m*(((mtr m*mtr m)*(mtr m*mtr m)-3*(mtr m*mtr m)*mdet m+mdet m*mdet m)*((mtr m*mtr m)*(mtr m*mtr m)-5*(mtr m*mtr m)*mdet m+5*(mdet m*mdet m))):=by
 have:mU m 10=mtr m*mU m 9-mdet m*mU m 8:=rfl
 rw [this,mU_8,mU_9]; grind
theorem mU_11 (m:MQ):mU m 11=(mtr m*mtr m)*(mtr m*mtr m)*(mtr m*mtr m)*(mtr m*mtr m)*(mtr m*mtr m)-9*((mtr m*mtr m)*(mtr m*mtr m)*(mtr m*mtr m)*(mtr m*mtr m))*mdet m+28*((mtr m*mtr m)*(mtr m*mtr m)*(mtr m*mtr m))*(mdet m*mdet m)-35*((mtr m*mtr m)*(mtr m*mtr m))*(mdet m*mdet m*mdet m)+15*(mtr m*mtr m)*(mdet m*mdet m*mdet m*mdet m)-mdet m*mdet m*mdet m*mdet m*mdet m:=by
 have:mU m 11=mtr m*mU m 10-mdet m*mU m 9:=rfl
 rw [this,mU_9,mU_10]; grind
theorem mU_12 (m:MQ):mU m 12=mtr m*((mtr m*mtr m-mdet m)*((mtr m*mtr m-2*mdet m)*((mtr m*mtr m-3*mdet m)*((mtr m*mtr m)*(mtr m*mtr m)-4*(mtr m*mtr m)*mdet m+mdet m*mdet m)))):=by
 have:mU m 12=mtr m*mU m 11-mdet m*mU m 10:=rfl
 rw [this,mU_10,mU_11]; grind
theorem pw_sq {p:Nat} (hp:1<p) (hd:∀ a,p ∣ a*a→p ∣ a):∀ (N a b:Nat),b≤N→a*a=p*(b*b)→b=0
 | 0,a,b,hb,_=>by omega
 | N+1,a,b,hb,h=>by
  obtain ⟨a',rfl⟩:=hd a ⟨_,h⟩
  have h1:p*(a'*a')=b*b:=by
   have:p*(p*(a'*a'))=p*(b*b):=by rw [← h]; grind
   exact Nat.eq_of_mul_eq_mul_left (by omega) this
  obtain ⟨b',rfl⟩:=hd b ⟨_,h1.symm⟩
  by_cases hb0:b'=0
  · rw [hb0,Nat.mul_zero]
  · have h2:a'*a'=p*(b'*b'):=by
     have:p*(a'*a')=p*(p*(b'*b')):=by rw [h1]; grind
     exact Nat.eq_of_mul_eq_mul_left (by omega) this
    have h3:2*b'≤p*b':=Nat.mul_le_mul_right _ hp
    exact absurd (pw_sq hp hd N a' b' (by omega) h2) hb0
theorem dv2 (a:Nat) (h:2 ∣ a*a):2 ∣ a:=by
 have h1:(a % 2)*(a % 2) % 2=0:=by rw [← Nat.mul_mod]; omega
 have h2:a % 2<2:=Nat.mod_lt _ (by decide)
 have:a % 2=0:=by
  revert h1 h2
  generalize a % 2=x
  intro h1 h2
  match x,h2 with
  | 0,_=>rfl
  | 1,_=>exact absurd h1 (by decide)
 omega
theorem dv3 (a:Nat) (h:3 ∣ a*a):3 ∣ a:=by
 have h1:(a % 3)*(a % 3) % 3=0:=by rw [← Nat.mul_mod]; omega
 have h2:a % 3<3:=Nat.mod_lt _ (by decide)
 have:a % 3=0:=by
  revert h1 h2
  generalize a % 3=x
  intro h1 h2
  match x,h2 with
  | 0,_=>rfl
  | 1,_=>exact absurd h1 (by decide)
  | 2,_=>exact absurd h1 (by decide)
 omega
theorem dv5 (a:Nat) (h:5 ∣ a*a):5 ∣ a:=by
 have h1:(a % 5)*(a % 5) % 5=0:=by rw [← Nat.mul_mod]; omega
 have h2:a % 5<5:=Nat.mod_lt _ (by decide)
 have:a % 5=0:=by
  revert h1 h2
  generalize a % 5=x
  intro h1 h2
  match x,h2 with
  | 0,_=>rfl
  | 1,_=>exact absurd h1 (by decide)
  | 2,_=>exact absurd h1 (by decide)
  | 3,_=>exact absurd h1 (by decide)
  | 4,_=>exact absurd h1 (by decide)
 omega
theorem rat_sq {p:Nat} (hp:1<p) (hd:∀ a,p ∣ a*a→p ∣ a) (r:Rat):r*r≠((p:Int):Rat):=fun h=>by
 have h1:=rat_nd r
 have h2:((r.num*r.num:Int):Rat)=(((p:Int)*(r.den*r.den):Int):Rat):=by
  simp only [Rat.intCast_mul] at *
  rw [← h1,← h]; grind
 have h3:r.num*r.num=(p:Int)*(r.den*r.den):=by exact_mod_cast h2
 have h4:r.num.natAbs*r.num.natAbs=p*(r.den*r.den):=by
  have:=congrArg Int.natAbs h3
  rw [Int.natAbs_mul,Int.natAbs_mul,Int.natAbs_mul] at this
  simpa using this
 exact r.den_nz (pw_sq hp hd _ _ _ (Nat.le_refl _) h4)
theorem gq_sq {p:Nat} (hp:1<p) (hd:∀ a,p ∣ a*a→p ∣ a) (s:GQ):s*s≠⟨((p:Int):Rat),0⟩:=fun h=>by
 have h1:s.re*s.re-s.im*s.im=((p:Int):Rat):=congrArg GQ.re h
 have h2:s.re*s.im+s.im*s.re=0:=congrArg GQ.im h
 have h3:s.re*s.im=0:=by grind
 rcases Rat.mul_eq_zero.1 h3 with k | k
 · rw [k] at h1
   have h4:(0:Rat)≤s.im*s.im:=by
    rcases (Rat.le_total:(0:Rat)≤s.im∨s.im≤0) with h | h
    · exact Rat.mul_nonneg h h
    · have:=Rat.mul_nonneg (a:=-s.im) (b:=-s.im) (by grind) (by grind)
      grind
   have h5:(0:Rat)<((p:Int):Rat):=by
    have:(0:Int)<(p:Int):=by omega
    exact_mod_cast this
   grind
 · rw [k] at h1
   exact rat_sq hp hd s.re (by rw [← h1]; grind)
theorem gq_form {p:Nat} (hp:1<p) (hd:∀ a,p ∣ a*a→p ∣ a) {u y:GQ} (hy:y≠0) (h:u*u=⟨((p:Int):Rat),0⟩*(y*y)):False:=by
 have e:=gdv_mul (z:=u) hy
 refine gq_sq hp hd (gdiv u y) (mulc (u:=y*y) (mulne hy hy) ?_)
 have:y*y*(gdiv u y*gdiv u y)=u*u:=by
  have:y*y*(gdiv u y*gdiv u y)=(gdiv u y*y)*(gdiv u y*y):=by grind
  rw [this,e]
 rw [this,h]; grind
theorem fr_p (n:Nat):(⟨((n:Int):Rat),0⟩:GQ)=gnat n:=rfl
theorem fr_m (n:Nat):(⟨((-(n:Int):Int):Rat),0⟩:GQ) = -(gnat n):=GQ.ext2 (Rat.intCast_neg _) (by show (0:Rat) = -0; rfl)
section
variable {x y:GQ} (hy:y≠0)
theorem gn2:(2:GQ)=⟨((2:Nat):Int),0⟩:=rfl
theorem gn3:(3:GQ)=⟨((3:Nat):Int),0⟩:=rfl
theorem gn5:(5:GQ)=⟨((5:Nat):Int),0⟩:=rfl
include hy
theorem no5:x*x-3*x*y+y*y≠0:=fun h=>by
 refine gq_form (p:=5) (by decide) dv5 (u:=2*x-3*y) hy ?_
 rw [← gn5]
 have:(2*x-3*y)*(2*x-3*y)=4*(x*x-3*x*y+y*y)+5*(y*y):=by grind
 rw [this,h]; grind
theorem no8:x*x-4*x*y+2*(y*y)≠0:=fun h=>by
 refine gq_form (p:=2) (by decide) dv2 (u:=x-2*y) hy ?_
 rw [← gn2]
 have:(x-2*y)*(x-2*y)=(x*x-4*x*y+2*(y*y))+2*(y*y):=by grind
 rw [this,h]; grind
theorem no10:x*x-5*x*y+5*(y*y)≠0:=fun h=>by
 refine gq_form (p:=5) (by decide) dv5 (u:=2*x-5*y) hy ?_
 rw [← gn5]
 have:(2*x-5*y)*(2*x-5*y)=4*(x*x-5*x*y+5*(y*y))+5*(y*y):=by grind
 rw [this,h]; grind
theorem no12:x*x-4*x*y+y*y≠0:=fun h=>by
 refine gq_form (p:=3) (by decide) dv3 (u:=x-2*y) hy ?_
 rw [← gn3]
 have:(x-2*y)*(x-2*y)=(x*x-4*x*y+y*y)+3*(y*y):=by grind
 rw [this,h]; grind
theorem no7:x*x*x-5*(x*x)*y+6*x*(y*y)-y*y*y≠0:=fun h=>by
 have e:=gdv_mul (z:=x) hy
 refine frq_no (l:=frm7) frm7_no (gdiv x y) (mulc (u:=y*y*y) (mulne (mulne hy hy) hy) ?_)
 generalize gdiv x y=s at *
 have hf:frq frm7 s=s*s*s-5*(s*s)+6*s-1:=by
  have e0:(⟨((1:Int):Rat),0⟩:GQ)=gnat 1:=fr_p 1
  have e1:(⟨((-5:Int):Rat),0⟩:GQ) = -(gnat 5):=fr_m 5
  have e2:(⟨((6:Int):Rat),0⟩:GQ)=gnat 6:=fr_p 6
  have e3:(⟨((-1:Int):Rat),0⟩:GQ) = -(gnat 1):=fr_m 1
  show (((((0:GQ)*s+⟨((1:Int):Rat),0⟩)*s+⟨((-5:Int):Rat),0⟩)*s+⟨((6:Int):Rat),0⟩)*s+⟨((-1:Int):Rat),0⟩)=_
  rw [e0,e1,e2,e3]
  have g1:gnat 1=(1:GQ):=rfl; have g5:gnat 5=(5:GQ):=rfl; have g6:gnat 6=(6:GQ):=rfl
  rw [g1,g5,g6]
  grind
 rw [hf]
 have:y*y*y*(s*s*s-5*(s*s)+6*s-1)=(s*y)*(s*y)*(s*y)-5*((s*y)*(s*y))*y+6*(s*y)*(y*y)-y*y*y:=by grind
 rw [this,e,h]; grind
theorem no9:x*x*x-6*(x*x)*y+9*x*(y*y)-y*y*y≠0:=fun h=>by
 have e:=gdv_mul (z:=x) hy
 refine frq_no (l:=frm9) frm9_no (gdiv x y) (mulc (u:=y*y*y) (mulne (mulne hy hy) hy) ?_)
 generalize gdiv x y=s at *
 have hf:frq frm9 s=s*s*s-6*(s*s)+9*s-1:=by
  have e0:(⟨((1:Int):Rat),0⟩:GQ)=gnat 1:=fr_p 1
  have e1:(⟨((-6:Int):Rat),0⟩:GQ) = -(gnat 6):=fr_m 6
  have e2:(⟨((9:Int):Rat),0⟩:GQ)=gnat 9:=fr_p 9
  have e3:(⟨((-1:Int):Rat),0⟩:GQ) = -(gnat 1):=fr_m 1
  show (((((0:GQ)*s+⟨((1:Int):Rat),0⟩)*s+⟨((-6:Int):Rat),0⟩)*s+⟨((9:Int):Rat),0⟩)*s+⟨((-1:Int):Rat),0⟩)=_
  rw [e0,e1,e2,e3]
  have g1:gnat 1=(1:GQ):=rfl; have g6:gnat 6=(6:GQ):=rfl; have g9:gnat 9=(9:GQ):=rfl
  rw [g1,g6,g9]
  grind
 rw [hf]
 have:y*y*y*(s*s*s-6*(s*s)+9*s-1)=(s*y)*(s*y)*(s*y)-6*((s*y)*(s*y))*y+9*(s*y)*(y*y)-y*y*y:=by grind
 rw [this,e,h]; grind
theorem no11:x*x*x*x*x-9*(x*x*x*x)*y+28*(x*x*x)*(y*y)-35*(x*x)*(y*y*y)+15*x*(y*y*y*y)-y*y*y*y*y≠0:=fun h=>by
 have e:=gdv_mul (z:=x) hy
 refine frq_no (l:=frm11) frm11_no (gdiv x y) (mulc (u:=y*y*y*y*y) (mulne (mulne (mulne (mulne hy hy) hy) hy) hy) ?_)
 generalize gdiv x y=s at *
 have hf:frq frm11 s=s*s*s*s*s-9*(s*s*s*s)+28*(s*s*s)-35*(s*s)+15*s-1:=by
  have e0:(⟨((1:Int):Rat),0⟩:GQ)=gnat 1:=fr_p 1
  have e1:(⟨((-9:Int):Rat),0⟩:GQ) = -(gnat 9):=fr_m 9
  have e2:(⟨((28:Int):Rat),0⟩:GQ)=gnat 28:=fr_p 28
  have e3:(⟨((-35:Int):Rat),0⟩:GQ) = -(gnat 35):=fr_m 35
  have e4:(⟨((15:Int):Rat),0⟩:GQ)=gnat 15:=fr_p 15
  have e5:(⟨((-1:Int):Rat),0⟩:GQ) = -(gnat 1):=fr_m 1
  show (((((((0:GQ)*s+⟨((1:Int):Rat),0⟩)*s+⟨((-9:Int):Rat),0⟩)*s+⟨((28:Int):Rat),0⟩)*s+⟨((-35:Int):Rat),0⟩)*s+⟨((15:Int):Rat),0⟩)*s+⟨((-1:Int):Rat),0⟩)=_
  rw [e0,e1,e2,e3,e4,e5]
  have g1:gnat 1=(1:GQ):=rfl; have g9:gnat 9=(9:GQ):=rfl; have g15:gnat 15=(15:GQ):=rfl; have g28:gnat 28=(28:GQ):=rfl; have g35:gnat 35=(35:GQ):=rfl
  rw [g1,g9,g15,g28,g35]
  grind
 rw [hf]
 have:y*y*y*y*y*(s*s*s*s*s-9*(s*s*s*s)+28*(s*s*s)-35*(s*s)+15*s-1)=(s*y)*(s*y)*(s*y)*(s*y)*(s*y)-9*((s*y)*(s*y)*(s*y)*(s*y))*y+28*((s*y)*(s*y)*(s*y))*(y*y)-35*((s*y)*(s*y))*(y*y*y)+15*(s*y)*(y*y*y*y)-y*y*y*y*y:=by grind
 rw [this,e,h]; grind
end
def oR (m:MQ):Nat→GQ
 | 0=>mtr m*mtr m
 | k+1=>oR m k-mdet m
structure OrdIs (m:MQ) (r:Nat):Prop where
 one:r=1↔Scl m
 two:r=2→oR m 0=0
 three:r=3→oR m 0≠0∧oR m 1=0
 four:r=4→oR m 0≠0∧oR m 1≠0∧oR m 2=0
 six:r=6→oR m 0≠0∧oR m 1≠0∧oR m 2≠0∧oR m 3=0
 none:r=0→oR m 0≠0∧oR m 1≠0∧oR m 2≠0∧oR m 3≠0
 all:r=0∨r=1∨r=2∨r=3∨r=4∨r=6
theorem OrdIs.ex (m:MQ):∃ r,OrdIs m r:=by
 by_cases h1:Scl m
 · exact ⟨1,⟨fun _=>h1,fun _=>rfl⟩,(fun h=>by cases h),(fun h=>by cases h),(fun h=>by cases h),(fun h=>by cases h),(fun h=>by cases h),by decide⟩
 by_cases h2:oR m 0=0
 · exact ⟨2,⟨(fun h=>by cases h),fun h=>absurd h h1⟩,fun _=>h2,(fun h=>by cases h),(fun h=>by cases h),(fun h=>by cases h),(fun h=>by cases h),by decide⟩
 by_cases h3:oR m 1=0
 · exact ⟨3,⟨(fun h=>by cases h),fun h=>absurd h h1⟩,(fun h=>by cases h),fun _=>⟨h2,h3⟩,(fun h=>by cases h),(fun h=>by cases h),(fun h=>by cases h),by decide⟩
 by_cases h4:oR m 2=0
 · exact ⟨4,⟨(fun h=>by cases h),fun h=>absurd h h1⟩,(fun h=>by cases h),(fun h=>by cases h),fun _=>⟨h2,h3,h4⟩,(fun h=>by cases h),(fun h=>by cases h),by decide⟩
 by_cases h6:oR m 3=0
 · exact ⟨6,⟨(fun h=>by cases h),fun h=>absurd h h1⟩,(fun h=>by cases h),(fun h=>by cases h),(fun h=>by cases h),fun _=>⟨h2,h3,h4,h6⟩,(fun h=>by cases h),by decide⟩
 · exact ⟨0,⟨(fun h=>by cases h),fun h=>absurd h h1⟩,(fun h=>by cases h),(fun h=>by cases h),(fun h=>by cases h),(fun h=>by cases h),fun _=>⟨h2,h3,h4,h6⟩,by decide⟩
def FirstP (m:MQ) (r:Nat):Prop:=(r=0∧∀ k,1≤k→k≤12→mpw m k≠mid false)∨(1≤r∧r≤12∧mpw m r=mid false∧∀ k,1≤k→k<r→mpw m k≠mid false)
theorem uz {m:MQ} (h:Reg m) (k:Nat) (hk:1≤k) (h12:k≤12) (h2:oR m 0≠0) :
  (mU m 2≠0)∧(oR m 1≠0→mU m 3≠0∧mU m 9≠0)∧(oR m 2≠0→mU m 4≠0∧mU m 8≠0)∧(oR m 1≠0→oR m 3≠0→mU m 6≠0)∧(oR m 1≠0→oR m 2≠0→oR m 3≠0→mU m 12≠0)∧mU m 10≠0:=by
 have hd:mdet m≠0:=fun e=>h (e.trans g0_def.symm)
 have ht:mtr m≠0:=fun e=>h2 (by show mtr m*mtr m=0; rw [e]; grind)
 have e1:mtr m*mtr m-mdet m=oR m 1:=rfl
 have e2:mtr m*mtr m-(mdet m+mdet m)=oR m 2:=by show _=mtr m*mtr m-mdet m-mdet m; grind
 have e2':mtr m*mtr m-2*mdet m=oR m 2:=by show _=mtr m*mtr m-mdet m-mdet m; grind
 have e3:mtr m*mtr m-3*mdet m=oR m 3:=by show _=mtr m*mtr m-mdet m-mdet m-mdet m; grind
 refine ⟨?_,fun k1=>⟨?_,?_⟩,fun k2=>⟨?_,?_⟩,fun k1 k3=>?_,fun k1 k2 k3=>?_,?_⟩
 · rw [mU_2]; exact ht
 · rw [mU_3,e1]; exact k1
 · rw [mU_9,e1]; exact mulne k1 (no9 hd)
 · rw [mU_4,e2]; exact mulne ht k2
 · rw [mU_8,e2']; exact mulne ht (mulne k2 (no8 hd))
 · rw [mU_6,e1,e3]; exact mulne ht (mulne k1 k3)
 · rw [mU_12,e1,e2',e3]; exact mulne ht (mulne k1 (mulne k2 (mulne k3 (no12 hd))))
 · rw [mU_10]; exact mulne ht (mulne (no5 hd) (no10 hd))
theorem uo {m:MQ} (h:Reg m):mU m 1≠0∧mU m 5≠0∧mU m 7≠0∧mU m 11≠0:=by
 have hd:mdet m≠0:=fun e=>h (e.trans g0_def.symm)
 refine ⟨g1_ne,?_,?_,?_⟩
 · rw [mU_5]; exact no5 hd
 · rw [mU_7]; exact no7 hd
 · rw [mU_11]; exact no11 hd
theorem first_of {m:MQ} (h:Reg m) (ht:m.t=false) {r:Nat} (hr:OrdIs m r):FirstP m r:=by
 have hd:mdet m≠0:=fun e=>h (e.trans g0_def.symm)
 have key:∀ k,1≤k→(mpw m k=mid false↔Scl m∨mU m k=0):=fun k hk=>by
  obtain ⟨k,rfl⟩:∃ j,k=j+1:=⟨k-1,by omega⟩
  rw [mpw_scl h,mrw_scl m ht]
 have e1:mtr m*mtr m-mdet m=oR m 1:=rfl
 have e2:mtr m*mtr m-(mdet m+mdet m)=oR m 2:=by show _=mtr m*mtr m-mdet m-mdet m; grind
 have e3:mtr m*mtr m-3*mdet m=oR m 3:=by show _=mtr m*mtr m-mdet m-mdet m-mdet m; grind
 obtain ⟨o1,o5,o7,o11⟩:=uo h
 have hS:r≠1→¬ Scl m:=fun hn hs=>hn (hr.one.2 hs)
 rcases hr.all with e | e | e | e | e | e
 · subst e
   have hs:=hS (by decide)
   obtain ⟨h2,h3,h4,h6⟩:=hr.none rfl
   obtain ⟨a2,a3,a4,a6,a12,a10⟩:=uz h 1 (by decide) (by decide) h2
   refine .inl ⟨rfl,fun k hk h12 e=>?_⟩
   rcases (key k hk).1 e with e | e
   · exact hs e
   · have:k=1∨k=2∨k=3∨k=4∨k=5∨k=6∨k=7∨k=8∨k=9∨k=10∨k=11∨k=12:=by omega
     rcases this with rfl | rfl | rfl | rfl | rfl | rfl | rfl | rfl | rfl | rfl | rfl | rfl
     · exact o1 e
     · exact a2 e
     · exact (a3 h3).1 e
     · exact (a4 h4).1 e
     · exact o5 e
     · exact a6 h3 h6 e
     · exact o7 e
     · exact (a4 h4).2 e
     · exact (a3 h3).2 e
     · exact a10 e
     · exact o11 e
     · exact a12 h3 h4 h6 e
 · subst e
   exact .inr ⟨by decide,by decide,(key 1 (by decide)).2 (.inl (hr.one.1 rfl)),fun k hk hl=>by omega⟩
 · subst e
   have hs:=hS (by decide)
   have h2:=hr.two rfl
   refine .inr ⟨by decide,by decide,(key 2 (by decide)).2 (.inr ?_),fun k hk hl e=>?_⟩
   · rw [mU_2]
     exact (mul0 h2).elim id id
   · obtain rfl:k=1:=by omega
     exact ((key 1 hk).1 e).elim hs o1
 · subst e
   have hs:=hS (by decide)
   obtain ⟨h2,h3⟩:=hr.three rfl
   obtain ⟨a2,a3,a4,a6,a12,a10⟩:=uz h 1 (by decide) (by decide) h2
   refine .inr ⟨by decide,by decide,(key 3 (by decide)).2 (.inr (by rw [mU_3,e1,h3])),fun k hk hl e=>?_⟩
   rcases (key k hk).1 e with e | e
   · exact hs e
   · have:k=1∨k=2:=by omega
     rcases this with rfl | rfl
     · exact o1 e
     · exact a2 e
 · subst e
   have hs:=hS (by decide)
   obtain ⟨h2,h3,h4⟩:=hr.four rfl
   obtain ⟨a2,a3,a4,a6,a12,a10⟩:=uz h 1 (by decide) (by decide) h2
   refine .inr ⟨by decide,by decide,(key 4 (by decide)).2 (.inr (by rw [mU_4,e2,h4]; grind)),fun k hk hl e=>?_⟩
   rcases (key k hk).1 e with e | e
   · exact hs e
   · have:k=1∨k=2∨k=3:=by omega
     rcases this with rfl | rfl | rfl
     · exact o1 e
     · exact a2 e
     · exact (a3 h3).1 e
 · subst e
   have hs:=hS (by decide)
   obtain ⟨h2,h3,h4,h6⟩:=hr.six rfl
   obtain ⟨a2,a3,a4,a6,a12,a10⟩:=uz h 1 (by decide) (by decide) h2
   refine .inr ⟨by decide,by decide,(key 6 (by decide)).2 (.inr (by rw [mU_6,e1,e3,h6]; grind)),fun k hk hl e=>?_⟩
   rcases (key k hk).1 e with e | e
   · exact hs e
   · have:k=1∨k=2∨k=3∨k=4∨k=5:=by omega
     rcases this with rfl | rfl | rfl | rfl | rfl
     · exact o1 e
     · exact a2 e
     · exact (a3 h3).1 e
     · exact (a4 h4).1 e
     · exact o5 e
theorem mrw_two (m:MQ):∀ k,mrw m (k+k)=mrw (mbeh m m) k
 | 0=>rfl
 | k+1=>by
  have e:k+1+(k+1)=(k+k)+1+1:=by omega
  rw [e]
  show mbeh m (mbeh m (mrw m (k+k)))=mbeh (mbeh m m) (mrw (mbeh m m) k)
  rw [beh_assoc,mrw_two m k]
theorem mrw_li {m n:MQ} (h:Mli m n):∀ k,Mli (mrw m k) (mrw n k)
 | 0=>Mli.rf _
 | k+1=>h.beh (mrw_li h k)
theorem mpw_two {m:MQ} (h:Reg m) (k:Nat):mpw m (k+k)=mpw (mcmp m m) k:=by
 have hb:Reg (mbeh m m):=h.beh h
 rw [mpw_eq h,mpw_eq (h.cmp h),mrw_two]
 exact (mrw_li (Mli.norm hb) k).eq (mrw_reg (h.cmp h) k)
theorem mrw_odd {m:MQ} (ht:m.t=true):∀ k,(mrw m (k+k+1)).t=true∧(mrw m (k+k)).t=false
 | 0=>⟨by show (m.t != false)=true; rw [ht]; rfl,rfl⟩
 | k+1=>by
  obtain ⟨h1,h2⟩:=mrw_odd ht k
  have e:k+1+(k+1)=(k+k+1)+1:=by omega
  have h3:(mrw m (k+k+1+1)).t=false:=by
   show (m.t != (mrw m (k+k+1)).t)=false
   rw [ht,h1]; rfl
  refine ⟨?_,by rw [e]; exact h3⟩
  rw [e]
  show (m.t != (mrw m (k+k+1+1)).t)=true
  rw [ht,h3]; rfl
theorem nat_half (k:Nat):∃ j,k=2*j∨k=2*j+1:=⟨k/2,by omega⟩
theorem first_two {m:MQ} (h:Reg m) (ht:m.t=true) {r:Nat} (hr:OrdIs (mcmp m m) r):FirstP m (2*r):=by
 have hc:(mcmp m m).t=false:=by
  show (m.t != m.t)=false
  rw [ht]; rfl
 have hodd:∀ k,mpw m (k+k+1)≠mid false:=fun k e=>by
  have:=((mpw_scl h _).1 e).2.2.2
  rw [(mrw_odd ht k).1] at this
  cases this
 have hall:=hr.all
 rcases first_of (h.cmp h) hc hr with ⟨rfl,h0⟩ | ⟨h1,h2,h3,h4⟩
 · refine .inl ⟨rfl,fun k hk h12 e=>?_⟩
   rcases nat_half k with ⟨j,rfl | rfl⟩
   · rw [show 2*j=j+j by omega,mpw_two h] at e
     exact h0 j (by omega) (by omega) e
   · rw [show 2*j+1=j+j+1 by omega] at e
     exact hodd j e
 · refine .inr ⟨by omega,by omega,?_,fun k hk hl e=>?_⟩
   · rw [show 2*r=r+r by omega,mpw_two h]; exact h3
   · rcases nat_half k with ⟨j,rfl | rfl⟩
     · rw [show 2*j=j+j by omega,mpw_two h] at e
       exact h4 j (by omega) (by omega) e
     · rw [show 2*j+1=j+j+1 by omega] at e
       exact hodd j e
end Go.Proofs.YtbepimnlleilfaaGreat
end
section
namespace Go.Proofs.YtbepimnlleilfaaGreat.Y
open Go Go.RowKit
set_option maxRecDepth 100000
noncomputable def sIsF {m n:MQ} (h:MSz KE m) (k:MSz KE n) (ht:m.t=false) (hu:n.t=false) {r:Bool} (hr:(gzero (gsub m.a n.a)&&(gzero (gsub m.b n.b)&&(gzero (gsub m.c n.c)&&gzero (gsub m.d n.d))))=r):Spec Tryz.prog :=
 ⟨289,Tryz.call289,[mV 0 m,mV 8 n],mM m++mM n,.one (.c (.b (.v (.bool r)))),[],fun β w hh=>by
  obtain ⟨a,b,c,d,t⟩:=m
  obtain ⟨a',b',c',d',t'⟩:=n
  cases ht
  cases hu
  cases h1:gzero (gsub a a') with
  | false =>
   obtain rfl:r=false:=by rw [← hr]; dsimp only; rw [h1]; rfl
   exact spec_auto (args:=[mV 0 ⟨a,b,c,d,false⟩,mV 8 ⟨a',b',c',d',false⟩]) (obs:=mM ⟨a,b,c,d,false⟩++mM ⟨a',b',c',d',false⟩) (evs:=[(sSame (z:=a) (w:=a') h.a k.a h1).e]) (Ns:=[]) (m:=400) Tryz.func289 hmA (fun β=>by kernel_rfl) (by kernel_rfl) β w hh
  | true=>cases h2:gzero (gsub b b') with
   | false =>
    obtain rfl:r=false:=by rw [← hr]; dsimp only; rw [h1,h2]; rfl
    exact spec_auto (args:=[mV 0 ⟨a,b,c,d,false⟩,mV 8 ⟨a',b',c',d',false⟩]) (obs:=mM ⟨a,b,c,d,false⟩++mM ⟨a',b',c',d',false⟩) (evs:=[(sSame (z:=a) (w:=a') h.a k.a h1).e,(sSame (z:=b) (w:=b') h.b k.b h2).e]) (Ns:=[]) (m:=400) Tryz.func289 hmA (fun β=>by kernel_rfl) (by kernel_rfl) β w hh
   | true=>cases h3:gzero (gsub c c') with
    | false =>
     obtain rfl:r=false:=by rw [← hr]; dsimp only; rw [h1,h2,h3]; rfl
     exact spec_auto (args:=[mV 0 ⟨a,b,c,d,false⟩,mV 8 ⟨a',b',c',d',false⟩]) (obs:=mM ⟨a,b,c,d,false⟩++mM ⟨a',b',c',d',false⟩) (evs:=[(sSame (z:=a) (w:=a') h.a k.a h1).e,(sSame (z:=b) (w:=b') h.b k.b h2).e,(sSame (z:=c) (w:=c') h.c k.c h3).e]) (Ns:=[]) (m:=400) Tryz.func289 hmA (fun β=>by kernel_rfl) (by kernel_rfl) β w hh
    | true=>cases h4:gzero (gsub d d') with
     | false =>
      obtain rfl:r=false:=by rw [← hr]; dsimp only; rw [h1,h2,h3,h4]; rfl
      exact spec_auto (args:=[mV 0 ⟨a,b,c,d,false⟩,mV 8 ⟨a',b',c',d',false⟩]) (obs:=mM ⟨a,b,c,d,false⟩++mM ⟨a',b',c',d',false⟩) (evs:=[(sSame (z:=a) (w:=a') h.a k.a h1).e,(sSame (z:=b) (w:=b') h.b k.b h2).e,(sSame (z:=c) (w:=c') h.c k.c h3).e,(sSame (z:=d) (w:=d') h.d k.d h4).e]) (Ns:=[]) (m:=400) Tryz.func289 hmA (fun β=>by kernel_rfl) (by kernel_rfl) β w hh
     | true =>
      obtain rfl:r=true:=by rw [← hr]; dsimp only; rw [h1,h2,h3,h4]; rfl
      exact spec_auto (args:=[mV 0 ⟨a,b,c,d,false⟩,mV 8 ⟨a',b',c',d',false⟩]) (obs:=mM ⟨a,b,c,d,false⟩++mM ⟨a',b',c',d',false⟩) (evs:=[(sSame (z:=a) (w:=a') h.a k.a h1).e,(sSame (z:=b) (w:=b') h.b k.b h2).e,(sSame (z:=c) (w:=c') h.c k.c h3).e,(sSame (z:=d) (w:=d') h.d k.d h4).e]) (Ns:=[]) (m:=400) Tryz.func289 hmA (fun β=>by kernel_rfl) (by kernel_rfl) β w hh,by kernel_rfl⟩
noncomputable def sIsT {m n:MQ} (ht:m.t=true) (hu:n.t=false):Spec Tryz.prog :=
 ⟨289,Tryz.call289,[mV 0 m,mV 8 n],mM m++mM n,.one (.c (.b (.v (.bool false)))),[],fun β w hh=>by
  obtain ⟨a,b,c,d,t⟩:=m
  obtain ⟨a',b',c',d',t'⟩:=n
  cases ht
  cases hu
  exact spec_auto (args:=[mV 0 ⟨a,b,c,d,true⟩,mV 8 ⟨a',b',c',d',false⟩]) (obs:=mM ⟨a,b,c,d,true⟩++mM ⟨a',b',c',d',false⟩) (evs:=[]) (Ns:=[]) (m:=400) Tryz.func289 hmA (fun β=>by kernel_rfl) (by kernel_rfl) β w hh,by kernel_rfl⟩
abbrev KO:Nat:=100000
def orr (m:MQ):Nat→GQ
 | 0=>gmul (gadd m.a m.d) (gadd m.a m.d)
 | k+1=>gsub (orr m k) (mdet m)
theorem orr_eq (m:MQ):∀ k,orr m k=oR m k
 | 0=>rfl
 | k+1=>by
  show gsub (orr m k) (mdet m)=oR m k-mdet m
  rw [orr_eq m k]; rfl
theorem orr_sz {m:MQ} (h:MSz KO m):GSz 3000000 (mdet m)∧GSz 3000000 (orr m 0)∧GSz 6000001 (orr m 1)∧GSz 9000002 (orr m 2)∧GSz 12000003 (orr m 3):=by
 have hd:GSz 3000000 (mdet m):=h.det.mono (by decide)
 have h0:GSz 3000000 (orr m 0):=((h.a.add h.d).mul (h.a.add h.d)).mono (by decide)
 have h1:GSz 6000001 (orr m 1):=h0.sub hd
 have h2:GSz 9000002 (orr m 2):=h1.sub hd
 exact ⟨hd,h0,h1,h2,h2.sub hd⟩
theorem orr_z {m:MQ} {k:Nat} (h:oR m k=0):gzero (orr m k)=true:=by rw [gz0,orr_eq,h]
theorem orr_n {m:MQ} {k:Nat} (h:oR m k≠0):gzero (orr m k)=false:=by
 rw [Bool.eq_false_iff]
 intro e
 rw [gz0,orr_eq] at e
 exact h e
theorem still_is {m:MQ} (ht:m.t=false) {r:Bool} (hr:r=true↔m=mid false):(gzero (gsub m.a (mstill false).a)&&(gzero (gsub m.b (mstill false).b)&&(gzero (gsub m.c (mstill false).c)&&gzero (gsub m.d (mstill false).d))))=r:=by
 have key:∀ z w:GQ,gzero (gsub z w)=true↔z=w:=fun z w=>by
  rw [gz0,gsub_def]
  constructor
  · intro e; grind
  · intro e; rw [e]; grind
 obtain ⟨a,b,c,d,t⟩:=m
 obtain rfl:t=false:=ht
 have hiff:(gzero (gsub a (mstill false).a)&&(gzero (gsub b (mstill false).b)&&(gzero (gsub c (mstill false).c)&&gzero (gsub d (mstill false).d))))=true↔r=true:=by
  rw [hr,Bool.and_eq_true,Bool.and_eq_true,Bool.and_eq_true,key,key,key,key]
  constructor
  · rintro ⟨rfl,rfl,rfl,rfl⟩; rfl
  · intro e; cases e; exact ⟨rfl,rfl,rfl,rfl⟩
 exact Bool.eq_iff_iff.2 hiff
noncomputable def sOrdF {m:MQ} (h:MSz KO m) (hN:Nrm m) (hr0:Reg m) (ht:m.t=false) {r:Nat} (hr:OrdIs m r):Spec Tryz.prog :=
 ⟨149,Tryz.call149,[mV 0 m],mM m,.one (nI' (r:Int)),[],fun β w hh=>by
  have hk:MSz KE m:=h.mono (by decide)
  obtain ⟨sd,s0,s1,s2,s3⟩:=orr_sz h
  have his:∀ {q:Bool},(q=true↔r=1)→(gzero (gsub m.a (mstill false).a)&&(gzero (gsub m.b (mstill false).b)&&(gzero (gsub m.c (mstill false).c)&&gzero (gsub m.d (mstill false).d))))=q:=fun {q} hq=>still_is ht (by
   rw [hq,hr.one]
   have:=scl_norm hr0
   rw [hN.id] at this
   exact this.symm)
  have hall:=hr.all
  have ha:GSz KE (gadd m.a m.d):=(h.a.add h.d).mono (by decide)
  obtain ⟨a,b,c,d,t⟩:=m
  cases ht
  rcases hall with e | e | e | e | e | e
  · subst e
    obtain ⟨z0,z1,z2,z3⟩:=hr.none rfl
    exact spec_auto (args:=[mV 0 ⟨a,b,c,d,false⟩]) (obs:=mM ⟨a,b,c,d,false⟩) (res:=.one (nI' 0)) (evs:=[sStill.e,(sIsF (m:=⟨a,b,c,d,false⟩) (n:=mstill false) hk still_sz rfl rfl (his (q:=false) (by decide))).e,(sAdd (h.a.mono (by decide)) (h.d.mono (by decide))).e,mulE ha ha,(sZero (z:=orr ⟨a,b,c,d,false⟩ 0) (orr_n z0)).e,
     (sDet hk).e,(sSub (z:=orr ⟨a,b,c,d,false⟩ 0) (s0.mono (by decide)) (sd.mono (by decide))).e,(sZero (z:=orr ⟨a,b,c,d,false⟩ 1) (orr_n z1)).e,(sDet hk).e,(sSub (z:=orr ⟨a,b,c,d,false⟩ 1) (s1.mono (by decide)) (sd.mono (by decide))).e,(sZero (z:=orr ⟨a,b,c,d,false⟩ 2) (orr_n z2)).e,(sDet hk).e,(sSub (z:=orr ⟨a,b,c,d,false⟩ 2) (s2.mono (by decide)) (sd.mono (by decide))).e,(sZero (z:=orr ⟨a,b,c,d,false⟩ 3) (orr_n z3)).e,(sDet hk).e,(sSub (z:=orr ⟨a,b,c,d,false⟩ 3) (s3.mono (by decide)) (sd.mono (by decide))).e]) (Ns:=[(1,4),(12,4)]) (m:=800) Tryz.func149 hmA (fun β=>by kernel_rfl) (by kernel_rfl) β w hh
  · subst e
    exact spec_auto (args:=[mV 0 ⟨a,b,c,d,false⟩]) (obs:=mM ⟨a,b,c,d,false⟩) (res:=.one (nI' 1)) (evs:=[sStill.e,(sIsF (m:=⟨a,b,c,d,false⟩) (n:=mstill false) hk still_sz rfl rfl (his (q:=true) (by decide))).e]) (Ns:=[(1,4),(12,4)]) (m:=800) Tryz.func149 hmA (fun β=>by kernel_rfl) (by kernel_rfl) β w hh
  · subst e
    exact spec_auto (args:=[mV 0 ⟨a,b,c,d,false⟩]) (obs:=mM ⟨a,b,c,d,false⟩) (res:=.one (nI' 2)) (evs:=[sStill.e,(sIsF (m:=⟨a,b,c,d,false⟩) (n:=mstill false) hk still_sz rfl rfl (his (q:=false) (by decide))).e,(sAdd (h.a.mono (by decide)) (h.d.mono (by decide))).e,mulE ha ha,(sZero (z:=orr ⟨a,b,c,d,false⟩ 0) (orr_z (hr.two rfl))).e]) (Ns:=[(1,4),(12,4)]) (m:=800) Tryz.func149 hmA (fun β=>by kernel_rfl) (by kernel_rfl) β w hh
  · subst e
    obtain ⟨z0,z1⟩:=hr.three rfl
    exact spec_auto (args:=[mV 0 ⟨a,b,c,d,false⟩]) (obs:=mM ⟨a,b,c,d,false⟩) (res:=.one (nI' 3)) (evs:=[sStill.e,(sIsF (m:=⟨a,b,c,d,false⟩) (n:=mstill false) hk still_sz rfl rfl (his (q:=false) (by decide))).e,(sAdd (h.a.mono (by decide)) (h.d.mono (by decide))).e,mulE ha ha,(sZero (z:=orr ⟨a,b,c,d,false⟩ 0) (orr_n z0)).e,
     (sDet hk).e,(sSub (z:=orr ⟨a,b,c,d,false⟩ 0) (s0.mono (by decide)) (sd.mono (by decide))).e,(sZero (z:=orr ⟨a,b,c,d,false⟩ 1) (orr_z z1)).e]) (Ns:=[(1,4),(12,4)]) (m:=800) Tryz.func149 hmA (fun β=>by kernel_rfl) (by kernel_rfl) β w hh
  · subst e
    obtain ⟨z0,z1,z2⟩:=hr.four rfl
    exact spec_auto (args:=[mV 0 ⟨a,b,c,d,false⟩]) (obs:=mM ⟨a,b,c,d,false⟩) (res:=.one (nI' 4)) (evs:=[sStill.e,(sIsF (m:=⟨a,b,c,d,false⟩) (n:=mstill false) hk still_sz rfl rfl (his (q:=false) (by decide))).e,(sAdd (h.a.mono (by decide)) (h.d.mono (by decide))).e,mulE ha ha,(sZero (z:=orr ⟨a,b,c,d,false⟩ 0) (orr_n z0)).e,
     (sDet hk).e,(sSub (z:=orr ⟨a,b,c,d,false⟩ 0) (s0.mono (by decide)) (sd.mono (by decide))).e,(sZero (z:=orr ⟨a,b,c,d,false⟩ 1) (orr_n z1)).e,(sDet hk).e,(sSub (z:=orr ⟨a,b,c,d,false⟩ 1) (s1.mono (by decide)) (sd.mono (by decide))).e,(sZero (z:=orr ⟨a,b,c,d,false⟩ 2) (orr_z z2)).e]) (Ns:=[(1,4),(12,4)]) (m:=800) Tryz.func149 hmA (fun β=>by kernel_rfl) (by kernel_rfl) β w hh
  · subst e
    obtain ⟨z0,z1,z2,z3⟩:=hr.six rfl
    exact spec_auto (args:=[mV 0 ⟨a,b,c,d,false⟩]) (obs:=mM ⟨a,b,c,d,false⟩) (res:=.one (nI' 6)) (evs:=[sStill.e,(sIsF (m:=⟨a,b,c,d,false⟩) (n:=mstill false) hk still_sz rfl rfl (his (q:=false) (by decide))).e,(sAdd (h.a.mono (by decide)) (h.d.mono (by decide))).e,mulE ha ha,(sZero (z:=orr ⟨a,b,c,d,false⟩ 0) (orr_n z0)).e,
     (sDet hk).e,(sSub (z:=orr ⟨a,b,c,d,false⟩ 0) (s0.mono (by decide)) (sd.mono (by decide))).e,(sZero (z:=orr ⟨a,b,c,d,false⟩ 1) (orr_n z1)).e,(sDet hk).e,(sSub (z:=orr ⟨a,b,c,d,false⟩ 1) (s1.mono (by decide)) (sd.mono (by decide))).e,(sZero (z:=orr ⟨a,b,c,d,false⟩ 2) (orr_n z2)).e,(sDet hk).e,(sSub (z:=orr ⟨a,b,c,d,false⟩ 2) (s2.mono (by decide)) (sd.mono (by decide))).e,(sZero (z:=orr ⟨a,b,c,d,false⟩ 3) (orr_z z3)).e]) (Ns:=[(1,4),(12,4)]) (m:=800) Tryz.func149 hmA (fun β=>by kernel_rfl) (by kernel_rfl) β w hh,by kernel_rfl⟩
theorem ord_w {r:Nat} (h:r≤6):IntKind.i64.wrap (2*(r:Int))=((2*r:Nat):Int):=by rw [IntKind.wrap_i64]; omega
noncomputable def sOrdT {m:MQ} (h:MSz 1024 m) (hr0:Reg m) (ht:m.t=true) {r:Nat} (hr:OrdIs (mcmp m m) r):Spec Tryz.prog :=
 ⟨149,Tryz.call149,[mV 0 m],mM m,.one (nI' ((2*r:Nat):Int)),[],fun β w hh=>by
  have hk:MSz KE m:=h.mono (by decide)
  have hb:Reg (mbeh m m):=hr0.beh hr0
  have hs:MSz KO (mcmp m m):=(mcmp_sz h h hb).mono (by decide)
  have hct:(mcmp m m).t=false:=by
   show (m.t != m.t)=false
   rw [ht]; rfl
  have hw:IntKind.i64.wrap (2*(r:Int))=((2*r:Nat):Int):=ord_w (by have:=hr.all; omega)
  obtain ⟨a,b,c,d,t⟩:=m
  cases ht
  exact spec_auto (args:=[mV 0 ⟨a,b,c,d,true⟩]) (obs:=mM ⟨a,b,c,d,true⟩) (evs:=[sStill.e,(sIsT (m:=⟨a,b,c,d,true⟩) (n:=mstill false) rfl rfl).e,(sBehR hk hk hb).e,(sOrdF hs (Nrm.cmp hr0 hr0) (hr0.cmp hr0) hct hr).e,.eqv 18 (.int .i64 (IntKind.i64.wrap (2*(r:Int)))) (.int .i64 ((2*r:Nat):Int)) (by rw [hw])]) (Ns:=[(1,4),(12,4)]) (m:=800) Tryz.func149 hmA (fun β=>by kernel_rfl) (by kernel_rfl) β w hh,by kernel_rfl⟩
theorem ord_ex {q:MQ} (h:MayQ q):∃ k:Nat,FirstP q k∧∃ S:Spec Tryz.prog,S.f=28∧S.args=[.one (.a (mCl q))]∧S.obs=[]∧S.res=.tup [nI' (k:Int),nI' 0]∧S.news=[]:=by
 have hs:=fitM_sz h.1
 cases ht:q.t with
 | false =>
  obtain ⟨r,hr⟩:=OrdIs.ex q
  exact ⟨r,first_of h.reg ht hr,Spec.auto Tryz.call28 [.one (.a (mCl q))] [] (.tup [nI' (r:Int),nI' 0]) [] [(sOpenYes h).e,(sOrdF (hs.mono (by decide)) h.nrm h.reg ht hr).e] [] 800 Tryz.func28 hmA (by kernel_rfl) (fun β=>by kernel_rfl),rfl,rfl,rfl,rfl,rfl⟩
 | true =>
  obtain ⟨r,hr⟩:=OrdIs.ex (mcmp q q)
  exact ⟨2*r,first_two h.reg ht hr,Spec.auto Tryz.call28 [.one (.a (mCl q))] [] (.tup [nI' ((2*r:Nat):Int),nI' 0]) [] [(sOpenYes h).e,(sOrdT hs h.reg ht hr).e] [] 800 Tryz.func28 hmA (by kernel_rfl) (fun β=>by kernel_rfl),rfl,rfl,rfl,rfl,rfl⟩
end Go.Proofs.YtbepimnlleilfaaGreat.Y
end
