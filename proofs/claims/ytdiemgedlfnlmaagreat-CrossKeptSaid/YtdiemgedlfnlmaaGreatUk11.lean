/- Rs4, Pts, Alg, Rs7, Rs10, Nrm, EyF, Rs8, MoA, EqM, CzM, CkM, CzA, CkN, One, MkA, Row, Osp, GsT, CzB, CzC. -/
import Derived.Deep.MidRow
import Derived.Test.YtdiemgedlfnlmaaGreatUk10
set_option linter.unnecessarySimpa false
set_option linter.unusedVariables false
set_option linter.unusedSimpArgs false
section
namespace Go.Proofs.YtdiemgedlfnlmaaGreat
open Go.Proofs.YtdiemgedlfnlmaaGreat.Y
open Go Go.RowKit
set_option maxRecDepth 100000
theorem gres {z w:GQ} (h:z=w):SV.one (.a (gC z))=.one (.a (gC w)):=by rw [h]
theorem Sz.le {i k:Nat} {x:Rat} (h:Sz i x) (hk:Nat.ble i k=true:=by decide):Sz k x:=h.mono (Nat.le_of_ble_eq_true hk)
theorem GSz.le {i k:Nat} {z:GQ} (h:GSz i z) (hk:Nat.ble i k=true:=by decide):GSz k z:=h.mono (Nat.le_of_ble_eq_true hk)
theorem gdiv_eq (z w:GQ):gscale (gmul z (gconj w)) (Rat.divInt 1 1/gnorm w)=gdiv z w:=by
 unfold gdiv
 congr 1
 rw [Rat.div_def,show (Rat.divInt 1 1)=1 by rfl,Rat.one_mul]
abbrev svG (z:GQ):SV:=.one (.a (gC z))
abbrev svF (x:Rat):SV:=.one (.a (fC x))
section
variable {z w:GQ} {x:Rat}
def sR4Conj (z:GQ):Y.Spec Tryz.prog:=Y.Spec.auto Tryz.call178 [svG z] [] (svG (gconj z)) [] [(sR3Neg z.im).e] [(1,6)] 400 Tryz.func178 hmA (by kernel_rfl) (fun β=>by kernel_rfl)
def sR4Times (hz:GSz KE z) (hw:GSz KE w):Y.Spec Tryz.prog:=Y.Spec.auto Tryz.call53 [svG z,svG w] [] (svG (gmul z w)) []
 [(sR3Times hz.1.le hw.1.le).e,(sR3Times hz.2.le hw.2.le).e,(sR3Minus (hz.1.mul hw.1).le (hz.2.mul hw.2).le).e,(sR3Times hz.1.le hw.2.le).e,(sR3Times hz.2.le hw.1.le).e,(sR3Plus (hz.1.mul hw.2).le (hz.2.mul hw.1).le).e] [(1,12),(2,12)] 400 Tryz.func53 hmA (by kernel_rfl) (fun β=>by kernel_rfl)
def sR4Dot (hz:GSz KE z) (hw:GSz KE w):Y.Spec Tryz.prog:=Y.Spec.auto Tryz.call288 [svG z,svG w] [] (svF (z.re*w.re+z.im*w.im)) []
 [(sR3Times hz.1.le hw.1.le).e,(sR3Times hz.2.le hw.2.le).e,(sR3Plus (hz.1.mul hw.1).le (hz.2.mul hw.2).le).e] [(1,11)] 400 Tryz.func288 hmA (by kernel_rfl) (fun β=>by kernel_rfl)
def sR4Norm (hz:GSz KE z):Y.Spec Tryz.prog:=Y.Spec.auto Tryz.call155 [svG z] [] (svF (gnorm z)) [] [(sR4Dot hz hz).e] [] 400 Tryz.func155 hmA (by kernel_rfl) (fun β=>by kernel_rfl)
def sR4Scale (hz:GSz K3 z) (hx:Sz K3 x):Y.Spec Tryz.prog:=Y.Spec.auto Tryz.call228 [svG z,svF x] [] (svG (gscale z x)) [] [(sR3Times hz.1 hx).e,(sR3Times hz.2 hx).e] [(1,9)] 400 Tryz.func228 hmA (by kernel_rfl) (fun β=>by kernel_rfl)
theorem sz_one:Sz 1 (Rat.divInt 1 1):=Sz.small (by decide)
def sR4Over (hz:GSz KE z) (hw:GSz KE w) (h0:gzero w=false):Y.Spec Tryz.prog:=(Y.Spec.auto Tryz.call88 [svG z,svG w] [] (svG (gscale (gmul z (gconj w)) (Rat.divInt 1 1/gnorm w))) []
 [(sR4Conj w).e,(sR4Times hz hw.conj).e,(sR3Int 1 (by decide)).e,(sR4Norm hw).e,(sR3Over sz_one.le hw.norm.le (gnorm_ne h0)).e,(sR4Scale (hz.mul hw.conj).le (sz_one.div hw.norm (gnorm_ne h0)).le).e] [(1,9)] 400 Tryz.func88 hmA (by kernel_rfl) (fun β=>by kernel_rfl)).conv (svG (gdiv z w)) (gres (gdiv_eq z w))
end
def sR4Int (n m:Int) (hn : -9223372036854775808≤n∧n≤9223372036854775807:=by decide) (hm : -9223372036854775808≤m∧m≤9223372036854775807:=by decide):Y.Spec Tryz.prog :=
 Y.Spec.auto Tryz.call49 [.one (.c (.b (.v (.int .i64 n)))),.one (.c (.b (.v (.int .i64 m))))] [] (svG (gint n m)) [] [(sR3Int n hn).e,(sR3Int m hm).e] [] 400 Tryz.func49 hmA (by kernel_rfl) (fun β=>by kernel_rfl)
def Fp.may3:Fp→Y.Spec Tryz.prog
 | .ok x h=>sR3May _ _ _ _ true (iff_true_of (fitF x h))
 | .no b c s t h hs ht=>sR3May b c s t false (iff_false_of h)
def may4E (a b:Fp):List (Ev Tryz.prog):=match a with
 | .ok ..=>[a.may3.e,b.may3.e]
 | .no ..=>[a.may3.e]
def sR4May (a b:Fp):Y.Spec Tryz.prog :=
 Y.Spec.auto Tryz.call39 [.one (.a (a.C++b.C))] [] (.one (.c (.b (.v (.bool (a.B&&b.B)))))) [] (may4E a b) [] 400 Tryz.func39 hmA (by cases a<;>cases b<;>kernel_rfl) (fun β=>by cases a<;>cases b<;>kernel_rfl)
def Fp.raw:Fp→R4
 | .ok x _=>⟨decide (x.num<0),mag x.num.natAbs,false,mag x.den⟩
 | .no b c s t _ _ _=>⟨b,s,c,t⟩
def Pp.rI:Pp→Bool
 | .fin ..=>false
 | _=>true
def Pp.rX:Pp→R4
 | .inf=>r40
 | .fin a _=>a.raw
 | .odd x _ _=>x
def Pp.rY:Pp→R4
 | .inf=>r40
 | .fin _ b=>b.raw
 | .odd _ y _=>y
def rawC (i:Bool) (x y:R4):List Lf:=.b (.v (.bool i))::(x.L++y.L)
theorem Pp.C_raw (p:Pp):p.C=rawC p.rI p.rX p.rY:=by rcases p with _ | ⟨_ | _,_ | _⟩ | _<;>rfl
def Y.Spec.as {P:Program} (S:Y.Spec P) (args:List SV) (res:SV) (ha:S.args=args) (hr:S.res=res):Y.Spec P :=
 ⟨S.f,S.en,args,S.obs,res,S.news,fun β w hh=>by subst ha; subst hr; exact S.ok β w hh,by subst ha; subst hr; exact S.closed⟩
def fR (x:Rat):R4:=⟨decide (x.num<0),mag x.num.natAbs,false,mag x.den⟩
def Pt.i:Pt→Bool
 | .inf=>true
 | .fin _=>false
def Pt.x:Pt→R4
 | .inf=>r40
 | .fin z=>fR z.re
def Pt.y:Pt→R4
 | .inf=>r40
 | .fin z=>fR z.im
abbrev svR (i:Bool) (x y:R4):SV:=.one (.a (rawC i x y))
abbrev svP (p:Pt):SV:=svR p.i p.x p.y
def FitP:Pt→Prop
 | .inf=>True
 | .fin z=>FitG z
theorem FitP.sz {p:Pt} (h:FitP p):PSz 1024 p:=by
 cases p
 · trivial
 · exact ⟨h.1.sz,h.2.sz⟩
def ppt:(p:Pt)→FitP p→Pp
 | .inf,_=>.inf
 | .fin z,h=>.fin (.ok z.re h.1) (.ok z.im h.2)
theorem ppt_C (p:Pt) (h:FitP p):(ppt p h).C=rawC p.i p.x p.y:=by cases p<;>rfl
theorem ppt_B (p:Pt) (h:FitP p):(ppt p h).B=true:=by cases p<;>rfl
structure Rw where
 i:Bool
 x:R4
 y:R4
def Rw.ok (r:Rw):Prop:=(r.x.s.size≤maxLen∧r.x.t.size≤maxLen)∧r.y.s.size≤maxLen∧r.y.t.size≤maxLen
def Pt.w (p:Pt):Rw:=⟨p.i,p.x,p.y⟩
def Pp.w (p:Pp):Rw:=⟨p.rI,p.rX,p.rY⟩
theorem fp_of (x:R4) (h1:x.s.size≤maxLen) (h2:x.t.size≤maxLen):∃ a:Fp,a.raw=x:=by
 obtain ⟨b,s,c,t⟩:=x
 rcases fp_all b c s t with ⟨q,h,rfl,rfl,rfl,rfl⟩ | h
 · exact ⟨.ok q h,rfl⟩
 · exact ⟨.no b c s t h h1 h2,rfl⟩
theorem pp_of (r:Rw) (h:r.ok):∃ p:Pp,p.w=r:=by
 obtain ⟨i,x,y⟩:=r
 cases i
 · obtain ⟨a,rfl⟩:=fp_of x h.1.1 h.1.2
   obtain ⟨b,rfl⟩:=fp_of y h.2.1 h.2.2
   exact ⟨.fin a b,rfl⟩
 · by_cases h0:x=⟨false,⟨#[]⟩,false,⟨#[]⟩⟩∧y=⟨false,⟨#[]⟩,false,⟨#[]⟩⟩
   · obtain ⟨rfl,rfl⟩:=h0
     exact ⟨.inf,rfl⟩
   · exact ⟨.odd x y h0,rfl⟩
theorem Pp.good {p:Pp} (h:p.B=true):∃ q:Pt,∃ hq:FitP q,p=ppt q hq:=by
 rcases p with _ | ⟨⟨x,hx⟩ | _,⟨y,hy⟩ | _⟩ | _
 · exact ⟨.inf,trivial,rfl⟩
 · exact ⟨.fin ⟨x,y⟩,⟨hx,hy⟩,rfl⟩
 all_goals cases h
theorem ppt_w (p:Pt) (h:FitP p):(ppt p h).w=p.w:=by cases p<;>rfl
theorem fR_inj {x y:Rat} (h:fR x=fR y):x=y:=by
 injection h with h1 h2 h3 h4
 have hn:x.num.natAbs=y.num.natAbs:=mag_inj h2
 have hd:x.den=y.den:=mag_inj h4
 have hb:(x.num<0)=(y.num<0):=by simpa using h1
 refine Rat.ext ?_ hd
 by_cases h0:x.num<0
 · have:y.num<0:=by rw [← hb]; exact h0
   omega
 · have:¬ y.num<0:=by rw [← hb]; exact h0
   omega
theorem Pt.w_inj {p q:Pt} (h:p.w=q.w):p=q:=by
 cases p<;>cases q
 · rfl
 · injection h with h1; cases h1
 · injection h with h1; cases h1
 · rename_i z w
   injection h with _ h2 h3
   exact congrArg Pt.fin (GQ.ext2 (fR_inj h2) (fR_inj h3))
def rwB (i i':Bool) (x y x' y':R4):Bool:=(i==i')&&((x.eq x'&&(y.eq y'&&true))&&true)
theorem rwB_iff {i i':Bool} {x y x' y':R4}:rwB i i' x y x' y'=true↔i=i'∧x=x'∧y=y':=by
 unfold rwB
 simp only [Bool.and_true,Bool.and_eq_true,R4.eq_iff,beq_iff_eq]
def ptB (p q:Pt):Bool:=rwB p.i q.i p.x p.y q.x q.y
theorem ptB_iff {p q:Pt}:ptB p q=true↔p=q:=by
 unfold ptB
 rw [rwB_iff]
 constructor
 · rintro ⟨h1,h2,h3⟩
   exact Pt.w_inj (by unfold Pt.w; rw [h1,h2,h3])
 · rintro rfl; exact ⟨rfl,rfl,rfl⟩
theorem ptB_self (p:Pt):ptB p p=true:=ptB_iff.2 rfl
theorem ptB_ne {p q:Pt} (h:ptB p q=false):p≠q:=fun e=>by rw [ptB_iff.2 e] at h; cases h
def eqP1 (i i':Bool) (x y x' y':R4) (r:Bool) (h:rwB i i' x y x' y'=r):Ev Tryz.prog:=eqEvP i i' x y x' y' r h
open Classical in
noncomputable def paI (p:Pt):Bool:=if FitP p then p.i else false
open Classical in
noncomputable def paX (p:Pt):R4:=if FitP p then p.x else r40
open Classical in
noncomputable def paY (p:Pt):R4:=if FitP p then p.y else r40
theorem pa_fit {p:Pt} (h:FitP p):paI p=p.i∧paX p=p.x∧paY p=p.y:=⟨if_pos h,if_pos h,if_pos h⟩
theorem pa_not {p:Pt} (h:¬ FitP p):paI p=false∧paX p=r40∧paY p=r40:=⟨if_neg h,if_neg h,if_neg h⟩
theorem paK_fit {p:Pt} (h:FitP p):paK p=0:=by
 cases p
 · rfl
 · exact (ga_fit h).2
theorem paC_raw (p:Pt):paC p=rawC (paI p) (paX p) (paY p):=by
 by_cases h:FitP p
 · rw [(pa_fit h).1,(pa_fit h).2.1,(pa_fit h).2.2]
   cases p
   · rfl
   · show _::gaC _=_
     rw [(ga_fit h).1]; rfl
 · rw [(pa_not h).1,(pa_not h).2.1,(pa_not h).2.2]
   cases p
   · exact absurd trivial h
   · show _::gaC _=_
     rw [(ga_not h).1]; rfl
noncomputable abbrev svA (p:Pt) (k:Int):SV:=.tup [.a (rawC (paI p) (paX p) (paY p)),.c (.b (.v (.int .i64 k)))]
def mC (m:MQ):List Lf:=gC m.a++gC m.b++gC m.c++gC m.d++[.b (.v (.bool m.t))]
abbrev svM (m:MQ):SV:=.one (.a (mC m))
theorem gz_true {z:GQ}:gzero z=true↔z=g0:=by
 rw [gzero_iff]
 exact ⟨fun h=>GQ.ext2 h.1 h.2,fun h=>by rw [h]; exact ⟨rfl,rfl⟩⟩
theorem gz_false {z:GQ}:gzero z=false↔z≠g0:=by
 cases h:gzero z with
 | true=>exact ⟨fun e=>Bool.noConfusion e,fun e=>absurd (gz_true.1 h) e⟩
 | false=>exact ⟨fun _ e=>by rw [gz_true.2 e] at h; exact Bool.noConfusion h,fun _=>rfl⟩
theorem gnorm_mul (z w:GQ):gnorm (gmul z w)=gnorm z*gnorm w:=by
 simp only [gnorm,gmul]; grind
theorem gnorm_zero {z:GQ} (h:gnorm z=0):z=g0:=by
 cases h1:gzero z with
 | true=>exact gz_true.1 h1
 | false=>exact absurd h (gnorm_ne h1)
theorem gmul_zero {z w:GQ} (h:gmul z w=g0):z=g0∨w=g0:=by
 have h1:gnorm z*gnorm w=0:=by rw [← gnorm_mul,h]; simp only [gnorm,g0]; grind
 rcases Rat.mul_eq_zero.1 h1 with h | h
 · exact .inl (gnorm_zero h)
 · exact .inr (gnorm_zero h)
theorem gmul_ne {z w:GQ} (h:z≠g0) (k:w≠g0):gmul z w≠g0:=fun e=>(gmul_zero e).elim h k
theorem gnorm_inv {w:GQ} (h:w≠g0):gnorm w*(gnorm w)⁻¹=1:=Rat.mul_inv_cancel _ (gnorm_ne (gz_false.2 h))
theorem gdiv_mul {z w:GQ} (h:w≠g0):gmul (gdiv z w) w=z:=by
 have hn:=gnorm_inv h
 unfold gdiv
 generalize hi:(gnorm w)⁻¹=i at hn
 unfold gnorm at hn
 refine GQ.ext2 ?_ ?_
 · simp only [gmul,gscale,gconj]; grind
 · simp only [gmul,gscale,gconj]; grind
theorem gmul_cancel {z w u:GQ} (h:u≠g0) (e:gmul z u=gmul w u):z=w:=by
 have h1:gmul (gsub z w) u=g0:=by
  have e1:=congrArg GQ.re e
  have e2:=congrArg GQ.im e
  simp only [gmul] at e1 e2
  refine GQ.ext2 ?_ ?_
  · simp only [gmul,gsub,g0]; grind
  · simp only [gmul,gsub,g0]; grind
 rcases gmul_zero h1 with k | k
 · have e1:=congrArg GQ.re k
   have e2:=congrArg GQ.im k
   simp only [gsub,g0] at e1 e2
   exact GQ.ext2 (by grind) (by grind)
 · exact absurd k h
theorem gdiv_eq_iff {z w u:GQ} (h:w≠g0):gdiv z w=u↔z=gmul u w:=by
 constructor
 · intro e; rw [← e,gdiv_mul h]
 · intro e; exact gmul_cancel h (by rw [gdiv_mul h,e])
theorem gneg_ne {z:GQ} (h:z≠g0):gneg z≠g0:=fun e=>h (by
 have e1:=congrArg GQ.re e
 have e2:=congrArg GQ.im e
 simp only [gneg,g0] at e1 e2
 exact GQ.ext2 (by show z.re=0; grind) (by show z.im=0; grind))
theorem gconj_ne {z:GQ} (h:z≠g0):gconj z≠g0:=fun e=>h (by
 have e1:=congrArg GQ.re e
 have e2:=congrArg GQ.im e
 simp only [gconj,g0] at e1 e2
 exact GQ.ext2 e1 (by show z.im=0; grind))
def Reg (m:MQ):Prop:=mdet m≠g0
theorem Reg.by_ {m:MQ} (h:Reg m) {b:Bool} (hb:gzero m.c=b):(bif b then m.d else m.c)≠g0:=by
 cases b
 · exact gz_false.1 hb
 · intro e
   refine h ?_
   have hc:=gz_true.1 hb
   unfold mdet
   rw [hc,show m.d=g0 from e]
   refine GQ.ext2 ?_ ?_<;>(simp only [gsub,gmul,g0]; grind)
theorem Reg.by0 {m:MQ} (h:Reg m) {b:Bool} (hb:gzero m.c=b):gzero (bif b then m.d else m.c)=false:=gz_false.2 (h.by_ hb)
theorem det_norm {m:MQ} {b:Bool} {u:GQ} (hu:(bif b then m.d else m.c)=u) (h:u≠g0):gmul (gmul (mdet (mnormB m b)) u) u=mdet m:=by
 unfold mnormB
 rw [hu]
 have ha:=gdiv_mul (z:=m.a) h
 have hb:=gdiv_mul (z:=m.b) h
 have hc:=gdiv_mul (z:=m.c) h
 have hd:=gdiv_mul (z:=m.d) h
 unfold mdet
 show gmul (gmul (gsub (gmul (gdiv m.a u) (gdiv m.d u)) (gmul (gdiv m.b u) (gdiv m.c u))) u) u=_
 rw [← ha,← hb,← hc,← hd]
 rw [ha,hb,hc,hd]
 generalize gdiv m.a u=a' at *
 generalize gdiv m.b u=b' at *
 generalize gdiv m.c u=c' at *
 generalize gdiv m.d u=d' at *
 rw [← ha,← hb,← hc,← hd]
 refine GQ.ext2 ?_ ?_<;>(simp only [gsub,gmul]; grind)
theorem Reg.norm {m:MQ} (h:Reg m) {b:Bool} (hu:(bif b then m.d else m.c)≠g0):Reg (mnormB m b):=fun e=>h (by
 rw [← det_norm rfl hu,e]
 refine GQ.ext2 ?_ ?_<;>(simp only [gmul,g0]; grind))
theorem Reg.undo0 {m:MQ} (h:Reg m):Reg (mundo0 m):=fun e=>h (by
 have e1:=congrArg GQ.re e
 have e2:=congrArg GQ.im e
 simp only [mdet,mundo0,gsub,gmul,gneg,g0] at e1 e2
 refine GQ.ext2 ?_ ?_<;>(simp only [mdet,gsub,gmul,g0]; grind))
theorem Reg.conj {m:MQ} (h:Reg m) (t:Bool):Reg (mconj m t):=by
 cases t
 · exact h
 · intro e
   refine h ?_
   have e1:=congrArg GQ.re e
   have e2:=congrArg GQ.im e
   simp only [mdet,mconj,cond_true,gsub,gmul,gconj,g0] at e1 e2
   refine GQ.ext2 ?_ ?_<;>(simp only [mdet,gsub,gmul,g0]; grind)
theorem gint00:gint 0 0=g0:=rfl
theorem gint10:gint 1 0=⟨1,0⟩:=rfl
theorem across_ne {p q:Pt} (h:p≠q):gacross p q≠g0:=by
 intro e
 have e1:=congrArg GQ.re e
 have e2:=congrArg GQ.im e
 cases p<;>cases q<;>simp only [gacross,byA,byB,gint00,gint10,gsub,gmul,g0] at e1 e2
 · exact h rfl
 · exact absurd e1 (by grind)
 · exact absurd e1 (by grind)
 · rename_i z w
   refine h (congrArg Pt.fin (GQ.ext2 ?_ ?_))
   · grind
   · grind
theorem Reg.chart {p q r:Pt} (h1:p≠q) (h2:q≠r) (h3:p≠r):Reg (mchart0 p q r):=by
 have k1:=across_ne h1
 have k2:=across_ne h2
 have k3:=across_ne h3
 unfold Reg
 have:mdet (mchart0 p q r)=gmul (gmul (gacross q r) (gneg (gacross p q))) (gacross p r):=by
  unfold mdet mchart0 gacross
  generalize byA p=a
  generalize byB p=b
  generalize byA q=c
  generalize byB q=d
  generalize byA r=e
  generalize byB r=f
  refine GQ.ext2 ?_ ?_<;>(simp only [gsub,gmul,gneg]; grind)
 rw [this]
 exact gmul_ne (gmul_ne k2 (gneg_ne k1)) k3
def rchart0 (a b c:Pt):MQ:=⟨gneg (gmul (byB c) (gacross a b)),gmul (byA c) (gacross a b),gmul (byB a) (gacross b c),gneg (gmul (byA a) (gacross b c)),false⟩
theorem rchart_eq (a b c:Pt):rchart0 a b c=mchart0 c b a:=by
 unfold rchart0 mchart0 gacross
 generalize byA a=a1
 generalize byB a=a2
 generalize byA b=b1
 generalize byB b=b2
 generalize byA c=c1
 generalize byB c=c2
 congr 1<;>(refine GQ.ext2 ?_ ?_<;>(simp only [gsub,gmul,gneg]; grind))
structure BSpec (P:Program) where
 f:FuncId
 en:Enters P f
 args:List SV
 cs:List Lf
 t:TypeId
 r:Value
 ok:∀ β w,(Ob.box cs t).holds β w (β 0)→Calls P f (args.map (SV.den β)).toArray w fun e w'=>e=.returned r∧Below w.heap.size w w'
 cl:(cs.all (Lf.of fun _=>false)&&args.all (SV.of fun k=>Nat.beq k 0))=true
 hr:∀ β,(tag r).den β=r
def bkOf:List SV→Nat
 | []=>0
 | .one (.c (.b (.s k _ _ _)))::_=>k
 | _::r=>bkOf r
theorem cells_closed {β β':Env} {cs:List Lf} (h:cs.all (Lf.of fun _=>false)=true):cs.map (Lf.den β)=cs.map (Lf.den β') :=
 List.map_congr_left fun x hx=>Lf.den_congr (q:=fun _=>false) (fun k hk=>by cases hk) x (List.all_eq_true.1 h x hx)
def BSpec.e {P:Program} (S:BSpec P):Ev P:=.dyn (fun o _ _=>isCallB o) fun _ xs ob=>lit (bkOf xs) fun i =>
 .call S.f S.en (fun β=>(S.args.map (SV.den fun _=>β i)).toArray) [(i,.box S.cs S.t)] 0 (tag S.r) [] (fun β w h=>of_pure0 (by
  have hc:=S.cl
  rw [Bool.and_eq_true] at hc
  refine S.ok (fun _=>β i) w ?_
  have h1:(β i).one∧w.heap[(β i).b]?=some (.cells (S.cs.map (Lf.den β)).toArray S.t (0,0)):=h _ (List.mem_singleton.2 rfl)
  show (β i).one∧w.heap[(β i).b]?=some (.cells (S.cs.map (Lf.den fun _=>β i)).toArray S.t (0,0))
  rw [cells_closed (β':=β) hc.1]
  exact h1) S.hr)
theorem bspec_ok {P:Program} {f:FuncId} {fn:Func} {args:List SV} {cs:List Lf} {t:TypeId} {r:Value} (evs:List (Ev P)) (Ns:List (Nat × Nat)) (m:Nat) (hf:P.funcs[f]?=some fn) (hm:P.follows .mixedOrders=true)
  (h:∀ β,(allS P fn args [.box cs t] evs Ns m (tag r) [] β).map Prod.fst=(allS P fn args [.box cs t] evs Ns m (tag r) [] β).map Prod.snd)
  (hB:(args.all (SV.of fun k=>Nat.blt k 1)&&[Ob.box cs t].all fun x=>x.of (fun k=>Nat.blt k 1)&&x.own)=true) (hr:∀ β,(tag r).den β=r) (β:Env) (w:World) (hh:(Ob.box cs t).holds β w (β 0)) :
  Calls P f (args.map (SV.den β)).toArray w fun e w'=>e=.returned r∧Below w.heap.size w w':=by
 rw [Bool.and_eq_true] at hB
 refine (sx (P:=P) args [.box cs t] evs Ns m (tag r) [] hf hm (fun β=>ok_of_maps (h β)) hB.1 hB.2 β w (fun k o ho=>?_)).mono ?_
 · cases k with
   | zero=>simp only [List.getElem?_cons_zero] at ho; obtain rfl:=Option.some.inj ho; exact hh
   | succ k=>simp at ho
 · rintro e w' ⟨β',q,obj,e1,rfl,e2,e4,e5,g⟩
   exact ⟨by rw [hr],g.bel⟩
def big (k:Nat) (s:ByteArray):Bool:=decide ((k:Int)<(s.size:Int))
def smB (k:Nat) (x y:R4):Bool:=!(big k x.s||(big k x.t||(big k y.s||big k y.t)))
theorem big_lit {k:Nat} {s:ByteArray} {r:Bool} (h:big k s=r):Value.bool (decide ((k:Int)<(s.size:Int)))=.bool r:=by rw [← h]; rfl
def evBig (k:Nat) (s:ByteArray) (d:Nat) (r:Bool) (h:big k s=r):Ev Tryz.prog:=.eqv d (.bool (decide ((k:Int)<(s.size:Int)))) (.bool r) (big_lit h)
theorem small4_ok (k:Nat) (x y:R4) {b:Bool} (hb:smB k x y=b) (β:Env) (w:World) (hh:(Ob.box (x.L++y.L) 37).holds β w (β 0)) :
  Calls Tryz.prog 47 (([.one (.c (.b (.v (.int .i64 (k:Int))))),.one (.c (.b (.s 0 0 1 1)))]:List SV).map (SV.den β)).toArray w fun e w'=>e=.returned (.bool b)∧Below w.heap.size w w':=by
 unfold smB at hb
 cases h1:big k x.s with
 | true =>
  obtain rfl:b=false:=by rw [← hb,h1]; rfl
  exact bspec_ok [evBig k x.s 23 true h1] [] 800 Tryz.func47 hmA (fun β=>by kernel_rfl) (by kernel_rfl) (fun β=>rfl) β w hh
 | false=>cases h2:big k x.t with
 | true =>
  obtain rfl:b=false:=by rw [← hb,h1,h2]; rfl
  exact bspec_ok [evBig k x.s 23 false h1,evBig k x.t 31 true h2] [] 800 Tryz.func47 hmA (fun β=>by kernel_rfl) (by kernel_rfl) (fun β=>rfl) β w hh
 | false=>cases h3:big k y.s with
 | true =>
  obtain rfl:b=false:=by rw [← hb,h1,h2,h3]; rfl
  exact bspec_ok [evBig k x.s 23 false h1,evBig k x.t 31 false h2,evBig k y.s 40 true h3] [] 800 Tryz.func47 hmA (fun β=>by kernel_rfl) (by kernel_rfl) (fun β=>rfl) β w hh
 | false=>cases h4:big k y.t with
 | true =>
  obtain rfl:b=false:=by rw [← hb,h1,h2,h3,h4]; rfl
  exact bspec_ok [evBig k x.s 23 false h1,evBig k x.t 31 false h2,evBig k y.s 40 false h3,evBig k y.t 49 true h4] [] 800 Tryz.func47 hmA (fun β=>by kernel_rfl) (by kernel_rfl) (fun β=>rfl) β w hh
 | false =>
  obtain rfl:b=true:=by rw [← hb,h1,h2,h3,h4]; rfl
  exact bspec_ok [evBig k x.s 23 false h1,evBig k x.t 31 false h2,evBig k y.s 40 false h3,evBig k y.t 49 false h4] [] 800 Tryz.func47 hmA (fun β=>by kernel_rfl) (by kernel_rfl) (fun β=>rfl) β w hh
def sR4Small (k:Nat) (x y:R4) {b:Bool} (hb:smB k x y=b):BSpec Tryz.prog :=
 ⟨47,Tryz.call47,[.one (.c (.b (.v (.int .i64 (k:Int))))),.one (.c (.b (.s 0 0 1 1)))],x.L++y.L,37,.bool b,small4_ok k x y hb,by kernel_rfl,fun _=>rfl⟩
def Rw.C (r:Rw):List Lf:=rawC r.i r.x r.y
def Rw.sm (k:Nat) (r:Rw):Bool:=smB k r.x r.y
def Pp.may7E:Pp→List (Ev Tryz.prog)
 | .inf=>[]
 | .fin a b=>[(sR4May a b).e]
 | .odd x y h=>[eqEvP true true x y r40 r40 false (odd_ne h)]
def sR7May0 (p:Pp):Y.Spec Tryz.prog :=
 Y.Spec.auto Tryz.call29 [.one (.a p.C)] [] (.one (.c (.b (.v (.bool p.B))))) []
  p.may7E [] 400 Tryz.func29 hmA (by rcases p with _ | ⟨_ | _,_ | _⟩ | _<;>kernel_rfl) (fun β=>by rcases p with _ | ⟨_ | _,_ | _⟩ | _<;>kernel_rfl)
def sR7May (p:Pp) {b:Bool} (hb:p.B=b):Y.Spec Tryz.prog :=
 (sR7May0 p).as [svR p.rI p.rX p.rY] (.one (.c (.b (.v (.bool b))))) (congrArg (fun l=>[SV.one (.a l)]) (Pp.C_raw p)) (congrArg (fun b=>SV.one (.c (.b (.v (.bool b))))) hb)
def sR7Inf:Y.Spec Tryz.prog:=Y.Spec.auto Tryz.call145 [] [] (svP .inf) [] [] [] 400 Tryz.func145 hmA (by kernel_rfl) (fun β=>by kernel_rfl)
def sR7Of (z:GQ):Y.Spec Tryz.prog:=Y.Spec.auto Tryz.call40 [svG z] [] (svP (.fin z)) [] [] [] 400 Tryz.func40 hmA (by kernel_rfl) (fun β=>by kernel_rfl)
def sR7Int (n m:Int) (hn : -9223372036854775808≤n∧n≤9223372036854775807:=by decide) (hm : -9223372036854775808≤m∧m≤9223372036854775807:=by decide):Y.Spec Tryz.prog :=
 Y.Spec.auto Tryz.call143 [.one (.c (.b (.v (.int .i64 n)))),.one (.c (.b (.v (.int .i64 m))))] [] (svP (.fin (gint n m))) [] [(sR4Int n m hn hm).e,(sR7Of (gint n m)).e] [] 400 Tryz.func143 hmA (by kernel_rfl) (fun β=>by kernel_rfl)
def pratio (x y:GQ) (b:Bool):Pt:=bif b then .inf else .fin (gdiv x y)
def minv0 (m:MQ):MQ:=mconj (mundo0 m) m.t
theorem minv0_sz {k:Nat} {m:MQ} (h:MSz k m):MSz k (minv0 m):=h.undo0.conj _
theorem maC_fit {m:MQ} (h:FitM m):maC m=mC m∧maK m=0:=by
 obtain ⟨h1,h2⟩:=maC_yes h
 refine ⟨?_,h2⟩
 rw [h1,(ga_fit h.1).1,(ga_fit h.2.1).1,(ga_fit h.2.2.1).1,(ga_fit h.2.2.2).1]
 rfl
abbrev KQ:Nat:=250
abbrev csz (k:Nat):Nat:=k+(k+k+(k+k)+1+(k+k+(k+k)+1)+1)+(k+(k+k+(k+k)+1+(k+k+(k+k)+1)+1))+1
theorem mchart0_sz {k:Nat} {p q r:Pt} (hp:PSz k p) (hq:PSz k q) (hr:PSz k r) (hk:1≤k):MSz (csz k) (mchart0 p q r) :=
 ⟨(byB_sz hk).mul (gacross_sz hq hr hk),((byA_sz hp hk).mul (gacross_sz hq hr hk)).neg,(byB_sz hk).mul (gacross_sz hq hp hk),((byA_sz hr hk).mul (gacross_sz hq hp hk)).neg⟩
def pchart (a b c:Pt):MQ:=mnormB (rchart0 a b c) (gzero (rchart0 a b c).c)
def pback (a b c:Pt):MQ:=mnormB (minv0 (pchart a b c)) (gzero (minv0 (pchart a b c)).c)
def pfourth (a b c r:Pt):Pt:=msend (pback a b c) r (gzero (msD (pback a b c) r))
theorem rchart_reg {a b c:Pt} (h1:a≠b) (h2:b≠c) (h3:c≠a):Reg (rchart0 a b c):=by
 rw [rchart_eq]
 exact Reg.chart (Ne.symm h2) (Ne.symm h1) h3
theorem pchart_reg {a b c:Pt} (h1:a≠b) (h2:b≠c) (h3:c≠a):Reg (pchart a b c):=(rchart_reg h1 h2 h3).norm ((rchart_reg h1 h2 h3).by_ rfl)
theorem minv_reg {m:MQ} (h:Reg m):Reg (minv0 m):=h.undo0.conj _
def sR10Twins (p q r:Rw) {t1 t2 t3:Bool} (h1:rwB p.i q.i p.x p.y q.x q.y=t1) (h2:rwB q.i r.i q.x q.y r.x r.y=t2) (h3:rwB p.i r.i p.x p.y r.x r.y=t3):Y.Spec Tryz.prog :=
 ⟨59,Tryz.call59,[svR p.i p.x p.y,svR q.i q.x q.y,svR r.i r.x r.y],[],.one (.c (.b (.v (.bool (t1||(t2||t3)))))),[],fun β w hh=>by
  cases t1
  · cases t2
    · cases t3<;>exact spec_auto (evs:=[eqP1 p.i q.i p.x p.y q.x q.y _ h1,eqP1 q.i r.i q.x q.y r.x r.y _ h2,eqP1 p.i r.i p.x p.y r.x r.y _ h3]) (Ns:=[]) (m:=400) Tryz.func59 hmA (fun β=>by kernel_rfl) (by kernel_rfl) β w hh
    · exact spec_auto (evs:=[eqP1 p.i q.i p.x p.y q.x q.y _ h1,eqP1 q.i r.i q.x q.y r.x r.y _ h2]) (Ns:=[]) (m:=400) Tryz.func59 hmA (fun β=>by kernel_rfl) (by kernel_rfl) β w hh
  · exact spec_auto (evs:=[eqP1 p.i q.i p.x p.y q.x q.y _ h1]) (Ns:=[]) (m:=400) Tryz.func59 hmA (fun β=>by kernel_rfl) (by kernel_rfl) β w hh,by kernel_rfl⟩
theorem gq_one_ne:(⟨1,0⟩:GQ)≠g0:=fun e=>by have:=congrArg GQ.re e; exact absurd this (by show (1:Rat)≠0; decide)
theorem gq_div_self {u:GQ} (h:u≠g0):gdiv u u=⟨1,0⟩:=by
 rw [gdiv_eq_iff h]
 refine GQ.ext2 ?_ ?_<;>(simp only [gmul]; grind)
theorem gq_div_one (z:GQ):gdiv z ⟨1,0⟩=z:=by
 rw [gdiv_eq_iff gq_one_ne]
 refine GQ.ext2 ?_ ?_<;>(simp only [gmul]; grind)
theorem ptB_ne' {p q:Pt} (h:p≠q):ptB p q=false:=by
 cases k:ptB p q
 · rfl
 · exact absurd (ptB_iff.1 k) h
def mnorm (m:MQ):MQ:=mnormB m (gzero m.c)
def Nrm (m:MQ):Prop:=(bif gzero m.c then m.d else m.c)=⟨1,0⟩
theorem Nrm.id {m:MQ} (h:Nrm m):mnorm m=m:=by
 unfold Nrm at h
 unfold mnorm mnormB
 rw [h,gq_div_one,gq_div_one,gq_div_one,gq_div_one]
theorem Reg.nrm {m:MQ} (h:Reg m):Nrm (mnorm m):=by
 have h0:=h.by_ rfl
 unfold Nrm mnorm
 cases hc:gzero m.c with
 | false =>
  have hc':=gz_false.1 hc
  show (bif gzero (gdiv m.c m.c) then _ else gdiv m.c m.c)=_
  rw [gq_div_self hc',gz_false.2 gq_one_ne]
  rfl
 | true =>
  rw [hc] at h0
  have hd:m.d≠g0:=h0
  show (bif gzero (gdiv m.c m.d) then gdiv m.d m.d else _)=_
  have:gzero (gdiv m.c m.d)=true:=by
   rw [gz_true.1 hc,gz_true,gdiv_eq_iff hd]
   refine GQ.ext2 ?_ ?_<;>(simp only [gmul,g0]; grind)
  rw [this,gq_div_self hd]
  rfl
theorem Reg.mnorm {m:MQ} (h:Reg m):Reg (mnorm m):=h.norm (h.by_ rfl)
theorem Reg.b0 {m:MQ} (h:Reg m):gzero (bif gzero m.c then m.d else m.c)=false:=h.by0 rfl
theorem MSz.nrm {k:Nat} {m:MQ} (h:MSz k m) (hr:Reg m):MSz (dsz k) (Go.Proofs.YtdiemgedlfnlmaaGreat.mnorm m):=h.normB hr.b0
def minv (m:MQ):MQ:=mnorm (minv0 m)
def mcha (p q r:Pt):MQ:=mnorm (mchart0 p q r)
def mid (t:Bool):MQ:=⟨gint 1 0,g0,g0,gint 1 0,t⟩
theorem gmul_1 (z:GQ):gmul (gint 1 0) z=z:=by rw [gint10]; refine GQ.ext2 ?_ ?_<;>(simp only [gmul]; grind)
theorem gadd_0 (z:GQ):gadd z g0=z:=by refine GQ.ext2 ?_ ?_<;>(simp only [gadd,g0]; grind)
theorem gadd_0' (z:GQ):gadd g0 z=z:=by refine GQ.ext2 ?_ ?_<;>(simp only [gadd,g0]; grind)
end Go.Proofs.YtdiemgedlfnlmaaGreat
end
section
namespace Go.Proofs.YtdiemgedlfnlmaaGreat.Y
open Go Go.RowKit
set_option maxRecDepth 100000
theorem an_mem {w:World} {D1 D2:Thing} {xs:List Pl} (h:newHold w [D1,D2] xs):newHold w [anyT,anyT] xs:=by
 match xs,h with
 | [p,q],h=>exact ⟨an_of D1.st h.1,an_of D2.st h.2.1,trivial⟩
theorem spT_any {w:World} {p:Pp} {xs:List Pl} (h:newHold w (spT p) xs):newHold w [anyT,anyT] xs:=by
 rcases p with _ | ⟨_ | _,_ | _⟩ | _<;>exact an_mem h
def sSpotW (p:Pp) {r:Bool} (hr:p.B=r):Spec Tryz.prog :=
 ⟨150,Tryz.call150,[.one (.a (lsX p.w.C))],[],.tup [.a [.b (.v (.bool (spI p))),.b (.z 0 0),.b (.z 1 0)],.c (.b (.v (.bool r)))],[anyT,anyT],fun β w hh=>by
  rw [← hr]
  have h:=(sSpot p).ok β w hh
  rw [show (sSpot p).args=[.one (.a (lsX p.w.C))] from congrArg (fun l=>[SV.one (.a (lsX l))]) p.C_raw] at h
  exact h.mono fun e w' ⟨xs,h1,he,h2,h3⟩=>⟨xs,h1,he,spT_any h2,h3⟩,by kernel_rfl⟩
def sSpotP (p:Pt) (h:FitP p):Spec Tryz.prog :=
 ⟨150,Tryz.call150,[.one (.a (lsX p.w.C))],[],.tup [.a (pL 0 p),.c (.b (.v (.bool true)))],pM p,fun β w hh=>by
  cases p with
  | inf=>exact (sSpot .inf).ok β w hh
  | fin z =>
   refine ((sSpot (.fin (.ok z.re h.1) (.ok z.im h.2))).ok β w hh).mono fun e w' ⟨xs,h1,he,h2,h3⟩=>⟨xs,h1,he,?_,h3⟩
   have h4:newHold w' [ratT z.re,ratT z.im] xs:=h2
   match xs,h4 with
   | [a,b],h4=>exact ⟨(ratT z.re).imp _ _ h4.1,(ratT z.im).imp _ _ h4.2.1,trivial⟩,by kernel_rfl⟩
def OpenNo (m:Mp) (t:Bool):Prop:=∀ (β:Env) (w:World),Calls Tryz.prog 196 (([.one (.a m.C)]:List SV).map (SV.den β)).toArray w fun e w'=>∃ xs:List Pl,freshS β w 0 xs∧e=.returned ((SV.tup [mB 0 t,.c (.b (.v (.bool false)))]).den (extE β 0 xs))∧newHold w' any8 xs∧Below w.heap.size w w'
def sOpenNo {m:Mp} {t:Bool} (h:OpenNo m t):Spec Tryz.prog :=
 ⟨196,Tryz.call196,[.one (.a m.C)],[],.tup [mB 0 t,.c (.b (.v (.bool false)))],any8,fun β w _=>h β w,by kernel_rfl⟩
theorem newHold8 {w:World} {t1 t2 t3 t4 t5 t6 t7 t8:Thing} {xs:List Pl} (h:newHold w [t1,t2,t3,t4,t5,t6,t7,t8] xs):newHold w any8 xs:=by
 match xs,h with
 | [a,b,c,d,e,f,g,i],h=>exact ⟨an_of t1.st h.1,an_of t2.st h.2.1,an_of t3.st h.2.2.1,an_of t4.st h.2.2.2.1,an_of t5.st h.2.2.2.2.1,an_of t6.st h.2.2.2.2.2.1,an_of t7.st h.2.2.2.2.2.2.1,an_of t8.st h.2.2.2.2.2.2.2.1,trivial⟩
def MayQ (q:MQ):Prop:=FitM q∧gzero (mdet q)=false∧(gzero (gsub q.c (gint 1 0))=true∨gzero q.c=true∧gzero (gsub q.d (gint 1 0))=true)
theorem fp_fit {a:Fr} (h:a.a.B=true):∃ x,∃ k:Fit x,rL a.r=lsX (Fp.C (.ok x k)):=by
 obtain ⟨r,a,e⟩:=a
 cases a with
 | ok x hx=>exact ⟨x,hx,e.symm⟩
 | no=>cases h
theorem open_all (m:Mp):(∃ q,MayQ q∧m.C=mCl q)∨∃ t,OpenNo m t:=by
 by_cases hn:((m.a.a.B&&m.a'.a.B)&&(m.b.a.B&&m.b'.a.B)&&(m.c.a.B&&m.c'.a.B)&&(m.d.a.B&&m.d'.a.B))=true
 · simp only [Bool.and_eq_true] at hn
   obtain ⟨⟨⟨⟨p1,p2⟩,p3,p4⟩,p5,p6⟩,p7,p8⟩:=hn
   obtain ⟨x1,h1,e1⟩:=fp_fit p1
   obtain ⟨x2,h2,e2⟩:=fp_fit p2
   obtain ⟨x3,h3,e3⟩:=fp_fit p3
   obtain ⟨x4,h4,e4⟩:=fp_fit p4
   obtain ⟨x5,h5,e5⟩:=fp_fit p5
   obtain ⟨x6,h6,e6⟩:=fp_fit p6
   obtain ⟨x7,h7,e7⟩:=fp_fit p7
   obtain ⟨x8,h8,e8⟩:=fp_fit p8
   obtain ⟨q,hq⟩:∃ q:MQ,q=⟨⟨x1,x2⟩,⟨x3,x4⟩,⟨x5,x6⟩,⟨x7,x8⟩,m.t⟩:=⟨_,rfl⟩
   have hf:FitM q:=by rw [hq]; exact ⟨⟨h1,h2⟩,⟨h3,h4⟩,⟨h5,h6⟩,h7,h8⟩
   have hC:m.C=mCl q:=by
    unfold Mp.C
    rw [e1,e2,e3,e4,e5,e6,e7,e8,hq]
    rfl
   cases hd:gzero (mdet q) with
   | true =>
    refine .inr ⟨false,fun β w=>?_⟩
    rw [hC]
    exact (sOpenDet hf hd).ok β w (fun k t h=>by simp [sOpenDet] at h)
   | false =>
    obtain ⟨r1,k1⟩:∃ r,gzero (gsub q.c (gint 1 0))=r:=⟨_,rfl⟩
    obtain ⟨r2,k2⟩:∃ r,gzero q.c=r:=⟨_,rfl⟩
    obtain ⟨r3,k3⟩:∃ r,gzero (gsub q.d (gint 1 0))=r:=⟨_,rfl⟩
    cases hr:mayR r1 r2 r3 with
    | true =>
     refine .inl ⟨q,⟨hf,hd,?_⟩,hC⟩
     rw [k1,k2,k3]
     cases r1<;>cases r2<;>cases r3<;>first | exact .inl rfl | exact .inr ⟨rfl,rfl⟩ | cases hr
    | false =>
     refine .inr ⟨q.t,fun β w=>?_⟩
     rw [hC]
     refine ((sOpenM hf hd k1 k2 k3).ok β w (fun k t h=>by simp [sOpenM] at h)).mono fun e w' ⟨xs,h1,he,h2,h3⟩=>⟨xs,h1,?_,newHold8 h2,h3⟩
     rw [he]
     show Ending.returned ((SV.tup [mA 0 q,.c (.b (.v (.bool (mayR r1 r2 r3))))]).den (extE β 0 xs))=_
     rw [hr]
     rfl
 · refine .inr ⟨false,fun β w=>?_⟩
   exact (sOpenNum m rfl rfl rfl rfl (Bool.eq_false_iff.2 hn)).ok β w (fun k t h=>by simp [sOpenNum] at h)
def sOpenYes {q:MQ} (h:MayQ q):Spec Tryz.prog :=
 ⟨196,Tryz.call196,[.one (.a (mCl q))],[],.tup [mA 0 q,.c (.b (.v (.bool true)))],mT q,fun β w hh=>by
  obtain ⟨hf,hd,hr⟩:=h
  have hk:mayR (gzero (gsub q.c (gint 1 0))) (gzero q.c) (gzero (gsub q.d (gint 1 0)))=true:=by
   unfold mayR
   rcases hr with h | ⟨h,k⟩
   · rw [h]; rfl
   · rw [h,k]; cases gzero (gsub q.c (gint 1 0))<;>rfl
  refine ((sOpenM hf hd rfl rfl rfl).ok β w hh).mono fun e w' ⟨xs,h1,he,h2,h3⟩=>⟨xs,h1,?_,h2,h3⟩
  rw [he]
  show Ending.returned ((SV.tup [mA 0 q,.c (.b (.v (.bool (mayR (gzero (gsub q.c (gint 1 0))) (gzero q.c) (gzero (gsub q.d (gint 1 0)))))))]).den (extE β 0 xs))=_
  rw [hk]
  rfl,by kernel_rfl⟩
end Go.Proofs.YtdiemgedlfnlmaaGreat.Y
end
section
namespace Go.Proofs.YtdiemgedlfnlmaaGreat
open Go.Proofs.YtdiemgedlfnlmaaGreat.Y
open Go Go.RowKit
set_option maxRecDepth 100000
abbrev KT:Nat:=125
abbrev P6 (p q r s u v:Pt) (k:Pt→Prop):Prop:=k p∧k q∧k r∧k s∧k u∧k v
section
variable {p q r s u v:Pt} (z:P6 p q r s u v (PSz KT)) (t:Bool)
theorem mcha_sz {k:Nat} (hp:PSz k p) (hq:PSz k q) (hr:PSz k r) (hk:1≤k) (h0:Reg (mchart0 p q r)):MSz (dsz (csz k)) (mcha p q r):=(mchart0_sz hp hq hr hk).nrm h0
theorem minv_sz {k:Nat} {m:MQ} (h:MSz k m) (h0:Reg (minv0 m)):MSz (dsz k) (minv m):=(minv0_sz h).nrm h0
end
end Go.Proofs.YtdiemgedlfnlmaaGreat
end
section
namespace Go.Proofs.YtdiemgedlfnlmaaGreat.Y
open Go Go.RowKit
set_option maxRecDepth 100000
def eqEvPt {p q:Pt} {r:Bool} (h:ptB p q=r):Ev Tryz.prog:=eqEvP p.i q.i p.x p.y q.x q.y r h
def mob0:SC:=.a (lsX g0C++lsX g0C++lsX g0C++lsX g0C++[.b (.v (.bool false))])
theorem MayQ.reg {q:MQ} (h:MayQ q):Reg q:=gz_false.1 h.2.1
def sUndoR {m:MQ} (h:MSz KM m) (h0:Reg m):Spec Tryz.prog:=sUndo h (b:=gzero (minv0 m).c) rfl (minv_reg h0).b0
def sChaR {p q r:Pt} (hp:PSz KC p) (hq:PSz KC q) (hr:PSz KC r) (h0:Reg (mchart0 p q r)):Spec Tryz.prog:=sChart hp hq hr (b:=gzero (mchart0 p q r).c) rfl h0.b0
theorem nrm_b0 {m:MQ} (h:Nrm m):gzero (bif gzero m.c then m.d else m.c)=false:=by
 unfold Nrm at h
 rw [h]
 exact gz_false.2 gq_one_ne
noncomputable def sToldN {m:MQ} (h:MSz KM m) (h0:Nrm m):Spec Tryz.prog :=
 ⟨207,Tryz.call207,[mV 0 m],mM m,.tup [.a (lsX (maC m)),.c (.b (.v (.int .i64 (maK m))))],[],fun β w hh=>by
  have k:=(sToldM h (b:=gzero m.c) rfl (nrm_b0 h0)).ok β w hh
  rw [show (sToldM h (b:=gzero m.c) rfl (nrm_b0 h0)).res=.tup [.a (lsX (maC m)),.c (.b (.v (.int .i64 (maK m))))] from congrArg (fun m=>SV.tup [.a (lsX (maC m)),.c (.b (.v (.int .i64 (maK m))))]) h0.id] at k
  exact k,by kernel_rfl⟩
theorem send_sz {q:MQ} (h:MSz 1024 q) {p:Pt} (hp:PSz 1024 p) {b:Bool} (hb:gzero (msD q p)=b):PSz KB (msend q p b):=by
 cases b
 · exact (GSz.div (msN_sz h hp) (msD_sz h hp) hb).mono (by decide)
 · trivial
noncomputable def sAt {q:MQ} (h:MayQ q) {p:Pt} (hp:FitP p) {b:Bool} (hb:gzero (msD q p)=b):Spec Tryz.prog :=
 Spec.auto Tryz.call61 [.one (.a (mCl q)),.one (.a (lsX p.w.C))] [] (.tup [.a (lsX (paC (msend q p b))),.c (.b (.v (.int .i64 (paK (msend q p b)))))]) []
  [(sOpenYes h).e,(sSpotP p hp).e,(sSend ((fitM_sz h.1).mono (by decide)) (hp.sz.mono (by decide)) hb).e,(sToldP (msend q p b) (send_sz (fitM_sz h.1) hp.sz hb)).e] [] 800 Tryz.func61 hmA (by cases b<;>kernel_rfl) (fun β=>by cases b<;>kernel_rfl)
end Go.Proofs.YtdiemgedlfnlmaaGreat.Y
end
section
namespace Go.Proofs.YtdiemgedlfnlmaaGreat
open Go.Proofs.YtdiemgedlfnlmaaGreat.Y
open Go Go.RowKit
set_option maxRecDepth 100000
abbrev svI (n:Int):SC:=.c (.b (.v (.int .i64 n)))
theorem sz_lit1 {n:Int} (h:n.natAbs<256):Fit (Rat.divInt n 1):=(Sz.small h).fit (by decide)
theorem fit_int {n m:Int} (h:n.natAbs<256) (k:m.natAbs<256):FitG (gint n m):=⟨sz_lit1 h,sz_lit1 k⟩
def mV (a a' b b' c c' d d':R4) (t:Bool):Array Value:=#[.bool a.b,.string a.s,.bool a.c,.string a.t,.bool a'.b,.string a'.s,.bool a'.c,.string a'.t,.bool b.b,.string b.s,.bool b.c,.string b.t,.bool b'.b,.string b'.s,.bool b'.c,.string b'.t,
 .bool c.b,.string c.s,.bool c.c,.string c.t,.bool c'.b,.string c'.s,.bool c'.c,.string c'.t,.bool d.b,.string d.s,.bool d.c,.string d.t,.bool d'.b,.string d'.s,.bool d'.c,.string d'.t,.bool t]
def gV (a a':R4):Array Value:=#[.bool a.b,.string a.s,.bool a.c,.string a.t,.bool a'.b,.string a'.s,.bool a'.c,.string a'.t]
def geq (x y x' y':R4):Bool:=x.eq x'&&(y.eq y'&&true)
theorem eqM {w:World} (n:Nat) (a a' b b' c c' d d':R4) (t:Bool) (p p' q q' r r' s s':R4) (u:Bool):(Op.equalIn (n+5) 74 (.agg (mV a a' b b' c c' d d' t)) (.agg (mV p p' q q' r r' s s' u))).run Tryz.prog w=.ok (geq a a' p p'&&(geq b b' q q'&&(geq c c' r r'&&(geq d d' s s'&&((t==u)&&true))))) w:=by
 unfold mV
 rw [run_equalIn_agg _ _ _ _ _ (by kernel_rfl) (by kernel_rfl)]
 refine run_eqF_cons (a:=.agg (gV a a')) (b:=.agg (gV p p')) (by kernel_rfl) (by kernel_rfl) (by kernel_rfl) (eqG n _ _ _ _) ?_
 refine run_eqF_cons (a:=.agg (gV b b')) (b:=.agg (gV q q')) (by kernel_rfl) (by kernel_rfl) (by kernel_rfl) (eqG n _ _ _ _) ?_
 refine run_eqF_cons (a:=.agg (gV c c')) (b:=.agg (gV r r')) (by kernel_rfl) (by kernel_rfl) (by kernel_rfl) (eqG n _ _ _ _) ?_
 refine run_eqF_cons (a:=.agg (gV d d')) (b:=.agg (gV s s')) (by kernel_rfl) (by kernel_rfl) (by kernel_rfl) (eqG n _ _ _ _) ?_
 refine run_eqF_cons (a:=.bool t) (b:=.bool u) (by kernel_rfl) (by kernel_rfl) (by kernel_rfl) (run_equalIn_bool' _ _ _ _ _ (by kernel_rfl)) ?_
 kernel_rfl
theorem geq_self (x y:R4):geq x y x y=true:=by
 unfold geq
 rw [R4.eq_iff.2 rfl,R4.eq_iff.2 rfl]; rfl
def eqEvM (a a' b b' c c' d d':R4) (t:Bool):Ev Tryz.prog :=
 eqEv 74 (mV a a' b b' c c' d d' t) (mV a a' b b' c c' d d' t) true (by kernel_rfl) (fun w=>by
  have h:=eqM (w:=w) 9995 a a' b b' c c' d d' t a a' b b' c c' d d' t
  rw [geq_self,geq_self,geq_self,geq_self,show (t==t)=true from beq_self_eq_true t] at h
  exact h)
def eqMC (m:MQ):Ev Tryz.prog:=eqEvM (fR m.a.re) (fR m.a.im) (fR m.b.re) (fR m.b.im) (fR m.c.re) (fR m.c.im) (fR m.d.re) (fR m.d.im) m.t
abbrev svB (b:Bool):SV:=.one (.c (.b (.v (.bool b))))
abbrev pI (n m:Int):Pt:=.fin (gint n m)
theorem pI_fit {n m:Int} (h:n.natAbs<256) (k:m.natAbs<256):FitP (pI n m):=fit_int h k
theorem pI_ne {n m n' m':Int} (h:¬ (n=n'∧m=m')):pI n m≠pI n' m':=fun e=>h (by
 injection e with e
 injection e with e1 e2
 have k1:=congrArg Rat.num e1
 have k2:=congrArg Rat.num e2
 rw [(divInt_one n).1,(divInt_one n').1] at k1
 rw [(divInt_one m).1,(divInt_one m').1] at k2
 exact ⟨k1,k2⟩)
theorem svA_fit {P Q:Pt} (h:P=Q) (hq:FitP Q):svA P (paK P)=.tup [.a Q.w.C,svI 0]:=by
 subst h
 unfold svA
 rw [(pa_fit hq).1,(pa_fit hq).2.1,(pa_fit hq).2.2,paK_fit hq]
 rfl
theorem fit_small {z:GQ} (h1:z.re.num.natAbs<256) (h2:z.re.den<256) (h3:z.im.num.natAbs<256) (h4:z.im.den<256):FitP (.fin z) :=
 ⟨Sz.fit (k:=1) ⟨sz_small h1,sz_small (n:=(z.re.den:Int)) (by simpa using h2)⟩ (by decide),Sz.fit (k:=1) ⟨sz_small h3,sz_small (n:=(z.im.den:Int)) (by simpa using h4)⟩ (by decide)⟩
theorem gq_lit {z w:GQ} (h1:decide (z.re=w.re)=true) (h2:decide (z.im=w.im)=true):z=w:=GQ.ext2 (of_decide_eq_true h1) (of_decide_eq_true h2)
theorem msend_lit {m:MQ} {p:Pt} {P:Pt} {f:Bool} (hf:gzero (msD m p)=f) (h:msend m p f=P):msend m p (gzero (msD m p))=P:=by rw [hf]; exact h
abbrev mOne:MQ:=⟨gint 1 0,gint 0 0,gint 0 0,gint 1 0,false⟩
theorem mq_ext {m n:MQ} (h1:m.a=n.a) (h2:m.b=n.b) (h3:m.c=n.c) (h4:m.d=n.d) (h5:m.t=n.t):m=n:=by cases m; cases n; cases h1; cases h2; cases h3; cases h4; cases h5; rfl
theorem fit_one:FitM mOne:=⟨fit_int (by decide) (by decide),fit_int (by decide) (by decide),fit_int (by decide) (by decide),fit_int (by decide) (by decide)⟩
theorem ptB_comm (p q:Pt):ptB p q=ptB q p:=by
 rw [Bool.eq_iff_iff,ptB_iff,ptB_iff]
 exact ⟨Eq.symm,Eq.symm⟩
theorem ptB_comm' {p q:Pt} {r:Bool} (h:ptB p q=r):ptB q p=r:=by rw [ptB_comm]; exact h
def b2i (b:Bool):Int:=bif b then 1 else 0
def mostI (a b c d e f:Bool):Int:=max (max (max (max 0 (1+b2i a+b2i b+b2i c)) (b2i a+1+b2i d+b2i e)) (b2i b+b2i d+1+b2i f)) (b2i c+b2i e+b2i f+1)
section
variable {p q r s:Pt} {a b c d e f:Bool} (ha:ptB p q=a) (hb:ptB p r=b) (hc:ptB p s=c) (hd:ptB q r=d) (he:ptB q s=e) (hf:ptB r s=f)
def mostE:List (Ev Tryz.prog):=[eqEvPt (ptB_self p),eqEvPt ha,eqEvPt hb,eqEvPt hc,eqEvPt (ptB_comm' ha),eqEvPt (ptB_self q),eqEvPt hd,eqEvPt he,eqEvPt (ptB_comm' hb),eqEvPt (ptB_comm' hd),eqEvPt (ptB_self r),eqEvPt hf,eqEvPt (ptB_comm' hc),eqEvPt (ptB_comm' he),eqEvPt (ptB_comm' hf),eqEvPt (ptB_self s)]
def mostA (p q r s:Pt):List SV:=[.one (.a (p.w.C++q.w.C++r.w.C++s.w.C))]
end
noncomputable def mostL (p q r s:Pt) (a b c d e f:Bool) (ha:ptB p q=a) (hb:ptB p r=b) (hc:ptB p s=c) (hd:ptB q r=d) (he:ptB q s=e) (hf:ptB r s=f) (β:Env):List Tm:=(specA Tryz.prog Tryz.f202 (mostA p q r s) [] (mostE ha hb hc hd he hf) [] 3000 (.one (svI (mostI a b c d e f))) [] β).map Prod.fst
noncomputable def mostR (p q r s:Pt) (a b c d e f:Bool) (ha:ptB p q=a) (hb:ptB p r=b) (hc:ptB p s=c) (hd:ptB q r=d) (he:ptB q s=e) (hf:ptB r s=f) (β:Env):List Tm:=(specA Tryz.prog Tryz.f202 (mostA p q r s) [] (mostE ha hb hc hd he hf) [] 3000 (.one (svI (mostI a b c d e f))) [] β).map Prod.snd
theorem tri1 {p q r:Pt} (h1:ptB p q=true) (h2:ptB q r=true) (h3:ptB p r=false):False:=by
 rw [ptB_iff.1 h1,ptB_iff.1 h2,ptB_self] at h3
 cases h3
theorem tri2 {p q r:Pt} (h1:ptB p q=true) (h2:ptB q r=false) (h3:ptB p r=true):False:=tri1 (ptB_comm' h1) h3 h2
theorem tri3 {p q r:Pt} (h1:ptB p q=false) (h2:ptB q r=true) (h3:ptB p r=true):False:=tri1 h3 (ptB_comm' h2) h1
theorem most_0 (p q r s:Pt) (ha:ptB p q=false) (hb:ptB p r=false) (hc:ptB p s=false) (hd:ptB q r=false) (he:ptB q s=false) (hf:ptB r s=false) (β:Env):mostL p q r s false false false false false false ha hb hc hd he hf β=mostR p q r s false false false false false false ha hb hc hd he hf β:=by kernel_rfl
theorem most_1 (p q r s:Pt) (ha:ptB p q=false) (hb:ptB p r=false) (hc:ptB p s=false) (hd:ptB q r=false) (he:ptB q s=false) (hf:ptB r s=true) (β:Env):mostL p q r s false false false false false true ha hb hc hd he hf β=mostR p q r s false false false false false true ha hb hc hd he hf β:=by kernel_rfl
theorem most_2 (p q r s:Pt) (ha:ptB p q=false) (hb:ptB p r=false) (hc:ptB p s=false) (hd:ptB q r=false) (he:ptB q s=true) (hf:ptB r s=false) (β:Env):mostL p q r s false false false false true false ha hb hc hd he hf β=mostR p q r s false false false false true false ha hb hc hd he hf β:=by kernel_rfl
theorem most_3 (p q r s:Pt) (ha:ptB p q=false) (hb:ptB p r=false) (hc:ptB p s=false) (hd:ptB q r=true) (he:ptB q s=false) (hf:ptB r s=false) (β:Env):mostL p q r s false false false true false false ha hb hc hd he hf β=mostR p q r s false false false true false false ha hb hc hd he hf β:=by kernel_rfl
theorem most_4 (p q r s:Pt) (ha:ptB p q=false) (hb:ptB p r=false) (hc:ptB p s=false) (hd:ptB q r=true) (he:ptB q s=true) (hf:ptB r s=true) (β:Env):mostL p q r s false false false true true true ha hb hc hd he hf β=mostR p q r s false false false true true true ha hb hc hd he hf β:=by kernel_rfl
theorem most_5 (p q r s:Pt) (ha:ptB p q=false) (hb:ptB p r=false) (hc:ptB p s=true) (hd:ptB q r=false) (he:ptB q s=false) (hf:ptB r s=false) (β:Env):mostL p q r s false false true false false false ha hb hc hd he hf β=mostR p q r s false false true false false false ha hb hc hd he hf β:=by kernel_rfl
theorem most_6 (p q r s:Pt) (ha:ptB p q=false) (hb:ptB p r=false) (hc:ptB p s=true) (hd:ptB q r=true) (he:ptB q s=false) (hf:ptB r s=false) (β:Env):mostL p q r s false false true true false false ha hb hc hd he hf β=mostR p q r s false false true true false false ha hb hc hd he hf β:=by kernel_rfl
theorem most_7 (p q r s:Pt) (ha:ptB p q=false) (hb:ptB p r=true) (hc:ptB p s=false) (hd:ptB q r=false) (he:ptB q s=false) (hf:ptB r s=false) (β:Env):mostL p q r s false true false false false false ha hb hc hd he hf β=mostR p q r s false true false false false false ha hb hc hd he hf β:=by kernel_rfl
theorem most_8 (p q r s:Pt) (ha:ptB p q=false) (hb:ptB p r=true) (hc:ptB p s=false) (hd:ptB q r=false) (he:ptB q s=true) (hf:ptB r s=false) (β:Env):mostL p q r s false true false false true false ha hb hc hd he hf β=mostR p q r s false true false false true false ha hb hc hd he hf β:=by kernel_rfl
theorem most_9 (p q r s:Pt) (ha:ptB p q=false) (hb:ptB p r=true) (hc:ptB p s=true) (hd:ptB q r=false) (he:ptB q s=false) (hf:ptB r s=true) (β:Env):mostL p q r s false true true false false true ha hb hc hd he hf β=mostR p q r s false true true false false true ha hb hc hd he hf β:=by kernel_rfl
theorem most_10 (p q r s:Pt) (ha:ptB p q=true) (hb:ptB p r=false) (hc:ptB p s=false) (hd:ptB q r=false) (he:ptB q s=false) (hf:ptB r s=false) (β:Env):mostL p q r s true false false false false false ha hb hc hd he hf β=mostR p q r s true false false false false false ha hb hc hd he hf β:=by kernel_rfl
theorem most_11 (p q r s:Pt) (ha:ptB p q=true) (hb:ptB p r=false) (hc:ptB p s=false) (hd:ptB q r=false) (he:ptB q s=false) (hf:ptB r s=true) (β:Env):mostL p q r s true false false false false true ha hb hc hd he hf β=mostR p q r s true false false false false true ha hb hc hd he hf β:=by kernel_rfl
theorem most_12 (p q r s:Pt) (ha:ptB p q=true) (hb:ptB p r=false) (hc:ptB p s=true) (hd:ptB q r=false) (he:ptB q s=true) (hf:ptB r s=false) (β:Env):mostL p q r s true false true false true false ha hb hc hd he hf β=mostR p q r s true false true false true false ha hb hc hd he hf β:=by kernel_rfl
theorem most_13 (p q r s:Pt) (ha:ptB p q=true) (hb:ptB p r=true) (hc:ptB p s=false) (hd:ptB q r=true) (he:ptB q s=false) (hf:ptB r s=false) (β:Env):mostL p q r s true true false true false false ha hb hc hd he hf β=mostR p q r s true true false true false false ha hb hc hd he hf β:=by kernel_rfl
theorem most_14 (p q r s:Pt) (ha:ptB p q=true) (hb:ptB p r=true) (hc:ptB p s=true) (hd:ptB q r=true) (he:ptB q s=true) (hf:ptB r s=true) (β:Env):mostL p q r s true true true true true true ha hb hc hd he hf β=mostR p q r s true true true true true true ha hb hc hd he hf β:=by kernel_rfl
theorem most_all (p q r s:Pt) (a b c d e f:Bool) (ha:ptB p q=a) (hb:ptB p r=b) (hc:ptB p s=c) (hd:ptB q r=d) (he:ptB q s=e) (hf:ptB r s=f) (β:Env):mostL p q r s a b c d e f ha hb hc hd he hf β=mostR p q r s a b c d e f ha hb hc hd he hf β:=by
 cases a
 · cases b
   · cases c
     · cases d
       · cases e
         · cases f
           · exact most_0 p q r s ha hb hc hd he hf β
           · exact most_1 p q r s ha hb hc hd he hf β
         · cases f
           · exact most_2 p q r s ha hb hc hd he hf β
           · exact (tri3 hd hf he).elim
       · cases e
         · cases f
           · exact most_3 p q r s ha hb hc hd he hf β
           · exact (tri1 hd hf he).elim
         · cases f
           · exact (tri2 hd hf he).elim
           · exact most_4 p q r s ha hb hc hd he hf β
     · cases d
       · cases e
         · cases f
           · exact most_5 p q r s ha hb hc hd he hf β
           · exact (tri3 hb hf hc).elim
         · exact (tri3 ha he hc).elim
       · cases e
         · cases f
           · exact most_6 p q r s ha hb hc hd he hf β
           · exact (tri3 hb hf hc).elim
         · exact (tri3 ha he hc).elim
   · cases c
     · cases d
       · cases e
         · cases f
           · exact most_7 p q r s ha hb hc hd he hf β
           · exact (tri1 hb hf hc).elim
         · cases f
           · exact most_8 p q r s ha hb hc hd he hf β
           · exact (tri1 hb hf hc).elim
       · exact (tri3 ha hd hb).elim
     · cases d
       · cases e
         · cases f
           · exact (tri2 hb hf hc).elim
           · exact most_9 p q r s ha hb hc hd he hf β
         · exact (tri3 ha he hc).elim
       · exact (tri3 ha hd hb).elim
 · cases b
   · cases c
     · cases d
       · cases e
         · cases f
           · exact most_10 p q r s ha hb hc hd he hf β
           · exact most_11 p q r s ha hb hc hd he hf β
         · exact (tri1 ha he hc).elim
       · exact (tri1 ha hd hb).elim
     · cases d
       · cases e
         · exact (tri2 ha he hc).elim
         · cases f
           · exact most_12 p q r s ha hb hc hd he hf β
           · exact (tri3 hb hf hc).elim
       · exact (tri1 ha hd hb).elim
   · cases c
     · cases d
       · exact (tri2 ha hd hb).elim
       · cases e
         · cases f
           · exact most_13 p q r s ha hb hc hd he hf β
           · exact (tri1 hb hf hc).elim
         · exact (tri1 ha he hc).elim
     · cases d
       · exact (tri2 ha hd hb).elim
       · cases e
         · exact (tri2 ha he hc).elim
         · cases f
           · exact (tri2 hb hf hc).elim
           · exact most_14 p q r s ha hb hc hd he hf β
section
variable {p q r s:Pt} {a b c d e f:Bool} (ha:ptB p q=a) (hb:ptB p r=b) (hc:ptB p s=c) (hd:ptB q r=d) (he:ptB q s=e) (hf:ptB r s=f)
noncomputable def sMost:Y.Spec Tryz.prog :=
 Y.Spec.auto Tryz.call202 (mostA p q r s) [] (.one (svI (mostI a b c d e f))) [] (mostE ha hb hc hd he hf) [] 3000 Tryz.func202 hmA (by kernel_rfl) (fun β=>most_all p q r s a b c d e f ha hb hc hd he hf β)
end
end Go.Proofs.YtdiemgedlfnlmaaGreat
end
section
namespace Go.Proofs.YtdiemgedlfnlmaaGreat
open Go.Proofs.YtdiemgedlfnlmaaGreat.Y
def gnat (n:Nat):GQ:=⟨((n:Int):Rat),0⟩
def gpow (z:GQ):Nat→GQ
 | 0=>gnat 1
 | n+1=>gmul (gpow z n) z
instance gqRing:Lean.Grind.CommRing GQ where
 add:=gadd
 mul:=gmul
 natCast:=⟨gnat⟩
 ofNat:=fun n=>⟨gnat n⟩
 nsmul:=⟨fun n z=>gmul (gnat n) z⟩
 npow:=⟨gpow⟩
 neg:=gneg
 sub:=gsub
 intCast:=⟨fun i=>⟨(i:Rat),0⟩⟩
 zsmul:=⟨fun i z=>gmul ⟨(i:Rat),0⟩ z⟩
 add_zero a:=by refine GQ.ext2 ?_ ?_<;>(show _+_=_; first | exact Rat.add_zero _)
 add_comm a b:=GQ.ext2 (Rat.add_comm _ _) (Rat.add_comm _ _)
 add_assoc a b c:=GQ.ext2 (Rat.add_assoc _ _ _) (Rat.add_assoc _ _ _)
 mul_assoc a b c:=by
  refine GQ.ext2 ?_ ?_
  · show (gmul (gmul a b) c).re=(gmul a (gmul b c)).re; simp only [gmul]; grind
  · show (gmul (gmul a b) c).im=(gmul a (gmul b c)).im; simp only [gmul]; grind
 mul_one a:=by
  refine GQ.ext2 ?_ ?_
  · show a.re*((1:Nat):Int)-a.im*0=a.re; grind
  · show a.re*0+a.im*((1:Nat):Int)=a.im; grind
 left_distrib a b c:=by
  refine GQ.ext2 ?_ ?_
  · show (gmul a (gadd b c)).re=(gadd (gmul a b) (gmul a c)).re; simp only [gmul,gadd]; grind
  · show (gmul a (gadd b c)).im=(gadd (gmul a b) (gmul a c)).im; simp only [gmul,gadd]; grind
 zero_mul a:=by
  refine GQ.ext2 ?_ ?_
  · show ((0:Nat):Int)*a.re-0*a.im=((0:Nat):Int); grind
  · show ((0:Nat):Int)*a.im+0*a.re=0; grind
 mul_comm a b:=by
  refine GQ.ext2 ?_ ?_
  · show (gmul a b).re=(gmul b a).re; simp only [gmul]; grind
  · show (gmul a b).im=(gmul b a).im; simp only [gmul]; grind
 one_mul a:=by
  refine GQ.ext2 ?_ ?_
  · show ((1:Nat):Int)*a.re-0*a.im=a.re; grind
  · show ((1:Nat):Int)*a.im+0*a.re=a.im; grind
 right_distrib a b c:=by
  refine GQ.ext2 ?_ ?_
  · show (gmul (gadd a b) c).re=(gadd (gmul a c) (gmul b c)).re; simp only [gmul,gadd]; grind
  · show (gmul (gadd a b) c).im=(gadd (gmul a c) (gmul b c)).im; simp only [gmul,gadd]; grind
 mul_zero a:=by
  refine GQ.ext2 ?_ ?_
  · show a.re*((0:Nat):Int)-a.im*0=((0:Nat):Int); grind
  · show a.re*0+a.im*((0:Nat):Int)=0; grind
 pow_zero a:=rfl
 pow_succ a n:=rfl
 ofNat_succ n:=by
  refine GQ.ext2 ?_ ?_
  · show (((n+1:Nat):Int):Rat)=((n:Int):Rat)+((1:Nat):Int); simp [Rat.intCast_add]
  · show (0:Rat)=0+0; rw [Rat.add_zero]
 neg_add_cancel a:=by
  refine GQ.ext2 ?_ ?_
  · show -a.re+a.re=((0:Nat):Int); grind
  · show -a.im+a.im=0; grind
 sub_eq_add_neg a b:=GQ.ext2 (Rat.sub_eq_add_neg _ _) (Rat.sub_eq_add_neg _ _)
 neg_zsmul i a:=by
  refine GQ.ext2 ?_ ?_
  · show ((-i:Int):Rat)*a.re-0*a.im = -((i:Rat)*a.re-0*a.im); rw [Rat.intCast_neg]; grind
  · show ((-i:Int):Rat)*a.im+0*a.re = -((i:Rat)*a.im+0*a.re); rw [Rat.intCast_neg]; grind
 intCast_neg i:=by
  refine GQ.ext2 ?_ ?_
  · show ((-i:Int):Rat) = -(i:Rat); exact Rat.intCast_neg i
  · show (0:Rat) = -0; rfl
theorem gmul_def (z w:GQ):gmul z w=z*w:=rfl
theorem g0_def:g0=0:=GQ.ext2 rfl rfl
theorem g1_def:gint 1 0=1:=gint10.trans (GQ.ext2 rfl rfl)
theorem gi0_def:gint 0 0=0:=gint00.trans g0_def
theorem mcj_mul (t:Bool) (z w:GQ):mcj t (z*w)=mcj t z*mcj t w:=by
 cases t
 · rfl
 · show gconj (gmul z w)=gmul (gconj z) (gconj w)
   refine GQ.ext2 ?_ ?_<;>(simp only [gconj,gmul]; grind)
theorem mcj_sub (t:Bool) (z w:GQ):mcj t (z-w)=mcj t z-mcj t w:=by
 cases t
 · rfl
 · show gconj (gsub z w)=gsub (gconj z) (gconj w)
   refine GQ.ext2 ?_ ?_<;>(simp only [gconj,gsub]; try grind)
theorem mcj_one (t:Bool):mcj t 1=1:=by
 cases t
 · rfl
 · show gconj 1=1
   exact GQ.ext2 rfl (by show -(0:Rat)=0; grind)
theorem mcj_zero (t:Bool):mcj t 0=0:=by
 cases t
 · rfl
 · show gconj 0=0
   exact GQ.ext2 rfl (by show -(0:Rat)=0; grind)
theorem mcj_ne (t:Bool) {z:GQ} (h:z≠0):mcj t z≠0:=by
 cases t
 · exact h
 · rw [← g0_def] at h ⊢; exact gconj_ne h
theorem mul0 {z w:GQ} (h:z*w=0):z=0∨w=0:=by
 rw [← g0_def] at h ⊢; exact gmul_zero h
theorem mulne {z w:GQ} (h:z≠0) (k:w≠0):z*w≠0:=fun e=>(mul0 e).elim h k
theorem mulc {z w u:GQ} (h:u≠0) (e:u*z=u*w):z=w:=by
 have:u*(z-w)=0:=by grind
 rcases mul0 this with k | k
 · exact absurd k h
 · grind
theorem gdef (p q:Pt):gacross p q=byA p*byB q-byB p*byA q:=rfl
theorem across_map (m:MQ) (p q:Pt):msN m p*msD m q-msD m p*msN m q=mdet m*mcj m.t (gacross p q):=by
 have hd:mdet m=m.a*m.d-m.b*m.c:=rfl
 have e:∀ z,msN m (.fin z)=m.a*mcj m.t z+m.b:=fun _=>rfl
 have e':∀ z,msD m (.fin z)=m.c*mcj m.t z+m.d:=fun _=>rfl
 have i:msN m .inf=m.a:=rfl
 have i':msD m .inf=m.c:=rfl
 rw [gdef,mcj_sub,mcj_mul,mcj_mul,hd]
 cases p<;>cases q<;>simp only [e,e',i,i',byA,byB,g1_def,gi0_def,mcj_one,mcj_zero]<;>grind
theorem across0 {p q:Pt}:gacross p q=0↔p=q:=by
 constructor
 · intro h
   apply Classical.byContradiction
   intro hn
   exact across_ne hn (h.trans g0_def.symm)
 · rintro rfl
   rw [gdef]; grind
def mSend (m:MQ) (p:Pt):Pt:=msend m p (gzero (msD m p))
theorem gz0 {z:GQ}:gzero z=true↔z=0:=by rw [gz_true,g0_def]
theorem send_scale {m:MQ} (h:Reg m) (p:Pt):∃ μ:GQ,μ≠0∧msN m p=μ*byA (mSend m p)∧msD m p=μ*byB (mSend m p):=by
 have hdet:mdet m≠0:=fun e=>h (e.trans g0_def.symm)
 unfold mSend
 cases hb:gzero (msD m p) with
 | false =>
  have hD:msD m p≠g0:=gz_false.1 hb
  refine ⟨msD m p,fun e=>hD (e.trans g0_def.symm),?_,?_⟩
  · have:=gdiv_mul (z:=msN m p) hD
    rw [gmul_def] at this
    show msN m p=msD m p*gdiv (msN m p) (msD m p)
    grind
  · show msD m p=msD m p*gint 1 0
    rw [g1_def]; grind
 | true =>
  have hD:msD m p=0:=gz0.1 hb
  refine ⟨msN m p,fun e=>?_,?_,?_⟩
  · have key:∀ q,p≠q→False:=fun q hq=>by
     have h1:=across_map m p q
     rw [hD,e] at h1
     have h2:mdet m*mcj m.t (gacross p q)=0:=by grind
     exact mulne hdet (mcj_ne _ fun e=>hq (across0.1 e)) h2
    cases p with
    | inf=>exact key (.fin g0) (fun e=>by cases e)
    | fin z=>exact key .inf (fun e=>by cases e)
  · show msN m p=msN m p*gint 1 0
    rw [g1_def]; grind
  · show msD m p=msN m p*gint 0 0
    rw [gi0_def,hD]; grind
def ratX (p q r s:Pt):GQ:=gmul (gacross p q) (gacross r s)
def ratY (p q r s:Pt):GQ:=gmul (gacross q r) (gacross s p)
def pcj (t:Bool):Pt→Pt
 | .inf=>.inf
 | .fin z=>.fin (mcj t z)
def pRat (p q r s:Pt):Pt:=pratio (ratX p q r s) (ratY p q r s) (gzero (ratY p q r s))
theorem gz_eq {z w:GQ} (h:z=0↔w=0):gzero z=gzero w:=by
 rw [Bool.eq_iff_iff,gz0,gz0]; exact h
theorem gdv_eq {z w u:GQ} (h:w≠0):gdiv z w=u↔z=u*w:=gdiv_eq_iff (fun e=>h (e.trans g0_def))
theorem ratio_as {x y x' y' k l:GQ} (t:Bool) (hk:k≠0) (hl:l≠0) (hx:k*x'=l*mcj t x) (hy:k*y'=l*mcj t y):pratio x' y' (gzero y')=pcj t (pratio x y (gzero y)):=by
 have h0:y'=0↔y=0:=by
  constructor
  · intro e
    rw [e] at hy
    have:l*mcj t y=0:=by grind
    rcases mul0 this with h | h
    · exact absurd h hl
    · exact Classical.byContradiction fun hn=>mcj_ne t hn h
  · intro e
    rw [e,mcj_zero] at hy
    have:k*y'=0:=by grind
    exact (mul0 this).resolve_left hk
 rw [gz_eq h0]
 cases hb:gzero y with
 | true=>rfl
 | false =>
  have hy0:y≠0:=fun e=>by rw [gz0.2 e] at hb; cases hb
  have hy1:y'≠0:=fun e=>hy0 (h0.1 e)
  show Pt.fin (gdiv x' y')=.fin (mcj t (gdiv x y))
  congr 1
  rw [gdv_eq hy1]
  have hd:x=gdiv x y*y:=(gdv_eq hy0).1 rfl
  have hm:mcj t x=mcj t (gdiv x y)*mcj t y:=by rw [← mcj_mul,← hd]
  refine mulc hk ?_
  rw [hx,hm]
  have:k*(mcj t (gdiv x y)*y')=mcj t (gdiv x y)*(k*y'):=by grind
  rw [this,hy]
  grind
theorem ratX_def (p q r s:Pt):ratX p q r s=gacross p q*gacross r s:=rfl
theorem ratY_def (p q r s:Pt):ratY p q r s=gacross q r*gacross s p:=rfl
theorem across_scale {m:MQ} {p q:Pt} {a b:GQ} {P Q:Pt} (h1:msN m p=a*byA P) (h2:msD m p=a*byB P) (h3:msN m q=b*byA Q) (h4:msD m q=b*byB Q):a*b*gacross P Q=mdet m*mcj m.t (gacross p q):=by
 rw [← across_map,gdef,h1,h2,h3,h4]
 grind
theorem rat_send {m:MQ} (h:Reg m) (p q r s:Pt):pRat (mSend m p) (mSend m q) (mSend m r) (mSend m s)=pcj m.t (pRat p q r s):=by
 have hdet:mdet m≠0:=fun e=>h (e.trans g0_def.symm)
 obtain ⟨a,a0,a1,a2⟩:=send_scale h p
 obtain ⟨b,b0,b1,b2⟩:=send_scale h q
 obtain ⟨c,c0,c1,c2⟩:=send_scale h r
 obtain ⟨d,d0,d1,d2⟩:=send_scale h s
 have e1:=across_scale a1 a2 b1 b2
 have e2:=across_scale c1 c2 d1 d2
 have e3:=across_scale b1 b2 c1 c2
 have e4:=across_scale d1 d2 a1 a2
 refine ratio_as (k:=a*b*(c*d)) (l:=mdet m*mdet m) m.t (mulne (mulne a0 b0) (mulne c0 d0)) (mulne hdet hdet) ?_ ?_
 · rw [ratX_def,ratX_def,mcj_mul]
   have:a*b*(c*d)*(gacross (mSend m p) (mSend m q)*gacross (mSend m r) (mSend m s))=(a*b*gacross (mSend m p) (mSend m q))*(c*d*gacross (mSend m r) (mSend m s)):=by grind
   rw [this,e1,e2]
   grind
 · rw [ratY_def,ratY_def,mcj_mul]
   have:a*b*(c*d)*(gacross (mSend m q) (mSend m r)*gacross (mSend m s) (mSend m p))=(b*c*gacross (mSend m q) (mSend m r))*(d*a*gacross (mSend m s) (mSend m p)):=by grind
   rw [this,e3,e4]
   grind
theorem send_inj {m:MQ} (h:Reg m) {p q:Pt} (e:mSend m p=mSend m q):p=q:=by
 have hdet:mdet m≠0:=fun e=>h (e.trans g0_def.symm)
 obtain ⟨a,a0,a1,a2⟩:=send_scale h p
 obtain ⟨b,b0,b1,b2⟩:=send_scale h q
 have e1:=across_scale a1 a2 b1 b2
 rw [across0.2 e] at e1
 have:mdet m*mcj m.t (gacross p q)=0:=by grind
 exact across0.1 (Classical.byContradiction fun hn=>mulne hdet (mcj_ne _ hn) this)
theorem chart_nd (a b c p:Pt):msN (rchart0 a b c) p=ratX a b c p∧msD (rchart0 a b c) p=ratY a b c p:=by
 have e:∀ z,msN (rchart0 a b c) (.fin z) = -(byB c*gacross a b)*z+byA c*gacross a b:=fun _=>rfl
 have e':∀ z,msD (rchart0 a b c) (.fin z)=byB a*gacross b c*z + -(byA a*gacross b c):=fun _=>rfl
 have i:msN (rchart0 a b c) .inf = -(byB c*gacross a b):=rfl
 have i':msD (rchart0 a b c) .inf=byB a*gacross b c:=rfl
 rw [ratX_def,ratY_def,gdef c p,gdef p a]
 cases p<;>simp only [e,e',i,i',byA,byB,g1_def,gi0_def]<;>constructor<;>grind
theorem chart_send (a b c p:Pt):mSend (rchart0 a b c) p=pRat a b c p:=by
 unfold mSend msend pRat pratio
 rw [(chart_nd a b c p).1,(chart_nd a b c p).2]
theorem norm_send {m:MQ} (h:Reg m) {b:Bool} (hu:(bif b then m.d else m.c)≠g0) (p:Pt):mSend (mnormB m b) p=mSend m p:=by
 generalize hU:(bif b then m.d else m.c)=u at hu
 have u0:u≠0:=fun e=>hu (e.trans g0_def.symm)
 have ha:m.a=gdiv m.a u*u:=(gdv_eq u0).1 rfl
 have hb:m.b=gdiv m.b u*u:=(gdv_eq u0).1 rfl
 have hc:m.c=gdiv m.c u*u:=(gdv_eq u0).1 rfl
 have hd:m.d=gdiv m.d u*u:=(gdv_eq u0).1 rfl
 have hN:msN m p=u*msN (mnormB m b) p:=by
  cases p with
  | inf=>show m.a=u*gdiv m.a (bif b then m.d else m.c); rw [hU]; grind
  | fin z=>show m.a*mcj m.t z+m.b=u*(gdiv m.a (bif b then m.d else m.c)*mcj m.t z+gdiv m.b (bif b then m.d else m.c)); rw [hU]; grind
 have hD:msD m p=u*msD (mnormB m b) p:=by
  cases p with
  | inf=>show m.c=u*gdiv m.c (bif b then m.d else m.c); rw [hU]; grind
  | fin z=>show m.c*mcj m.t z+m.d=u*(gdiv m.c (bif b then m.d else m.c)*mcj m.t z+gdiv m.d (bif b then m.d else m.c)); rw [hU]; grind
 have:=ratio_as (x:=msN m p) (y:=msD m p) (x':=msN (mnormB m b) p) (y':=msD (mnormB m b) p) (k:=u) (l:=1) false u0 (fun e=>by have:=congrArg GQ.re (g1_def.trans e); exact absurd this (by decide)) (by show _=1*msN m p; rw [hN]; grind) (by show _=1*msD m p; rw [hD]; grind)
 have hid:∀ P,pcj false P=P:=fun P=>by cases P<;>rfl
 rw [hid] at this
 exact this
theorem inv_send {m:MQ} (h:Reg m) (ht:m.t=false) (p:Pt):mSend (minv0 m) (mSend m p)=p:=by
 have hdet:mdet m≠0:=fun e=>h (e.trans g0_def.symm)
 have hi:Reg (minv0 m):=h.undo0.conj _
 obtain ⟨a,a0,a1,a2⟩:=send_scale h p
 obtain ⟨b,b0,b1,b2⟩:=send_scale hi (mSend m p)
 apply across0.1
 have hm:minv0 m=⟨m.d,-m.b,-m.c,m.a,false⟩:=by
  unfold minv0 mundo0 mconj
  rw [ht]
  rfl
 have n0:msN (minv0 m) .inf=m.d∧msD (minv0 m) .inf = -m.c:=by rw [hm]; exact ⟨rfl,rfl⟩
 have n1:∀ z,msN (minv0 m) (.fin z)=m.d*z + -m.b∧msD (minv0 m) (.fin z) = -m.c*z+m.a:=fun z=>by rw [hm]; exact ⟨rfl,rfl⟩
 have m0:msN m .inf=m.a∧msD m .inf=m.c:=⟨rfl,rfl⟩
 have m1:∀ z,msN m (.fin z)=m.a*z+m.b∧msD m (.fin z)=m.c*z+m.d:=fun z=>by
  have e:mcj m.t z=z:=by rw [ht]; rfl
  exact ⟨by show m.a*mcj m.t z+m.b=_; rw [e],by show m.c*mcj m.t z+m.d=_; rw [e]⟩
 have hN:∀ P,msN (minv0 m) P=m.d*byA P-m.b*byB P∧msD (minv0 m) P=m.a*byB P-m.c*byA P:=fun P=>by
  cases P with
  | inf=>rw [n0.1,n0.2]; simp only [byA,byB,g1_def,gi0_def]; constructor<;>grind
  | fin z=>rw [(n1 z).1,(n1 z).2]; simp only [byA,byB,g1_def]; constructor<;>grind
 have hM:∀ P,msN m P=m.a*byA P+m.b*byB P∧msD m P=m.c*byA P+m.d*byB P:=fun P=>by
  cases P with
  | inf=>rw [m0.1,m0.2]; simp only [byA,byB,g1_def,gi0_def]; constructor<;>grind
  | fin z=>rw [(m1 z).1,(m1 z).2]; simp only [byA,byB,g1_def]; constructor<;>grind
 rw [(hN _).1] at b1
 rw [(hN _).2] at b2
 rw [(hM _).1] at a1
 rw [(hM _).2] at a2
 rw [gdef]
 generalize byA (mSend m p)=X at *
 generalize byB (mSend m p)=Y at *
 generalize byA (mSend (minv0 m) (mSend m p))=U at *
 generalize byB (mSend (minv0 m) (mSend m p))=V at *
 have k:b*a*(U*byB p-V*byA p)=0:=by
  have e1:b*a*(U*byB p-V*byA p)=a*(b*U)*byB p-a*(b*V)*byA p:=by grind
  rw [e1,← b1,← b2]
  have e2:a*(m.d*X-m.b*Y)=m.d*(a*X)-m.b*(a*Y):=by grind
  have e3:a*(m.a*Y-m.c*X)=m.a*(a*Y)-m.c*(a*X):=by grind
  rw [e2,e3,← a1,← a2]
  grind
 exact (mul0 k).resolve_left (mulne b0 a0)
theorem inv_inv {m:MQ} (ht:m.t=false):minv0 (minv0 m)=m:=by
 have hg:∀ z:GQ,gneg (gneg z)=z:=fun z=>by
  have : - -z=z:=by grind
  exact this
 obtain ⟨a,b,c,d,t⟩:=m
 obtain rfl:t=false:=ht
 show (⟨a,gneg (gneg b),gneg (gneg c),d,false⟩:MQ)=_
 rw [hg,hg]
theorem send_inv {m:MQ} (h:Reg m) (ht:m.t=false) (p:Pt):mSend m (mSend (minv0 m) p)=p:=by
 have hi:Reg (minv0 m):=h.undo0.conj _
 have hit:(minv0 m).t=false:=ht
 have:=inv_send hi hit p
 rwa [inv_inv ht] at this
end Go.Proofs.YtdiemgedlfnlmaaGreat
end
section
namespace Go.Proofs.YtdiemgedlfnlmaaGreat.Y
open Go Go.RowKit
set_option maxRecDepth 100000
def sPMayW (p:Pp) {b:Bool} (hb:p.B=b):Spec Tryz.prog :=
 (sPMay p).as [svR p.rI p.rX p.rY] (svB b) (congrArg (fun l=>[SV.one (.a l)]) (Pp.C_raw p)) (congrArg svB hb)
def sPMayP (p:Pt) (h:FitP p):Spec Tryz.prog :=
 (sPMay (ppt p h)).as [svP p] (svB true) (congrArg (fun l=>[SV.one (.a l)]) (ppt_C p h)) (congrArg svB (ppt_B p h))
abbrev rsz (k:Nat):Nat:=(k+k+(k+k)+1+(k+k+(k+k)+1)+1)+(k+k+(k+k)+1+(k+k+(k+k)+1)+1)+((k+k+(k+k)+1+(k+k+(k+k)+1)+1)+(k+k+(k+k)+1+(k+k+(k+k)+1)+1))+1
theorem ratX_sz {k:Nat} {p q r s:Pt} (hp:PSz k p) (hq:PSz k q) (hr:PSz k r) (hs:PSz k s) (hk:1≤k):GSz (rsz k) (ratX p q r s):=(gacross_sz hp hq hk).mul (gacross_sz hr hs hk)
theorem ratY_sz {k:Nat} {p q r s:Pt} (hp:PSz k p) (hq:PSz k q) (hr:PSz k r) (hs:PSz k s) (hk:1≤k):GSz (rsz k) (ratY p q r s):=(gacross_sz hq hr hk).mul (gacross_sz hs hp hk)
def prat (p q r s:Pt) (f:Bool):Pt:=pratio (ratX p q r s) (ratY p q r s) f
theorem prat_sz {p q r s:Pt} (hp:FitP p) (hq:FitP q) (hr:FitP r) (hs:FitP s) {f:Bool} (hf:gzero (ratY p q r s)=f):PSz (dsz (rsz 1024)) (prat p q r s f):=by
 cases f
 · exact (ratX_sz hp.sz hq.sz hr.sz hs.sz (by decide)).div (ratY_sz hp.sz hq.sz hr.sz hs.sz (by decide)) hf
 · trivial
abbrev a4 (p q r s:Rw):SV:=.one (.a (lsX (p.C++q.C++r.C++s.C)))
abbrev nI (k:Int):SC:=.c (.b (.v (.int .i64 k)))
def nP:List Lf:=[.b (.v (.bool false)),.b (.v (.pointer none)),.b (.v (.pointer none))]
noncomputable def mayW (p:Pp) {b:Bool} (hb:p.B=b):Ev Tryz.prog:=(sPMayW p hb).e
noncomputable def mayP (p:Pt) (h:FitP p):Ev Tryz.prog:=(sPMayP p h).e
noncomputable def openCE (p q r s:Pp) {a b c d:Bool} (ha:p.B=a) (hb:q.B=b) (hc:r.B=c) (hd:s.B=d):List (Ev Tryz.prog) :=
 (sSpotW p ha).e::(bif a then mayW p ha::(sSpotW q hb).e::(bif b then mayW q hb::(sSpotW r hc).e::(bif c then mayW r hc::(sSpotW s hd).e::[] else []) else []) else [])
noncomputable def sOpenC0 (p q r s:Pp) {a b c d:Bool} (ha:p.B=a) (hb:q.B=b) (hc:r.B=c) (hd:s.B=d) (h:(a&&(b&&(c&&d)))=false):Spec Tryz.prog :=
 ⟨201,Tryz.call201,[a4 p.w q.w r.w s.w],[],.tup [.a (nP++nP++nP++nP),nI 2],[],fun β w hh=>by
  cases a
  · exact spec_auto (evs:=openCE p q r s ha hb hc hd) (Ns:=[]) (m:=1200) Tryz.func201 hmA (fun β=>by kernel_rfl) (by kernel_rfl) β w hh
  · cases b
    · exact spec_auto (evs:=openCE p q r s ha hb hc hd) (Ns:=[]) (m:=1200) Tryz.func201 hmA (fun β=>by kernel_rfl) (by kernel_rfl) β w hh
    · cases c
      · exact spec_auto (evs:=openCE p q r s ha hb hc hd) (Ns:=[]) (m:=1200) Tryz.func201 hmA (fun β=>by kernel_rfl) (by kernel_rfl) β w hh
      · cases d
        · exact spec_auto (evs:=openCE p q r s ha hb hc hd) (Ns:=[]) (m:=1200) Tryz.func201 hmA (fun β=>by kernel_rfl) (by kernel_rfl) β w hh
        · exact Bool.noConfusion h,by kernel_rfl⟩
abbrev four4 (p q r s:Pt):SC:=.a (pL 0 p++pL 2 q++pL 4 r++pL 6 s)
abbrev four4T (p q r s:Pt):List Thing:=pM p++pM q++pM r++pM s
section
variable {p q r s:Pt} (hp:FitP p) (hq:FitP q) (hr:FitP r) (hs:FitP s)
noncomputable def sOpenC:Spec Tryz.prog :=
 Spec.auto Tryz.call201 [a4 p.w q.w r.w s.w] [] (.tup [four4 p q r s,nI 0]) (four4T p q r s)
  [(sSpotP p hp).e,mayP p hp,(sSpotP q hq).e,mayP q hq,(sSpotP r hr).e,mayP r hr,(sSpotP s hs).e,mayP s hs] [] 1200 Tryz.func201 hmA (by kernel_rfl) (fun β=>by kernel_rfl)
def ratE {f:Bool} (hf:gzero (ratY p q r s)=f):List (Ev Tryz.prog) :=
 [(sAcross (hp.sz.mono (by decide)) (hq.sz.mono (by decide))).e,(sAcross (hr.sz.mono (by decide)) (hs.sz.mono (by decide))).e,mulE ((gacross_sz hp.sz hq.sz (by decide)).mono (by decide)) ((gacross_sz hr.sz hs.sz (by decide)).mono (by decide)),
  (sAcross (hq.sz.mono (by decide)) (hr.sz.mono (by decide))).e,(sAcross (hs.sz.mono (by decide)) (hp.sz.mono (by decide))).e,mulE ((gacross_sz hq.sz hr.sz (by decide)).mono (by decide)) ((gacross_sz hs.sz hp.sz (by decide)).mono (by decide)),(sZero (z:=ratY p q r s) hf).e]
def ratD (hf:gzero (ratY p q r s)=false):Ev Tryz.prog:=(sDiv (z:=ratX p q r s) (w:=ratY p q r s) ((ratX_sz hp.sz hq.sz hr.sz hs.sz (by decide)).mono (by decide)) ((ratY_sz hp.sz hq.sz hr.sz hs.sz (by decide)).mono (by decide)) hf).e
def sRat4 {f:Bool} (hf:gzero (ratY p q r s)=f):Spec Tryz.prog :=
 ⟨198,Tryz.call198,[.one (four4 p q r s)],four4T p q r s,pV 8 (prat p q r s f),pM (prat p q r s f),fun β w hh=>by
  cases f
  · exact spec_auto (obs:=four4T p q r s) (evs:=ratE hp hq hr hs hf++[ratD hp hq hr hs hf]) (Ns:=[(1,12),(2,12)]) (m:=800) Tryz.func198 hmA (fun β=>by kernel_rfl) (by kernel_rfl) β w hh
  · exact nilpair (r:=(SV.one (.a [.b (.v (.bool true)),.b (.v (.pointer none)),.b (.v (.pointer none))])).den) (r':=(pV 8 .inf).den) (spec_auto (obs:=four4T p q r s) (args:=[.one (four4 p q r s)]) (res:=.one (.a [.b (.v (.bool true)),.b (.v (.pointer none)),.b (.v (.pointer none))])) (news:=[]) (evs:=ratE hp hq hr hs hf) (Ns:=[(1,12),(2,12)]) (m:=800) Tryz.func198 hmA (fun β=>by kernel_rfl) (by kernel_rfl) β w hh) (by kernel_rfl),by
  kernel_rfl⟩
end
section
variable {p q r s:Pt} (hp:FitP p) (hq:FitP q) (hr:FitP r) (hs:FitP s)
variable {a b c d e f:Bool} (ha:ptB p q=a) (hb:ptB p r=b) (hc:ptB p s=c) (hd:ptB q r=d) (he:ptB q s=e) (hf:ptB r s=f)
theorem gtZ {n m:Int} {t:Bool} (h:decide (m<n)=t):Value.bool (decide (m<n))=.bool t:=by rw [h]
noncomputable def sCheckedZ {t:Bool} (ht:decide (2<mostI a b c d e f)=t):Spec Tryz.prog :=
 Spec.auto Tryz.call197 [a4 p.w q.w r.w s.w] [] (.tup [four4 p q r s,nI (bif t then 200 else 0)]) (four4T p q r s)
  [(sOpenC hp hq hr hs).e,(sMost ha hb hc hd he hf).e,.eqv 16 (.bool (decide (2<mostI a b c d e f))) (.bool t) (gtZ ht)] [] 800 Tryz.func197 hmA (by cases t<;>kernel_rfl) (fun β=>by cases t<;>kernel_rfl)
abbrev svZ0 (k:Int):SV:=.tup [.a (rawC false r40 r40),nI k]
noncomputable def sRatioTriZ (ht:decide (2<mostI a b c d e f)=true):Spec Tryz.prog :=
 Spec.auto Tryz.call60 [svP p,svP q,svP r,svP s] [] (svZ0 200) [] [(sCheckedZ hp hq hr hs ha hb hc hd he hf ht).e] [] 800 Tryz.func60 hmA (by kernel_rfl) (fun β=>by kernel_rfl)
noncomputable def sRatioZ (ht:decide (2<mostI a b c d e f)=false) {g:Bool} (hg:gzero (ratY p q r s)=g):Spec Tryz.prog :=
 (Spec.auto Tryz.call60 [svP p,svP q,svP r,svP s] [] (.tup [.a (paC (prat p q r s g)),nI (paK (prat p q r s g))]) []
  [(sCheckedZ hp hq hr hs ha hb hc hd he hf ht).e,(sRat4 hp hq hr hs hg).e,(sToldP (prat p q r s g) ((prat_sz hp hq hr hs hg).mono (by decide))).e] [] 800 Tryz.func60 hmA (by cases g<;>kernel_rfl) (fun β=>by cases g<;>kernel_rfl)).as
  [svP p,svP q,svP r,svP s] (svA (prat p q r s g) (paK (prat p q r s g))) rfl (congrArg (fun l=>SV.tup [.a l,nI (paK (prat p q r s g))]) (paC_raw (prat p q r s g)))
end
end Go.Proofs.YtdiemgedlfnlmaaGreat.Y
end
section
namespace Go.Proofs.YtdiemgedlfnlmaaGreat
open Go.Proofs.YtdiemgedlfnlmaaGreat.Y
theorem chart_is {a b c:Pt} (h1:a≠b) (h2:b≠c) (h3:c≠a) (p:Pt):mSend (pchart a b c) p=pRat a b c p:=by
 rw [← chart_send]
 exact norm_send (rchart_reg h1 h2 h3) ((rchart_reg h1 h2 h3).by_ rfl) p
theorem pchart_t (a b c:Pt):(pchart a b c).t=false:=rfl
theorem pfourth_is {a b c:Pt} (h1:a≠b) (h2:b≠c) (h3:c≠a) (r:Pt):pfourth a b c r=mSend (minv0 (pchart a b c)) r :=
 norm_send (minv_reg (pchart_reg h1 h2 h3)) ((minv_reg (pchart_reg h1 h2 h3)).by_ rfl) r
theorem fourth_rat {a b c:Pt} (h1:a≠b) (h2:b≠c) (h3:c≠a) (d:Pt):pfourth a b c (pRat a b c d)=d:=by
 rw [pfourth_is h1 h2 h3,← chart_is h1 h2 h3]
 exact inv_send (pchart_reg h1 h2 h3) (pchart_t a b c) d
theorem rat_fourth {a b c:Pt} (h1:a≠b) (h2:b≠c) (h3:c≠a) (r:Pt):pRat a b c (pfourth a b c r)=r:=by
 rw [pfourth_is h1 h2 h3,← chart_is h1 h2 h3]
 exact send_inv (pchart_reg h1 h2 h3) (pchart_t a b c) r
def IZ (k n:Nat) (z:GQ):Prop:=∃ u v w:Int,w≠0∧u.natAbs<256^k∧v.natAbs<256^k∧w.natAbs<256^n∧z.re*w=u∧z.im*w=v
theorem pow_mono {i j:Nat} (h:i≤j):256^i≤256^j:=Nat.pow_le_pow_right (by decide) h
theorem IZ.mono {i j k n:Nat} {z:GQ} (h:IZ i j z) (hk:i≤k) (hn:j≤n):IZ k n z:=by
 obtain ⟨u,v,w,h0,h1,h2,h3,h4,h5⟩:=h
 exact ⟨u,v,w,h0,Nat.lt_of_lt_of_le h1 (pow_mono hk),Nat.lt_of_lt_of_le h2 (pow_mono hk),Nat.lt_of_lt_of_le h3 (pow_mono hn),h4,h5⟩
theorem mul_lt {a b:Int} {i j:Nat} (h:a.natAbs<256^i) (k:b.natAbs<256^j):(a*b).natAbs<256^(i+j):=by
 rw [Int.natAbs_mul,Nat.pow_add]
 exact Nat.mul_lt_mul'' h k
theorem add_lt {a b:Int} {i:Nat} (h:a.natAbs<256^i) (k:b.natAbs<256^i):(a+b).natAbs<256^(i+1):=by
 have:=Int.natAbs_add_le a b
 rw [Nat.pow_succ]
 omega
theorem sub_lt {a b:Int} {i:Nat} (h:a.natAbs<256^i) (k:b.natAbs<256^i):(a-b).natAbs<256^(i+1):=by
 have:=Int.natAbs_sub_le a b
 rw [Nat.pow_succ]
 omega
theorem cst_mul (a b:Int):((a*b:Int):Rat)=(a:Rat)*b:=Rat.intCast_mul a b
theorem cst_add (a b:Int):((a+b:Int):Rat)=(a:Rat)+b:=Rat.intCast_add a b
theorem cst_sub (a b:Int):((a-b:Int):Rat)=(a:Rat)-b:=Rat.intCast_sub a b
theorem IZ.mul {i j k l:Nat} {z w:GQ} (h:IZ i j z) (k':IZ k l w):IZ (i+k+1) (j+l) (gmul z w):=by
 obtain ⟨u,v,x,h0,h1,h2,h3,h4,h5⟩:=h
 obtain ⟨u',v',x',k0,k1,k2,k3,k4,k5⟩:=k'
 refine ⟨u*u'-v*v',u*v'+v*u',x*x',Int.mul_ne_zero h0 k0,sub_lt (mul_lt h1 k1) (mul_lt h2 k2),add_lt (mul_lt h1 k2) (mul_lt h2 k1),mul_lt h3 k3,?_,?_⟩
 · simp only [gmul,cst_mul,cst_sub,← h4,← h5,← k4,← k5]; grind
 · simp only [gmul,cst_mul,cst_add,← h4,← h5,← k4,← k5]; grind
theorem IZ.add {i j k l m:Nat} {z w:GQ} (h:IZ i j z) (k':IZ k l w) (h1:i+l≤m) (h2:k+j≤m):IZ (m+1) (j+l) (gadd z w):=by
 obtain ⟨u,v,x,a0,a1,a2,a3,a4,a5⟩:=h
 obtain ⟨u',v',x',k0,k1,k2,k3,k4,k5⟩:=k'
 have up:∀ {a:Int} {s:Nat},a.natAbs<256^s→s≤m→a.natAbs<256^m:=fun h hs=>Nat.lt_of_lt_of_le h (pow_mono hs)
 refine ⟨u*x'+u'*x,v*x'+v'*x,x*x',Int.mul_ne_zero a0 k0,add_lt (up (mul_lt a1 k3) h1) (up (mul_lt k1 a3) h2),add_lt (up (mul_lt a2 k3) h1) (up (mul_lt k2 a3) h2),mul_lt a3 k3,?_,?_⟩
 · simp only [gadd,cst_mul,cst_add,← a4,← k4]; grind
 · simp only [gadd,cst_mul,cst_add,← a5,← k5]; grind
theorem IZ.neg {i j:Nat} {z:GQ} (h:IZ i j z):IZ i j (gneg z):=by
 obtain ⟨u,v,x,a0,a1,a2,a3,a4,a5⟩:=h
 refine ⟨-u,-v,x,a0,by rwa [Int.natAbs_neg],by rwa [Int.natAbs_neg],a3,?_,?_⟩
 · simp only [gneg,Rat.intCast_neg,← a4]; grind
 · simp only [gneg,Rat.intCast_neg,← a5]; grind
theorem IZ.conj {i j:Nat} {z:GQ} (h:IZ i j z):IZ i j (gconj z):=by
 obtain ⟨u,v,x,a0,a1,a2,a3,a4,a5⟩:=h
 refine ⟨u,-v,x,a0,a1,by rwa [Int.natAbs_neg],a3,a4,?_⟩
 simp only [gconj,Rat.intCast_neg,← a5]; grind
theorem IZ.sub {i j k l m:Nat} {z w:GQ} (h:IZ i j z) (k':IZ k l w) (h1:i+l≤m) (h2:k+j≤m):IZ (m+1) (j+l) (gsub z w):=by
 have e:gsub z w=gadd z (gneg w):=GQ.ext2 (Rat.sub_eq_add_neg _ _) (Rat.sub_eq_add_neg _ _)
 rw [e]
 exact h.add k'.neg h1 h2
theorem sz_over {x:Rat} {u w:Int} {k n:Nat} (h0:w≠0) (hu:u.natAbs<256^k) (hw:w.natAbs<256^n) (h:x*w=u) (hn:1≤k):Sz (max k n) x:=by
 have hw0:(w:Rat)≠0:=fun e=>h0 (by exact_mod_cast e)
 have hx:x=Rat.divInt u w:=by
  rw [Rat.divInt_eq_div,← h]
  grind
 rw [hx]
 exact (sz_divInt (k:=max k n) h0 (sz_le.2 (Nat.lt_of_lt_of_le hu (pow_mono (Nat.le_max_left ..)))) (sz_le.2 (Nat.lt_of_lt_of_le hw (pow_mono (Nat.le_max_right ..)))))
theorem IZ.div {i j k l m:Nat} {z w:GQ} (h:IZ i j z) (k':IZ k l w) (w0:w≠0) (hm:2*k+1≤m):IZ (i+k+1+l) (j+m) (gdiv z w):=by
 obtain ⟨u,v,x,h0,h1,h2,h3,h4,h5⟩:=h
 obtain ⟨u',v',x',k0,k1,k2,k3,k4,k5⟩:=k'
 have x0:(x':Rat)≠0:=fun e=>k0 (by exact_mod_cast e)
 have n0:gnorm w≠0:=fun e=>w0 ((gnorm_zero e).trans g0_def)
 have nn:((u'*u'+v'*v':Int):Rat)=gnorm w*(x'*x'):=by
  simp only [gnorm,cst_mul,cst_add,← k4,← k5]; grind
 have d0:u'*u'+v'*v'≠0:=by
  intro e
  rw [e] at nn
  have:gnorm w*((x':Rat)*x')=0:=nn.symm
  rcases Rat.mul_eq_zero.1 this with h | h
  · exact n0 h
  · rcases Rat.mul_eq_zero.1 h with h | h<;>exact x0 h
 have iv:(gnorm w)⁻¹*gnorm w=1:=Rat.inv_mul_cancel _ n0
 have dl:(u'*u'+v'*v').natAbs<256^m :=
  Nat.lt_of_lt_of_le (add_lt (mul_lt k1 k1) (mul_lt k2 k2)) (pow_mono (by omega))
 refine ⟨(u*u'+v*v')*x',(v*u'-u*v')*x',x*(u'*u'+v'*v'),Int.mul_ne_zero h0 d0,mul_lt (add_lt (mul_lt h1 k1) (mul_lt h2 k2)) k3,mul_lt (sub_lt (mul_lt h2 k1) (mul_lt h1 k2)) k3,mul_lt h3 dl,?_,?_⟩
 · rw [cst_mul x,nn]
   simp only [gdiv,gscale,gmul,gconj,cst_mul,cst_add,← h4,← h5,← k4,← k5]
   grind
 · rw [cst_mul x,nn]
   simp only [gdiv,gscale,gmul,gconj,cst_mul,cst_sub,← h4,← h5,← k4,← k5]
   grind
theorem IZ.of_sz {k:Nat} {z:GQ} (h:Sz k z.re) (h':Sz k z.im):IZ (k+k) (k+k) z:=by
 have dz:∀ x:Rat,(x.den:Int)≠0:=fun x e=>x.den_nz (by exact_mod_cast e)
 have nd:∀ x:Rat,x*((x.den:Int):Rat)=((x.num:Int):Rat):=fun x=>by
  have e:Rat.divInt x.num x.den=x:=Rat.mkRat_self x
  rw [Rat.divInt_eq_div] at e
  have hd:(((x.den:Nat):Int):Rat)≠0:=by exact_mod_cast x.den_nz
  generalize (((x.den:Nat):Int):Rat)=d at *
  generalize ((x.num:Int):Rat)=n at *
  rw [← e]
  grind
 refine ⟨z.re.num*z.im.den,z.im.num*z.re.den,z.re.den*z.im.den,Int.mul_ne_zero (dz _) (dz _),mul_lt (sz_le.1 h.1) (sz_le.1 h'.2),mul_lt (sz_le.1 h'.1) (sz_le.1 h.2),mul_lt (sz_le.1 h.2) (sz_le.1 h'.2),?_,?_⟩
 · simp only [cst_mul,← nd z.re]; grind
 · simp only [cst_mul,← nd z.im]; grind
def PIZ (k n:Nat):Pt→Prop
 | .inf=>True
 | .fin z=>IZ k n z
theorem g1re:(1:GQ).re=1:=by rw [← g1_def]; simp [gint,Rat.divInt_eq_div]<;>grind
theorem g1im:(1:GQ).im=0:=by rw [← g1_def]; simp [gint,Rat.divInt_eq_div]<;>grind
theorem g0re:(0:GQ).re=0:=by rw [← g0_def]; rfl
theorem g0im:(0:GQ).im=0:=by rw [← g0_def]; rfl
theorem IZ.one:IZ 1 1 (1:GQ):=⟨1,0,1,by decide,by decide,by decide,by decide,by simpa using g1re,by simpa using g1im⟩
theorem IZ.nil:IZ 1 1 (0:GQ):=⟨0,0,1,by decide,by decide,by decide,by decide,by simpa using g0re,by simpa using g0im⟩
theorem byA_iz {k n:Nat} {p:Pt} (h:PIZ k n p) (hk:1≤k) (hn:1≤n):IZ k n (byA p):=by
 cases p with
 | inf=>exact IZ.mono IZ.one hk hn
 | fin z=>exact h
theorem byB_iz (p:Pt):IZ 1 1 (byB p):=by
 cases p with
 | inf=>exact IZ.nil
 | fin z=>exact IZ.one
theorem across_iz {k n:Nat} {p q:Pt} (h:PIZ k n p) (h':PIZ k n q) (hk:1≤k) (hn:1≤n):IZ (k+n+4) (n+n+2) (gacross p q):=by
 have:=IZ.sub (m:=k+n+3) ((byA_iz h hk hn).mul (byB_iz q)) ((byB_iz p).mul (byA_iz h' hk hn)) (by omega) (by omega)
 rw [gdef]
 exact this.mono (by omega) (by omega)
theorem rat_iz {p q r s:Pt} (h1:PIZ 24 24 p) (h2:PIZ 24 24 q) (h3:PIZ 24 24 r) (h4:PIZ 24 24 s):PIZ 311 311 (pRat p q r s):=by
 have X:=((across_iz h1 h2 (by decide) (by decide)).mul (across_iz h3 h4 (by decide) (by decide))).mono (k:=105) (n:=100) (by decide) (by decide)
 have Y:=((across_iz h2 h3 (by decide) (by decide)).mul (across_iz h4 h1 (by decide) (by decide))).mono (k:=105) (n:=100) (by decide) (by decide)
 unfold pRat pratio
 cases h:gzero (ratY p q r s)
 · have n0:ratY p q r s≠0:=fun e=>by
    rw [gz0.2 e] at h
    cases h
   have:=(IZ.div (m:=211) X Y n0 (by decide)).mono (k:=311) (n:=311) (by decide) (by decide)
   exact this
 · exact trivial
end Go.Proofs.YtdiemgedlfnlmaaGreat
end
section
namespace Go.Proofs.YtdiemgedlfnlmaaGreat.Y
open Go Go.RowKit
set_option maxRecDepth 100000
theorem g00:gint 0 0=g0:=gq_lit (by kernel_rfl) (by kernel_rfl)
theorem g0_fit:FitG g0:=by rw [← g00]; exact fit_int (by decide) (by decide)
theorem mid_fit (t:Bool):FitM (mid t):=⟨fit_int (by decide) (by decide),g0_fit,g0_fit,fit_int (by decide) (by decide)⟩
theorem mid_nrm (t:Bool):Nrm (mid t):=by
 unfold Nrm mid
 rw [gz_true.2 rfl]
 exact gint10
theorem mid_may:MayQ (mid false):=⟨mid_fit false,by kernel_rfl,.inr ⟨by kernel_rfl,by kernel_rfl⟩⟩
noncomputable def sToldId:Spec Tryz.prog :=
 ⟨207,Tryz.call207,[mV 0 (mid false)],mM (mid false),.tup [.a (lsX (mC (mid false))),.c (.b (.v (.int .i64 0)))],[],fun β w hh=>by
  have k:=(sToldN (m:=mid false) ((fitM_sz (mid_fit false)).mono (by decide)) (mid_nrm false)).ok β w hh
  rw [show (sToldN (m:=mid false) ((fitM_sz (mid_fit false)).mono (by decide)) (mid_nrm false)).res=.tup [.a (lsX (mC (mid false))),.c (.b (.v (.int .i64 0)))] by
   show SV.tup [.a (lsX (maC (mid false))),.c (.b (.v (.int .i64 (maK (mid false)))))]=_
   rw [(maC_fit (mid_fit false)).1,(maC_fit (mid_fit false)).2]] at k
  exact k,by kernel_rfl⟩
noncomputable def sOne:Spec Tryz.prog :=
 Spec.auto Tryz.call86 [] [] (.one (.a (lsX (mC (mid false))))) [] [sStill.e,sToldId.e] [] 400 Tryz.func86 hmA (by kernel_rfl) (fun β=>by kernel_rfl)
theorem fr_of (r:R4) (h:r.s.size≤maxLen∧r.t.size≤maxLen):∃ a:Fr,a.r=r:=by
 obtain ⟨a,ha⟩:=fp_of r h.1 h.2
 exact ⟨⟨r,a,by rw [← ha]; cases a<;>rfl⟩,rfl⟩
def adOf:SV→Nat × Nat
 | .one (.c (.b (.p k o)))=>(k,o)
 | _=>(0,0)
structure CSpec (P:Program) where
 f:FuncId
 en:Enters P f
 args:List SV
 cs:List Lf
 t:TypeId
 res:SV
 news:List Thing
 ok:∀ β w,(Ob.box cs t).holds β w (β 0)→Calls P f (args.map (SV.den β)).toArray w fun e w'=>∃ xs:List Pl,(∀ x∈xs,∀ c,x.F c→w.heap.size≤c)∧e=.returned (res.den (extE β 1 xs))∧newHold w' news xs∧Below w.heap.size w w'
 cl:(cs.all (Lf.of fun _=>false)&&args.all (SV.of fun k=>Nat.beq k 0)&&res.of fun k=>Nat.ble 1 k&&Nat.blt k (1+news.length))=true
def bkOfY:List SV→Nat
 | []=>0
 | .one (.c (.b (.s k _ _ _)))::_=>k
 | _::r=>bkOfY r
def CSpec.e {P:Program} (S:CSpec P):Ev P:=.dyn (fun o _ _=>isCallB o) fun _ xs ob=>lit (bkOfY xs) fun i=>lit ob.length fun n =>
 .call S.f S.en (fun β=>(S.args.map (SV.den fun _=>β i)).toArray) [(i,.box S.cs S.t)] n (S.res.ren fun k=>n+(k-1)) S.news (fun β w h=>by
  have hc:=S.cl
  simp only [Bool.and_eq_true] at hc
  have h1:(β i).one∧w.heap[(β i).b]?=some (.cells (S.cs.map (Lf.den β)).toArray S.t (0,0)):=h _ (List.mem_singleton.2 rfl)
  refine (S.ok (fun _=>β i) w ?_).mono fun e w' ⟨xs,k1,k2,k3,k4⟩=>⟨xs,fun x hx c hc=>.inl (k1 x hx c hc),?_,k3,k4⟩
  · show (β i).one∧w.heap[(β i).b]?=some (.cells (S.cs.map (Lf.den fun _=>β i)).toArray S.t (0,0))
    rw [show S.cs.map (Lf.den fun _=>β i)=S.cs.map (Lf.den β) from List.map_congr_left fun x hx=>Lf.den_congr (q:=fun _=>false) (fun k hk=>by cases hk) x (List.all_eq_true.1 hc.1.1 x hx)]
    exact h1
  · rw [k2,SV.den_ren]
    congr 1
    refine SV.den_congr (fun k hk=>?_) _ hc.2
    have hlen:=(newHold_get k3).1
    rw [Bool.and_eq_true,Nat.ble_eq,Nat.blt_eq] at hk
    have h5:k-1<xs.length:=by omega
    rw [extE_in (List.getElem?_eq_getElem h5)]
    have:=extE_in (β:=fun _=>β i) (n:=1) (List.getElem?_eq_getElem h5)
    rw [show 1+(k-1)=k by omega] at this
    exact this)
def Ob.ren (ρ:Nat→Nat):Ob→Ob
 | .box cs t=>.box (cs.map (Lf.ren ρ)) t
 | x=>x
def ptrB:Option Lf→Bool
 | some (.b (.z _ _))=>true
 | some (.b (.p _ _))=>true
 | some (.b (.v (.string _)))=>true
 | _=>false
def Ob.plainB:Ob→Bool
 | .box cs _=>Nat.blt cs.length 4||ptrB cs[1]?
 | .th _=>true
 | _=>false
theorem Ob.holds_ren {β:Env} {w:World} {g:Pl} {ρ:Nat→Nat}:∀ {o:Ob},o.plainB=true→(o.ren ρ).holds β w g→o.holds (fun k=>β (ρ k)) w g
 | .box cs t,_,h=>⟨h.1,by
  rw [h.2,List.map_map]
  rw [show (Lf.den β ∘ Lf.ren ρ)=Lf.den (fun k=>β (ρ k)) from funext fun x=>Lf.den_ren β ρ x]⟩
 | .th _,_,h=>h
theorem Ob.holds_cg {q:Nat→Bool} {β β':Env} {w:World} {g:Pl} (hq:∀ k,q k=true→β k=β' k):∀ {o:Ob},o.plainB=true→o.of q=true→o.holds β w g→o.holds β' w g
 | .box cs t,_,h,k=>⟨k.1,by rw [k.2,all_congr h (Lf.den_congr hq)]⟩
 | .th _,_,_,k=>k
structure OSpec (P:Program) where
 f:FuncId
 en:Enters P f
 args:List SV
 obs:List Ob
 res:SV
 news:List Rat
 ok:∀ β w,(∀ (k:Nat) (o:Ob),obs[k]?=some o→o.holds β w (β k))→Calls P f (args.map (SV.den β)).toArray w fun e w'=>∃ xs:List Pl,(∀ x∈xs,∀ c,x.F c→w.heap.size≤c∨∃ i o,obs[i]?=some o∧o.isTh=true∧(β i).F c)∧e=.returned (res.den (extE β obs.length xs))∧newHold w' (news.map ratT) xs∧Below w.heap.size w w'
 closed:(args.all (SV.of fun k=>Nat.blt k obs.length)&&obs.all (fun x=>x.of (fun k=>Nat.blt k obs.length)&&x.plainB)&&res.of fun k=>Nat.blt k (obs.length+news.length))=true
def mtBox (o c:Ob):List (Nat × Nat):=match o,c with
 | .box xs _,.box ys _=>mtLs xs ys
 | _,_=>[]
def mtObs (obs ob:List Ob):List (Nat × Nat)→List (Nat × Nat)
 | []=>[]
 | (k,j)::r=>(match obs[k]?,ob[j]? with | some o,some c=>mtBox o c | _,_=>[])++mtObs obs ob r
def sigO {P:Program} (S:OSpec P) (xs:List SV) (ob:List Ob):List Nat:=sigL (mtVs S.args xs++mtObs S.obs ob (mtVs S.args xs)) 0 S.obs.length
def needsO (σ:List Nat) (ρ:Nat→Nat):List Ob→Nat→List (Nat × Ob)
 | [],_=>[]
 | o::r,k=>(lit (σ.getD k 0) fun j=>j,o.ren ρ)::needsO σ ρ r (k+1)
theorem needsO_at {σ:List Nat} {ρ:Nat→Nat}:∀ {l:List Ob} {i k:Nat} {o:Ob},l[k]?=some o→(σ.getD (i+k) 0,o.ren ρ)∈needsO σ ρ l i
 | x::r,i,0,o,h=>by
  simp only [List.getElem?_cons_zero] at h
  obtain rfl:=Option.some.inj h
  unfold needsO
  rw [lit_eq]
  exact List.mem_cons_self ..
 | x::r,i,k+1,o,h=>by
  have:=needsO_at (σ:=σ) (ρ:=ρ) (l:=r) (i:=i+1) (k:=k) (o:=o) (by simpa using h)
  rw [show i+(k+1)=i+1+k by omega]
  exact List.mem_cons_of_mem _ this
def OSpec.ev {P:Program} (S:OSpec P) (σ:List Nat) (n:Nat) (hσ:(Nat.ble S.obs.length σ.length&&σ.all fun k=>Nat.blt k n)=true):Ev P :=
 .call S.f S.en (fun β=>(S.args.map (SV.den fun k=>β (atS σ S.obs.length n k))).toArray) (needsO σ (atS σ S.obs.length n) S.obs 0) n (S.res.ren (atS σ S.obs.length n)) (S.news.map ratT) fun β w h=>by
  have hc:=S.closed
  simp only [Bool.and_eq_true] at hc
  have hat:∀ k,k<S.obs.length→atS σ S.obs.length n k=σ.getD k 0:=fun k hk=>by
   unfold atS
   rw [lit_eq,show Nat.blt k S.obs.length=true by rw [Nat.blt_eq]; exact hk,cond_true]
  have hat2:∀ k,¬ k<S.obs.length→atS σ S.obs.length n k=n+(k-S.obs.length):=fun k hk=>by
   unfold atS
   rw [lit_eq,show Nat.blt k S.obs.length=false by rw [Bool.eq_false_iff,ne_eq,Nat.blt_eq]; exact hk,cond_false]
  rw [Bool.and_eq_true,Nat.ble_eq] at hσ
  have hsn:∀ k,k<S.obs.length→σ.getD k 0<n:=fun k hk=>by
   rw [List.getD_eq_getElem?_getD]
   cases hx:σ[k]? with
   | none=>rw [List.getElem?_eq_none_iff] at hx; omega
   | some y=>have:=List.all_eq_true.1 hσ.2 y (List.mem_of_getElem? hx); rw [Nat.blt_eq] at this; exact this
  have hq:∀ k,Nat.blt k S.obs.length=true→β (atS σ S.obs.length n k)=β (σ.getD k 0):=fun k hk=>by rw [hat k (by simpa [Nat.blt_eq] using hk)]
  have hargs:S.args.map (SV.den fun k=>β (atS σ S.obs.length n k))=S.args.map (SV.den fun k=>β (σ.getD k 0)):=List.map_congr_left fun x hx=>SV.den_congr hq _ (List.all_eq_true.1 hc.1.1 x hx)
  rw [hargs]
  refine (S.ok (fun k=>β (σ.getD k 0)) w fun k o hk=>?_).mono ?_
  · have ho:=List.all_eq_true.1 hc.1.2 o (List.mem_of_getElem? hk)
    rw [Bool.and_eq_true] at ho
    have hlt:k<S.obs.length:=(List.getElem?_eq_some_iff.1 hk).1
    have h1:(o.ren (atS σ S.obs.length n)).holds β w (β (σ.getD k 0)):=by
     have:=h _ (needsO_at (i:=0) hk)
     rwa [Nat.zero_add] at this
    exact Ob.holds_cg hq ho.2 ho.1 (Ob.holds_ren ho.2 h1)
  · rintro e w' ⟨xs,h1,rfl,h3,h4⟩
    refine ⟨xs,fun x hx c hc2=>?_,?_,h3,h4⟩
    · rcases h1 x hx c hc2 with h5 | ⟨i,o,h5,h6,h7⟩
      · exact .inl h5
      · refine .inr ⟨_,needsO_at (i:=0) h5,?_,?_⟩
        · cases o<;>first | exact h6 | cases h6
        · rw [Nat.zero_add]; exact h7
    · rw [SV.den_ren]
      congr 1
      refine SV.den_congr (fun k hk=>?_) _ hc.2
      have hlen:=(newHold_get h3).1
      rw [List.length_map] at hlen
      rw [Nat.blt_eq] at hk
      by_cases hk2:k<S.obs.length
      · rw [hat k hk2,extE_out (β:=β) (n:=n) (k:=σ.getD k 0) (xs:=xs) (by have:=hsn k hk2; omega),extE_out (n:=S.obs.length) (k:=k) (xs:=xs) (by omega)]
      · rw [hat2 k hk2]
        have h5:k-S.obs.length<xs.length:=by omega
        rw [extE_in (List.getElem?_eq_getElem h5)]
        have:=extE_in (β:=fun k=>β (σ.getD k 0)) (n:=S.obs.length) (List.getElem?_eq_getElem h5)
        rw [show S.obs.length+(k-S.obs.length)=k by omega] at this
        exact this
def OSpec.e {P:Program} (S:OSpec P):Ev P:=.dyn (fun o _ _=>isCallB o) fun _ xs ob =>
 lits (sigO S xs ob) fun σ=>lit ob.length fun n=>if h:(Nat.ble S.obs.length σ.length&&σ.all fun k=>Nat.blt k n)=true then S.ev σ n h else .eqv 0 undef undef rfl
theorem no_frac:¬ IsFrac (rawV false false ⟨#[]⟩ ⟨#[]⟩):=fun h=>by
 unfold rawV at h
 rw [isFrac_doc] at h
 exact absurd h.2.2.2.1 (by decide)
def noFr:Fr:=⟨r40,.no false false ⟨#[]⟩ ⟨#[]⟩ no_frac (by decide) (by decide),rfl⟩
def czZ:List Lf:=[.b (.v (.pointer none)),.b (.v (.pointer none)),.b (.v (.pointer none)),.b (.v (.pointer none)),.b (.v (.pointer none)),.b (.v (.pointer none)),.b (.v (.pointer none)),.b (.v (.pointer none)),.b (.v (.bool false))]
noncomputable def sCzBad (a b c:Pp) {x y z:Bool} (hc:c.B=x) (hb:b.B=y) (ha:a.B=z) (h:(x&&(y&&(z&&z)))=false):Spec Tryz.prog :=
 Spec.auto Tryz.call205 [.one (.a (lsX a.w.C)),.one (.a (lsX b.w.C)),.one (.a (lsX c.w.C))] [] (.tup [.a czZ,nI 2]) [] [(sOpenC0 c b a a hc hb ha ha h).e] [] 800 Tryz.func205 hmA (by kernel_rfl) (fun β=>by kernel_rfl)
noncomputable def sCzChartBad (a b c:Pp) {x y z:Bool} (hc:c.B=x) (hb:b.B=y) (ha:a.B=z) (h:(x&&(y&&(z&&z)))=false):Spec Tryz.prog :=
 Spec.auto Tryz.call64 [.one (.a (lsX a.w.C)),.one (.a (lsX b.w.C)),.one (.a (lsX c.w.C))] [] (.tup [mob0,nI 2]) [] [(sCzBad a b c hc hb ha h).e] [] 800 Tryz.func64 hmA (by kernel_rfl) (fun β=>by kernel_rfl)
section
variable {a b c:Pt} (ha:FitP a) (hb:FitP b) (hc:FitP c) (h1:a≠b) (h2:b≠c) (h3:c≠a)
theorem cz_reg (h1:a≠b) (h2:b≠c) (h3:c≠a):Reg (mchart0 c b a):=Reg.chart (Ne.symm h2) (Ne.symm h1) h3
noncomputable def sCz:Spec Tryz.prog :=
 Spec.auto Tryz.call205 [svP a,svP b,svP c] [] (.tup [mA 0 (mcha c b a),nI 0]) (mT (mcha c b a))
  [(sOpenC hc hb ha ha).e,eqEvPt (ptB_ne' h1),eqEvPt (ptB_ne' h2),eqEvPt (ptB_ne' h3),(sChaR (hc.sz.mono (by decide)) (hb.sz.mono (by decide)) (ha.sz.mono (by decide)) (cz_reg h1 h2 h3)).e] [] 800 Tryz.func205 hmA (by kernel_rfl) (fun β=>by kernel_rfl)
theorem czM_sz (ha:FitP a) (hb:FitP b) (hc:FitP c) (h1:a≠b) (h2:b≠c) (h3:c≠a):MSz (dsz (csz 1024)) (mcha c b a):=mcha_sz hc.sz hb.sz ha.sz (by decide) (cz_reg h1 h2 h3)
theorem czM_reg (h1:a≠b) (h2:b≠c) (h3:c≠a):Reg (mcha c b a):=(cz_reg h1 h2 h3).mnorm
noncomputable def sCzChart:Spec Tryz.prog :=
 Spec.auto Tryz.call64 [svP a,svP b,svP c] [] (.tup [.a (lsX (maC (mcha c b a))),nI (maK (mcha c b a))]) []
  [(sCz ha hb hc h1 h2 h3).e,(sToldN ((czM_sz ha hb hc h1 h2 h3).mono (by decide)) ((cz_reg h1 h2 h3).nrm)).e] [] 800 Tryz.func64 hmA (by kernel_rfl) (fun β=>by kernel_rfl)
theorem czB_sz (ha:FitP a) (hb:FitP b) (hc:FitP c) (h1:a≠b) (h2:b≠c) (h3:c≠a):MSz (dsz (dsz (csz 1024))) (minv (mcha c b a)):=minv_sz (czM_sz ha hb hc h1 h2 h3) (minv_reg (czM_reg h1 h2 h3))
theorem cz_send_sz {i j:Nat} {m:MQ} {p:Pt} (h:MSz i m) (hp:PSz j p) {b:Bool} (hb:gzero (msD m p)=b):PSz (dsz (ssz i j)) (msend m p b):=by
 cases b
 · exact (msN_sz h hp).div (msD_sz h hp) hb
 · trivial
noncomputable def sCzFourth0 {r:Pt} (hr:FitP r) {f:Bool} (hf:gzero (msD (minv (mcha c b a)) r)=f):Spec Tryz.prog :=
 Spec.auto Tryz.call63 [svP a,svP b,svP c,svP r] [] (.tup [.a (paC (msend (minv (mcha c b a)) r f)),nI (paK (msend (minv (mcha c b a)) r f))]) []
  [(sSpotP r hr).e,(sCz ha hb hc h1 h2 h3).e,(sUndoR ((czM_sz ha hb hc h1 h2 h3).mono (by decide)) (czM_reg h1 h2 h3)).e,
   (sSend ((czB_sz ha hb hc h1 h2 h3).mono (by decide)) (hr.sz.mono (by decide)) hf).e,
   (sToldP (msend (minv (mcha c b a)) r f) ((cz_send_sz (czB_sz ha hb hc h1 h2 h3) hr.sz hf).mono (by decide))).e] [(7,7)] 800 Tryz.func63 hmA (by cases f<;>kernel_rfl) (fun β=>by cases f<;>kernel_rfl)
theorem cz_four (h1:a≠b) (h2:b≠c) (h3:c≠a) (r:Pt):msend (minv (mcha c b a)) r (gzero (msD (minv (mcha c b a)) r))=pfourth a b c r:=by
 unfold pfourth
 rw [show pback a b c=minv (mcha c b a) by
  unfold pback pchart
  rw [rchart_eq]
  rfl]
noncomputable def sCzFourth {r:Pt} (hr:FitP r) (hF:FitP (pfourth a b c r)):Spec Tryz.prog :=
 (sCzFourth0 ha hb hc h1 h2 h3 hr (f:=gzero (msD (minv (mcha c b a)) r)) rfl).as [svP a,svP b,svP c,svP r] (.tup [.a (pfourth a b c r).w.C,svI 0]) rfl (by
  show SV.tup [.a (paC (msend (minv (mcha c b a)) r (gzero (msD (minv (mcha c b a)) r)))),nI (paK (msend (minv (mcha c b a)) r (gzero (msD (minv (mcha c b a)) r))))]=_
  rw [cz_four h1 h2 h3,paC_raw,(pa_fit hF).1,(pa_fit hF).2.1,(pa_fit hF).2.2,paK_fit hF]
  rfl)
theorem cz_m1:FitP (.fin (gint (-1) 0)):=fit_int (by decide) (by decide)
noncomputable def czTold {z:GQ} (hz:FitG z):Spec Tryz.prog :=
 (sTold (z:=z) (GSz.mono (⟨hz.1.sz,hz.2.sz⟩:GSz 1024 z) (by decide))).conv (.tup [.a (gC z),svI 0]) (by show SV.tup [.a (gaC z),.c (.b (.v (.int .i64 (gaK z))))]=_; rw [(ga_fit hz).1,(ga_fit hz).2])
noncomputable def sCzHar (hF:FitP (pfourth a b c (.fin (gint (-1) 0)))):Spec Tryz.prog :=
 Spec.auto Tryz.call194 [svP a,svP b,svP c] [] (.tup [.a (pfourth a b c (.fin (gint (-1) 0))).w.C,svI 0]) [] [(sInt (-1) 0 (by decide) (by decide)).e,(czTold cz_m1).e,(sCzFourth ha hb hc h1 h2 h3 cz_m1 hF).e] [] 800 Tryz.func194 hmA (by kernel_rfl) (fun β=>by kernel_rfl)
end
section
variable {p q r s:Pt} (hp:FitP p) (hq:FitP q) (hr:FitP r) (hs:FitP s)
variable {a b c d e f:Bool} (ha:ptB p q=a) (hb:ptB p r=b) (hc:ptB p s=c) (hd:ptB q r=d) (he:ptB q s=e) (hf:ptB r s=f)
noncomputable def sCzRound (ht:decide (1<mostI a b c d e f)=false) (hg:gzero (ratY p q r s)=false) {i:Bool} (hi:decide ((gdiv (ratX p q r s) (ratY p q r s)).im=0)=i):Spec Tryz.prog :=
 Spec.auto Tryz.call193 [svP p,svP q,svP r,svP s] [] (.tup [.c (.b (.v (.bool i))),svI 0]) []
  [(sOpenC hp hq hr hs).e,(sMost ha hb hc hd he hf).e,.eqv 33 (.bool (decide (1<mostI a b c d e f))) (.bool false) (gtZ ht),(sRat4 hp hq hr hs hg).e,(sParts (gdiv (ratX p q r s) (ratY p q r s))).e,
   nSign (x:=(gdiv (ratX p q r s) (ratY p q r s)).im) rfl,.eqv 47 (.bool ((gdiv (ratX p q r s) (ratY p q r s)).im.num.sign==0)) (.bool i) (sign_lit hi)] [] 800 Tryz.func193 hmA (by kernel_rfl) (fun β=>by kernel_rfl)
end
def cNum (k:Int):Spec Tryz.prog:=Spec.auto Tryz.call57 [.one (svI k)] [] (.one (svI k)) [] [] [] 400 Tryz.func57 hmA (by kernel_rfl) (fun β=>by kernel_rfl)
def cAt (n m:Int) (hn : -9223372036854775808≤n∧n≤9223372036854775807:=by decide) (hm : -9223372036854775808≤m∧m≤9223372036854775807:=by decide):Spec Tryz.prog :=
 Spec.auto Tryz.call192 [.one (svI n),.one (svI m)] [] (svP (.fin (gint n m))) [] [(sR7Int n m hn hm).e] [] 400 Tryz.func192 hmA (by kernel_rfl) (fun β=>by kernel_rfl)
abbrev cP (n m:Int):Pt:=.fin (gint n m)
abbrev cThird:GQ:=gdiv (gint (-1) 0) (gint 3 0)
abbrev cHalf:GQ:=gdiv (gint 1 0) (gint 2 0)
theorem c_third:FitP (.fin cThird):=fit_small (by decide +kernel) (by decide +kernel) (by decide +kernel) (by decide +kernel)
theorem c_half:FitP (.fin cHalf):=fit_small (by decide +kernel) (by decide +kernel) (by decide +kernel) (by decide +kernel)
theorem c00:FitP (cP 0 0):=pI_fit (by decide) (by decide)
theorem c10:FitP (cP 1 0):=pI_fit (by decide) (by decide)
theorem c20:FitP (cP 2 0):=pI_fit (by decide) (by decide)
theorem c30:FitP (cP 3 0):=pI_fit (by decide) (by decide)
theorem c01:FitP (cP 0 1):=pI_fit (by decide) (by decide)
theorem c11:FitP (cP 1 1):=pI_fit (by decide) (by decide)
theorem crat1:prat (cP 0 0) (cP 1 0) (cP 2 0) (cP 3 0) false=.fin cThird:=congrArg Pt.fin (gq_lit (by kernel_rfl) (by kernel_rfl))
theorem cfou1:pfourth (cP 0 0) (cP 1 0) .inf (cP 2 0)=.fin cHalf:=msend_lit (f:=false) (by kernel_rfl) (congrArg Pt.fin (gq_lit (by kernel_rfl) (by kernel_rfl)))
theorem cfou2:pfourth (cP 0 0) (cP 1 0) (cP 2 0) (.fin (gint (-1) 0))=.inf:=msend_lit (f:=true) (by kernel_rfl) rfl
theorem ccha1:mcha (cP 0 0) (cP 1 0) .inf=mOne:=mq_ext (gq_lit (by kernel_rfl) (by kernel_rfl)) (gq_lit (by kernel_rfl) (by kernel_rfl)) (gq_lit (by kernel_rfl) (by kernel_rfl)) (gq_lit (by kernel_rfl) (by kernel_rfl)) rfl
noncomputable def cRat:Spec Tryz.prog :=
 (sRatioZ c00 c10 c20 c30 (a:=false) (b:=false) (c:=false) (d:=false) (e:=false) (f:=false) (ptB_ne' (pI_ne (by decide))) (ptB_ne' (pI_ne (by decide))) (ptB_ne' (pI_ne (by decide))) (ptB_ne' (pI_ne (by decide))) (ptB_ne' (pI_ne (by decide))) (ptB_ne' (pI_ne (by decide))) (by decide) (g:=false) (by kernel_rfl)).as
  [svP (cP 0 0),svP (cP 1 0),svP (cP 2 0),svP (cP 3 0)] (.tup [.a (Pt.fin cThird).w.C,svI 0]) rfl (svA_fit crat1 c_third)
noncomputable def cFou:Spec Tryz.prog :=
 (sCzFourth c00 c10 (c:=.inf) trivial (pI_ne (by decide)) (fun e=>by cases e) (fun e=>by cases e) c20 (by rw [cfou1]; exact c_half)).as [svP (cP 0 0),svP (cP 1 0),svP .inf,svP (cP 2 0)] (.tup [.a (Pt.fin cHalf).w.C,svI 0]) rfl (by
  show SV.tup [.a (pfourth (cP 0 0) (cP 1 0) .inf (cP 2 0)).w.C,svI 0]=_
  rw [cfou1])
noncomputable def cCha:Spec Tryz.prog :=
 (sCzChart (a:=.inf) trivial c10 c00 (fun e=>by cases e) (pI_ne (by decide)) (fun e=>by cases e)).as [svP .inf,svP (cP 1 0),svP (cP 0 0)] (.tup [.a (mC mOne),svI 0]) rfl (by
  show SV.tup [.a (lsX (maC (mcha (cP 0 0) (cP 1 0) .inf))),svI (maK (mcha (cP 0 0) (cP 1 0) .inf))]=_
  rw [ccha1,(maC_fit fit_one).1,(maC_fit fit_one).2])
noncomputable def cRou:Spec Tryz.prog :=
 sCzRound c00 c10 c01 c11 (a:=false) (b:=false) (c:=false) (d:=false) (e:=false) (f:=false) (ptB_ne' (pI_ne (by decide))) (ptB_ne' (pI_ne (by decide))) (ptB_ne' (pI_ne (by decide))) (ptB_ne' (pI_ne (by decide))) (ptB_ne' (pI_ne (by decide))) (ptB_ne' (pI_ne (by decide))) (by decide) (by kernel_rfl) (i:=true) (by kernel_rfl)
noncomputable def cHar:Spec Tryz.prog :=
 (sCzHar c00 c10 c20 (pI_ne (by decide)) (pI_ne (by decide)) (pI_ne (by decide)) (by rw [cfou2]; trivial)).as [svP (cP 0 0),svP (cP 1 0),svP (cP 2 0)] (.tup [.a Pt.inf.w.C,svI 0]) rfl (by
  show SV.tup [.a (pfourth (cP 0 0) (cP 1 0) (cP 2 0) (.fin (gint (-1) 0))).w.C,svI 0]=_
  rw [cfou2])
noncomputable def cTri:Spec Tryz.prog :=
 sRatioTriZ c00 c00 c00 c10 (a:=true) (b:=true) (c:=false) (d:=true) (e:=false) (f:=false) (ptB_self _) (ptB_self _) (ptB_ne' (pI_ne (by decide))) (ptB_self _) (ptB_ne' (pI_ne (by decide))) (ptB_ne' (pI_ne (by decide))) (by decide)
def cNoPt:Pp:=.fin noFr.a noFr.a
noncomputable def cBad:Spec Tryz.prog:=sCzChartBad cNoPt cNoPt (ppt (cP 1 0) c10) (x:=true) (y:=false) (z:=false) (by kernel_rfl) rfl rfl rfl
def cU8:Spec Tryz.prog:=Spec.auto Tryz.call216 [] [] (svG (gint 1 0)) [] [(sR4Int 1 0).e] [] 400 Tryz.func216 hmA (by kernel_rfl) (fun β=>by kernel_rfl)
def cZ8:Spec Tryz.prog:=Spec.auto Tryz.call217 [] [] (svG (gint 0 0)) [] [(sR4Int 0 0).e] [] 400 Tryz.func217 hmA (by kernel_rfl) (fun β=>by kernel_rfl)
def cOne8:Spec Tryz.prog:=Spec.auto Tryz.call195 [] [] (svM mOne) [] [(cU8).e,(cZ8).e,(cZ8).e,(cU8).e] [] 400 Tryz.func195 hmA (by kernel_rfl) (fun β=>by kernel_rfl)
noncomputable def cKnown:Spec Tryz.prog :=
 Spec.auto Tryz.call55 [] [] (svB true) []
  [(cAt 0 0).e,(cAt 1 0).e,(cAt 2 0).e,(cAt 3 0).e,cRat.e,
   (cAt 0 0).e,(cAt 1 0).e,sR7Inf.e,(cAt 2 0).e,cFou.e,
   sR7Inf.e,(cAt 1 0).e,(cAt 0 0).e,cCha.e,
   (cAt 0 0).e,(cAt 1 0).e,(cAt 0 1).e,(cAt 1 1).e,cRou.e,
   (cAt 0 0).e,(cAt 1 0).e,(cAt 2 0).e,cHar.e,
   (cAt 0 0).e,(cAt 0 0).e,(cAt 0 0).e,(cAt 1 0).e,cTri.e,
   (cAt 1 0).e,cBad.e,
   (sR4Int (-1) 0).e,(sR4Int 3 0).e,(sR4Over (z:=gint (-1) 0) (w:=gint 3 0) (GSz.le (GSz.int (by decide) (by decide))) (GSz.le (GSz.int (by decide) (by decide))) (by kernel_rfl)).e,
   (sR4Int 1 0).e,(sR4Int 2 0).e,(sR4Over (z:=gint 1 0) (w:=gint 2 0) (GSz.le (GSz.int (by decide) (by decide))) (GSz.le (GSz.int (by decide) (by decide))) (by kernel_rfl)).e,
   (sR7Of cThird).e,eqEvPt (ptB_self (.fin cThird)),(cNum 0).e,(sR7Of cHalf).e,eqEvPt (ptB_self (.fin cHalf)),(cNum 0).e,cOne8.e,eqMC mOne,(cNum 0).e,(cNum 0).e,sR7Inf.e,eqEvPt (ptB_self .inf),(cNum 0).e,(cNum 200).e,(cNum 2).e]
  [(10,59)] 3000 Tryz.func55 hmA (by kernel_rfl) (fun β=>by kernel_rfl)
end Go.Proofs.YtdiemgedlfnlmaaGreat.Y
end
