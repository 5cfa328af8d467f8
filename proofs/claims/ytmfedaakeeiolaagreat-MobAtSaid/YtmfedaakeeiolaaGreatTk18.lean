/- Pts, Alg, Rs7, Rs10, Nrm, EyF, Rs8, MoA, MoC, EqM, L8, MkA. -/
import Derived.Test.YtmfedaakeeiolaaGreatTk17
set_option linter.unnecessarySimpa false
set_option linter.unusedVariables false
set_option linter.unusedSimpArgs false
section
namespace Go.Proofs.YtmfedaakeeiolaaGreat
open Go.Proofs.YtmfedaakeeiolaaGreat.Y
open Go Go.RowKit
set_option maxRecDepth 100000
def Fp.raw:Fp→R4
 | .ok x _=>⟨decide (x.num<0),mag x.num.natAbs,false,mag x.den⟩
 | .no b c s t _ _ _=>⟨b,s,c,t⟩
def Pp.rI:Pp→Bool
 | .fin ..=>false
 | _=>true
def Pp.rX:Pp→R4
 | .inf=>r40
 | .fin a _=>a.raw
 | .odd x _ _=>x
def Pp.rY:Pp→R4
 | .inf=>r40
 | .fin _ b=>b.raw
 | .odd _ y _=>y
def rawC (i:Bool) (x y:R4):List Lf:=.b (.v (.bool i))::(x.L++y.L)
theorem Pp.C_raw (p:Pp):p.C=rawC p.rI p.rX p.rY:=by rcases p with _ | ⟨_ | _,_ | _⟩ | _<;>rfl
def Y.Spec.as {P:Program} (S:Y.Spec P) (args:List SV) (res:SV) (ha:S.args=args) (hr:S.res=res):Y.Spec P :=
 ⟨S.f,S.en,args,S.obs,res,S.news,fun β w hh=>by subst ha; subst hr; exact S.ok β w hh,by subst ha; subst hr; exact S.closed⟩
def fR (x:Rat):R4:=⟨decide (x.num<0),mag x.num.natAbs,false,mag x.den⟩
def Pt.i:Pt→Bool
 | .inf=>true
 | .fin _=>false
def Pt.x:Pt→R4
 | .inf=>r40
 | .fin z=>fR z.re
def Pt.y:Pt→R4
 | .inf=>r40
 | .fin z=>fR z.im
abbrev svR (i:Bool) (x y:R4):SV:=.one (.a (rawC i x y))
abbrev svP (p:Pt):SV:=svR p.i p.x p.y
def FitP:Pt→Prop
 | .inf=>True
 | .fin z=>FitG z
theorem FitP.sz {p:Pt} (h:FitP p):PSz 1024 p:=by
 cases p
 · trivial
 · exact ⟨h.1.sz,h.2.sz⟩
structure Rw where
 i:Bool
 x:R4
 y:R4
def Rw.ok (r:Rw):Prop:=(r.x.s.size≤maxLen∧r.x.t.size≤maxLen)∧r.y.s.size≤maxLen∧r.y.t.size≤maxLen
def Pt.w (p:Pt):Rw:=⟨p.i,p.x,p.y⟩
def Pp.w (p:Pp):Rw:=⟨p.rI,p.rX,p.rY⟩
theorem fp_of (x:R4) (h1:x.s.size≤maxLen) (h2:x.t.size≤maxLen):∃ a:Fp,a.raw=x:=by
 obtain ⟨b,s,c,t⟩:=x
 rcases fp_all b c s t with ⟨q,h,rfl,rfl,rfl,rfl⟩ | h
 · exact ⟨.ok q h,rfl⟩
 · exact ⟨.no b c s t h h1 h2,rfl⟩
theorem pp_of (r:Rw) (h:r.ok):∃ p:Pp,p.w=r:=by
 obtain ⟨i,x,y⟩:=r
 cases i
 · obtain ⟨a,rfl⟩:=fp_of x h.1.1 h.1.2
   obtain ⟨b,rfl⟩:=fp_of y h.2.1 h.2.2
   exact ⟨.fin a b,rfl⟩
 · by_cases h0:x=⟨false,⟨#[]⟩,false,⟨#[]⟩⟩∧y=⟨false,⟨#[]⟩,false,⟨#[]⟩⟩
   · obtain ⟨rfl,rfl⟩:=h0
     exact ⟨.inf,rfl⟩
   · exact ⟨.odd x y h0,rfl⟩
theorem fR_inj {x y:Rat} (h:fR x=fR y):x=y:=by
 injection h with h1 h2 h3 h4
 have hn:x.num.natAbs=y.num.natAbs:=mag_inj h2
 have hd:x.den=y.den:=mag_inj h4
 have hb:(x.num<0)=(y.num<0):=by simpa using h1
 refine Rat.ext ?_ hd
 by_cases h0:x.num<0
 · have:y.num<0:=by rw [← hb]; exact h0
   omega
 · have:¬ y.num<0:=by rw [← hb]; exact h0
   omega
theorem Pt.w_inj {p q:Pt} (h:p.w=q.w):p=q:=by
 cases p<;>cases q
 · rfl
 · injection h with h1; cases h1
 · injection h with h1; cases h1
 · rename_i z w
   injection h with _ h2 h3
   exact congrArg Pt.fin (GQ.ext2 (fR_inj h2) (fR_inj h3))
def rwB (i i':Bool) (x y x' y':R4):Bool:=(i==i')&&((x.eq x'&&(y.eq y'&&true))&&true)
theorem rwB_iff {i i':Bool} {x y x' y':R4}:rwB i i' x y x' y'=true↔i=i'∧x=x'∧y=y':=by
 unfold rwB
 simp only [Bool.and_true,Bool.and_eq_true,R4.eq_iff,beq_iff_eq]
def ptB (p q:Pt):Bool:=rwB p.i q.i p.x p.y q.x q.y
theorem ptB_iff {p q:Pt}:ptB p q=true↔p=q:=by
 unfold ptB
 rw [rwB_iff]
 constructor
 · rintro ⟨h1,h2,h3⟩
   exact Pt.w_inj (by unfold Pt.w; rw [h1,h2,h3])
 · rintro rfl; exact ⟨rfl,rfl,rfl⟩
open Classical in
noncomputable def paI (p:Pt):Bool:=if FitP p then p.i else false
open Classical in
noncomputable def paX (p:Pt):R4:=if FitP p then p.x else r40
open Classical in
noncomputable def paY (p:Pt):R4:=if FitP p then p.y else r40
theorem pa_fit {p:Pt} (h:FitP p):paI p=p.i∧paX p=p.x∧paY p=p.y:=⟨if_pos h,if_pos h,if_pos h⟩
theorem pa_not {p:Pt} (h:¬ FitP p):paI p=false∧paX p=r40∧paY p=r40:=⟨if_neg h,if_neg h,if_neg h⟩
theorem paK_fit {p:Pt} (h:FitP p):paK p=0:=by
 cases p
 · rfl
 · exact (ga_fit h).2
theorem paK_not {p:Pt} (h:¬ FitP p):paK p=4:=by
 cases p
 · exact absurd trivial h
 · exact (ga_not h).2
theorem paC_raw (p:Pt):paC p=rawC (paI p) (paX p) (paY p):=by
 by_cases h:FitP p
 · rw [(pa_fit h).1,(pa_fit h).2.1,(pa_fit h).2.2]
   cases p
   · rfl
   · show _::gaC _=_
     rw [(ga_fit h).1]; rfl
 · rw [(pa_not h).1,(pa_not h).2.1,(pa_not h).2.2]
   cases p
   · exact absurd trivial h
   · show _::gaC _=_
     rw [(ga_not h).1]; rfl
def mC (m:MQ):List Lf:=gC m.a++gC m.b++gC m.c++gC m.d++[.b (.v (.bool m.t))]
abbrev svM (m:MQ):SV:=.one (.a (mC m))
theorem gz_true {z:GQ}:gzero z=true↔z=g0:=by
 rw [gzero_iff]
 exact ⟨fun h=>GQ.ext2 h.1 h.2,fun h=>by rw [h]; exact ⟨rfl,rfl⟩⟩
theorem gz_false {z:GQ}:gzero z=false↔z≠g0:=by
 cases h:gzero z with
 | true=>exact ⟨fun e=>Bool.noConfusion e,fun e=>absurd (gz_true.1 h) e⟩
 | false=>exact ⟨fun _ e=>by rw [gz_true.2 e] at h; exact Bool.noConfusion h,fun _=>rfl⟩
theorem gnorm_mul (z w:GQ):gnorm (gmul z w)=gnorm z*gnorm w:=by
 simp only [gnorm,gmul]; grind
theorem gnorm_zero {z:GQ} (h:gnorm z=0):z=g0:=by
 cases h1:gzero z with
 | true=>exact gz_true.1 h1
 | false=>exact absurd h (gnorm_ne h1)
theorem gmul_zero {z w:GQ} (h:gmul z w=g0):z=g0∨w=g0:=by
 have h1:gnorm z*gnorm w=0:=by rw [← gnorm_mul,h]; simp only [gnorm,g0]; grind
 rcases Rat.mul_eq_zero.1 h1 with h | h
 · exact .inl (gnorm_zero h)
 · exact .inr (gnorm_zero h)
theorem gmul_ne {z w:GQ} (h:z≠g0) (k:w≠g0):gmul z w≠g0:=fun e=>(gmul_zero e).elim h k
theorem gnorm_inv {w:GQ} (h:w≠g0):gnorm w*(gnorm w)⁻¹=1:=Rat.mul_inv_cancel _ (gnorm_ne (gz_false.2 h))
theorem gdiv_mul {z w:GQ} (h:w≠g0):gmul (gdiv z w) w=z:=by
 have hn:=gnorm_inv h
 unfold gdiv
 generalize hi:(gnorm w)⁻¹=i at hn
 unfold gnorm at hn
 refine GQ.ext2 ?_ ?_
 · simp only [gmul,gscale,gconj]; grind
 · simp only [gmul,gscale,gconj]; grind
theorem gmul_cancel {z w u:GQ} (h:u≠g0) (e:gmul z u=gmul w u):z=w:=by
 have h1:gmul (gsub z w) u=g0:=by
  have e1:=congrArg GQ.re e
  have e2:=congrArg GQ.im e
  simp only [gmul] at e1 e2
  refine GQ.ext2 ?_ ?_
  · simp only [gmul,gsub,g0]; grind
  · simp only [gmul,gsub,g0]; grind
 rcases gmul_zero h1 with k | k
 · have e1:=congrArg GQ.re k
   have e2:=congrArg GQ.im k
   simp only [gsub,g0] at e1 e2
   exact GQ.ext2 (by grind) (by grind)
 · exact absurd k h
theorem gdiv_eq_iff {z w u:GQ} (h:w≠g0):gdiv z w=u↔z=gmul u w:=by
 constructor
 · intro e; rw [← e,gdiv_mul h]
 · intro e; exact gmul_cancel h (by rw [gdiv_mul h,e])
theorem gneg_ne {z:GQ} (h:z≠g0):gneg z≠g0:=fun e=>h (by
 have e1:=congrArg GQ.re e
 have e2:=congrArg GQ.im e
 simp only [gneg,g0] at e1 e2
 exact GQ.ext2 (by show z.re=0; grind) (by show z.im=0; grind))
def Reg (m:MQ):Prop:=mdet m≠g0
theorem Reg.by_ {m:MQ} (h:Reg m) {b:Bool} (hb:gzero m.c=b):(bif b then m.d else m.c)≠g0:=by
 cases b
 · exact gz_false.1 hb
 · intro e
   refine h ?_
   have hc:=gz_true.1 hb
   unfold mdet
   rw [hc,show m.d=g0 from e]
   refine GQ.ext2 ?_ ?_<;>(simp only [gsub,gmul,g0]; grind)
theorem Reg.by0 {m:MQ} (h:Reg m) {b:Bool} (hb:gzero m.c=b):gzero (bif b then m.d else m.c)=false:=gz_false.2 (h.by_ hb)
theorem det_norm {m:MQ} {b:Bool} {u:GQ} (hu:(bif b then m.d else m.c)=u) (h:u≠g0):gmul (gmul (mdet (mnormB m b)) u) u=mdet m:=by
 unfold mnormB
 rw [hu]
 have ha:=gdiv_mul (z:=m.a) h
 have hb:=gdiv_mul (z:=m.b) h
 have hc:=gdiv_mul (z:=m.c) h
 have hd:=gdiv_mul (z:=m.d) h
 unfold mdet
 show gmul (gmul (gsub (gmul (gdiv m.a u) (gdiv m.d u)) (gmul (gdiv m.b u) (gdiv m.c u))) u) u=_
 rw [← ha,← hb,← hc,← hd]
 rw [ha,hb,hc,hd]
 generalize gdiv m.a u=a' at *
 generalize gdiv m.b u=b' at *
 generalize gdiv m.c u=c' at *
 generalize gdiv m.d u=d' at *
 rw [← ha,← hb,← hc,← hd]
 refine GQ.ext2 ?_ ?_<;>(simp only [gsub,gmul]; grind)
theorem Reg.norm {m:MQ} (h:Reg m) {b:Bool} (hu:(bif b then m.d else m.c)≠g0):Reg (mnormB m b):=fun e=>h (by
 rw [← det_norm rfl hu,e]
 refine GQ.ext2 ?_ ?_<;>(simp only [gmul,g0]; grind))
theorem Reg.undo0 {m:MQ} (h:Reg m):Reg (mundo0 m):=fun e=>h (by
 have e1:=congrArg GQ.re e
 have e2:=congrArg GQ.im e
 simp only [mdet,mundo0,gsub,gmul,gneg,g0] at e1 e2
 refine GQ.ext2 ?_ ?_<;>(simp only [mdet,gsub,gmul,g0]; grind))
theorem Reg.conj {m:MQ} (h:Reg m) (t:Bool):Reg (mconj m t):=by
 cases t
 · exact h
 · intro e
   refine h ?_
   have e1:=congrArg GQ.re e
   have e2:=congrArg GQ.im e
   simp only [mdet,mconj,cond_true,gsub,gmul,gconj,g0] at e1 e2
   refine GQ.ext2 ?_ ?_<;>(simp only [mdet,gsub,gmul,g0]; grind)
theorem det_beh (m n:MQ):mdet (mbeh m n)=gmul (mdet m) (mdet (mconj n m.t)):=by
 unfold mbeh mdet
 generalize mconj n m.t=n'
 refine GQ.ext2 ?_ ?_<;>(simp only [gsub,gadd,gmul]; grind)
theorem Reg.beh {m n:MQ} (h:Reg m) (k:Reg n):Reg (mbeh m n):=by
 unfold Reg
 rw [det_beh]
 exact gmul_ne h (k.conj _)
theorem gint00:gint 0 0=g0:=rfl
theorem gint10:gint 1 0=⟨1,0⟩:=rfl
theorem across_ne {p q:Pt} (h:p≠q):gacross p q≠g0:=by
 intro e
 have e1:=congrArg GQ.re e
 have e2:=congrArg GQ.im e
 cases p<;>cases q<;>simp only [gacross,byA,byB,gint00,gint10,gsub,gmul,g0] at e1 e2
 · exact h rfl
 · exact absurd e1 (by grind)
 · exact absurd e1 (by grind)
 · rename_i z w
   refine h (congrArg Pt.fin (GQ.ext2 ?_ ?_))
   · grind
   · grind
theorem Reg.chart {p q r:Pt} (h1:p≠q) (h2:q≠r) (h3:p≠r):Reg (mchart0 p q r):=by
 have k1:=across_ne h1
 have k2:=across_ne h2
 have k3:=across_ne h3
 unfold Reg
 have:mdet (mchart0 p q r)=gmul (gmul (gacross q r) (gneg (gacross p q))) (gacross p r):=by
  unfold mdet mchart0 gacross
  generalize byA p=a
  generalize byB p=b
  generalize byA q=c
  generalize byB q=d
  generalize byA r=e
  generalize byB r=f
  refine GQ.ext2 ?_ ?_<;>(simp only [gsub,gmul,gneg]; grind)
 rw [this]
 exact gmul_ne (gmul_ne k2 (gneg_ne k1)) k3
structure BSpec (P:Program) where
 f:FuncId
 en:Enters P f
 args:List SV
 cs:List Lf
 t:TypeId
 r:Value
 ok:∀ β w,(Ob.box cs t).holds β w (β 0)→Calls P f (args.map (SV.den β)).toArray w fun e w'=>e=.returned r∧Below w.heap.size w w'
 cl:(cs.all (Lf.of fun _=>false)&&args.all (SV.of fun k=>Nat.beq k 0))=true
 hr:∀ β,(tag r).den β=r
def bkOf:List SV→Nat
 | []=>0
 | .one (.c (.b (.s k _ _ _)))::_=>k
 | _::r=>bkOf r
theorem cells_closed {β β':Env} {cs:List Lf} (h:cs.all (Lf.of fun _=>false)=true):cs.map (Lf.den β)=cs.map (Lf.den β') :=
 List.map_congr_left fun x hx=>Lf.den_congr (q:=fun _=>false) (fun k hk=>by cases hk) x (List.all_eq_true.1 h x hx)
def BSpec.e {P:Program} (S:BSpec P):Ev P:=.dyn (fun o _ _=>isCallB o) fun _ xs ob=>lit (bkOf xs) fun i =>
 .call S.f S.en (fun β=>(S.args.map (SV.den fun _=>β i)).toArray) [(i,.box S.cs S.t)] 0 (tag S.r) [] (fun β w h=>of_pure0 (by
  have hc:=S.cl
  rw [Bool.and_eq_true] at hc
  refine S.ok (fun _=>β i) w ?_
  have h1:(β i).one∧w.heap[(β i).b]?=some (.cells (S.cs.map (Lf.den β)).toArray S.t (0,0)):=h _ (List.mem_singleton.2 rfl)
  show (β i).one∧w.heap[(β i).b]?=some (.cells (S.cs.map (Lf.den fun _=>β i)).toArray S.t (0,0))
  rw [cells_closed (β':=β) hc.1]
  exact h1) S.hr)
theorem bspec_ok {P:Program} {f:FuncId} {fn:Func} {args:List SV} {cs:List Lf} {t:TypeId} {r:Value} (evs:List (Ev P)) (Ns:List (Nat × Nat)) (m:Nat) (hf:P.funcs[f]?=some fn) (hm:P.follows .mixedOrders=true)
  (h:∀ β,(allS P fn args [.box cs t] evs Ns m (tag r) [] β).map Prod.fst=(allS P fn args [.box cs t] evs Ns m (tag r) [] β).map Prod.snd)
  (hB:(args.all (SV.of fun k=>Nat.blt k 1)&&[Ob.box cs t].all fun x=>x.of (fun k=>Nat.blt k 1)&&x.own)=true) (hr:∀ β,(tag r).den β=r) (β:Env) (w:World) (hh:(Ob.box cs t).holds β w (β 0)) :
  Calls P f (args.map (SV.den β)).toArray w fun e w'=>e=.returned r∧Below w.heap.size w w':=by
 rw [Bool.and_eq_true] at hB
 refine (sx (P:=P) args [.box cs t] evs Ns m (tag r) [] hf hm (fun β=>ok_of_maps (h β)) hB.1 hB.2 β w (fun k o ho=>?_)).mono ?_
 · cases k with
   | zero=>simp only [List.getElem?_cons_zero] at ho; obtain rfl:=Option.some.inj ho; exact hh
   | succ k=>simp at ho
 · rintro e w' ⟨β',q,obj,e1,rfl,e2,e4,e5,g⟩
   exact ⟨by rw [hr],g.bel⟩
def Rw.C (r:Rw):List Lf:=rawC r.i r.x r.y
def Pp.may7E:Pp→List (Ev Tryz.prog)
 | .inf=>[]
 | .fin a b=>[(sR4May a b).e]
 | .odd x y h=>[eqEvP true true x y r40 r40 false (odd_ne h)]
def sR7May0 (p:Pp):Y.Spec Tryz.prog :=
 Y.Spec.auto Tryz.call33 [.one (.a p.C)] [] (.one (.c (.b (.v (.bool p.B))))) []
  p.may7E [] 400 Tryz.func33 hmA (by rcases p with _ | ⟨_ | _,_ | _⟩ | _<;>kernel_rfl) (fun β=>by rcases p with _ | ⟨_ | _,_ | _⟩ | _<;>kernel_rfl)
def sR7May (p:Pp) {b:Bool} (hb:p.B=b):Y.Spec Tryz.prog :=
 (sR7May0 p).as [svR p.rI p.rX p.rY] (.one (.c (.b (.v (.bool b))))) (congrArg (fun l=>[SV.one (.a l)]) (Pp.C_raw p)) (congrArg (fun b=>SV.one (.c (.b (.v (.bool b))))) hb)
abbrev KP:Nat:=1000000
def sR8Normal {a b c d:GQ} (t:Bool) (h:MSz KE ⟨a,b,c,d,t⟩) {f:Bool} (hf:gzero c=f) (h0:gzero (bif f then d else c)=false):Y.Spec Tryz.prog :=
 ⟨154,Tryz.call154,[svG a,svG b,svG c,svG d,.one (.c (.b (.v (.bool t))))],[],svM (mnormB ⟨a,b,c,d,t⟩ f),[],fun β w hh=>by
  cases f
  · exact spec_auto (evs:=[(sR4Zero c hf).e,(sR4Over h.a h.c h0).e,(sR4Over h.b h.c h0).e,(sR4Over h.c h.c h0).e,(sR4Over h.d h.c h0).e]) (Ns:=[(4,14)]) (m:=400) Tryz.func154 hmA (fun β=>by kernel_rfl) (by kernel_rfl) β w hh
  · exact spec_auto (evs:=[(sR4Zero c hf).e,(sR4Over h.a h.d h0).e,(sR4Over h.b h.d h0).e,(sR4Over h.c h.d h0).e,(sR4Over h.d h.d h0).e]) (Ns:=[(4,14)]) (m:=400) Tryz.func154 hmA (fun β=>by kernel_rfl) (by kernel_rfl) β w hh,by kernel_rfl⟩
def sR8turned (z:GQ) (t:Bool):Y.Spec Tryz.prog :=
 ⟨155,Tryz.call155,[svG z,.one (.c (.b (.v (.bool t))))],[],svG (mcj t z),[],fun β w hh=>by
  cases t
  · exact spec_auto (evs:=[]) (Ns:=[]) (m:=400) Tryz.func155 hmA (fun β=>by kernel_rfl) (by kernel_rfl) β w hh
  · exact spec_auto (evs:=[(sR4Conj z).e]) (Ns:=[]) (m:=400) Tryz.func155 hmA (fun β=>by kernel_rfl) (by kernel_rfl) β w hh,by kernel_rfl⟩
def minv0 (m:MQ):MQ:=mconj (mundo0 m) m.t
theorem minv0_sz {k:Nat} {m:MQ} (h:MSz k m):MSz k (minv0 m):=h.undo0.conj _
def sR8Inverse {m:MQ} (h:MSz KE m) {f:Bool} (hf:gzero (minv0 m).c=f) (h0:gzero (bif f then (minv0 m).d else (minv0 m).c)=false):Y.Spec Tryz.prog :=
 Y.Spec.auto Tryz.call39 [svM m] [] (svM (mnormB (minv0 m) f)) []
  [(sR8turned m.d m.t).e,(sR4Neg m.b).e,(sR8turned (gneg m.b) m.t).e,(sR4Neg m.c).e,(sR8turned (gneg m.c) m.t).e,(sR8turned m.a m.t).e,(sR8Normal (a:=(minv0 m).a) (b:=(minv0 m).b) (c:=(minv0 m).c) (d:=(minv0 m).d) m.t (minv0_sz h) hf h0).e]
  [(1,25)] 400 Tryz.func39 hmA (by kernel_rfl) (fun β=>by kernel_rfl)
def sR8At {m:MQ} {p:Pt} (h:MSz KP m) (hp:PSz KP p) {b:Bool} (hb:gzero (msD m p)=b):Y.Spec Tryz.prog :=
 ⟨66,Tryz.call66,[svM m,svP p],[],svP (msend m p b),[],fun β w hh=>by
  have hN:GSz KE (msN m p):=(msN_sz h hp).mono (by decide)
  have hD:GSz KE (msD m p):=(msD_sz h hp).mono (by decide)
  obtain ⟨a,b',c,d,t⟩:=m
  cases p
  · cases b
    · exact spec_auto (evs:=[(sR4Zero c hb).e,(sR4Over hN hD hb).e]) (Ns:=[(8,8),(11,10)]) (m:=400) Tryz.func66 hmA (fun β=>by kernel_rfl) (by kernel_rfl) β w hh
    · exact spec_auto (evs:=[(sR4Zero c hb).e]) (Ns:=[(8,8),(11,10)]) (m:=400) Tryz.func66 hmA (fun β=>by kernel_rfl) (by kernel_rfl) β w hh
  · rename_i z
    have hz:GSz KP (mcj t z):=mcj_sz hp
    cases b
    · cases t
      · exact spec_auto (evs:=[(sR4Times h.c.le hz.le).e,(sR4Plus (h.c.mul hz).le h.d.le).e,(sR4Zero _ hb).e,(sR4Times h.a.le hz.le).e,(sR4Plus (h.a.mul hz).le h.b.le).e,(sR4Over hN hD hb).e]) (Ns:=[(8,8),(11,10)]) (m:=400) Tryz.func66 hmA (fun β=>by kernel_rfl) (by kernel_rfl) β w hh
      · exact spec_auto (evs:=[(sR4Conj z).e,(sR4Times h.c.le hz.le).e,(sR4Plus (h.c.mul hz).le h.d.le).e,(sR4Zero _ hb).e,(sR4Times h.a.le hz.le).e,(sR4Plus (h.a.mul hz).le h.b.le).e,(sR4Over hN hD hb).e]) (Ns:=[(8,8),(11,10)]) (m:=400) Tryz.func66 hmA (fun β=>by kernel_rfl) (by kernel_rfl) β w hh
    · cases t
      · exact spec_auto (evs:=[(sR4Times h.c.le hz.le).e,(sR4Plus (h.c.mul hz).le h.d.le).e,(sR4Zero _ hb).e]) (Ns:=[(8,8),(11,10)]) (m:=400) Tryz.func66 hmA (fun β=>by kernel_rfl) (by kernel_rfl) β w hh
      · exact spec_auto (evs:=[(sR4Conj z).e,(sR4Times h.c.le hz.le).e,(sR4Plus (h.c.mul hz).le h.d.le).e,(sR4Zero _ hb).e]) (Ns:=[(8,8),(11,10)]) (m:=400) Tryz.func66 hmA (fun β=>by kernel_rfl) (by kernel_rfl) β w hh,by kernel_rfl⟩
theorem maC_fit {m:MQ} (h:FitM m):maC m=mC m∧maK m=0:=by
 obtain ⟨h1,h2⟩:=maC_yes h
 refine ⟨?_,h2⟩
 rw [h1,(ga_fit h.1).1,(ga_fit h.2.1).1,(ga_fit h.2.2.1).1,(ga_fit h.2.2.2).1]
 rfl
abbrev KQ:Nat:=250
abbrev csz (k:Nat):Nat:=k+(k+k+(k+k)+1+(k+k+(k+k)+1)+1)+(k+(k+k+(k+k)+1+(k+k+(k+k)+1)+1))+1
theorem mchart0_sz {k:Nat} {p q r:Pt} (hp:PSz k p) (hq:PSz k q) (hr:PSz k r) (hk:1≤k):MSz (csz k) (mchart0 p q r) :=
 ⟨(byB_sz hk).mul (gacross_sz hq hr hk),((byA_sz hp hk).mul (gacross_sz hq hr hk)).neg,(byB_sz hk).mul (gacross_sz hq hp hk),((byA_sz hr hk).mul (gacross_sz hq hp hk)).neg⟩
theorem minv_reg {m:MQ} (h:Reg m):Reg (minv0 m):=h.undo0.conj _
theorem gq_one_ne:(⟨1,0⟩:GQ)≠g0:=fun e=>by have:=congrArg GQ.re e; exact absurd this (by show (1:Rat)≠0; decide)
theorem gq_div_self {u:GQ} (h:u≠g0):gdiv u u=⟨1,0⟩:=by
 rw [gdiv_eq_iff h]
 refine GQ.ext2 ?_ ?_<;>(simp only [gmul]; grind)
theorem gq_div_one (z:GQ):gdiv z ⟨1,0⟩=z:=by
 rw [gdiv_eq_iff gq_one_ne]
 refine GQ.ext2 ?_ ?_<;>(simp only [gmul]; grind)
theorem ptB_ne' {p q:Pt} (h:p≠q):ptB p q=false:=by
 cases k:ptB p q
 · rfl
 · exact absurd (ptB_iff.1 k) h
def mnorm (m:MQ):MQ:=mnormB m (gzero m.c)
def Nrm (m:MQ):Prop:=(bif gzero m.c then m.d else m.c)=⟨1,0⟩
theorem Nrm.id {m:MQ} (h:Nrm m):mnorm m=m:=by
 unfold Nrm at h
 unfold mnorm mnormB
 rw [h,gq_div_one,gq_div_one,gq_div_one,gq_div_one]
theorem Reg.nrm {m:MQ} (h:Reg m):Nrm (mnorm m):=by
 have h0:=h.by_ rfl
 unfold Nrm mnorm
 cases hc:gzero m.c with
 | false =>
  have hc':=gz_false.1 hc
  show (bif gzero (gdiv m.c m.c) then _ else gdiv m.c m.c)=_
  rw [gq_div_self hc',gz_false.2 gq_one_ne]
  rfl
 | true =>
  rw [hc] at h0
  have hd:m.d≠g0:=h0
  show (bif gzero (gdiv m.c m.d) then gdiv m.d m.d else _)=_
  have:gzero (gdiv m.c m.d)=true:=by
   rw [gz_true.1 hc,gz_true,gdiv_eq_iff hd]
   refine GQ.ext2 ?_ ?_<;>(simp only [gmul,g0]; grind)
  rw [this,gq_div_self hd]
  rfl
theorem Reg.mnorm {m:MQ} (h:Reg m):Reg (mnorm m):=h.norm (h.by_ rfl)
theorem Reg.b0 {m:MQ} (h:Reg m):gzero (bif gzero m.c then m.d else m.c)=false:=h.by0 rfl
theorem MSz.nrm {k:Nat} {m:MQ} (h:MSz k m) (hr:Reg m):MSz (dsz k) (Go.Proofs.YtmfedaakeeiolaaGreat.mnorm m):=h.normB hr.b0
def mcmp (m n:MQ):MQ:=mnorm (mbeh m n)
def minv (m:MQ):MQ:=mnorm (minv0 m)
def mcha (p q r:Pt):MQ:=mnorm (mchart0 p q r)
def mid (t:Bool):MQ:=⟨gint 1 0,g0,g0,gint 1 0,t⟩
theorem Reg.id (t:Bool):Reg (mid t):=fun e=>by
 have:=congrArg GQ.re e
 simp only [mdet,mid,gint10,gsub,gmul,g0] at this
 exact absurd this (by grind)
theorem Nrm.cmp {m n:MQ} (h:Reg m) (k:Reg n):Nrm (mcmp m n):=(h.beh k).nrm
theorem Nrm.inv {m:MQ} (h:Reg m):Nrm (minv m):=(minv_reg h).nrm
def mof (p q r s u v:Pt) (t:Bool):MQ:=mcmp (minv (mcha s u v)) (mcmp (mid t) (mcha p q r))
end Go.Proofs.YtmfedaakeeiolaaGreat
end
section
namespace Go.Proofs.YtmfedaakeeiolaaGreat.Y
open Go Go.RowKit
set_option maxRecDepth 100000
theorem an_mem {w:World} {D1 D2:Thing} {xs:List Pl} (h:newHold w [D1,D2] xs):newHold w [anyT,anyT] xs:=by
 match xs,h with
 | [p,q],h=>exact ⟨an_of D1.st h.1,an_of D2.st h.2.1,trivial⟩
theorem spT_any {w:World} {p:Pp} {xs:List Pl} (h:newHold w (spT p) xs):newHold w [anyT,anyT] xs:=by
 rcases p with _ | ⟨_ | _,_ | _⟩ | _<;>exact an_mem h
def sSpotW (p:Pp) {r:Bool} (hr:p.B=r):Spec Tryz.prog :=
 ⟨146,Tryz.call146,[.one (.a (lsX p.w.C))],[],.tup [.a [.b (.v (.bool (spI p))),.b (.z 0 0),.b (.z 1 0)],.c (.b (.v (.bool r)))],[anyT,anyT],fun β w hh=>by
  rw [← hr]
  have h:=(sSpot p).ok β w hh
  rw [show (sSpot p).args=[.one (.a (lsX p.w.C))] from congrArg (fun l=>[SV.one (.a (lsX l))]) p.C_raw] at h
  exact h.mono fun e w' ⟨xs,h1,he,h2,h3⟩=>⟨xs,h1,he,spT_any h2,h3⟩,by kernel_rfl⟩
def sSpotP (p:Pt) (h:FitP p):Spec Tryz.prog :=
 ⟨146,Tryz.call146,[.one (.a (lsX p.w.C))],[],.tup [.a (pL 0 p),.c (.b (.v (.bool true)))],pM p,fun β w hh=>by
  cases p with
  | inf=>exact (sSpot .inf).ok β w hh
  | fin z =>
   refine ((sSpot (.fin (.ok z.re h.1) (.ok z.im h.2))).ok β w hh).mono fun e w' ⟨xs,h1,he,h2,h3⟩=>⟨xs,h1,he,?_,h3⟩
   have h4:newHold w' [ratT z.re,ratT z.im] xs:=h2
   match xs,h4 with
   | [a,b],h4=>exact ⟨(ratT z.re).imp _ _ h4.1,(ratT z.im).imp _ _ h4.2.1,trivial⟩,by kernel_rfl⟩
def OpenNo (m:Mp) (t:Bool):Prop:=∀ (β:Env) (w:World),Calls Tryz.prog 134 (([.one (.a m.C)]:List SV).map (SV.den β)).toArray w fun e w'=>∃ xs:List Pl,freshS β w 0 xs∧e=.returned ((SV.tup [mB 0 t,.c (.b (.v (.bool false)))]).den (extE β 0 xs))∧newHold w' any8 xs∧Below w.heap.size w w'
def sOpenNo {m:Mp} {t:Bool} (h:OpenNo m t):Spec Tryz.prog :=
 ⟨134,Tryz.call134,[.one (.a m.C)],[],.tup [mB 0 t,.c (.b (.v (.bool false)))],any8,fun β w _=>h β w,by kernel_rfl⟩
theorem newHold8 {w:World} {t1 t2 t3 t4 t5 t6 t7 t8:Thing} {xs:List Pl} (h:newHold w [t1,t2,t3,t4,t5,t6,t7,t8] xs):newHold w any8 xs:=by
 match xs,h with
 | [a,b,c,d,e,f,g,i],h=>exact ⟨an_of t1.st h.1,an_of t2.st h.2.1,an_of t3.st h.2.2.1,an_of t4.st h.2.2.2.1,an_of t5.st h.2.2.2.2.1,an_of t6.st h.2.2.2.2.2.1,an_of t7.st h.2.2.2.2.2.2.1,an_of t8.st h.2.2.2.2.2.2.2.1,trivial⟩
def MayQ (q:MQ):Prop:=FitM q∧gzero (mdet q)=false∧(gzero (gsub q.c (gint 1 0))=true∨gzero q.c=true∧gzero (gsub q.d (gint 1 0))=true)
theorem fp_fit {a:Fr} (h:a.a.B=true):∃ x,∃ k:Fit x,rL a.r=lsX (Fp.C (.ok x k)):=by
 obtain ⟨r,a,e⟩:=a
 cases a with
 | ok x hx=>exact ⟨x,hx,e.symm⟩
 | no=>cases h
theorem open_all (m:Mp):(∃ q,MayQ q∧m.C=mCl q)∨∃ t,OpenNo m t:=by
 by_cases hn:((m.a.a.B&&m.a'.a.B)&&(m.b.a.B&&m.b'.a.B)&&(m.c.a.B&&m.c'.a.B)&&(m.d.a.B&&m.d'.a.B))=true
 · simp only [Bool.and_eq_true] at hn
   obtain ⟨⟨⟨⟨p1,p2⟩,p3,p4⟩,p5,p6⟩,p7,p8⟩:=hn
   obtain ⟨x1,h1,e1⟩:=fp_fit p1
   obtain ⟨x2,h2,e2⟩:=fp_fit p2
   obtain ⟨x3,h3,e3⟩:=fp_fit p3
   obtain ⟨x4,h4,e4⟩:=fp_fit p4
   obtain ⟨x5,h5,e5⟩:=fp_fit p5
   obtain ⟨x6,h6,e6⟩:=fp_fit p6
   obtain ⟨x7,h7,e7⟩:=fp_fit p7
   obtain ⟨x8,h8,e8⟩:=fp_fit p8
   obtain ⟨q,hq⟩:∃ q:MQ,q=⟨⟨x1,x2⟩,⟨x3,x4⟩,⟨x5,x6⟩,⟨x7,x8⟩,m.t⟩:=⟨_,rfl⟩
   have hf:FitM q:=by rw [hq]; exact ⟨⟨h1,h2⟩,⟨h3,h4⟩,⟨h5,h6⟩,h7,h8⟩
   have hC:m.C=mCl q:=by
    unfold Mp.C
    rw [e1,e2,e3,e4,e5,e6,e7,e8,hq]
    rfl
   cases hd:gzero (mdet q) with
   | true =>
    refine .inr ⟨false,fun β w=>?_⟩
    rw [hC]
    exact (sOpenDet hf hd).ok β w (fun k t h=>by simp [sOpenDet] at h)
   | false =>
    obtain ⟨r1,k1⟩:∃ r,gzero (gsub q.c (gint 1 0))=r:=⟨_,rfl⟩
    obtain ⟨r2,k2⟩:∃ r,gzero q.c=r:=⟨_,rfl⟩
    obtain ⟨r3,k3⟩:∃ r,gzero (gsub q.d (gint 1 0))=r:=⟨_,rfl⟩
    cases hr:mayR r1 r2 r3 with
    | true =>
     refine .inl ⟨q,⟨hf,hd,?_⟩,hC⟩
     rw [k1,k2,k3]
     cases r1<;>cases r2<;>cases r3<;>first | exact .inl rfl | exact .inr ⟨rfl,rfl⟩ | cases hr
    | false =>
     refine .inr ⟨q.t,fun β w=>?_⟩
     rw [hC]
     refine ((sOpenM hf hd k1 k2 k3).ok β w (fun k t h=>by simp [sOpenM] at h)).mono fun e w' ⟨xs,h1,he,h2,h3⟩=>⟨xs,h1,?_,newHold8 h2,h3⟩
     rw [he]
     show Ending.returned ((SV.tup [mA 0 q,.c (.b (.v (.bool (mayR r1 r2 r3))))]).den (extE β 0 xs))=_
     rw [hr]
     rfl
 · refine .inr ⟨false,fun β w=>?_⟩
   exact (sOpenNum m rfl rfl rfl rfl (Bool.eq_false_iff.2 hn)).ok β w (fun k t h=>by simp [sOpenNum] at h)
def sOpenYes {q:MQ} (h:MayQ q):Spec Tryz.prog :=
 ⟨134,Tryz.call134,[.one (.a (mCl q))],[],.tup [mA 0 q,.c (.b (.v (.bool true)))],mT q,fun β w hh=>by
  obtain ⟨hf,hd,hr⟩:=h
  have hk:mayR (gzero (gsub q.c (gint 1 0))) (gzero q.c) (gzero (gsub q.d (gint 1 0)))=true:=by
   unfold mayR
   rcases hr with h | ⟨h,k⟩
   · rw [h]; rfl
   · rw [h,k]; cases gzero (gsub q.c (gint 1 0))<;>rfl
  refine ((sOpenM hf hd rfl rfl rfl).ok β w hh).mono fun e w' ⟨xs,h1,he,h2,h3⟩=>⟨xs,h1,?_,h2,h3⟩
  rw [he]
  show Ending.returned ((SV.tup [mA 0 q,.c (.b (.v (.bool (mayR (gzero (gsub q.c (gint 1 0))) (gzero q.c) (gzero (gsub q.d (gint 1 0)))))))]).den (extE β 0 xs))=_
  rw [hk]
  rfl,by kernel_rfl⟩
end Go.Proofs.YtmfedaakeeiolaaGreat.Y
end
section
namespace Go.Proofs.YtmfedaakeeiolaaGreat
open Go.Proofs.YtmfedaakeeiolaaGreat.Y
open Go Go.RowKit
set_option maxRecDepth 100000
def sR8unit:Y.Spec Tryz.prog:=Y.Spec.auto Tryz.call140 [] [] (svG (gint 1 0)) [] [(sR4Int 1 0).e] [] 400 Tryz.func140 hmA (by kernel_rfl) (fun β=>by kernel_rfl)
def sR8zero:Y.Spec Tryz.prog:=Y.Spec.auto Tryz.call141 [] [] (svG (gint 0 0)) [] [(sR4Int 0 0).e] [] 400 Tryz.func141 hmA (by kernel_rfl) (fun β=>by kernel_rfl)
abbrev KD:Nat:=1000000
abbrev KT:Nat:=125
def sR8Inv {m:MQ} (h:MSz KE m) (h0:Reg (minv0 m)):Y.Spec Tryz.prog:=(sR8Inverse h (f:=gzero (minv0 m).c) rfl h0.b0).as [svM m] (svM (minv m)) rfl rfl
abbrev P6 (p q r s u v:Pt) (k:Pt→Prop):Prop:=k p∧k q∧k r∧k s∧k u∧k v
section
variable {p q r s u v:Pt} (z:P6 p q r s u v (PSz KT)) (t:Bool)
theorem mid_sz (t:Bool) {k:Nat} (hk:1≤k:=by decide):MSz k (mid t):=by
 have h1:GSz k (gint 1 0):=(GSz.int (by decide) (by decide)).mono hk
 have h0:GSz k g0:=g0_sz hk
 exact ⟨h1,h0,h0,h1⟩
theorem mcha_sz {k:Nat} (hp:PSz k p) (hq:PSz k q) (hr:PSz k r) (hk:1≤k) (h0:Reg (mchart0 p q r)):MSz (dsz (csz k)) (mcha p q r):=(mchart0_sz hp hq hr hk).nrm h0
theorem minv_sz {k:Nat} {m:MQ} (h:MSz k m) (h0:Reg (minv0 m)):MSz (dsz k) (minv m):=(minv0_sz h).nrm h0
theorem mcmp_sz {i j:Nat} {m n:MQ} (h:MSz i m) (k:MSz j n) (h0:Reg (mbeh m n)):MSz (dsz (bsz i j)) (mcmp m n):=(h.beh k).nrm h0
structure Six (p q r s u v:Pt):Prop where
 a:p≠q
 b:q≠r
 c:r≠p
 d:s≠u
 e:u≠v
 f:v≠s
theorem Six.r1 (h:Six p q r s u v):Reg (mchart0 p q r):=Reg.chart h.a h.b (Ne.symm h.c)
theorem Six.r2 (h:Six p q r s u v):Reg (mchart0 s u v):=Reg.chart h.d h.e (Ne.symm h.f)
theorem Six.r3 (h:Six p q r s u v) (t:Bool):Reg (mbeh (mid t) (mcha p q r)):=(Reg.id t).beh h.r1.mnorm
theorem Six.r4 (h:Six p q r s u v):Reg (minv0 (mcha s u v)):=minv_reg h.r2.mnorm
theorem Six.r5 (h:Six p q r s u v) (t:Bool):Reg (mbeh (minv (mcha s u v)) (mcmp (mid t) (mcha p q r))):=h.r4.mnorm.beh (h.r3 t).mnorm
end
end Go.Proofs.YtmfedaakeeiolaaGreat
end
section
namespace Go.Proofs.YtmfedaakeeiolaaGreat.Y
open Go Go.RowKit
set_option maxRecDepth 100000
def eqEvPt {p q:Pt} {r:Bool} (h:ptB p q=r):Ev Tryz.prog:=eqEvP p.i q.i p.x p.y q.x q.y r h
def pt0:SC:=.a (.b (.v (.bool false))::lsX g0C)
def sAtNo {m:Mp} {t:Bool} (h:OpenNo m t) (p:Pp):Spec Tryz.prog :=
 Spec.auto Tryz.call65 [.one (.a m.C),.one (.a (lsX p.w.C))] [] (.tup [pt0,.c (.b (.v (.int .i64 2)))]) []
  [(sOpenNo h).e,(sSpotW p rfl).e] [] 800 Tryz.func65 hmA (by kernel_rfl) (fun β=>by kernel_rfl)
def sAtNoP {q:MQ} (h:MayQ q) {p:Pp} (hp:p.B=false):Spec Tryz.prog :=
 Spec.auto Tryz.call65 [.one (.a (mCl q)),.one (.a (lsX p.w.C))] [] (.tup [pt0,.c (.b (.v (.int .i64 2)))]) []
  [(sOpenYes h).e,(sSpotW p hp).e] [] 800 Tryz.func65 hmA (by kernel_rfl) (fun β=>by kernel_rfl)
theorem MayQ.reg {q:MQ} (h:MayQ q):Reg q:=gz_false.1 h.2.1
def sBehR {m n:MQ} (h:MSz KE m) (k:MSz KE n) (h0:Reg (mbeh m n)):Spec Tryz.prog:=sBehind h k (b:=gzero (mbeh m n).c) rfl h0.b0
def sUndoR {m:MQ} (h:MSz KM m) (h0:Reg m):Spec Tryz.prog:=sUndo h (b:=gzero (minv0 m).c) rfl (minv_reg h0).b0
def sChaR {p q r:Pt} (hp:PSz KC p) (hq:PSz KC q) (hr:PSz KC r) (h0:Reg (mchart0 p q r)):Spec Tryz.prog:=sChart hp hq hr (b:=gzero (mchart0 p q r).c) rfl h0.b0
theorem nrm_b0 {m:MQ} (h:Nrm m):gzero (bif gzero m.c then m.d else m.c)=false:=by
 unfold Nrm at h
 rw [h]
 exact gz_false.2 gq_one_ne
noncomputable def sToldN {m:MQ} (h:MSz KM m) (h0:Nrm m):Spec Tryz.prog :=
 ⟨138,Tryz.call138,[mV 0 m],mM m,.tup [.a (lsX (maC m)),.c (.b (.v (.int .i64 (maK m))))],[],fun β w hh=>by
  have k:=(sToldM h (b:=gzero m.c) rfl (nrm_b0 h0)).ok β w hh
  rw [show (sToldM h (b:=gzero m.c) rfl (nrm_b0 h0)).res=.tup [.a (lsX (maC m)),.c (.b (.v (.int .i64 (maK m))))] from congrArg (fun m=>SV.tup [.a (lsX (maC m)),.c (.b (.v (.int .i64 (maK m))))]) h0.id] at k
  exact k,by kernel_rfl⟩
theorem send_sz {q:MQ} (h:MSz 1024 q) {p:Pt} (hp:PSz 1024 p) {b:Bool} (hb:gzero (msD q p)=b):PSz KB (msend q p b):=by
 cases b
 · exact (GSz.div (msN_sz h hp) (msD_sz h hp) hb).mono (by decide)
 · trivial
noncomputable def sAt {q:MQ} (h:MayQ q) {p:Pt} (hp:FitP p) {b:Bool} (hb:gzero (msD q p)=b):Spec Tryz.prog :=
 Spec.auto Tryz.call65 [.one (.a (mCl q)),.one (.a (lsX p.w.C))] [] (.tup [.a (lsX (paC (msend q p b))),.c (.b (.v (.int .i64 (paK (msend q p b)))))]) []
  [(sOpenYes h).e,(sSpotP p hp).e,(sSend ((fitM_sz h.1).mono (by decide)) (hp.sz.mono (by decide)) hb).e,(sToldP (msend q p b) (send_sz (fitM_sz h.1) hp.sz hb)).e] [] 800 Tryz.func65 hmA (by cases b<;>kernel_rfl) (fun β=>by cases b<;>kernel_rfl)
noncomputable def sInv {q:MQ} (h:MayQ q):Spec Tryz.prog :=
 Spec.auto Tryz.call38 [.one (.a (mCl q))] [] (.tup [.a (lsX (maC (minv q))),.c (.b (.v (.int .i64 (maK (minv q)))))]) []
  [(sOpenYes h).e,(sUndoR ((fitM_sz h.1).mono (by decide)) h.reg).e,(sToldN ((minv_sz (fitM_sz h.1) (minv_reg h.reg)).mono (by decide)) (Nrm.inv h.reg)).e] [] 800 Tryz.func38 hmA (by kernel_rfl) (fun β=>by kernel_rfl)
theorem num_some:(Tryz.prog.info? 168).isSome=true:=by kernel_rfl
noncomputable def appN:AppT Tryz.prog :=
 ⟨302,168,(Tryz.prog.info? 168).get num_some,.agg #[.pointer none,.pointer none],2,16,Tryz.underlying302,(Option.some_get num_some).symm,by kernel_rfl,by kernel_rfl,by kernel_rfl,rfl,by decide,by decide⟩
structure Gp where
 a:Fr
 b:Fr
def Gp.B (g:Gp):Bool:=g.a.a.B&&g.b.a.B
abbrev tB' (t:Bool):SV:=.one (.c (.b (.v (.bool t))))
abbrev nI' (k:Int):SC:=.c (.b (.v (.int .i64 k)))
abbrev gS (z:GQ):SV:=.one (.a (lsX (gC z)))
noncomputable def mkOkE {m:MQ} (h:FitM m):List (Ev Tryz.prog):=[ofE h.1,.app appN,ofE h.2.1,.app appN,ofE h.2.2.1,.app appN,ofE h.2.2.2,.app appN,(sDet ((fitM_sz h).mono (by decide))).e]
noncomputable def sToldR {m:MQ} (h:MSz KM m) (h0:Reg m):Spec Tryz.prog:=sToldM h (b:=gzero m.c) rfl h0.b0
noncomputable def sMake {m:MQ} (h:FitM m) (h0:gzero (mdet m)=false):Spec Tryz.prog :=
 Spec.auto Tryz.call131 [gS m.a,gS m.b,gS m.c,gS m.d,tB' m.t] [] (.tup [.a (lsX (maC (mnorm m))),nI' (maK (mnorm m))]) []
  (mkOkE h++[(sZero h0).e,(sToldR ((fitM_sz h).mono (by decide)) (gz_false.1 h0)).e]) [(10,15)] 1200 Tryz.func131 hmA (by kernel_rfl) (fun β=>by kernel_rfl)
end Go.Proofs.YtmfedaakeeiolaaGreat.Y
end
section
namespace Go.Proofs.YtmfedaakeeiolaaGreat
open Go.Proofs.YtmfedaakeeiolaaGreat.Y
open Go Go.RowKit
set_option maxRecDepth 100000
abbrev svI (n:Int):SC:=.c (.b (.v (.int .i64 n)))
theorem sz_lit1 {n:Int} (h:n.natAbs<256):Fit (Rat.divInt n 1):=(Sz.small h).fit (by decide)
theorem fit_int {n m:Int} (h:n.natAbs<256) (k:m.natAbs<256):FitG (gint n m):=⟨sz_lit1 h,sz_lit1 k⟩
def mV (a a' b b' c c' d d':R4) (t:Bool):Array Value:=#[.bool a.b,.string a.s,.bool a.c,.string a.t,.bool a'.b,.string a'.s,.bool a'.c,.string a'.t,.bool b.b,.string b.s,.bool b.c,.string b.t,.bool b'.b,.string b'.s,.bool b'.c,.string b'.t,
 .bool c.b,.string c.s,.bool c.c,.string c.t,.bool c'.b,.string c'.s,.bool c'.c,.string c'.t,.bool d.b,.string d.s,.bool d.c,.string d.t,.bool d'.b,.string d'.s,.bool d'.c,.string d'.t,.bool t]
def gV (a a':R4):Array Value:=#[.bool a.b,.string a.s,.bool a.c,.string a.t,.bool a'.b,.string a'.s,.bool a'.c,.string a'.t]
def geq (x y x' y':R4):Bool:=x.eq x'&&(y.eq y'&&true)
theorem eqM {w:World} (n:Nat) (a a' b b' c c' d d':R4) (t:Bool) (p p' q q' r r' s s':R4) (u:Bool):(Op.equalIn (n+5) 39 (.agg (mV a a' b b' c c' d d' t)) (.agg (mV p p' q q' r r' s s' u))).run Tryz.prog w=.ok (geq a a' p p'&&(geq b b' q q'&&(geq c c' r r'&&(geq d d' s s'&&((t==u)&&true))))) w:=by
 unfold mV
 rw [run_equalIn_agg _ _ _ _ _ (by kernel_rfl) (by kernel_rfl)]
 refine run_eqF_cons (a:=.agg (gV a a')) (b:=.agg (gV p p')) (by kernel_rfl) (by kernel_rfl) (by kernel_rfl) (eqG n _ _ _ _) ?_
 refine run_eqF_cons (a:=.agg (gV b b')) (b:=.agg (gV q q')) (by kernel_rfl) (by kernel_rfl) (by kernel_rfl) (eqG n _ _ _ _) ?_
 refine run_eqF_cons (a:=.agg (gV c c')) (b:=.agg (gV r r')) (by kernel_rfl) (by kernel_rfl) (by kernel_rfl) (eqG n _ _ _ _) ?_
 refine run_eqF_cons (a:=.agg (gV d d')) (b:=.agg (gV s s')) (by kernel_rfl) (by kernel_rfl) (by kernel_rfl) (eqG n _ _ _ _) ?_
 refine run_eqF_cons (a:=.bool t) (b:=.bool u) (by kernel_rfl) (by kernel_rfl) (by kernel_rfl) (run_equalIn_bool' _ _ _ _ _ (by kernel_rfl)) ?_
 kernel_rfl
theorem geq_self (x y:R4):geq x y x y=true:=by
 unfold geq
 rw [R4.eq_iff.2 rfl,R4.eq_iff.2 rfl]; rfl
abbrev pI (n m:Int):Pt:=.fin (gint n m)
theorem pI_fit {n m:Int} (h:n.natAbs<256) (k:m.natAbs<256):FitP (pI n m):=fit_int h k
theorem pI_ne {n m n' m':Int} (h:¬ (n=n'∧m=m')):pI n m≠pI n' m':=fun e=>h (by
 injection e with e
 injection e with e1 e2
 have k1:=congrArg Rat.num e1
 have k2:=congrArg Rat.num e2
 rw [(divInt_one n).1,(divInt_one n').1] at k1
 rw [(divInt_one m).1,(divInt_one m').1] at k2
 exact ⟨k1,k2⟩)
theorem fit_small {z:GQ} (h1:z.re.num.natAbs<256) (h2:z.re.den<256) (h3:z.im.num.natAbs<256) (h4:z.im.den<256):FitP (.fin z) :=
 ⟨Sz.fit (k:=1) ⟨sz_small h1,sz_small (n:=(z.re.den:Int)) (by simpa using h2)⟩ (by decide),Sz.fit (k:=1) ⟨sz_small h3,sz_small (n:=(z.im.den:Int)) (by simpa using h4)⟩ (by decide)⟩
theorem gq_lit {z w:GQ} (h1:decide (z.re=w.re)=true) (h2:decide (z.im=w.im)=true):z=w:=GQ.ext2 (of_decide_eq_true h1) (of_decide_eq_true h2)
theorem mq_ext {m n:MQ} (h1:m.a=n.a) (h2:m.b=n.b) (h3:m.c=n.c) (h4:m.d=n.d) (h5:m.t=n.t):m=n:=by cases m; cases n; cases h1; cases h2; cases h3; cases h4; cases h5; rfl
def sNum8 (k:Int):Y.Spec Tryz.prog:=Y.Spec.auto Tryz.call27 [.one (svI k)] [] (.one (svI k)) [] [] [] 400 Tryz.func27 hmA (by kernel_rfl) (fun β=>by kernel_rfl)
def sIn8 (n m:Int) (hn : -9223372036854775808≤n∧n≤9223372036854775807:=by decide) (hm : -9223372036854775808≤m∧m≤9223372036854775807:=by decide):Y.Spec Tryz.prog :=
 Y.Spec.auto Tryz.call36 [.one (svI n),.one (svI m)] [] (svG (gint n m)) [] [(sR4Int n m hn hm).e] [] 400 Tryz.func36 hmA (by kernel_rfl) (fun β=>by kernel_rfl)
def sAt8 (n m:Int) (hn : -9223372036854775808≤n∧n≤9223372036854775807:=by decide) (hm : -9223372036854775808≤m∧m≤9223372036854775807:=by decide):Y.Spec Tryz.prog :=
 Y.Spec.auto Tryz.call132 [.one (svI n),.one (svI m)] [] (svP (.fin (gint n m))) [] [(sIn8 n m hn hm).e] [] 400 Tryz.func132 hmA (by kernel_rfl) (fun β=>by kernel_rfl)
inductive T3 where
 | lo
 | mid
 | hi
def T3.at (s:ByteArray):T3→Prop
 | .lo=>decide ((120:Int)<(s.size:Int))=false
 | .mid=>decide ((120:Int)<(s.size:Int))=true∧decide ((s.size:Int)≤1024)=true
 | .hi=>decide ((120:Int)<(s.size:Int))=true∧decide ((s.size:Int)≤1024)=false
def T3.yes:T3→Bool
 | .mid=>true
 | _=>false
theorem T3.all (s:ByteArray):∃ k:T3,k.at s:=by
 cases h:decide ((120:Int)<(s.size:Int)) with
 | false=>exact ⟨.lo,h⟩
 | true=>cases h2:decide ((s.size:Int)≤1024) with
  | true=>exact ⟨.mid,h,h2⟩
  | false=>exact ⟨.hi,h,h2⟩
theorem bool_lit {a b:Bool} (h:a=b):Value.bool a=.bool b:=by rw [h]
def evT (d1 d2:Nat) (s:ByteArray):(k:T3)→k.at s→List (Ev Tryz.prog)
 | .lo,h=>[.eqv d1 (.bool (decide ((120:Int)<(s.size:Int)))) (.bool false) (bool_lit h)]
 | .mid,h=>[.eqv d1 (.bool (decide ((120:Int)<(s.size:Int)))) (.bool true) (bool_lit h.1),.eqv d2 (.bool (decide ((s.size:Int)≤1024))) (.bool true) (bool_lit h.2)]
 | .hi,h=>[.eqv d1 (.bool (decide ((120:Int)<(s.size:Int)))) (.bool true) (bool_lit h.1),.eqv d2 (.bool (decide ((s.size:Int)≤1024))) (.bool false) (bool_lit h.2)]
def evT2 (x:R4) (a b:T3) (ha:a.at x.s) (hb:b.at x.t):List (Ev Tryz.prog):=evT 32 38 x.s a ha++(bif a.yes then [] else evT 45 51 x.t b hb)
theorem long_ok (x y:R4) (a b c d:T3) (ha:a.at x.s) (hb:b.at x.t) (hc:c.at y.s) (hd:d.at y.t) (β:Env) (w:World) (hh:(Ob.box (x.L++y.L) 37).holds β w (β 0)) :
  Calls Tryz.prog 130 (([.one (.c (.b (.s 0 0 1 1)))]:List SV).map (SV.den β)).toArray w fun e w'=>e=.returned (.bool ((a.yes||b.yes)||(c.yes||d.yes)))∧Below w.heap.size w w':=by
 cases a
 · cases b
   · cases c
     · cases d<;>exact bspec_ok (evT2 x _ _ ha hb++evT2 y _ _ hc hd) [(4,13)] 1200 Tryz.func130 hmA (fun β=>by kernel_rfl) (by kernel_rfl) (fun β=>rfl) β w hh
     · exact bspec_ok (evT2 x _ _ ha hb++evT2 y _ _ hc hd) [(4,13)] 1200 Tryz.func130 hmA (fun β=>by kernel_rfl) (by kernel_rfl) (fun β=>rfl) β w hh
     · cases d<;>exact bspec_ok (evT2 x _ _ ha hb++evT2 y _ _ hc hd) [(4,13)] 1200 Tryz.func130 hmA (fun β=>by kernel_rfl) (by kernel_rfl) (fun β=>rfl) β w hh
   · exact bspec_ok (evT2 x _ _ ha hb) [(4,13)] 1200 Tryz.func130 hmA (fun β=>by kernel_rfl) (by kernel_rfl) (fun β=>rfl) β w hh
   · cases c
     · cases d<;>exact bspec_ok (evT2 x _ _ ha hb++evT2 y _ _ hc hd) [(4,13)] 1200 Tryz.func130 hmA (fun β=>by kernel_rfl) (by kernel_rfl) (fun β=>rfl) β w hh
     · exact bspec_ok (evT2 x _ _ ha hb++evT2 y _ _ hc hd) [(4,13)] 1200 Tryz.func130 hmA (fun β=>by kernel_rfl) (by kernel_rfl) (fun β=>rfl) β w hh
     · cases d<;>exact bspec_ok (evT2 x _ _ ha hb++evT2 y _ _ hc hd) [(4,13)] 1200 Tryz.func130 hmA (fun β=>by kernel_rfl) (by kernel_rfl) (fun β=>rfl) β w hh
 · exact bspec_ok (evT2 x _ _ ha hb) [(4,13)] 1200 Tryz.func130 hmA (fun β=>by kernel_rfl) (by kernel_rfl) (fun β=>rfl) β w hh
 · cases b
   · cases c
     · cases d<;>exact bspec_ok (evT2 x _ _ ha hb++evT2 y _ _ hc hd) [(4,13)] 1200 Tryz.func130 hmA (fun β=>by kernel_rfl) (by kernel_rfl) (fun β=>rfl) β w hh
     · exact bspec_ok (evT2 x _ _ ha hb++evT2 y _ _ hc hd) [(4,13)] 1200 Tryz.func130 hmA (fun β=>by kernel_rfl) (by kernel_rfl) (fun β=>rfl) β w hh
     · cases d<;>exact bspec_ok (evT2 x _ _ ha hb++evT2 y _ _ hc hd) [(4,13)] 1200 Tryz.func130 hmA (fun β=>by kernel_rfl) (by kernel_rfl) (fun β=>rfl) β w hh
   · exact bspec_ok (evT2 x _ _ ha hb) [(4,13)] 1200 Tryz.func130 hmA (fun β=>by kernel_rfl) (by kernel_rfl) (fun β=>rfl) β w hh
   · cases c
     · cases d<;>exact bspec_ok (evT2 x _ _ ha hb++evT2 y _ _ hc hd) [(4,13)] 1200 Tryz.func130 hmA (fun β=>by kernel_rfl) (by kernel_rfl) (fun β=>rfl) β w hh
     · exact bspec_ok (evT2 x _ _ ha hb++evT2 y _ _ hc hd) [(4,13)] 1200 Tryz.func130 hmA (fun β=>by kernel_rfl) (by kernel_rfl) (fun β=>rfl) β w hh
     · cases d<;>exact bspec_ok (evT2 x _ _ ha hb++evT2 y _ _ hc hd) [(4,13)] 1200 Tryz.func130 hmA (fun β=>by kernel_rfl) (by kernel_rfl) (fun β=>rfl) β w hh
structure Lg (x y:R4) (r:Bool):Prop where
 is:∃ a b c d:T3,a.at x.s∧b.at x.t∧c.at y.s∧d.at y.t∧((a.yes||b.yes)||(c.yes||d.yes))=r
theorem Lg.all (x y:R4):∃ r,Lg x y r:=by
 obtain ⟨a,ha⟩:=T3.all x.s
 obtain ⟨b,hb⟩:=T3.all x.t
 obtain ⟨c,hc⟩:=T3.all y.s
 obtain ⟨d,hd⟩:=T3.all y.t
 exact ⟨_,⟨a,b,c,d,ha,hb,hc,hd,rfl⟩⟩
def sLong (x y:R4) {r:Bool} (h:Lg x y r):BSpec Tryz.prog :=
 ⟨130,Tryz.call130,[.one (.c (.b (.s 0 0 1 1)))],x.L++y.L,37,.bool r,fun β w hh=>by
  obtain ⟨a,b,c,d,ha,hb,hc,hd,rfl⟩:=h.is
  exact long_ok x y a b c d ha hb hc hd β w hh,by kernel_rfl,fun _=>rfl⟩
end Go.Proofs.YtmfedaakeeiolaaGreat
end
section
namespace Go.Proofs.YtmfedaakeeiolaaGreat.Y
open Go Go.RowKit
set_option maxRecDepth 100000
def frX (x:Rat) (h:Fit x):Fr:=⟨fR x,.ok x h,rfl⟩
def gpX (z:GQ) (h:FitG z):Gp:=⟨frX z.re h.1,frX z.im h.2⟩
def sR8Det {m:MQ} (h:MSz KD m):Spec Tryz.prog :=
 Spec.auto Tryz.call61 [svM m] [] (svG (mdet m)) []
  [(sR4Times (GSz.le h.a) (GSz.le h.d)).e,(sR4Times (GSz.le h.b) (GSz.le h.c)).e,(sR4Minus (h.a.mul h.d).le (h.b.mul h.c).le).e] [(1,11)] 400 Tryz.func61 hmA (by kernel_rfl) (fun β=>by kernel_rfl)
theorem rL_inj {x y:R4} (h:rL x=rL y):x=y:=by
 obtain ⟨b,s,c,t⟩:=x
 obtain ⟨b',s',c',t'⟩:=y
 simp only [rL,List.cons.injEq,Lf.b.injEq,Lf0.v.injEq,Value.bool.injEq,Value.string.injEq,and_true] at h
 obtain ⟨rfl,rfl,rfl,rfl⟩:=h
 rfl
inductive Gn where
 | ok (z:GQ) (h:FitG z)
 | no (g:Gp) (h:g.B=false)
def Gn.gp:Gn→Gp
 | .ok z h=>gpX z h
 | .no g _=>g
def Gn.x (g:Gn):R4:=g.gp.a.r
def Gn.y (g:Gn):R4:=g.gp.b.r
def Gn.B:Gn→Bool
 | .ok ..=>true
 | .no ..=>false
theorem Gn.gpB:∀ g:Gn,g.gp.B=g.B
 | .ok ..=>rfl
 | .no _ h=>h
def Gn.z:Gn→GQ
 | .ok z _=>z
 | .no ..=>g0
theorem fr_of (r:R4) (h:r.s.size≤maxLen∧r.t.size≤maxLen):∃ a:Fr,a.r=r:=by
 obtain ⟨a,ha⟩:=fp_of r h.1 h.2
 exact ⟨⟨r,a,by rw [← ha]; cases a<;>rfl⟩,rfl⟩
theorem gn_of (x y:R4) (hx:x.s.size≤maxLen∧x.t.size≤maxLen) (hy:y.s.size≤maxLen∧y.t.size≤maxLen):∃ g:Gn,g.x=x∧g.y=y:=by
 obtain ⟨a,rfl⟩:=fr_of x hx
 obtain ⟨b,rfl⟩:=fr_of y hy
 cases h:(Gp.mk a b).B with
 | false=>exact ⟨.no ⟨a,b⟩ h,rfl,rfl⟩
 | true =>
  have h':=Bool.and_eq_true_iff.1 h
  obtain ⟨ra,fa,ea⟩:=a
  obtain ⟨rb,fb,eb⟩:=b
  cases fa with
  | no=>cases h'.1
  | ok x hx2=>cases fb with
   | no=>cases h'.2
   | ok y hy2 =>
    refine ⟨.ok ⟨x,y⟩ ⟨hx2,hy2⟩,rL_inj ?_,rL_inj ?_⟩
    · exact ea
    · exact eb
end Go.Proofs.YtmfedaakeeiolaaGreat.Y
end
