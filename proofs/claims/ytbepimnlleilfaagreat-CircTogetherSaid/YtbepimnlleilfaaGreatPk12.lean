/- CiE, CiF, Join, CiG, MtA, MtH, SyC, CbL, CbW, LsA, LsR. -/
import Derived.Shelf.Strings.Builder1
import Derived.Shelf.Strings.Builder2
import Derived.Shelf.Strings.OnBuilder
import Derived.Deep.MidRow
import Derived.Deep.Upon
import Derived.Test.YtbepimnlleilfaaGreatPk11
set_option linter.unnecessarySimpa false
set_option linter.unusedVariables false
set_option linter.unusedSimpArgs false
section
namespace Go.Proofs.YtbepimnlleilfaaGreat.Y
open Go Go.RowKit
set_option maxRecDepth 100000
def sETwice {x:Rat} (hx:Sz KB x):Spec Tryz.prog :=
 Spec.auto Tryz.call316 [rV 0] [ratT x] (rV 1) [ratT (x+x)] [mkR,fAdd hx hx] [] 400 Tryz.func316 hmA (by kernel_rfl) (fun β=>by kernel_rfl)
abbrev KS3:Nat:=10000000
noncomputable def sSum3 {x y z:Rat} (hx:Sz KS3 x) (hy:Sz KS3 y) (hz:Sz KS3 z):OSpec Tryz.prog :=
 OSpec.auto Tryz.call315 [.one (.c (.b (.s 3 0 3 3)))] [(ratT x).ob,(ratT y).ob,(ratT z).ob,.box [.b (.z 0 0),.b (.z 1 0),.b (.z 2 0)] 153] (rV 4) [0+x+y+z]
  [sum0 (hx.mono (by decide)),sumN ((sz_zero.add hx).mono (by decide)) (hy.mono (by decide)),sumN (((sz_zero.add hx).add hy).mono (by decide)) (hz.mono (by decide))] [] 800 Tryz.func315 hmA (by kernel_rfl) (fun β=>by kernel_rfl)
def valQ (r:RQ) (z:GQ):Rat:=0+r.a*gnorm z+((gmul r.b z).re+(gmul r.b z).re)+r.c
noncomputable def sValue {r:RQ} {z:GQ} (h:RSz KC r) (hz:GSz KC z):Spec Tryz.prog :=
 Spec.auto Tryz.call205 [rgV 0,nV 4] (rgT r++gM z) (rV 6) [ratT (valQ r z)]
  [(sMul (h.b.mono (by decide)) (hz.mono (by decide))).e,(sParts (gmul r.b z)).e,(sNorm (hz.mono (by decide))).e,(sMulR (h.a.mono (by decide)) (hz.norm.mono (by decide))).e,(sETwice ((h.b.mul hz).1.mono (by decide))).e,
   (sSum3 ((h.a.mul hz.norm).mono (by decide)) (((h.b.mul hz).1.add (h.b.mul hz).1).mono (by decide)) (h.c.mono (by decide))).e] [(2,12)] 800 Tryz.func205 hmA (by kernel_rfl) (fun β=>by kernel_rfl)
def sidQ (r:RQ):Pt→Rat
 | .inf=>r.a
 | .fin z=>valQ r z
noncomputable def sESide {r:RQ} {p:Pt} (h:RSz KC r) (hp:FitP p):Spec Tryz.prog :=
 ⟨194,Tryz.call194,[rgV 0,pV 4 p],rgT r++pM p,.one (nI' (sidQ r p).num.sign),[],fun β w hh=>by
  cases p with
  | inf=>exact spec_auto (args:=[rgV 0,pV 4 .inf]) (obs:=rgT r++pM .inf) (evs:=[nSign (x:=r.a) rfl]) (Ns:=[]) (m:=400) Tryz.func194 hmA (fun β=>by kernel_rfl) (by kernel_rfl) β w hh
  | fin z=>exact spec_auto (args:=[rgV 0,pV 4 (.fin z)]) (obs:=rgT r++pM (.fin z)) (evs:=[(sValue h (fitG_sz hp |>.mono (by decide))).e,nSign (x:=valQ r z) rfl]) (Ns:=[]) (m:=400) Tryz.func194 hmA (fun β=>by kernel_rfl) (by kernel_rfl) β w hh,by cases p<;>kernel_rfl⟩
theorem cmp_self (x:Rat):cmpQ x x=0:=by
 have h:(!(cmpQ x x==0))=false∨(!(cmpQ x x==0))=true:=by cases (!(cmpQ x x==0))<;>simp
 unfold cmpQ
 simp
theorem gsub_self (z:GQ):gzero (gsub z z)=true:=by
 rw [gz_true]
 refine GQ.ext2 ?_ ?_<;>(simp only [gsub,g0]; grind)
noncomputable def sRSame {r:RQ} (h:RSz KC r):Spec Tryz.prog :=
 Spec.auto Tryz.call312 [rgV 0,rgV 4] (rgT r++rgT r) (tB' true) [] [nCmp (h.a.mono (by decide)) (h.a.mono (by decide)) (cmp_self r.a),(sSame (h.b.mono (by decide)) (h.b.mono (by decide)) (gsub_self r.b)).e,nCmp (h.c.mono (by decide)) (h.c.mono (by decide)) (cmp_self r.c)] [] 400 Tryz.func312 hmA (by kernel_rfl) (fun β=>by kernel_rfl)
structure MayC (r:RQ):Prop where
 fit:FitC r
 pow:decide ((rpow r).num.sign≤0)=false
 one:rone r=r
theorem MayC.sz {r:RQ} (h:MayC r):RSz KC r:=mk_sz h.fit.1 h.fit.2.1 h.fit.2.2
def Spec.newsTo {P:Program} (S:Spec P) (l:List Thing) (h:S.news=l):Spec P :=
 ⟨S.f,S.en,S.args,S.obs,S.res,l,fun β w hh=>by rw [← h]; exact S.ok β w hh,by rw [← h]; exact S.closed⟩
noncomputable def sRNorm1 {r:RQ} (h:MayC r):Spec Tryz.prog :=
 (sRNormal h.sz rfl rfl (rby_ne h.pow)).newsTo (rgT r) (by show rgT (rone r)=rgT r; rw [h.one])
noncomputable def sWheel {r:RQ} (h:MayC r):Spec Tryz.prog :=
 Spec.auto Tryz.call199 [.one (.a (cC r))] [] (.tup [.a [.b (.z 0 0),.b (.z 1 0),.b (.z 2 0),.b (.z 3 0)],.c (.b (.v (.bool true)))]) (rgT r)
  [(ofG h.fit.2.1).e,(sRatIn h.fit.1).e,(sRatIn h.fit.2.2).e,dEq r.a,dEq r.c,(sPower h.sz).e,nSign (x:=rpow r) rfl,.eqv 37 (.bool (decide ((rpow r).num.sign≤0))) (.bool false) (sgn_le h.pow),(sRNorm1 h).e,(sRSame h.sz).e] [(2,9),(5,5)] 1200 Tryz.func199 hmA (by kernel_rfl) (fun β=>by kernel_rfl)
noncomputable def sCCheck {r:RQ} (h:MayC r):Spec Tryz.prog :=
 Spec.auto Tryz.call68 [.one (.a (cC r))] [] (.one (nI' 0)) [] [(sWheel h).e] [] 400 Tryz.func68 hmA (by kernel_rfl) (fun β=>by kernel_rfl)
theorem sgn_lt {n:Int} {t:Bool} (h:decide (n<0)=t):Value.bool (decide (n<0))=.bool t:=by rw [h]
noncomputable def sdE {r:RQ} {p:Pt} (h:MayC r) (hp:FitP p):List (Ev Tryz.prog):=[(sWheel h).e,(sSpotP p hp).e,(sESide h.sz hp).e]
noncomputable def sCSideN {r:RQ} {p:Pt} (h:MayC r) (hp:FitP p) (hs:decide ((sidQ r p).num.sign<0)=true):Spec Tryz.prog :=
 Spec.auto Tryz.call69 [.one (.a (cC r)),svP p] [] (.tup [nI' (-1),nI' 0]) [] (sdE h hp++[.eqv 32 (.bool (decide ((sidQ r p).num.sign<0))) (.bool true) (sgn_lt hs)]) [] 400 Tryz.func69 hmA (by kernel_rfl) (fun β=>by kernel_rfl)
theorem den_three (β:Env) (n:Nat) (b:Bool) (p q:Pl):(SV.one (.a [.b (.v (.bool b)),.b (.z n 0),.b (.z (n+1) 0)])).den (extE β n [p,q])=.agg #[.bool b,.pointer (p.v 0),.pointer (q.v 0)]:=by
 have h1:=extE_in (β:=β) (n:=n) (i:=0) (xs:=[p,q]) rfl
 have h2:=extE_in (β:=β) (n:=n) (i:=1) (xs:=[p,q]) rfl
 rw [Nat.add_zero] at h1
 simp [SV.den,SC.den,Lf.den,Lf0.den,h1,h2]
def rdPlace (d t:Nat) (e:TypeId) (cs:List Cd) (o:Nat) (b:Bool) (x y:Rat) (hb:cs[o]?=some (.v (.bool b))) (hx:cs[o+1]?=some (.r x)) (hy:cs[o+2]?=some (.r y)) (k n:Nat):Ev Tryz.prog :=
 .rd d (.load 198 (.tmp t)) (fun β=>[.pointer (some ⟨(β k).b,o,none⟩)]) [(k,(rowT e cs).ob)] n (.one (.a [.b (.v (.bool b)),.b (.z n 0),.b (.z (n+1) 0)])) [ratM x,ratM y] (fun β w h ρ op ho hx'=>by
  have h1:RW e cs w (β k):=h (k,(rowT e cs).ob) (by simp)
  have h2:ρ (.tmp t)=.pointer (some ⟨(β k).b,o,none⟩):=by simpa [Op.operands] using hx'
  have p1:=cdOk_at h1.2.1.1 hx
  have p2:=cdOk_at h1.2.1.1 hy
  rw [Nat.zero_add] at p1 p2
  refine ⟨[cellPl (β k) (o+1),cellPl (β k) (o+2)],w,fun g hg c hc=>.inr ⟨(k,(rowT e cs).ob),by simp,rfl,?_⟩,?_,⟨cellPl_or p1,cellPl_or p2,trivial⟩,Below.refl _ _⟩
  · rcases List.mem_cons.1 hg with rfl | hg
    · exact cellPl_F p1 hc
    · obtain rfl:=List.mem_singleton.1 hg
      exact cellPl_F p2 hc
  · have hr:w.rangeAt (β k).b o [.bool b,.pointer ((β k).v (o+1)),.pointer ((β k).v (o+2))]:=fun j v hv=>by
     match j,hv with
     | 0,hv=>simp only [List.getElem?_cons_zero] at hv; obtain rfl:=Option.some.inj hv; exact rw_cell h1 hb
     | 1,hv=>simp only [List.getElem?_cons_succ,List.getElem?_cons_zero] at hv; obtain rfl:=Option.some.inj hv; exact rw_cell h1 hx
     | 2,hv=>simp only [List.getElem?_cons_succ,List.getElem?_cons_zero] at hv; obtain rfl:=Option.some.inj hv; exact rw_cell h1 hy
     | j+3,hv=>simp at hv
    have hl:=run_loadAt_mid (P:=Tryz.prog) w (β k).b o 198 _ _ hr Tryz.underlying198 (by kernel_rfl) (by kernel_rfl)
    rw [den_three]
    unfold execOp
    rw [ho]
    simp only [h2]
    simp [hl,Result.andThen]
    exact ⟨rfl,rfl⟩)
def dPlace (e:TypeId) (cs:List Cd):Ev Tryz.prog:=.dyn (fun o xs ob=>match o.op with
 | .load T (.tmp _)=>Nat.beq T 198&&isAd (xs.getD 0 undefS)&&(match ob[(adOf (xs.getD 0 undefS)).1]? with | some (.th _)=>true | _=>false)
 | _=>false) fun o xs ob=>match o.op with
 | .load _ (.tmp t)=>lit (adOf (xs.getD 0 undefS)).1 fun k=>lit (adOf (xs.getD 0 undefS)).2 fun off=>lit ob.length fun n=>match hb:cs[off]?,hx:cs[off+1]?,hy:cs[off+2]? with
  | some (.v (.bool b)),some (.r x),some (.r y)=>rdPlace (o.dst.getD 0) t e cs off b x y hb hx hy k n
  | _,_,_=>.eqv 0 undef undef rfl
 | _=>.eqv 0 undef undef rfl
def rdIdxP (d t:Nat) (e:TypeId) (cs:List Cd) (ix:Operand) (n j:Nat) (hj:Nat.blt j n=true) (k:Nat):Ev Tryz.prog :=
 .rd d (.indexAddr 230 (.tmp t) ix) (fun β=>[.slice ((β k).v cs.length) n ((β k).c cs.length),.int .i64 (j:Int)]) [(k,(rowT e cs).ob)] 0 (.one (.c (.b (.p k (j*3))))) [] (fun β w h ρ op ho hx'=>by
  have h1:RW e cs w (β k):=h (k,(rowT e cs).ob) (by simp)
  have h2:ρ (.tmp t)=.slice (some ⟨(β k).b,0,none⟩) n ((β k).c cs.length)∧ρ ix=.int .i64 (j:Int):=by
   rw [h1.2.1.2] at hx'
   simpa [Op.operands] using hx'
  rw [Nat.blt_eq] at hj
  refine ⟨[],w,(fun _ h=>by cases h),?_,trivial,Below.refl _ _⟩
  rw [extE_nil]
  unfold execOp
  rw [ho]
  simp only [h2.1,h2.2]
  have hi:=run_indexAt_slice (P:=Tryz.prog) w 230 ⟨(β k).b,0,none⟩ n ((β k).c cs.length) .i64 (j:Int) (by kernel_rfl)
  have hsz:(sizeOf (Tryz.prog.elem 230)).run Tryz.prog w=.ok 3 w:=by kernel_rfl
  rw [if_pos ⟨by omega,by omega⟩,hsz,Result.andThen_ok,Int.toNat_natCast] at hi
  have ha:(⟨(β k).b,0,none⟩:Addr).add (j*3)=⟨(β k).b,j*3,none⟩:=by
   simp [Addr.add]
   exact fun h=>h.symm
  rw [ha] at hi
  simp only [Sem.run_bind,hi,Result.andThen_ok]
  rfl)
def dIdxP (e:TypeId) (cs:List Cd):Ev Tryz.prog:=.dyn (fun o xs ob=>match o.op with
 | .indexAddr _ (.tmp _) _=>isY (xs.getD 0 undefS)
 | _=>false) fun o xs ob=>match o.op with
 | .indexAddr _ (.tmp t) ix=>lit (yOf (xs.getD 0 undefS)).1 fun k=>lit (yOf (xs.getD 0 undefS)).2 fun n=>lit (intS (xs.getD 1 undefS)) fun j=>if h:Nat.blt j n=true then rdIdxP (o.dst.getD 0) t e cs ix n j h k else .eqv 0 undef undef rfl
 | _=>.eqv 0 undef undef rfl
theorem place_some:(Tryz.prog.info? 198).isSome=true:=by kernel_rfl
noncomputable def appP:AppT Tryz.prog :=
 ⟨230,198,(Tryz.prog.info? 198).get place_some,.agg #[.bool false,.pointer none,.pointer none],3,24,Tryz.underlying230,(Option.some_get place_some).symm,by kernel_rfl,by kernel_rfl,by kernel_rfl,rfl,by decide,by decide⟩
def plCd (p:Pt):List Cd:=[.v (.bool (pI p)),.r (pG p).re,.r (pG p).im]
abbrev pl3 (p q r:Pt):List Cd:=plCd p++plCd q++plCd r
abbrev sp3A:List SV:=[.one (.c (.b (.s 0 0 3 3)))]
def sp3L (p q r:Rw):List Lf:=lsX p.C++lsX q.C++lsX r.C
abbrev PLT:TypeId:=198
def sp3O (p q r:Pt):List (Nat × Ob) :=
 [(18,.row [.b (.v (.bool (pI p))),.b (.z 2 0),.b (.z 3 0),.b (.v (.bool (pI q))),.b (.z 8 0),.b (.z 9 0),.b (.v (.bool (pI r))),.b (.z 14 0),.b (.z 15 0)] PLT 3 3),
  (2,(ratM (pG p).re).ob),(3,(ratM (pG p).im).ob),(8,(ratM (pG q).re).ob),(9,(ratM (pG q).im).ob),(14,(ratM (pG r).re).ob),(15,(ratM (pG r).im).ob)]
noncomputable def sp3E {p q r:Pt} (hp:FitP p) (hq:FitP q) (hr:FitP r):List (Ev Tryz.prog):=[(sSpotP p hp).e,.app appP,(sSpotP q hq).e,.app appP,(sSpotP r hr).e,.app appP]
theorem sp3_eqs {p q r:Pt} (hp:FitP p) (hq:FitP q) (hr:FitP r) (β:Env) :
  (allS Tryz.prog Tryz.f188 sp3A [.box (sp3L p.w q.w r.w) 61] (sp3E hp hq hr) [] 800 (.tup [.c (.b (.r 18 3)),.c (.b (.v (.bool true)))]) (sp3O p q r) β).map Prod.fst =
  (allS Tryz.prog Tryz.f188 sp3A [.box (sp3L p.w q.w r.w) 61] (sp3E hp hq hr) [] 800 (.tup [.c (.b (.r 18 3)),.c (.b (.v (.bool true)))]) (sp3O p q r) β).map Prod.snd:=by kernel_rfl
theorem pt_no_rat {w:World} {b:Nat} {c0:Value} {b1:Bool} {l:List Value} {t:TypeId} {x:Rat} (h:w.heap[b]?=some (.cells (c0::.bool b1::l).toArray t (0,0))) (k:RatAt w b 0 x):False:=by
 obtain ⟨A,m,cap,_,h1,_⟩:=k.2.1.open_
 have h2:=cell_lay (o:=1) h rfl
 rw [Nat.zero_add,h2] at h1
 cases h1
theorem or_cd {w:World} {g G:Pl} {x:Rat} {i:Nat} (h:OR0 x w g) (hv:G.v i=g.v 0) (hF:∀ c,g.F c→G.F c):cdP w G i (.r x):=by
 rcases h with ⟨h1,_,h3⟩ | ⟨b,h1,h2⟩
 · exact .inl ⟨hv.trans h1,h3⟩
 · exact .inr ⟨b,hv.trans h1.1,hF b ((h1.2 b).2 rfl),h2⟩
theorem spots3_ok {p q r:Pt} (hp:FitP p) (hq:FitP q) (hr:FitP r) (β:Env) (w:World) (hh:(Ob.box (sp3L p.w q.w r.w) 61).holds β w (β 0)) :
  Calls Tryz.prog 188 (sp3A.map (SV.den β)).toArray w fun e u=>∃ xs:List Pl,(∀ x∈xs,∀ c,x.F c→w.heap.size≤c)∧e=.returned ((SV.tup [.c (.b (.y 1 9 3)),.c (.b (.v (.bool true)))]).den (extE β 1 xs))∧newHold u [rowT PLT (pl3 p q r)] xs∧Below w.heap.size w u:=by
 refine (sx (P:=Tryz.prog) sp3A [.box (sp3L p.w q.w r.w) 61] (sp3E hp hq hr) [] 800 (.tup [.c (.b (.r 18 3)),.c (.b (.v (.bool true)))]) (sp3O p q r) Tryz.func188 hmA (fun β=>ok_of_maps (sp3_eqs hp hq hr β)) (by kernel_rfl) (by kernel_rfl) β w (fun k o ho=>?_)).mono ?_
 · cases k with
   | zero=>simp only [List.getElem?_cons_zero] at ho; obtain rfl:=Option.some.inj ho; exact hh
   | succ k=>simp at ho
 · rintro e u ⟨β',q',obj,e1,rfl,e2,e4,e5,g⟩
   have hnew:∀ y∈sp3O p q r,∀ c,(β' y.1).F c→c≠(β 0).b→w.heap.size≤c:=fun y hy c hc hne=>by
    rcases e4 y hy c hc with h | ⟨i,hi,h⟩
    · exact h
    · obtain rfl:i=0:=by simp only [List.length_singleton] at hi; omega
      exact absurd ((hh.1.1 c).1 h) hne
   have hu:u.heap[(β 0).b]?=some (.cells ((sp3L p.w q.w r.w).map (Lf.den β)).toArray 61 (0,0)):=by rw [g.bel.block _ (heap_lt hh.2)]; exact hh.2
   have hrat:∀ (k:Nat) (x:Rat),(k,(ratM x).ob)∈sp3O p q r→OR0 x u (β' k)∧∀ c,(β' k).F c→w.heap.size≤c:=fun k x hk=>by
    have h:OR0 x u (β' k):=e5 _ hk
    refine ⟨h,fun c hc=>?_⟩
    rcases h with ⟨_,h2,_⟩ | ⟨b,hb,hx⟩
    · exact absurd hc (h2 c)
    · have ec:=(hb.2 c).1 hc
      subst ec
      refine hnew _ hk c hc fun e=>?_
      rw [e] at hx
      exact pt_no_rat hu hx
   obtain ⟨o2,n2⟩:=hrat 2 (pG p).re (by simp [sp3O])
   obtain ⟨o3,n3⟩:=hrat 3 (pG p).im (by simp [sp3O])
   obtain ⟨o8,n8⟩:=hrat 8 (pG q).re (by simp [sp3O])
   obtain ⟨o9,n9⟩:=hrat 9 (pG q).im (by simp [sp3O])
   obtain ⟨o14,n14⟩:=hrat 14 (pG r).re (by simp [sp3O])
   obtain ⟨o15,n15⟩:=hrat 15 (pG r).im (by simp [sp3O])
   obtain ⟨hone,cur,hcur,hcl,hn,hcm,hsz,htake⟩:=e5 (18,.row [.b (.v (.bool (pI p))),.b (.z 2 0),.b (.z 3 0),.b (.v (.bool (pI q))),.b (.z 8 0),.b (.z 9 0),.b (.v (.bool (pI r))),.b (.z 14 0),.b (.z 15 0)] PLT 3 3) (by simp [sp3O])
   have hb18:w.heap.size≤(β' 18).b:=hnew _ (by simp [sp3O]) _ ((hone.1 _).2 rfl) fun e=>by
    rw [e,hu] at hcur
    have:=(Obj.cells.inj (Option.some.inj hcur)).2.1
    exact absurd this (by decide)
   refine ⟨[⟨(β' 18).b,fun i=>match i with | 1=>(β' 2).v 0 | 2=>(β' 3).v 0 | 4=>(β' 8).v 0 | 5=>(β' 9).v 0 | 7=>(β' 14).v 0 | 8=>(β' 15).v 0 | 9=>some ⟨(β' 18).b,0,none⟩ | _=>none,fun _=>(β' 18).c 0,
    fun c=>c=(β' 18).b∨(β' 2).F c∨(β' 3).F c∨(β' 8).F c∨(β' 9).F c∨(β' 14).F c∨(β' 15).F c,fun _=>undef⟩],fun x hx c hc=>?_,rfl,⟨⟨⟨.inl rfl,cur,hcur,?_⟩,⟨⟨trivial,or_cd o2 rfl fun c hc=>.inr (.inl hc),or_cd o3 rfl fun c hc=>.inr (.inr (.inl hc)),trivial,or_cd o8 rfl fun c hc=>.inr (.inr (.inr (.inl hc))),or_cd o9 rfl fun c hc=>.inr (.inr (.inr (.inr (.inl hc)))),trivial,or_cd o14 rfl fun c hc=>.inr (.inr (.inr (.inr (.inr (.inl hc))))),or_cd o15 rfl fun c hc=>.inr (.inr (.inr (.inr (.inr (.inr hc))))),trivial⟩,rfl⟩,fun c hc=>?_⟩,trivial⟩,g.bel⟩
   · obtain rfl:=List.mem_singleton.1 hx
     rcases hc with rfl | hc | hc | hc | hc | hc | hc
     · exact hb18
     · exact n2 c hc
     · exact n3 c hc
     · exact n8 c hc
     · exact n9 c hc
     · exact n14 c hc
     · exact n15 c hc
   · have:(pl3 p q r).length=3*3:=rfl
     rw [this,htake]
     rfl
   · rcases hc with rfl | hc | hc | hc | hc | hc | hc
     · exact heap_lt hcur
     · exact (or_stable _).lt u _ o2 c hc
     · exact (or_stable _).lt u _ o3 c hc
     · exact (or_stable _).lt u _ o8 c hc
     · exact (or_stable _).lt u _ o9 c hc
     · exact (or_stable _).lt u _ o14 c hc
     · exact (or_stable _).lt u _ o15 c hc
noncomputable def sSpots3 {p q r:Pt} (hp:FitP p) (hq:FitP q) (hr:FitP r):CSpec Tryz.prog :=
 ⟨188,Tryz.call188,sp3A,sp3L p.w q.w r.w,61,.tup [.c (.b (.y 1 9 3)),.c (.b (.v (.bool true)))],[rowT PLT (pl3 p q r)],spots3_ok hp hq hr,by kernel_rfl⟩
section
variable {p q r:Pt} (hp:FitP p) (hq:FitP q) (hr:FitP r)
include hp hq hr in
theorem thr1_sz (h0:rby (thrQ p q r)≠0):RSz KC (rone (thrQ p q r)):=(rnm_sz (thr_sz hp hq hr) (rby_sz (thr_sz hp hq hr) _ _) h0).mono (by decide)
theorem thr1_ne (h0:rby (thrQ p q r)≠0):rby (rone (thrQ p q r))≠0:=by
 rw [rby_one h0]
 decide
noncomputable def sRTold2 (h0:rby (thrQ p q r)≠0):Spec Tryz.prog :=
 (sRTold (thr1_sz hp hq hr h0) rfl rfl (thr1_ne h0)).conv (ciA (rone (thrQ p q r))) (congrArg ciA (rone_rone h0))
abbrev idP (p q r:Pt):List (Ev Tryz.prog):=[dIdxP PLT (pl3 p q r),dPlace PLT (pl3 p q r)]
noncomputable def sCiThrough (h1:ptB p q=false) (h2:ptB q r=false) (h3:ptB p r=false) (h0:rby (thrQ p q r)≠0):Spec Tryz.prog :=
 Spec.auto Tryz.call183 [svP p,svP q,svP r] [] (ciA (rone (thrQ p q r))) [] ([(sSpots3 hp hq hr).e,eqEvPt h1,eqEvPt h2,eqEvPt h3]++idP p q r++idP p q r++idP p q r++[(sEThrough hp hq hr h0).e,(sRTold2 hp hq hr h0).e])
  [(6,13)] 1200 Tryz.func183 hmA (by kernel_rfl) (fun β=>by kernel_rfl)
end
end Go.Proofs.YtbepimnlleilfaaGreat.Y
end
section
namespace Go.Proofs.YtbepimnlleilfaaGreat
open Go Go.Shelf Go.RowKit
open Go.Proofs.YtbepimnlleilfaaGreat.Y
set_option maxRecDepth 100000
def joinRen:Go.Shelf.Ren:=⟨fun | 156=>304 | 165=>357 | 166=>358 | 169=>359 | 240=>384 | 241=>385 | 276=>394 | 277=>395 | n=>n,fun | 31=>342 | 9=>9 | 3=>3 | 4=>4 | 0=>0 | 20=>20 | 72=>388 | 76=>392 | 70=>386 | 37=>306 | 75=>391 | 127=>414 | 164=>421 | 5=>5 | 80=>373 | n=>n,fun | n=>n⟩
theorem joinLays:Go.Proofs.Lays.n156 Tryz.prog joinRen:={
 mixed:=by kernel_rfl
 f156:=Tryz.func304.trans (congrArg some (by kernel_rfl))
 f165:=Tryz.func357.trans (congrArg some (by kernel_rfl))
 f166:=Tryz.func358.trans (congrArg some (by kernel_rfl))
 f169:=Tryz.func359.trans (congrArg some (by kernel_rfl))
 f240:=Tryz.func384.trans (congrArg some (by kernel_rfl))
 f241:=Tryz.func385.trans (congrArg some (by kernel_rfl))
 f276:=Tryz.func394.trans (congrArg some (by kernel_rfl))
 f277:=Tryz.func395.trans (congrArg some (by kernel_rfl))
 t0:=Tryz.underlying0
 a0:=Tryz.isAgg0
 z0:=Tryz.sizeOf0
 v0:=Tryz.zeroValue0
 t3:=Tryz.underlying3
 a3:=Tryz.isAgg3
 z3:=Tryz.sizeOf3
 v3:=Tryz.zeroValue3
 t4:=Tryz.underlying4
 a4:=Tryz.isAgg4
 z4:=Tryz.sizeOf4
 v4:=Tryz.zeroValue4
 t9:=Tryz.underlying9
 a9:=Tryz.isAgg9
 z9:=Tryz.sizeOf9
 v9:=Tryz.zeroValue9
 t20:=Tryz.underlying20
 a20:=Tryz.isAgg20
 z20:=Tryz.sizeOf20
 v20:=Tryz.zeroValue20
 t31:=Tryz.underlying342
 a31:=Tryz.isAgg342
 z31:=Tryz.sizeOf342
 v31:=Tryz.zeroValue342
 t37:=Tryz.underlying306
 a37:=Tryz.isAgg306
 z37:=Tryz.sizeOf306
 v37:=Tryz.zeroValue306
 t70:=Tryz.underlying386
 a70:=Tryz.isAgg386
 z70:=Tryz.sizeOf386
 v70:=Tryz.zeroValue386
 t72:=Tryz.underlying388
 a72:=Tryz.isAgg388
 z72:=Tryz.sizeOf388
 v72:=Tryz.zeroValue388
 t75:=Tryz.underlying391
 a75:=Tryz.isAgg391
 z75:=Tryz.sizeOf391
 v75:=Tryz.zeroValue391
 t76:=Tryz.underlying392
 a76:=Tryz.isAgg392
 z76:=Tryz.sizeOf392
 v76:=Tryz.zeroValue392
 t127:=Tryz.underlying414
 a127:=Tryz.isAgg414
 z127:=Tryz.sizeOf414
 v127:=Tryz.zeroValue414
 t164:=Tryz.underlying421
 a164:=Tryz.isAgg421
 z164:=Tryz.sizeOf421
 v164:=Tryz.zeroValue421 }
theorem joinExtra:Builder.Extra Tryz.prog joinRen:={
 sizeBuilder:=by kernel_rfl
 liesBuilder:=by kernel_rfl
 t5:=Tryz.underlying5
 a5:=Tryz.isAgg5
 z5:=Tryz.sizeOf5
 v5:=Tryz.zeroValue5
 infoByte:=by kernel_rfl
 cellsByte:=by kernel_rfl
 sizeByte:=by kernel_rfl
 neB5:=by decide }
theorem join_ok (bk o c:Nat) (xs:List ByteArray) (sep:ByteArray) (w:World) (hcells:∀ (j:Nat) x,xs[j]?=some x→w.cell? ⟨bk,o+j,none⟩=some (.string x)) (hbk:bk<w.heap.size) (hN:xs.length≤140737488355328) (hcap:xs.length≤c) (hlen:(Lib.join (xs.map (·.data.toList)) sep.data.toList).length≤140737488355328) :
  Calls Tryz.prog 304 #[.slice (some ⟨bk,o,none⟩) xs.length c,.string sep] w fun e w'=>e=.returned (.string ⟨(Lib.join (xs.map (·.data.toList)) sep.data.toList).toArray⟩)∧Below w.heap.size w w':=Any.strings_Join joinLays joinExtra bk o c xs sep w hcells hbk hN hcap hlen
theorem join3_ok (a b c sep r:ByteArray) (hr:(⟨(Lib.join [a.data.toList,b.data.toList,c.data.toList] sep.data.toList).toArray⟩:ByteArray)=r) (hl:(Lib.join [a.data.toList,b.data.toList,c.data.toList] sep.data.toList).length≤140737488355328) (β:Env) (w:World) (hh:(Ob.box [.b (.v (.string a)),.b (.v (.string b)),.b (.v (.string c))] 9).holds β w (β 0)) :
  Calls Tryz.prog 304 (([.one (.c (.b (.s 0 0 3 3))),.one (.c (.b (.v (.string sep))))]:List SV).map (SV.den β)).toArray w fun e w'=>e=.returned (.string r)∧Below w.heap.size w w':=by
 rw [← hr]
 refine join_ok (β 0).b 0 3 [a,b,c] sep w (fun j x hx=>?_) (heap_lt hh.2) (show 3≤140737488355328 by decide) (Nat.le_refl _) hl
 refine cell_lay hh.2 ?_
 rw [Nat.zero_add]
 match j,hx with
 | 0,hx=>simp only [List.getElem?_cons_zero] at hx; obtain rfl:=Option.some.inj hx; rfl
 | 1,hx=>simp only [List.getElem?_cons_succ,List.getElem?_cons_zero] at hx; obtain rfl:=Option.some.inj hx; rfl
 | 2,hx=>simp only [List.getElem?_cons_succ,List.getElem?_cons_zero] at hx; obtain rfl:=Option.some.inj hx; rfl
 | j+3,hx=>simp at hx
def sJoin3 (a b c sep r:ByteArray) (hr:(⟨(Lib.join [a.data.toList,b.data.toList,c.data.toList] sep.data.toList).toArray⟩:ByteArray)=r) (hl:(Lib.join [a.data.toList,b.data.toList,c.data.toList] sep.data.toList).length≤140737488355328):BSpec Tryz.prog :=
 ⟨304,Tryz.call304,[.one (.c (.b (.s 0 0 3 3))),.one (.c (.b (.v (.string sep))))],[.b (.v (.string a)),.b (.v (.string b)),.b (.v (.string c))],9,.string r,join3_ok a b c sep r hr hl,by kernel_rfl,fun _=>rfl⟩
end Go.Proofs.YtbepimnlleilfaaGreat
end
section
namespace Go.Proofs.YtbepimnlleilfaaGreat.Y
open Go Go.RowKit
set_option maxRecDepth 100000
abbrev pl2 (p0 p1:Pt):List Cd:=plCd p0++plCd p1
abbrev sp2A:List SV:=[.one (.c (.b (.s 0 0 2 2)))]
def sp2L (p0 p1:Rw):List Lf:=lsX p0.C++lsX p1.C
def sp2O (p0 p1:Pt):List (Nat × Ob):=[(12,.row [.b (.v (.bool (pI p0))),.b (.z 2 0),.b (.z 3 0),.b (.v (.bool (pI p1))),.b (.z 8 0),.b (.z 9 0)] PLT 2 3),(2,(ratM (pG p0).re).ob),(3,(ratM (pG p0).im).ob),(8,(ratM (pG p1).re).ob),(9,(ratM (pG p1).im).ob)]
noncomputable def sp2E {p0 p1:Pt} (hp0:FitP p0) (hp1:FitP p1):List (Ev Tryz.prog):=[(sSpotP p0 hp0).e,.app appP,(sSpotP p1 hp1).e,.app appP]
theorem sp2_eqs {p0 p1:Pt} (hp0:FitP p0) (hp1:FitP p1) (β:Env):(allS Tryz.prog Tryz.f188 sp2A [.box (sp2L p0.w p1.w) 61] (sp2E hp0 hp1) [] 800 (.tup [.c (.b (.r 12 2)),.c (.b (.v (.bool true)))]) (sp2O p0 p1) β).map Prod.fst=(allS Tryz.prog Tryz.f188 sp2A [.box (sp2L p0.w p1.w) 61] (sp2E hp0 hp1) [] 800 (.tup [.c (.b (.r 12 2)),.c (.b (.v (.bool true)))]) (sp2O p0 p1) β).map Prod.snd:=by kernel_rfl
theorem spots2_ok {p0 p1:Pt} (hp0:FitP p0) (hp1:FitP p1) (β:Env) (w:World) (hh:(Ob.box (sp2L p0.w p1.w) 61).holds β w (β 0)) :
  Calls Tryz.prog 188 (sp2A.map (SV.den β)).toArray w fun e u=>∃ xs:List Pl,(∀ x∈xs,∀ c,x.F c→w.heap.size≤c)∧e=.returned ((SV.tup [.c (.b (.y 1 6 2)),.c (.b (.v (.bool true)))]).den (extE β 1 xs))∧newHold u [rowT PLT (pl2 p0 p1)] xs∧Below w.heap.size w u:=by
 refine (sx (P:=Tryz.prog) sp2A [.box (sp2L p0.w p1.w) 61] (sp2E hp0 hp1) [] 800 (.tup [.c (.b (.r 12 2)),.c (.b (.v (.bool true)))]) (sp2O p0 p1) Tryz.func188 hmA (fun β=>ok_of_maps (sp2_eqs hp0 hp1 β)) (by kernel_rfl) (by kernel_rfl) β w (fun k o ho=>?_)).mono ?_
 · cases k with
   | zero=>simp only [List.getElem?_cons_zero] at ho; obtain rfl:=Option.some.inj ho; exact hh
   | succ k=>simp at ho
 · rintro e u ⟨β',q',obj,e1,rfl,e2,e4,e5,g⟩
   have hnew:∀ y∈sp2O p0 p1,∀ c,(β' y.1).F c→c≠(β 0).b→w.heap.size≤c:=fun y hy c hc hne=>by
    rcases e4 y hy c hc with h | ⟨i,hi,h⟩
    · exact h
    · obtain rfl:i=0:=by simp only [List.length_singleton] at hi; omega
      exact absurd ((hh.1.1 c).1 h) hne
   have hu:u.heap[(β 0).b]?=some (.cells ((sp2L p0.w p1.w).map (Lf.den β)).toArray 61 (0,0)):=by rw [g.bel.block _ (heap_lt hh.2)]; exact hh.2
   have hrat:∀ (k:Nat) (x:Rat),(k,(ratM x).ob)∈sp2O p0 p1→OR0 x u (β' k)∧∀ c,(β' k).F c→w.heap.size≤c:=fun k x hk=>by
    have h:OR0 x u (β' k):=e5 _ hk
    refine ⟨h,fun c hc=>?_⟩
    rcases h with ⟨_,h2,_⟩ | ⟨b,hb,hx⟩
    · exact absurd hc (h2 c)
    · have ec:=(hb.2 c).1 hc
      subst ec
      refine hnew _ hk c hc fun e=>?_
      rw [e] at hx
      exact pt_no_rat hu hx
   obtain ⟨o2,n2⟩:=hrat 2 (pG p0).re (by simp [sp2O])
   obtain ⟨o3,n3⟩:=hrat 3 (pG p0).im (by simp [sp2O])
   obtain ⟨o8,n8⟩:=hrat 8 (pG p1).re (by simp [sp2O])
   obtain ⟨o9,n9⟩:=hrat 9 (pG p1).im (by simp [sp2O])
   obtain ⟨hone,cur,hcur,hcl,hn,hcm,hsz,htake⟩:=e5 (12,.row [.b (.v (.bool (pI p0))),.b (.z 2 0),.b (.z 3 0),.b (.v (.bool (pI p1))),.b (.z 8 0),.b (.z 9 0)] PLT 2 3) (by simp [sp2O])
   have hbR:w.heap.size≤(β' 12).b:=hnew _ (by simp [sp2O]) _ ((hone.1 _).2 rfl) fun e=>by
    rw [e,hu] at hcur
    have:=(Obj.cells.inj (Option.some.inj hcur)).2.1
    exact absurd this (by decide)
   refine ⟨[⟨(β' 12).b,fun i=>match i with | 1=>(β' 2).v 0 | 2=>(β' 3).v 0 | 4=>(β' 8).v 0 | 5=>(β' 9).v 0 | 6=>some ⟨(β' 12).b,0,none⟩ | _=>none,fun _=>(β' 12).c 0,fun c=>c=(β' 12).b∨(β' 2).F c∨(β' 3).F c∨(β' 8).F c∨(β' 9).F c,fun _=>undef⟩],fun x hx c hc=>?_,rfl,⟨⟨⟨.inl rfl,cur,hcur,?_⟩,⟨⟨trivial,or_cd o2 rfl fun c hc=>.inr (.inl hc),or_cd o3 rfl fun c hc=>.inr (.inr (.inl hc)),trivial,or_cd o8 rfl fun c hc=>.inr (.inr (.inr (.inl hc))),or_cd o9 rfl fun c hc=>.inr (.inr (.inr (.inr (hc)))),trivial⟩,rfl⟩,fun c hc=>?_⟩,trivial⟩,g.bel⟩
   · obtain rfl:=List.mem_singleton.1 hx
     rcases hc with rfl | hc | hc | hc | hc
     · exact hbR
     · exact n2 c hc
     · exact n3 c hc
     · exact n8 c hc
     · exact n9 c hc
   · have:(pl2 p0 p1).length=2*3:=rfl
     rw [this,htake]
     rfl
   · rcases hc with rfl | hc | hc | hc | hc
     · exact heap_lt hcur
     · exact (or_stable _).lt u _ o2 c hc
     · exact (or_stable _).lt u _ o3 c hc
     · exact (or_stable _).lt u _ o8 c hc
     · exact (or_stable _).lt u _ o9 c hc
noncomputable def sSpots2 {p0 p1:Pt} (hp0:FitP p0) (hp1:FitP p1):CSpec Tryz.prog :=
 ⟨188,Tryz.call188,sp2A,sp2L p0.w p1.w,61,.tup [.c (.b (.y 1 6 2)),.c (.b (.v (.bool true)))],[rowT PLT (pl2 p0 p1)],spots2_ok hp0 hp1,by kernel_rfl⟩
theorem sgn_ne {n:Int} {t:Bool} (h:(!(n==0))=t):Value.bool (!(n==0))=.bool t:=by rw [h]
noncomputable def sOn1 {r:RQ} {p:Pt} (h:RSz KC r) (hp:FitP p) {t:Bool} (ht:(!((sidQ r p).num.sign==0))=t):OSpec Tryz.prog :=
 OSpec.auto Tryz.call206 [pV 0 p,.one (.c (.b (.p 6 0)))] [(ratM (pG p).re).ob,(ratM (pG p).im).ob,(ratT r.a).ob,(ratT r.b.re).ob,(ratT r.b.im).ob,(ratT r.c).ob,.box [.b (.z 2 0),.b (.z 3 0),.b (.z 4 0),.b (.z 5 0)] 235] (tB' t) []
  [(sESide h hp).e,.eqv 7 (.bool (!((sidQ r p).num.sign==0))) (.bool t) (sgn_ne ht)] [] 400 Tryz.func206 hmA (by cases p<;>kernel_rfl) (fun β=>by cases p<;>kernel_rfl)
section
variable {r:RQ} {p q:Pt} (h:RSz KC r) (hp:FitP p) (hq:FitP q) (h1:(!((sidQ r p).num.sign==0))=false) (h2:(!((sidQ r q).num.sign==0))=false)
abbrev onO (r:RQ) (l:List Cd):List Ob:=[(rowT PLT l).ob,(ratT r.a).ob,(ratT r.b.re).ob,(ratT r.b.im).ob,(ratT r.c).ob,.box [.b (.z 1 0),.b (.z 2 0),.b (.z 3 0),.b (.z 4 0)] 235]
abbrev onF:SV:=.one (.c (.f (.func 206) [] [.p 5 0]))
noncomputable def sIdx2:OSpec Tryz.prog :=
 OSpec.auto Tryz.call309 [.one (.c (.b (.y 0 6 2))),onF] (onO r (pl2 p q)) (.one (nI' (-1))) []
  [dIdxP PLT (pl2 p q),dPlace PLT (pl2 p q),(sOn1 h hp h1).e,dIdxP PLT (pl2 p q),dPlace PLT (pl2 p q),(sOn1 h hq h2).e] [] 800 Tryz.func309 hmA (by kernel_rfl) (fun β=>by kernel_rfl)
noncomputable def sHas2:OSpec Tryz.prog :=
 OSpec.auto Tryz.call192 [.one (.c (.b (.y 0 6 2))),onF] (onO r (pl2 p q)) (tB' false) [] [(sIdx2 h hp hq h1 h2).e] [] 400 Tryz.func192 hmA (by kernel_rfl) (fun β=>by kernel_rfl)
end
theorem on2_eqs {r:RQ} {p q:Pt} (h:MayC r) (hp:FitP p) (hq:FitP q) (h1:(!((sidQ r p).num.sign==0))=false) (h2:(!((sidQ r q).num.sign==0))=false) (β:Env) (w:World) (hh:(Ob.box (sp2L p.w q.w) 61).holds β w (β 0)) :
  Calls Tryz.prog 66 (([.one (.a (cC r)),.one (.c (.b (.s 0 0 2 2)))]:List SV).map (SV.den β)).toArray w fun e w'=>e=.returned (.tuple #[.bool true,.int .i64 0])∧Below w.heap.size w w' :=
 bspec_ok [(sWheel h).e,(sSpots2 hp hq).e,(sHas2 h.sz hp hq h1 h2).e] [] 800 Tryz.func66 hmA (fun β=>by kernel_rfl) (by kernel_rfl) (fun β=>rfl) β w hh
def sOn2 {r:RQ} {p q:Pt} (h:MayC r) (hp:FitP p) (hq:FitP q) (h1:(!((sidQ r p).num.sign==0))=false) (h2:(!((sidQ r q).num.sign==0))=false):BSpec Tryz.prog :=
 ⟨66,Tryz.call66,[.one (.a (cC r)),.one (.c (.b (.s 0 0 2 2)))],sp2L p.w q.w,61,.tuple #[.bool true,.int .i64 0],on2_eqs h hp hq h1 h2,by kernel_rfl,fun _=>rfl⟩
abbrev ptI (n m:Int):Pt:=.fin (gint n m)
theorem ptI_fit {n m:Int} (h:n.natAbs<256) (k:m.natAbs<256):FitP (ptI n m):=fit_int h k
theorem ptI_ne {n m n' m':Int} (h:¬ (n=n'∧m=m')):ptI n m≠ptI n' m':=pI_ne h
def uQ:RQ:=⟨Rat.divInt 1 1,gint 0 0,Rat.divInt (-1) 1⟩
theorem rq_lit {r s:RQ} (h1:decide (r.a=s.a)=true) (h2:decide (r.b.re=s.b.re)=true) (h3:decide (r.b.im=s.b.im)=true) (h4:decide (r.c=s.c)=true):r=s:=by
 obtain ⟨a,⟨b,b'⟩,c⟩:=r
 obtain ⟨d,⟨e,e'⟩,f⟩:=s
 obtain rfl:a=d:=of_decide_eq_true h1
 obtain rfl:b=e:=of_decide_eq_true h2
 obtain rfl:b'=e':=of_decide_eq_true h3
 obtain rfl:c=f:=of_decide_eq_true h4
 rfl
theorem u_may:MayC uQ:=⟨⟨sz_lit1 (by decide),fit_int (by decide) (by decide),sz_lit1 (by decide)⟩,by kernel_rfl,rq_lit (by kernel_rfl) (by kernel_rfl) (by kernel_rfl) (by kernel_rfl)⟩
abbrev u1:Pt:=ptI 1 0
abbrev u2:Pt:=ptI 0 1
abbrev u3:Pt:=ptI (-1) 0
theorem u1_fit:FitP u1:=ptI_fit (by decide) (by decide)
theorem u2_fit:FitP u2:=ptI_fit (by decide) (by decide)
theorem u3_fit:FitP u3:=ptI_fit (by decide) (by decide)
theorem u_thr:rone (thrQ u1 u2 u3)=uQ:=rq_lit (by kernel_rfl) (by kernel_rfl) (by kernel_rfl) (by kernel_rfl)
theorem n12:u1≠u2:=ptI_ne (by decide)
theorem n23:u2≠u3:=ptI_ne (by decide)
theorem n13:u1≠u3:=ptI_ne (by decide)
theorem ci_eq {r s:RQ} (e:r=s) (h:FitC s):ciA r=.tup [.a (cC s),nI' 0]:=by
 rw [e,ciA,(ci_fit h).1,(ci_fit h).2]
noncomputable def kThrough:Spec Tryz.prog:=(sCiThrough u1_fit u2_fit u3_fit (ptB_ne' n12) (ptB_ne' n23) (ptB_ne' n13) (thr_ne n12 n23 n13)).conv (.tup [.a (cC uQ),nI' 0]) (ci_eq u_thr u_may.fit)
noncomputable def kSide:Spec Tryz.prog:=sCSideN u_may (p:=ptI 0 0) (ptI_fit (by decide) (by decide)) (by kernel_rfl)
abbrev m1:Rat:=Rat.divInt 2 1
abbrev m3:Rat:=Rat.divInt (-2) 1
theorem m_one:rone ⟨m1,gint 0 0,m3⟩=uQ:=rq_lit (by kernel_rfl) (by kernel_rfl) (by kernel_rfl) (by kernel_rfl)
noncomputable def kMake:Spec Tryz.prog:=(sCMake (a:=m1) (b:=gint 0 0) (c:=m3) (sz_lit1 (by decide)) (fit_int (by decide) (by decide)) (sz_lit1 (by decide)) (by kernel_rfl)).conv (.tup [.a (cC uQ),nI' 0]) (ci_eq m_one u_may.fit)
abbrev tx0:ByteArray:=⟨#[48]⟩
abbrev tx1:ByteArray:=⟨#[49]⟩
abbrev txN:ByteArray:=⟨#[45,49]⟩
abbrev txU:ByteArray:=⟨#[49,32,48,32,45,49]⟩
noncomputable def kGText:Spec Tryz.prog :=
 Spec.auto Tryz.call303 [gS (gint 0 0)] [] (.tup [.c (.b (.v (.string tx0))),nI' 0]) [] [(sGM (gpX (gint 0 0) fit00) (r:=true) rfl).e,(sFText (u:=tx0) fit00.1 (by kernel_rfl)).e,(sFText (u:=tx0) fit00.2 (by kernel_rfl)).e] [] 400 Tryz.func303 hmA (by kernel_rfl) (fun β=>by kernel_rfl)
noncomputable def kText:Spec Tryz.prog :=
 Spec.auto Tryz.call186 [.one (.a (cC uQ))] [] (.tup [.c (.b (.v (.string txU))),nI' 0]) []
  [(sCCheck u_may).e,(sFText (u:=tx1) u_may.fit.1 (by kernel_rfl)).e,kGText.e,(sFText (u:=txN) u_may.fit.2.2 (by kernel_rfl)).e,(sJoin3 tx1 tx0 txN ⟨#[32]⟩ txU (by kernel_rfl) (by decide)).e] [] 400 Tryz.func186 hmA (by kernel_rfl) (fun β=>by kernel_rfl)
def sAt11 (n m:Int) (hn : -9223372036854775808≤n∧n≤9223372036854775807:=by decide) (hm : -9223372036854775808≤m∧m≤9223372036854775807:=by decide):Spec Tryz.prog :=
 Spec.auto Tryz.call184 [.one (svI n),.one (svI m)] [] (svP (ptI n m)) [] [(sR4Int n m hn hm).e] [] 400 Tryz.func184 hmA (by kernel_rfl) (fun β=>by kernel_rfl)
def sUnit:Spec Tryz.prog :=
 Spec.auto Tryz.call187 [] [] (.one (.a (cC uQ))) [] [(sR3Int 1 (by decide)).e,(sR4Int 0 0).e,(sR3Int (-1) (by decide)).e] [] 400 Tryz.func187 hmA (by kernel_rfl) (fun β=>by kernel_rfl)
noncomputable def kOn:BSpec Tryz.prog:=sOn2 u_may (p:=ptI 0 (-1)) (q:=ptI 1 0) (ptI_fit (by decide) (by decide)) (ptI_fit (by decide) (by decide)) (by kernel_rfl) (by kernel_rfl)
def eqU:Ev Tryz.prog:=eqC1 (fR uQ.a) (fR uQ.b.re) (fR uQ.b.im) (fR uQ.c)
noncomputable def sWorks11:Spec Tryz.prog :=
 Spec.auto Tryz.call54 [] [] (tB' true) []
  [(sAt11 1 0).e,(sAt11 0 1).e,(sAt11 (-1) 0).e,kThrough.e,(sAt11 0 0).e,kSide.e,(sR3Int 2 (by decide)).e,(sR4Int 0 0).e,(sR3Int (-2) (by decide)).e,kMake.e,kText.e,(sAt11 0 (-1)).e,(sAt11 1 0).e,kOn.e,
   (sNum11 0).e,sUnit.e,eqU,(sNum11 0).e,(sNum11 0).e,eqU,(sNum11 0).e,(sNum11 0).e] [(2,8),(5,10),(6,45)] 3000 Tryz.func54 hmA (by kernel_rfl) (fun β=>by kernel_rfl)
def any4:List Thing:=[anyT,anyT,anyT,anyT]
abbrev rgC (k:Nat):SC:=.a [.b (.z k 0),.b (.z (k+1) 0),.b (.z (k+2) 0),.b (.z (k+3) 0)]
def WheelNo (l:List Lf):Prop:=∀ (β:Env) (w:World),Calls Tryz.prog 199 (([.one (.a l)]:List SV).map (SV.den β)).toArray w fun e w'=>∃ xs:List Pl,freshS β w 0 xs∧e=.returned ((SV.tup [rgC 0,.c (.b (.v (.bool false)))]).den (extE β 0 xs))∧newHold w' any4 xs∧Below w.heap.size w w'
structure CkNo (l:List Lf):Prop where
 cl:l.all (Lf.of fun _=>false)=true
 prog:∀ (β:Env) (w:World),Calls Tryz.prog 68 (([.one (.a l)]:List SV).map (SV.den β)).toArray w fun e w'=>e=.returned (.int .i64 2)∧Below w.heap.size w w'
 ref:∀ (β:Env) (w:World),Calls Tryz.prog 67 (([.one (.a l)]:List SV).map (SV.den β)).toArray w fun e w'=>e=.returned (.int .i64 2)∧Below w.heap.size w w'
inductive Cp where
 | ok (r:RQ) (h:MayC r)
 | no (a b b' c:R4) (h:CkNo (rL a++(rL b++rL b')++rL c))
def Cp.B:Cp→Bool
 | .ok ..=>true
 | .no ..=>false
def Cp.a:Cp→R4
 | .ok r _=>fR r.a
 | .no a _ _ _ _=>a
def Cp.b:Cp→R4
 | .ok r _=>fR r.b.re
 | .no _ b _ _ _=>b
def Cp.b':Cp→R4
 | .ok r _=>fR r.b.im
 | .no _ _ b _ _=>b
def Cp.c:Cp→R4
 | .ok r _=>fR r.c
 | .no _ _ _ c _=>c
abbrev PTT:TypeId:=61
end Go.Proofs.YtbepimnlleilfaaGreat.Y
end
section
namespace Go.Proofs.YtbepimnlleilfaaGreat.Y
open Go Go.RowKit
inductive Stop (P:Program) where
 | ended (f:Cf P)
 | head (c:Code) (ks:List Kf) (f:Cf P)
def Stop.cf {P:Program}:Stop P→Cf P
 | .ended f=>f
 | .head _ _ f=>f
def runP (P:Program) (m0 n:Nat) (Ns:List (Nat × Nat)):Nat→Option Code→List Kf→Cf P→Option (Stop P)
 | 0,_,_,_=>none
 | m+1,oc,ks,f=>match oc with
  | none=>match ks with
   | []=>some (.ended f)
   | .sq c::r=>runP P m0 n Ns m (some c) r f
   | .bl _::r=>runP P m0 n Ns m none r f
   | .lp c::r=>match f.ev with
    | .cut::ev'=>some (.head c r { f with ev:=ev' })
    | _=>runP P m0 n Ns m (some c) (.lp c::r) f
   | .sc::r=>runP P m0 n Ns m none r f
  | some c=>match c with
   | .skip=>runP P m0 n Ns m none ks f
   | .label _=>runP P m0 n Ns m none ks f
   | .region id ops d=>match (bif d then drawS1 P m0 n Ns id ops.toList f else seqS P m0 n ops ops.toList f) with
    | some f'=>runP P m0 n Ns m none ks f'
    | none=>none
   | .seq a b=>runP P m0 n Ns m (some a) (.sq b::ks) f
   | .cond x a b=>match evS idE f.sl x with
    | .bool true=>runP P m0 n Ns m (some a) ks { f with cs:=(fun β=>[(.v (evS β f.sl x),.v (.bool true))])::f.cs }
    | .bool false=>runP P m0 n Ns m (some b) ks { f with cs:=(fun β=>[(.v (evS β f.sl x),.v (.bool false))])::f.cs }
    | _=>none
   | .block id c=>runP P m0 n Ns m (some c) (.bl id::ks) f
   | .loop c=>match f.ev with
    | .cut::ev'=>some (.head c ks { f with ev:=ev' })
    | _=>runP P m0 n Ns m (some c) (.lp c::ks) f
   | .scope c=>runP P m0 n Ns m (some c) (.sc::ks) f
   | .exit id=>match popTo id ks with
    | some r=>runP P m0 n Ns m none r f
    | none=>none
   | .ret=>some (.ended f)
   | _=>none
def Stop.after {P:Program} (Q:Exit→Act→World→Prop) (a:Act) (w:World):Stop P→Prop
 | .ended _=>Q .normal a w∧Q .ret a w
 | .head c ks _=>Rounds P c (post P Q ks) a w
theorem Sync.ev {P:Program} {m0 n:Nat} {B0:Bd} {w0:World} {c:Cf P} {β:Env} {a:Act} {w:World} (h:Sync P m0 n B0 w0 c β a w) (x:List (Ev P)):Sync P m0 n B0 w0 { c with ev:=x } β a w:=⟨h.good,h.q,h.sl,h.of,h.m0,h.defers,h.uq⟩
theorem runP_ok {P:Program} {m0 n:Nat} {Ns:List (Nat × Nat)} (hm:P.follows .mixedOrders=true):∀ (m:Nat) (oc:Option Code) (ks:List Kf) (f:Cf P) (s:Stop P),runP P m0 n Ns m oc ks f=some s→f.full→(∀ x∈f.cs,x∈s.cf.cs)∧s.cf.full ∧
  (s.cf.good→∀ {B0:Bd} {w0:World} {β:Env} {a:Act} {w:World},Sync P m0 n B0 w0 f β a w→∀ (Q:Exit→Act→World→Prop),(∀ β' a' w',(∀ k,k<B0.k→β' k=β k)→Sync P m0 n B0 w0 s.cf β' a' w'→s.after Q a' w')→toShow P Q oc ks a w):=by
 intro m
 induction m with
 | zero=>intro oc ks f f' h; simp only [runP] at h; cases h
 | succ m ih =>
  intro oc ks f f' h hf
  simp only [runP] at h
  cases oc with
  | none =>
   dsimp only at h
   cases ks with
   | nil =>
    obtain rfl:=Option.some.inj h
    exact ⟨fun _ hx=>hx,hf,fun _ B0 w0 β a w s Q hQ=>(hQ β a w (fun _ _=>rfl) s).1⟩
   | cons x r =>
    cases x with
    | sq c=>obtain ⟨i1,i2,i3⟩:=ih _ _ _ _ h hf; exact ⟨i1,i2,fun hg B0 w0 β a w s Q hQ=>i3 hg s Q hQ⟩
    | bl j =>
     obtain ⟨i1,i2,i3⟩:=ih _ _ _ _ h hf
     exact ⟨i1,i2,fun hg B0 w0 β a w s Q hQ=>i3 hg s Q hQ⟩
    | lp c =>
     dsimp only at h
     split at h
     · obtain rfl:=Option.some.inj h
       exact ⟨fun _ hx=>hx,hf,fun _ B0 w0 β a w s Q hQ=>hQ β a w (fun _ _=>rfl) (s.ev _)⟩
     · obtain ⟨i1,i2,i3⟩:=ih _ _ _ _ h hf
       exact ⟨i1,i2,fun hg B0 w0 β a w s Q hQ=>rounds_one (i3 hg s Q hQ)⟩
    | sc=>obtain ⟨i1,i2,i3⟩:=ih _ _ _ _ h hf; exact ⟨i1,i2,fun hg B0 w0 β a w s Q hQ=>i3 hg s Q hQ⟩
  | some c =>
   cases c with
   | skip=>obtain ⟨i1,i2,i3⟩:=ih _ _ _ _ h hf; exact ⟨i1,i2,fun hg B0 w0 β a w s Q hQ=>wp_skip (i3 hg s Q hQ)⟩
   | label l=>obtain ⟨i1,i2,i3⟩:=ih _ _ _ _ h hf; exact ⟨i1,i2,fun hg B0 w0 β a w s Q hQ=>wp_label (i3 hg s Q hQ)⟩
   | region rid ops d =>
    dsimp only at h
    split at h
    · rename_i f1 h1
      cases d with
      | true =>
       simp only [cond_true] at h1
       have hf1:=drawS1_full h1 hf
       obtain ⟨i1,i2,i3⟩:=ih _ _ _ _ h hf1
       obtain ⟨j1,j2⟩:=drawS1_ok hm h1 (fun k hk=>(hf.1 k).1 hk) hf.2
       refine ⟨fun x hx=>i1 x (j1 x hx),i2,fun hg B0 w0 β a w s Q hQ=>?_⟩
       have:=j2 (fun β x hx=>hg β x (i1 x hx)) s (post P Q ks) fun β' a' w' e s'=>i3 hg s' Q fun β2 a2 w2 e2 s2=>hQ β2 a2 w2 (fun k hk=>(e2 k hk).trans (e k hk)) s2
       unfold RegAny at this
       simp only [Array.toArray_toList] at this
       exact wp_region_any hm this
      | false =>
       simp only [cond_false] at h1
       have hf1:=seqS_full h1 hf
       obtain ⟨i1,i2,i3⟩:=ih _ _ _ _ h hf1
       obtain ⟨j1,j2⟩:=seqS_ok h1
       exact ⟨fun x hx=>i1 x (j1 x hx),i2,fun hg B0 w0 β a w s Q hQ=>wp_region_list (j2 (fun β x hx=>hg β x (i1 x hx)) s (post P Q ks) fun β' a' w' e s'=>i3 hg s' Q fun β2 a2 w2 e2 s2=>hQ β2 a2 w2 (fun k hk=>(e2 k hk).trans (e k hk)) s2)⟩
    · cases h
   | seq c d=>obtain ⟨i1,i2,i3⟩:=ih _ _ _ _ h hf; exact ⟨i1,i2,fun hg B0 w0 β a w s Q hQ=>wp_seq (i3 hg s Q hQ)⟩
   | cond x c d =>
    dsimp only at h
    split at h
    · obtain ⟨i1,i2,i3⟩:=ih _ _ _ _ h hf
      refine ⟨fun y hy=>i1 y (List.mem_cons_of_mem _ hy),i2,fun hg B0 w0 β a w s Q hQ=>?_⟩
      obtain ⟨e,_⟩:=Eqs.cons_ok (hg β _ (i1 _ (List.mem_cons_self ..)))
      injection e with e
      exact wp_cond_true (by rw [s.sl.eval]; exact e) (i3 hg (s.cs _) Q hQ)
    · obtain ⟨i1,i2,i3⟩:=ih _ _ _ _ h hf
      refine ⟨fun y hy=>i1 y (List.mem_cons_of_mem _ hy),i2,fun hg B0 w0 β a w s Q hQ=>?_⟩
      obtain ⟨e,_⟩:=Eqs.cons_ok (hg β _ (i1 _ (List.mem_cons_self ..)))
      injection e with e
      exact wp_cond_false (by rw [s.sl.eval]; exact e) (i3 hg (s.cs _) Q hQ)
    · cases h
   | block j c=>obtain ⟨i1,i2,i3⟩:=ih _ _ _ _ h hf; exact ⟨i1,i2,fun hg B0 w0 β a w s Q hQ=>wp_block (i3 hg s Q hQ)⟩
   | loop c =>
    dsimp only at h
    split at h
    · obtain rfl:=Option.some.inj h
      exact ⟨fun _ hx=>hx,hf,fun _ B0 w0 β a w s Q hQ=>rounds_loop (hQ β a w (fun _ _=>rfl) (s.ev _))⟩
    · obtain ⟨i1,i2,i3⟩:=ih _ _ _ _ h hf
      exact ⟨i1,i2,fun hg B0 w0 β a w s Q hQ=>rounds_loop (rounds_one (i3 hg s Q hQ))⟩
   | rangeFunc _ _ _ _=>cases h
   | exit j =>
    dsimp only at h
    split at h
    · rename_i r hr
      obtain ⟨i1,i2,i3⟩:=ih _ _ _ _ h hf
      exact ⟨i1,i2,fun hg B0 w0 β a w s Q hQ=>wp_exit (post_exit hr (i3 hg s Q hQ))⟩
    · cases h
   | scope c=>obtain ⟨i1,i2,i3⟩:=ih _ _ _ _ h hf; exact ⟨i1,i2,fun hg B0 w0 β a w s Q hQ=>wp_scope_straight (i3 hg s Q hQ)⟩
   | goto _=>cases h
   | ret =>
    obtain rfl:=Option.some.inj h
    exact ⟨fun _ hx=>hx,hf,fun _ B0 w0 β a w s Q hQ=>wp_ret (post_ret (hQ β a w (fun _ _=>rfl) s).2 ks)⟩
   | refuse _=>cases h
def loopsOf:Nat→Code→List Kf→List (Code × List Kf)
 | 0,_,_=>[]
 | m+1,c,ks=>match c with
  | .seq a b=>loopsOf m a (.sq b::ks)++loopsOf m b ks
  | .cond _ a b=>loopsOf m a ks++loopsOf m b ks
  | .block id c=>loopsOf m c (.bl id::ks)
  | .loop c=>(c,ks)::loopsOf m c (.lp c::ks)
  | .scope c=>loopsOf m c (.sc::ks)
  | _=>[]
def lpAt (fn:Func) (i:Nat):Code × List Kf:=match fn.body with
 | some c=>(loopsOf 200 c []).getD i (.skip,[])
 | none=>(.skip,[])
def Stop.pos {P:Program}:Stop P→Option (Code × List Kf)
 | .ended _=>none
 | .head c ks _=>some (c,ks)
def mkC (P:Program) (n u:Nat) (sl:List (Nat × SV)) (ob:List Ob) (ev:List (Ev P)):Cf P :=
 ⟨sl++(List.range n).map fun t=>(t,.one (.c (.b (.gh u t)))),fun k=>Nat.blt k ob.length,ob,ev,[]⟩
def tEq1 (β:Env) (σ:List Nat):Env:=fun j=>β (σ.getD j 0)
def opaqB (u t:Nat):SV→Bool
 | .one (.c (.b (.gh k i)))=>Nat.beq k u&&Nat.beq i t
 | _=>false
def layB:Ob→Bool
 | .box _ _=>true
 | .row _ _ _ _=>true
 | .ow _ _=>true
 | _=>false
def deadB:Ob→Bool
 | .dead=>true
 | _=>false
def kindB:Ob→Ob→Bool
 | .th _,.th _=>true
 | .al _ _,.th _=>true
 | .box _ _,.box _ _=>true
 | .row _ _ _ _,.row _ _ _ _=>true
 | .ow _ _,.ow _ _=>true
 | .ow _ _,.th _=>true
 | _,.dead=>true
 | _,_=>false
def wkB (m0 u:Nat) (obS obT:List Ob) (σ:List Nat):Bool :=
 Nat.beq σ.length obT.length&&Nat.ble m0 u&&Nat.blt u obT.length&&(List.range m0).all (fun i=>Nat.beq (σ.getD i 0) i) &&
 (List.range obT.length).all fun j=>match obT[j]? with
  | none=>false
  | some x=>(bif Nat.beq j u then deadB x else match obS[σ.getD j 0]? with
    | none=>false
    | some y=>kindB y x&&x.of (fun k=>Nat.blt k obT.length&&!Nat.beq k u)) &&
   (bif layB x then (!Nat.ble m0 j||Nat.ble m0 (σ.getD j 0))&&(List.range obT.length).all (fun i=>Nat.beq i j||(Nat.beq i u||((match obT[i]? with | some y=>deadB y | none=>false)||!Nat.beq (σ.getD i 0) (σ.getD j 0)))) else true)
def wkOb (β:Env) (σ:List Nat):Ob→Ob→Eqs
 | .box cs t,.box cs' t'=>[(.n t,.n t'),(.v (.agg (cs.map (Lf.den β)).toArray),.v (.agg (cs'.map (Lf.den (tEq1 β σ))).toArray))]
 | .row cs t n sz,.row cs' t' n' sz'=>[(.n t,.n t'),(.n n,.n n'),(.n sz,.n sz'),(.v (.agg (cs.map (Lf.den β)).toArray),.v (.agg (cs'.map (Lf.den (tEq1 β σ))).toArray))]
 | .ow D t,.ow D' t'=>[(.ob (.ow D t),.ob (.ow D' t'))]
 | .ow D _,.th t'=>[(.ob (.th D),.ob (.th t'))]
 | y,.th t=>[(.ob (y.plain (.th t)),.ob (.th t))]
 | _,_=>[]
def wkObs (β:Env) (obS:List Ob) (σ:List Nat):List Ob→Nat→Eqs
 | [],_=>[]
 | x::r,j=>(match obS[σ.getD j 0]? with | some y=>wkOb β σ y x | none=>(match x with | .dead=>[] | _=>Eqs.no))++wkObs β obS σ r (j+1)
def wkSl (β:Env) (u L:Nat) (σ:List Nat) (slS slT:List (Nat × SV)):Nat→Eqs
 | 0=>[]
 | t+1=>(bif opaqB u t (look slT t) then [] else bif (look slT t).of (fun k=>Nat.blt k L&&!Nat.beq k u) then [(.v ((look slS t).den β),.v ((look slT t).den (tEq1 β σ)))] else Eqs.no)++wkSl β u L σ slS slT t
def pieceE (P:Program) (m0 n:Nat) (s:Option (Stop P)) (u:Nat) (sl:List (Nat × SV)) (ob:List Ob) (σ:List Nat) (β:Env):Eqs :=
 match s with
 | some (.head _ _ f)=>(bif wkB m0 u f.ob ob σ&&Nat.beq f.ev.length 0&&sl.all (fun p=>Nat.blt p.1 n) then [] else Eqs.no)++(wkObs β f.ob σ ob 0++(wkSl β u ob.length σ f.sl (mkC P n u sl ob []).sl n++eqsOf β f.cs))
 | _=>Eqs.no
def lastE (P:Program) (fn:Func) (m0 n:Nat) (res:SV) (outs:List (Nat × Ob)) (s:Option (Stop P)) (β:Env):Eqs :=
 match s with
 | some (.ended f)=>fin1 P fn m0 n res outs f β
 | _=>Eqs.no
theorem Eqs.left {a b:Eqs} (h:Eqs.ok (a++b)):Eqs.ok a:=fun p hp=>h p (List.mem_append.2 (.inl hp))
theorem Eqs.right {a b:Eqs} (h:Eqs.ok (a++b)):Eqs.ok b:=fun p hp=>h p (List.mem_append.2 (.inr hp))
theorem bif_ok {b:Bool} (h:Eqs.ok (bif b then [] else Eqs.no)):b=true:=by
 cases b
 · exact (Eqs.no_ok h).elim
 · rfl
theorem look_none:∀ {l:List (Nat × SV)} {t:Nat},(∀ p∈l,p.1≠t)→look l t=undefS
 | [],_,_=>rfl
 | (k,x)::r,t,h=>by
  unfold look
  rw [show Nat.beq k t=false by rw [Bool.eq_false_iff,ne_eq,Nat.beq_eq]; exact h (k,x) (List.mem_cons_self ..),cond_false]
  exact look_none fun p hp=>h p (List.mem_cons_of_mem _ hp)
theorem wkObs_ok {β:Env} {obS:List Ob} {σ:List Nat}:∀ {obT:List Ob} {i:Nat},Eqs.ok (wkObs β obS σ obT i)→∀ (j:Nat) (x y:Ob),obT[j]?=some x→obS[σ.getD (i+j) 0]?=some y→Eqs.ok (wkOb β σ y x)
 | [],_,_,j,x,y,h,_=>by simp at h
 | z::r,i,h,j,x,y,hx,hy=>by
  unfold wkObs at h
  cases j with
  | zero =>
   simp only [List.getElem?_cons_zero] at hx
   obtain rfl:=Option.some.inj hx
   have:=Eqs.left h
   rw [Nat.add_zero] at hy
   rw [hy] at this
   exact this
  | succ j=>exact wkObs_ok (Eqs.right h) j x y (by simpa using hx) (by rw [show i+1+j=i+(j+1) by omega]; exact hy)
theorem opaqB_eq {u t:Nat} {x:SV} (h:opaqB u t x=true):x=.one (.c (.b (.gh u t))):=by
 unfold opaqB at h
 split at h
 · rw [Bool.and_eq_true,Nat.beq_eq,Nat.beq_eq] at h
   obtain ⟨rfl,rfl⟩:=h
   rfl
 · cases h
theorem wkSl_ok {β:Env} {u L:Nat} {σ:List Nat} {slS slT:List (Nat × SV)}:∀ {n:Nat},Eqs.ok (wkSl β u L σ slS slT n)→∀ t,t<n→look slT t=.one (.c (.b (.gh u t)))∨((look slT t).of (fun k=>Nat.blt k L&&!Nat.beq k u)=true∧(look slS t).den β=(look slT t).den (tEq1 β σ))
 | 0,_,t,h=>by omega
 | n+1,h,t,ht=>by
  unfold wkSl at h
  by_cases e:t=n
  · subst e
    have h:=Eqs.left h
    cases ho:opaqB u t (look slT t) with
    | true=>exact .inl (opaqB_eq ho)
    | false =>
     rw [ho,cond_false] at h
     cases hq:(look slT t).of (fun k=>Nat.blt k L&&!Nat.beq k u) with
     | true =>
      rw [hq,cond_true] at h
      obtain ⟨e,_⟩:=Eqs.cons_ok h
      injection e with e
      exact .inr ⟨rfl,e⟩
     | false=>rw [hq,cond_false] at h; exact (Eqs.no_ok h).elim
  · exact wkSl_ok (Eqs.right h) t (by omega)
theorem layB_iff {x:Ob}:layB x=true↔∃ p,x.layOf=some p:=by
 cases x<;>simp [layB,Ob.layOf]
theorem kind_lay {y x:Ob} (h:kindB y x=true) (hx:layB x=true):layB y=true:=by
 cases y<;>cases x<;>first | rfl | (cases h; done) | (cases hx; done)
theorem kind_dead {y x:Ob} (h:kindB y x=true) (hx:x≠.dead):y≠.dead:=by
 cases y<;>cases x<;>first | (intro e; cases e; done) | (cases h; done) | exact absurd rfl hx
theorem wk_hold {β β':Env} {w:World} {g:Pl} {σ:List Nat} {q:Nat→Bool} {y x:Ob} (hk:kindB y x=true) (he:Eqs.ok (wkOb β σ y x)) (hq:x.of q=true) (hβ:∀ k,q k=true→tEq1 β σ k=β' k) (h:y.holds β w g):x.holds β' w g:=by
 have thc:∀ (y:Ob) (t:Thing),Eqs.ok [(Tm.ob (y.plain (.th t)),Tm.ob (.th t))]→y.holds β w g→(Ob.th t).holds β' w g:=fun y t he h=>by
  obtain ⟨e,_⟩:=Eqs.cons_ok he
  injection e with e
  have:=Ob.plain_holds (x:=.th t) h
  rw [e] at this
  exact this
 cases x with
 | dead=>exact trivial
 | al r D=>cases y<;>(cases hk; done)
 | pl n=>cases y<;>(cases hk; done)
 | th t =>
  cases y<;>first | (cases hk; done) | exact thc _ t he h | skip
  obtain ⟨e,_⟩:=Eqs.cons_ok he
  injection e with e
  injection e with e
  subst e
  exact h.2
 | ow D' t' =>
  cases y<;>first | (cases hk; done) | skip
  obtain ⟨e,_⟩:=Eqs.cons_ok he
  injection e with e
  injection e with e e2
  subst e e2
  exact h
 | box cs' t' =>
  cases y<;>first | (cases hk; done) | skip
  rename_i cs t
  obtain ⟨e1,he⟩:=Eqs.cons_ok he
  obtain ⟨e2,_⟩:=Eqs.cons_ok he
  injection e1 with e1
  injection e2 with e2
  injection e2 with e2
  have e2:=congrArg Array.toList e2
  dsimp only at e2
  subst e1
  have hc:cs'.map (Lf.den (tEq1 β σ))=cs'.map (Lf.den β'):=all_congr hq (Lf.den_congr hβ)
  refine ⟨h.1,?_⟩
  rw [← hc,← e2]
  exact h.2
 | row cs' t' n' sz' =>
  cases y<;>first | (cases hk; done) | skip
  rename_i cs t n sz
  obtain ⟨e1,he⟩:=Eqs.cons_ok he
  obtain ⟨e3,he⟩:=Eqs.cons_ok he
  obtain ⟨e4,he⟩:=Eqs.cons_ok he
  obtain ⟨e2,_⟩:=Eqs.cons_ok he
  injection e1 with e1
  injection e3 with e3
  injection e4 with e4
  injection e2 with e2
  injection e2 with e2
  have e2:=congrArg Array.toList e2
  dsimp only at e2
  subst e1 e3 e4
  have hc:cs'.map (Lf.den (tEq1 β σ))=cs'.map (Lf.den β'):=all_congr hq (Lf.den_congr hβ)
  have hl:cs'.length=cs.length:=by
   have:=congrArg List.length e2
   rw [List.length_map,List.length_map] at this
   exact this.symm
  obtain ⟨h0,cur,h1,h2,h3,h4,h5,h6⟩:=h
  refine ⟨h0,cur,h1,by rw [hl]; exact h2,h3,h4,h5,?_⟩
  rw [← hc,← e2]
  exact h6
theorem wk_syncX {P:Program} {m0 n u:Nat} {B0:Bd} {w0:World} {f:Cf P} {sl:List (Nat × SV)} {ob:List Ob} {ev:List (Ev P)} {σ:List Nat} {β:Env} {a:Act} {w:World}
  (hB:wkB m0 u f.ob ob σ=true) (hn:sl.all (fun p=>Nat.blt p.1 n)=true) (hO:Eqs.ok (wkObs β f.ob σ ob 0)) (hS:Eqs.ok (wkSl β u ob.length σ f.sl (mkC P n u sl ob ev).sl n)) (h:Sync P m0 n B0 w0 f β a w) (hBk:B0.k≤m0) :
  ∃ β':Env,(∀ k,k<m0→β' k=β k)∧((∀ j,j≠u→β' j=β (σ.getD j 0))∧β' u=⟨0,fun _=>none,fun _=>0,fun _=>False,fun t=>a.tmps.getD t undef⟩)∧Sync P m0 n B0 w0 (mkC P n u sl ob ev) β' a w:=by
 unfold wkB at hB
 rw [Bool.and_eq_true,Bool.and_eq_true,Bool.and_eq_true,Bool.and_eq_true,Nat.beq_eq,Nat.ble_eq,Nat.blt_eq] at hB
 obtain ⟨⟨⟨⟨hlen,hmu⟩,hul⟩,hid⟩,hall⟩:=hB
 have hσ:∀ i,i<m0→σ.getD i 0=i:=fun i hi=>Nat.eq_of_beq_eq_true (List.all_eq_true.1 hid i (List.mem_range.2 hi))
 obtain ⟨β',hβ⟩:∃ β':Env,β'=fun j=>if j=u then ⟨0,fun _=>none,fun _=>0,fun _=>False,fun t=>a.tmps.getD t undef⟩ else β (σ.getD j 0):=⟨_,rfl⟩
 have hβu:β' u=⟨0,fun _=>none,fun _=>0,fun _=>False,fun t=>a.tmps.getD t undef⟩:=by rw [hβ]; exact if_pos rfl
 have hβo:∀ j,j≠u→β' j=β (σ.getD j 0):=fun j hj=>by rw [hβ]; exact if_neg hj
 have hβm:∀ k,k<m0→β' k=β k:=fun k hk=>by rw [hβo k (by omega),hσ k hk]
 have hq:∀ k,(Nat.blt k ob.length&&!Nat.beq k u)=true→tEq1 β σ k=β' k:=fun k hk=>by
  rw [Bool.and_eq_true,Bool.not_eq_true',Nat.blt_eq] at hk
  rw [hβo k (fun e=>by rw [e,Nat.beq_refl] at hk; cases hk.2)]
  rfl
 have hmono:∀ k,(Nat.blt k ob.length&&!Nat.beq k u)=true→Nat.blt k ob.length=true:=fun k hk=>by rw [Bool.and_eq_true] at hk; exact hk.1
 have hsrc:∀ (j:Nat) (x:Ob),ob[j]?=some x→(j=u→x=.dead)∧(j≠u→∃ y,f.ob[σ.getD j 0]?=some y∧kindB y x=true∧x.of (fun k=>Nat.blt k ob.length&&!Nat.beq k u)=true)∧(layB x=true→(m0≤j→m0≤σ.getD j 0)∧∀ (i:Nat) (y:Ob),ob[i]?=some y→y≠.dead→i≠j→i≠u→σ.getD i 0≠σ.getD j 0):=by
  intro j x hx
  have hj:j<ob.length:=(List.getElem?_eq_some_iff.1 hx).1
  have hc:=List.all_eq_true.1 hall j (List.mem_range.2 hj)
  rw [hx] at hc
  dsimp only at hc
  rw [Bool.and_eq_true] at hc
  obtain ⟨hc1,hc2⟩:=hc
  refine ⟨fun e=>?_,fun e=>?_,fun hl=>?_⟩
  · rw [e,Nat.beq_refl,cond_true] at hc1
    cases x<;>first | rfl | (cases hc1; done)
  · rw [show Nat.beq j u=false by rw [Bool.eq_false_iff,ne_eq,Nat.beq_eq]; exact e,cond_false] at hc1
    split at hc1
    · cases hc1
    · rename_i y hy
      rw [Bool.and_eq_true] at hc1
      exact ⟨y,hy,hc1.1,hc1.2⟩
  · rw [hl,cond_true,Bool.and_eq_true,Bool.or_eq_true] at hc2
    refine ⟨fun hm=>?_,fun i y hy hd hij hiu e=>?_⟩
    · rcases hc2.1 with h1 | h1
      · rw [Bool.not_eq_true',Bool.eq_false_iff,ne_eq,Nat.ble_eq] at h1
        exact absurd hm h1
      · exact Nat.le_of_ble_eq_true h1
    · have hi:i<ob.length:=(List.getElem?_eq_some_iff.1 hy).1
      have h1:=List.all_eq_true.1 hc2.2 i (List.mem_range.2 hi)
      rw [hy,Bool.or_eq_true,Bool.or_eq_true,Bool.or_eq_true,Nat.beq_eq,Nat.beq_eq,e,Nat.beq_refl] at h1
      rcases h1 with h1 | h1 | h1 | h1
      · exact hij h1
      · exact hiu h1
      · refine hd ?_
        cases y<;>first | rfl | (cases h1; done)
      · cases h1
 have hex:∀ {k:Nat} {y:Ob},f.ob[k]?=some y→f.q k=true:=fun {k y} hy=>(h.q k).2 (List.getElem?_eq_some_iff.1 hy).1
 have hob:∀ {k:Nat},Nat.blt k ob.length=true→∃ x,ob[k]?=some x:=fun {k} hk=>⟨_,List.getElem?_eq_getElem (by rw [Nat.blt_eq] at hk; exact hk)⟩
 have hfree:∀ {k:Nat} {x:Ob},ob[k]?=some x→Free (fun k=>Nat.blt k ob.length) (fun k=>ob[k]?) k→layB x=true∧k≠u:=fun {k x} hx hf=>by
  rcases hf with ⟨x',e,p,hp⟩ | ⟨⟨m,e⟩,_⟩
  · dsimp only at e
    rw [hx] at e
    obtain rfl:=Option.some.inj e
    refine ⟨layB_iff.2 ⟨p,hp⟩,fun e=>?_⟩
    rw [(hsrc k x hx).1 e] at hp
    cases hp
  · dsimp only at e
    rw [hx] at e
    obtain rfl:=Option.some.inj e
    exfalso
    by_cases ek:k=u
    · have:=(hsrc k _ hx).1 ek
      cases this
    · obtain ⟨y,_,hk,_⟩:=(hsrc k _ hx).2.1 ek
      cases y<;>(cases hk; done)
 have hlayS:∀ {k:Nat} {x:Ob},ob[k]?=some x→layB x=true→k≠u→f.q (σ.getD k 0)=true∧Free f.q (fun k=>f.ob[k]?) (σ.getD k 0):=fun {k x} hx hl hku=>by
  obtain ⟨y,hy,hk,_⟩:=(hsrc k x hx).2.1 hku
  obtain ⟨p,hp⟩:=layB_iff.1 (kind_lay hk hl)
  exact ⟨hex hy,Free.lay hy hp⟩
 refine ⟨β',hβm,⟨hβo,hβu⟩,⟨⟨h.good.bel,h.good.le,?_,?_,?_,?_,?_,?_,?_,?_,?_⟩,fun k=>by dsimp only [mkC]; rw [Nat.blt_eq],⟨h.sl.1,fun t=>?_⟩,fun t=>?_,?_,h.defers,?_⟩⟩
 ·
  intro k o hk hko
  dsimp only [mkC] at hk hko ⊢
  by_cases e:k=u
  · rw [(hsrc k o hko).1 e]
    exact ⟨trivial,rfl⟩
  · obtain ⟨y,hy,hkd,hof⟩:=(hsrc k o hko).2.1 e
    have hh:=(h.good.hold _ y (hex hy) hy).1
    refine ⟨?_,Ob.of_mono hmono _ hof⟩
    rw [hβo k e]
    refine wk_hold hkd (wkObs_ok hO k o y hko ?_) hof hq hh
    rw [Nat.zero_add]
    exact hy
 ·
  intro k hk c hc
  dsimp only [mkC] at hk
  by_cases e:k=u
  · rw [e,hβu] at hc; exact hc.elim
  · rw [hβo k e] at hc
    obtain ⟨x,hx⟩:=hob hk
    obtain ⟨y,hy,_⟩:=(hsrc k x hx).2.1 e
    exact h.good.lt _ (hex hy) c hc
 ·
  intro k j hk hj hne hm hf hd
  dsimp only [mkC] at hk hj hf hd
  obtain ⟨x,hx⟩:=hob hk
  obtain ⟨z,hz⟩:=hob hj
  obtain ⟨hl,hku⟩:=hfree hx hf
  by_cases e:j=u
  · rw [e,hβu]; exact fun hc=>hc.elim
  · obtain ⟨hs1,hs2⟩:=hlayS hx hl hku
    obtain ⟨hm2,hdis⟩:=(hsrc k x hx).2.2 hl
    obtain ⟨y,hy,hkd,_⟩:=(hsrc j z hz).2.1 e
    have hzd:z≠.dead:=fun e=>hd (by rw [hz,e])
    rw [hβo k hku,hβo j e]
    exact h.good.ne _ _ hs1 (hex hy) (hdis j z hz hzd hne e) (hm2 hm) hs2 (fun e=>kind_dead hkd hzd (Option.some.inj (hy.symm.trans e)))
 ·
  intro k x hk hm hx hmi
  dsimp only [mkC] at hk hx
  obtain ⟨hl,hku⟩:layB x=true∧k≠u:=by
   refine ⟨?_,fun e=>by rw [(hsrc k x hx).1 e] at hmi; cases hmi⟩
   cases x<;>first | (cases hmi; done) | exact layB_iff.2 ⟨_,rfl⟩ | skip
   exfalso
   by_cases ek:k=u
   · have:=(hsrc k _ hx).1 ek
     cases this
   · obtain ⟨y,_,hk,_⟩:=(hsrc k _ hx).2.1 ek
     cases y<;>(cases hk; done)
  obtain ⟨hs1,hs2⟩:=hlayS hx hl hku
  rw [hβo k hku]
  exact h.good.low _ hs1 (((hsrc k x hx).2.2 hl).1 hm) hs2
 ·
  intro k hk hm c hc
  dsimp only [mkC] at hk
  by_cases e:k=u
  · rw [e,hβu] at hc; exact hc.elim
  · rw [hβo k e] at hc
    obtain ⟨x,hx⟩:=hob hk
    obtain ⟨y,hy,_⟩:=(hsrc k x hx).2.1 e
    by_cases hs:m0≤σ.getD k 0
    · exact (h.good.fr _ (hex hy) hs c hc).imp id fun ⟨i,i1,i2⟩=>⟨i,i1,by rw [hβm i i1]; exact i2⟩
    · exact .inr ⟨σ.getD k 0,by omega,by rw [hβm _ (by omega)]; exact hc⟩
 · intro i hi
   dsimp only [mkC]
   rw [Nat.blt_eq]
   omega
 · intro k r D hk ho
   dsimp only [mkC] at ho
   exfalso
   by_cases e:k=u
   · have:=(hsrc k _ ho).1 e
     cases this
   · obtain ⟨y,_,hkd,_⟩:=(hsrc k _ ho).2.1 e
     cases y<;>(cases hkd; done)
 · intro k r D hk ho
   dsimp only [mkC] at ho
   exfalso
   by_cases e:k=u
   · have:=(hsrc k _ ho).1 e
     cases this
   · obtain ⟨y,_,hkd,_⟩:=(hsrc k _ ho).2.1 e
     cases y<;>(cases hkd; done)
 · intro k i hk hi hlt hm hd hp
   dsimp only [mkC] at hp
   obtain ⟨M,hp⟩:=hp
   exfalso
   by_cases e:i=u
   · have:=(hsrc i _ hp).1 e
     cases this
   · obtain ⟨y,_,hkd,_⟩:=(hsrc i _ hp).2.1 e
     cases y<;>(cases hkd; done)
 ·
  by_cases ht:t<n
  · rcases wkSl_ok hS t ht with e | ⟨e1,e2⟩
    · rw [e]
      show _=(β' u).u t
      rw [hβu]
    · rw [h.sl.2 t,e2]
      exact SV.den_congr hq _ e1
  · have hl:look (mkC P n u sl ob ev).sl t=undefS:=look_none fun p hp=>by
     rcases List.mem_append.1 hp with hp | hp
     · have:=List.all_eq_true.1 hn p hp
       rw [Nat.blt_eq] at this
       omega
     · obtain ⟨t',ht',rfl⟩:=List.mem_map.1 hp
       have:=List.mem_range.1 ht'
       dsimp only
       omega
    rw [hl]
    show a.tmps.getD t undef=undef
    rw [Array.getD_eq_getD_getElem?,Array.getElem?_eq_none (by rw [h.sl.1]; omega)]
    rfl
 · by_cases ht:t<n
   · rcases wkSl_ok hS t ht with e | ⟨e1,e2⟩
     · rw [e]
       show Nat.blt u ob.length=true
       rw [Nat.blt_eq]; exact hul
     · exact SV.of_mono hmono _ e1
   · have hl:look (mkC P n u sl ob ev).sl t=undefS:=look_none fun p hp=>by
      rcases List.mem_append.1 hp with hp | hp
      · have:=List.all_eq_true.1 hn p hp
        rw [Nat.blt_eq] at this
        omega
      · obtain ⟨t',ht',rfl⟩:=List.mem_map.1 hp
        have:=List.mem_range.1 ht'
        dsimp only
        omega
     rw [hl]; rfl
 · show m0≤ob.length∧B0.k≤ob.length
   omega
 · intro k j i D D' h1 h2
   exfalso
   by_cases e:k=u
   · have:=(hsrc k _ h1).1 e
     cases this
   · obtain ⟨y,_,hkd,_⟩:=(hsrc k _ h1).2.1 e
     cases y<;>(cases hkd; done)
theorem wk_sync {P:Program} {m0 n u:Nat} {B0:Bd} {w0:World} {f:Cf P} {sl:List (Nat × SV)} {ob:List Ob} {ev:List (Ev P)} {σ:List Nat} {β:Env} {a:Act} {w:World}
  (hB:wkB m0 u f.ob ob σ=true) (hn:sl.all (fun p=>Nat.blt p.1 n)=true) (hO:Eqs.ok (wkObs β f.ob σ ob 0)) (hS:Eqs.ok (wkSl β u ob.length σ f.sl (mkC P n u sl ob ev).sl n)) (h:Sync P m0 n B0 w0 f β a w) (hBk:B0.k≤m0:=by exact Nat.le_refl _) :
  ∃ β':Env,(∀ k,k<m0→β' k=β k)∧Sync P m0 n B0 w0 (mkC P n u sl ob ev) β' a w :=
 let ⟨β',h1,_,h2⟩:=wk_syncX (ev:=ev) hB hn hO hS h hBk
 ⟨β',h1,h2⟩
def HdOk (P:Program) (m0 n:Nat) (N:Nat) (w0:World) (β0:Env) (Q:Exit→Act→World→Prop) (C:Cf P) (p:Code × List Kf):Prop :=
 ∀ (β:Env) (a:Act) (w:World),(∀ k,k<m0→β k=β0 k)→Sync P m0 n (bd0 N m0) w0 C β a w→Rounds P p.1 (post P Q p.2) a w
theorem pieceE_parts {P:Program} {m0 n:Nat} {c:Code} {ks:List Kf} {f:Cf P} {u:Nat} {sl:List (Nat × SV)} {ob:List Ob} {σ:List Nat} (ev:List (Ev P)) (he:∀ β,Eqs.ok (pieceE P m0 n (some (.head c ks f)) u sl ob σ β)) :
  f.good∧∀ {N:Nat} {w0:World} {β:Env} {a:Act} {w:World},Sync P m0 n (bd0 N m0) w0 f β a w→∃ β':Env,(∀ k,k<m0→β' k=β k)∧Sync P m0 n (bd0 N m0) w0 (mkC P n u sl ob ev) β' a w:=by
 refine ⟨fun β x hx=>eqsOf_ok (Eqs.right (Eqs.right (Eqs.right (he β)))) x hx,fun {N w0 β a w} hs=>?_⟩
 have h:=he β
 have h1:=bif_ok (Eqs.left h)
 rw [Bool.and_eq_true,Bool.and_eq_true] at h1
 exact wk_sync h1.1.1 h1.2 (Eqs.left (Eqs.right h)) (Eqs.left (Eqs.right (Eqs.right h))) hs
theorem piece_ok {P:Program} {m0 n:Nat} {N:Nat} {w0:World} {β0:Env} {Q:Exit→Act→World→Prop} {Ns:List (Nat × Nat)} {m:Nat} {C:Cf P} {p p':Code × List Kf} {u:Nat} {sl:List (Nat × SV)} {ob:List Ob} (ev:List (Ev P)) (σ:List Nat) (hm:P.follows .mixedOrders=true)
  (hp:(runP P m0 n Ns m (some p.1) (.lp p.1::p.2) C).bind Stop.pos=some p') (he:∀ β,Eqs.ok (pieceE P m0 n (runP P m0 n Ns m (some p.1) (.lp p.1::p.2) C) u sl ob σ β))
  (hH:HdOk P m0 n N w0 β0 Q (mkC P n u sl ob ev) p'):HdOk P m0 n N w0 β0 Q C p:=by
 intro β a w hβ hs
 cases hr:runP P m0 n Ns m (some p.1) (.lp p.1::p.2) C with
 | none=>rw [hr] at hp; cases hp
 | some s =>
  rw [hr] at hp he
  cases s with
  | ended f=>cases hp
  | head c ks f =>
   obtain rfl:(c,ks)=p':=Option.some.inj hp
   obtain ⟨hg,hw⟩:=pieceE_parts ev he
   obtain ⟨_,_,r3⟩:=runP_ok hm _ _ _ _ _ hr ⟨hs.q,hs.uq⟩
   refine rounds_one (r3 hg hs Q fun β' a' w' e s'=>?_)
   obtain ⟨β'',e2,s2⟩:=hw s'
   exact hH β'' a' w' (fun k hk=>(e2 k hk).trans ((e k hk).trans (hβ k hk))) s2
def Said (P:Program) (fn:Func) (m0:Nat) (res:SV) (outs:List (Nat × Ob)) (β:Env) (w:World) (e:Ending) (w':World):Prop :=
 ∃ (β':Env) (q:Nat→Bool) (obj:Nat→Option Ob),(∀ k,k<m0→β' k=β k)∧e=.returned (res.den β')∧res.of q=true∧(∀ p∈outs,∀ c,(β' p.1).F c→w.heap.size≤c∨∃ i,i<m0∧(β i).F c)∧holdsAll β' w' outs∧Fin w w'
theorem fin1_parts {P:Program} {fn:Func} {m0 n:Nat} {res:SV} {outs:List (Nat × Ob)} {f:Cf P} (h:∀ β,Eqs.ok (fin1 P fn m0 n res outs f β)):f.good∧∀ {β0:Env} {w:World} {β':Env} {a':Act} {w':World},(∀ k,k<m0→β' k=β0 k)→Sync P m0 n (bd0 w.heap.size m0) w f β' a' w' →
  bodyPost P fn (Said P fn m0 res outs β0 w) .normal a' w'∧bodyPost P fn (Said P fn m0 res outs β0 w) .ret a' w':=by
 have fin:∃ r:R1 Value,run1 P m0 false (results fn (tmpsS idE f.sl n)) f.q f.ob []=some r∧res.of f.q=true∧r.ob.length=f.ob.length ∧
   ∀ β,Eqs.ok (chk P β (results fn (tmpsS β f.sl n)) r.tr.reverse (fun u=>[(.v u,.v (res.den β))])++(needEqs f.q f.ob outs++eqsOf β f.cs)):=by
  cases hx:run1 P m0 false (results fn (tmpsS idE f.sl n)) f.q f.ob [] with
  | none=>have:=h idE; unfold fin1 at this; rw [hx] at this; exact (Eqs.no_ok this).elim
  | some r =>
   obtain ⟨ra,rq,rob,rtr⟩:=r
   cases hc:(res.of f.q&&Nat.beq rob.length f.ob.length&&Nat.beq f.ev.length 0) with
   | false=>have:=h idE; unfold fin1 at this; rw [hx] at this; dsimp only at this; rw [hc] at this; exact (Eqs.no_ok this).elim
   | true =>
    have h3:=hc
    simp only [Bool.and_eq_true,Nat.beq_eq] at hc
    refine ⟨_,rfl,hc.1.1,hc.1.2,fun β=>?_⟩
    have:=h β
    unfold fin1 at this
    rw [hx] at this
    dsimp only at this
    rw [h3] at this
    exact this
 obtain ⟨r,f1,f2,f3,f4⟩:=fin
 refine ⟨fun β x hx=>eqsOf_ok (fun p hp=>f4 β p (List.mem_append.2 (.inr (List.mem_append.2 (.inr hp))))) x hx,?_⟩
 intro β0 w β' a' w' e s
 obtain ⟨h5,_,_,tr,h8,h9⟩:=run1_ok _ _ _ _ _ f1 (fun k hk=>(s.q k).1 hk)
 obtain ⟨k1,obj',k2,k3,k4⟩:=h9 _ _ _ _ _ _ s.good (fun k hk=>⟨hk,rfl⟩) (fun k a b=>by omega) s.m0.1
 have h6:=f4 β'
 rw [h8,List.append_nil,List.reverse_reverse] at h6
 have h7:Eqs.ok (chk P β' (results fn (tmpsS β' f.sl n)) tr (fun u=>[(.v u,.v (res.den β'))])):=fun p hp=>h6 p (List.mem_append.2 (.inl hp))
 obtain ⟨v,hv,hv2⟩:=chk_run _ _ _ h7 k1
 obtain ⟨e1,_⟩:=Eqs.cons_ok hv2
 injection e1 with e1
 subst e1
 rw [f3,rangeQ_self] at k4
 have hend:trEnd β' w' tr=w':=by
  obtain ⟨tr2,x1,x2⟩:=run1_still _ _ _ _ _ f1 (fun k hk=>(s.q k).1 hk) f3
  rw [h8,List.append_nil,List.append_nil] at x1
  rw [List.reverse_inj.1 x1]
  exact x2 β' w'
 rw [hend] at hv k4
 rw [← tmps_eq s.sl] at hv
 have hout:∀ p:Nat × Ob,f.q p.1=true→∀ c,(β' p.1).F c→w.heap.size≤c∨∃ i,i<m0∧(β0 i).F c:=fun p hp c hc=>by
  by_cases h0:m0≤p.1
  · exact (s.good.fr p.1 hp h0 c hc).imp (fun a=>a.elim (fun a=>a.elim id False.elim) False.elim) fun ⟨i,i1,i2⟩=>⟨i,i1,by rw [← e i i1]; exact i2⟩
  · exact .inr ⟨p.1,by omega,by rw [← e p.1 (by omega)]; exact hc⟩
 have hneed:Eqs.ok (needEqs f.q f.ob outs):=fun p hp=>f4 β' p (List.mem_append.2 (.inr (List.mem_append.2 (.inl hp))))
 have hres:bodyPost P fn (Said P fn m0 res outs β0 w) .normal a' w':=⟨s.defers,_,hv,β',f.q,obj',e,rfl,f2,fun p hp c hc=>hout p (needs_q _ hneed p hp) c hc,needs_hold s.good (fun k hk=>⟨hk,rfl⟩) _ hneed,⟨k4.bel.below⟩⟩
 exact ⟨hres,hres⟩
theorem last_ok {P:Program} {fn:Func} {m0 n:Nat} {w:World} {β0:Env} {res:SV} {outs:List (Nat × Ob)} {Ns:List (Nat × Nat)} {m:Nat} {C:Cf P} {p:Code × List Kf} (hm:P.follows .mixedOrders=true)
  (he:∀ β,Eqs.ok (lastE P fn m0 n res outs (runP P m0 n Ns m (some p.1) (.lp p.1::p.2) C) β)):HdOk P m0 n w.heap.size w β0 (bodyPost P fn (Said P fn m0 res outs β0 w)) C p:=by
 intro β a w1 hβ hs
 cases hr:runP P m0 n Ns m (some p.1) (.lp p.1::p.2) C with
 | none=>have:=he idE; rw [hr] at this; exact (Eqs.no_ok this).elim
 | some s =>
  rw [hr] at he
  cases s with
  | head c ks f=>exact (Eqs.no_ok (he idE)).elim
  | ended f =>
   obtain ⟨hg,hw⟩:=fin1_parts he
   obtain ⟨_,_,r3⟩:=runP_ok hm _ _ _ _ _ hr ⟨hs.q,hs.uq⟩
   exact rounds_one (r3 hg hs _ fun β' a' w' e s'=>hw (fun k hk=>(e k hk).trans (hβ k hk)) s')
def startP (P:Program) (fn:Func) (args:List SV) (obs:List Ob) (evs:List (Ev P)) (Ns:List (Nat × Nat)) (m:Nat):Option (Stop P):=match fn.body with
 | some c=>runP P obs.length (sizeS fn args) Ns m (some c) [] ⟨startS args 0,fun k=>Nat.blt k obs.length,obs,evs,[]⟩
 | none=>none
theorem sx_cut {P:Program} {f:FuncId} {fn:Func} (args:List SV) (obs:List Ob) (evs ev:List (Ev P)) (Ns:List (Nat × Nat)) (m:Nat) (res:SV) (outs:List (Nat × Ob)) (hf:P.funcs[f]?=some fn) (hm:P.follows .mixedOrders=true) {u:Nat} {sl:List (Nat × SV)} {ob:List Ob} {σ:List Nat} {p':Code × List Kf}
  (hp:(startP P fn args obs evs Ns m).bind Stop.pos=some p') (he:∀ β,Eqs.ok (pieceE P obs.length (sizeS fn args) (startP P fn args obs evs Ns m) u sl ob σ β))
  (hargs:args.all (SV.of fun k=>Nat.blt k obs.length)=true) (hobs:obs.all (fun x=>x.of (fun k=>Nat.blt k obs.length)&&x.own)=true) (β:Env) (w:World) (hh:∀ (k:Nat) (o:Ob),obs[k]?=some o→o.holds β w (β k))
  (hH:HdOk P obs.length (sizeS fn args) w.heap.size w β (bodyPost P fn (Said P fn obs.length res outs β w)) (mkC P (sizeS fn args) u sl ob ev) p') :
  Calls P f (args.map (SV.den β)).toArray w (Said P fn obs.length res outs β w):=by
 have hnal:∀ (k r:Nat) (D:Thing),obs[k]?≠some (.al r D):=fun k r D ho=>by
  have:=List.all_eq_true.1 hobs _ (List.mem_of_getElem? ho)
  simp [Ob.own] at this
 have huq:UniqAl obs:=fun k j i D _ h1 _=>absurd h1 (hnal k i D)
 have hlt:∀ k,k<obs.length→∀ c,(β k).F c→c<w.heap.size:=fun k hk c hc=>by
  have h:=hh k _ (List.getElem?_eq_getElem hk)
  cases hx:obs[k] with
  | box cs t=>rw [hx] at h; rw [(h.1.1 c).1 hc]; exact heap_lt h.2
  | th D=>rw [hx] at h; exact D.st.lt _ _ h c hc
  | al r D=>rw [hx] at h; exact D.st.lt _ _ h c hc
  | pl n=>rw [hx] at h; rw [(h.1.1 c).1 hc]; exact h.2.lt
  | row cs t n sz=>rw [hx] at h; rw [(h.1.1 c).1 hc]; exact heap_lt h.2.choose_spec.1
  | ow D t=>rw [hx] at h; exact D.st.lt _ _ h.2 c hc
  | dead =>
   have:=List.all_eq_true.1 hobs _ (List.mem_of_getElem? (List.getElem?_eq_getElem hk))
   rw [hx] at this
   simp [Ob.own] at this
 cases hb:fn.body with
 | none=>unfold startP at hp; rw [hb] at hp; cases hp
 | some c =>
  have hst:startP P fn args obs evs Ns m=runP P obs.length (sizeS fn args) Ns m (some c) [] ⟨startS args 0,fun k=>Nat.blt k obs.length,obs,evs,[]⟩:=by unfold startP; rw [hb]
  rw [hst] at hp he
  cases hr:runP P obs.length (sizeS fn args) Ns m (some c) [] ⟨startS args 0,fun k=>Nat.blt k obs.length,obs,evs,[]⟩ with
  | none=>rw [hr] at hp; cases hp
  | some s =>
   rw [hr] at hp he
   cases s with
   | ended f=>cases hp
   | head c1 ks1 f1 =>
    obtain rfl:(c1,ks1)=p':=Option.some.inj hp
    obtain ⟨hg,hw⟩:=pieceE_parts ev he
    obtain ⟨_,_,r3⟩:=runP_ok hm _ _ _ _ _ hr ⟨fun k=>by dsimp only; rw [Nat.blt_eq],huq⟩
    refine calls_of_wp hf hb (r3 hg (B0:=bd0 w.heap.size obs.length) (w0:=w) (β:=β) ⟨⟨Keep.refl _ _,Nat.le_refl _,fun k o hk ho=>⟨hh k o ho,(Bool.and_eq_true _ _▸List.all_eq_true.1 hobs o (List.mem_of_getElem? ho)).1⟩,fun k hk=>hlt k (by simpa [Nat.blt_eq] using hk),fun k j hk _ _ hm=>?_,fun k _ hk hm=>?_,fun k hk hm=>?_,fun i hi=>by rw [Nat.blt_eq]; exact hi,fun k r D _ ho=>?_,fun k r D _ ho=>absurd ho (hnal k r D),fun k i _ hi _ hm=>by rw [Nat.blt_eq] at hi; omega⟩,fun k=>by dsimp only; rw [Nat.blt_eq],⟨?_,fun t=>?_⟩,fun t=>?_,⟨Nat.le_refl _,Nat.le_refl _⟩,rfl,huq⟩ _ fun β' a' w' e s=>?_)
    · rw [Nat.blt_eq] at hk; omega
    · rw [Nat.blt_eq] at hk; omega
    · rw [Nat.blt_eq] at hk; omega
    · exact absurd ho (hnal k r D)
    · simp [sizeS]
    · rw [look_start,if_pos (Nat.zero_le _),Nat.sub_zero]
      simp only [Array.getD_eq_getD_getElem?,Array.getElem?_append,List.size_toArray,List.length_map,List.getElem?_toArray,List.getElem?_map]
      split
      · rename_i hlt2
        rw [List.getElem?_eq_getElem hlt2]
        rfl
      · rename_i hge
        rw [List.getElem?_eq_none (by omega)]
        simp [Array.getElem?_replicate]
        split<;>rfl
    · dsimp only
      rw [look_start,if_pos (Nat.zero_le _),Nat.sub_zero]
      cases hx:args[t]? with
      | none=>rfl
      | some x=>exact List.all_eq_true.1 hargs x (List.mem_of_getElem? hx)
    · obtain ⟨β'',e2,s2⟩:=hw s
      exact hH β'' a' w' (fun k hk=>(e2 k hk).trans (e k hk)) s2
end Go.Proofs.YtbepimnlleilfaaGreat.Y
end
section
namespace Go.Proofs.YtbepimnlleilfaaGreat.Y
open Go Go.RowKit
set_option maxRecDepth 100000
inductive T1 where
 | lo
 | mid
 | hi
def T1.at (s:ByteArray):T1→Prop
 | .lo=>decide ((100:Int)<(s.size:Int))=false
 | .mid=>decide ((100:Int)<(s.size:Int))=true∧decide ((s.size:Int)≤1024)=true
 | .hi=>decide ((100:Int)<(s.size:Int))=true∧decide ((s.size:Int)≤1024)=false
def T1.yes:T1→Bool
 | .mid=>true
 | _=>false
theorem T1.all (s:ByteArray):∃ k:T1,k.at s:=by
 cases h:decide ((100:Int)<(s.size:Int)) with
 | false=>exact ⟨.lo,h⟩
 | true=>cases h2:decide ((s.size:Int)≤1024) with
  | true=>exact ⟨.mid,h,h2⟩
  | false=>exact ⟨.hi,h,h2⟩
theorem bl_lit {b r:Bool} (h:b=r):Value.bool b=.bool r:=by rw [h]
def yT1 (d1 d2:Nat) (s:ByteArray):(k:T1)→k.at s→List (Ev Tryz.prog)
 | .lo,h=>[.eqv d1 (.bool (decide ((100:Int)<(s.size:Int)))) (.bool false) (bl_lit h)]
 | .mid,h=>[.eqv d1 (.bool (decide ((100:Int)<(s.size:Int)))) (.bool true) (bl_lit h.1),.eqv d2 (.bool (decide ((s.size:Int)≤1024))) (.bool true) (bl_lit h.2)]
 | .hi,h=>[.eqv d1 (.bool (decide ((100:Int)<(s.size:Int)))) (.bool true) (bl_lit h.1),.eqv d2 (.bool (decide ((s.size:Int)≤1024))) (.bool false) (bl_lit h.2)]
def Lg1 (x:R4) (r:Bool):Prop:=∃ a b:T1,a.at x.s∧b.at x.t∧(a.yes||b.yes)=r
theorem Lg1.all (x:R4):∃ r,Lg1 x r:=by
 obtain ⟨a,ha⟩:=T1.all x.s
 obtain ⟨b,hb⟩:=T1.all x.t
 exact ⟨_,a,b,ha,hb,rfl⟩
def sLongF (x:R4) {r:Bool} (h:Lg1 x r):Spec Tryz.prog :=
 ⟨198,Tryz.call198,[.one (.a (rL x))],[],tB' r,[],fun β w hh=>by
  obtain ⟨a,b,ha,hb,rfl⟩:=h
  cases a with
  | mid=>exact spec_auto (evs:=yT1 7 13 x.s .mid ha) (Ns:=[]) (m:=400) Tryz.func198 hmA (fun β=>by kernel_rfl) (by kernel_rfl) β w hh
  | lo=>cases b<;>exact spec_auto (evs:=yT1 7 13 x.s .lo ha++yT1 20 26 x.t _ hb) (Ns:=[]) (m:=400) Tryz.func198 hmA (fun β=>by kernel_rfl) (by kernel_rfl) β w hh
  | hi=>cases b<;>exact spec_auto (evs:=yT1 7 13 x.s .hi ha++yT1 20 26 x.t _ hb) (Ns:=[]) (m:=400) Tryz.func198 hmA (fun β=>by kernel_rfl) (by kernel_rfl) β w hh,by kernel_rfl⟩
theorem long1_ok {x0 y0:R4} {rx0 ry0:Bool} (hx0:Lg1 x0 rx0) (hy0:Lg1 y0 ry0) (β:Env) (w:World) (hh:(Ob.box (rL x0++rL y0) 46).holds β w (β 0)) :
  Calls Tryz.prog 61 (([.one (.c (.b (.s 0 0 1 1)))]:List SV).map (SV.den β)).toArray w fun e w'=>e=.returned (.bool (rx0||ry0))∧Below w.heap.size w w':=by
 cases rx0 with
 | true=>exact bspec_ok [(sLongF x0 hx0).e] [] 1200 Tryz.func61 hmA (fun β=>by kernel_rfl) (by kernel_rfl) (fun β=>rfl) β w hh
 | false =>
 cases ry0 with
 | true=>exact bspec_ok [(sLongF x0 hx0).e,(sLongF y0 hy0).e] [] 1200 Tryz.func61 hmA (fun β=>by kernel_rfl) (by kernel_rfl) (fun β=>rfl) β w hh
 | false =>
 exact bspec_ok [(sLongF x0 hx0).e,(sLongF y0 hy0).e] [] 1200 Tryz.func61 hmA (fun β=>by kernel_rfl) (by kernel_rfl) (fun β=>rfl) β w hh
def sLongG1 {x0 y0:R4} {rx0 ry0:Bool} (hx0:Lg1 x0 rx0) (hy0:Lg1 y0 ry0) {r:Bool} (h:(rx0||ry0)=r):BSpec Tryz.prog :=
 ⟨61,Tryz.call61,[.one (.c (.b (.s 0 0 1 1)))],rL x0++rL y0,46,.bool r,fun β w hh=>by rw [← h]; exact long1_ok hx0 hy0 β w hh,by kernel_rfl,fun _=>rfl⟩
abbrev cbC (a b b' c:R4):List Lf:=rL a++(rL b++rL b')++rL c
theorem fitC_1024 {r:RQ} (h:FitC r):RSz 1024 r:=⟨h.1.sz,h.2.1.gsz,h.2.2.sz⟩
def RwD (sz n:Nat) (L:Nat→List Lf) (w:World) (g:Pl):Prop :=
 (n=0∧∀ c,¬ g.F c)∨(0<n∧∃ b o cs t fr,(∀ m,g.v m=some ⟨b,o+m,none⟩)∧(∀ c,g.F c↔c=b)∧w.heap[b]?=some (.cells cs t fr)∧∀ j,j<n→w.rangeAt b (o+j*sz) ((L j).map (Lf.den idE)))
theorem RwD.heap {sz n:Nat} {L:Nat→List Lf} {w w':World} {g:Pl} (h:RwD sz n L w g) (k:∀ b,g.F b→w'.heap[b]?=w.heap[b]?):RwD sz n L w' g:=by
 rcases h with h | ⟨h0,b,o,cs,t,fr,h1,h2,h3,h4⟩
 · exact .inl h
 · have e:=k b ((h2 b).2 rfl)
   refine .inr ⟨h0,b,o,cs,t,fr,h1,h2,by rw [e]; exact h3,fun j hj i v hv=>?_⟩
   have:=h4 j hj i v hv
   rw [cell_of_row _ _ _ _ _ _ h3] at this
   rw [cell_of_row _ _ _ _ _ _ (by rw [e]; exact h3)]
   exact this
theorem RwD.lt {sz n:Nat} {L:Nat→List Lf} {w:World} {g:Pl} (h:RwD sz n L w g) (c:Nat) (hc:g.F c):c<w.heap.size:=by
 rcases h with h | ⟨h0,b,o,cs,t,fr,h1,h2,h3,h4⟩
 · exact absurd hc (h.2 c)
 · rw [(h2 c).1 hc]
   exact heap_some_lt h3
theorem lsRw_stable (sz n:Nat) (L:Nat→List Lf):Stable (RwD sz n L) :=
 ⟨fun w g h c hc=>h.lt c hc,fun w w' g h k=>h.heap fun b hb=>k.block b (h.lt b hb),
  fun w w' g b o m s h hs ht hF=>h.heap fun c hc=>ht.block c (h.lt c hc) (fun e=>hF (e▸hc))⟩
def rwT (sz n:Nat) (L:Nat→List Lf):Thing:=thing (RwD sz n L) (lsRw_stable sz n L)
def lsYOf:SV→Nat
 | .one (.c (.b (.y k _ _)))=>k
 | _=>0
def lsZOf:SV→Nat
 | .one (.c (.b (.z k _)))=>k
 | _=>0
theorem ls_ix {T:TypeId} (hu:Tryz.prog.underlying T=some (.slice (Tryz.prog.elem T))) {sz:Nat} (hs:(Tryz.prog.info? (Tryz.prog.elem T)).map (·.size)=some sz) {n N j:Nat} {L:Nat→List Lf} (hj:j<n) (hN:n≤N) (k:Nat) (x y:Operand) (β:Env) (w:World) (h:holdsAll β w [(k,(rwT sz N L).ob)]) (ρ:Operand→Value) (o:Oper) (ho:o.op=.indexAddr T x y)
  (hx:(Op.indexAddr T x y).operands.toList.map ρ=[.slice ((β k).v 0) n ((β k).c 0),.int .i64 (j:Int)]):∃ ys w',fresh β w [(k,(rwT sz N L).ob)] ys∧(execOp ρ o).run Tryz.prog w=.ok (.value ((SV.one (.c (.b (.z k (j*sz))))).den (extE β 0 ys))) w'∧newHold w' [] ys∧Below w.heap.size w w':=by
 have h1:RwD sz N L w (β k):=h _ (List.mem_singleton.2 rfl)
 have h3:ρ x=.slice ((β k).v 0) n ((β k).c 0)∧ρ y=.int .i64 (j:Int):=by simpa [Op.operands] using hx
 rcases h1 with h1 | ⟨h0,b,of,cs,t,fr,h1,h2,h4,h5⟩
 · omega
 refine ⟨[],w,(fun _ h=>by cases h),?_,trivial,Below.refl _ _⟩
 unfold execOp
 rw [ho]
 dsimp only
 rw [h3.1,h3.2,h1 0]
 have e:((SV.one (.c (.b (.z k (j*sz))))).den (extE β 0 []))=.pointer (some ⟨b,of+j*sz,none⟩):=by
  show Value.pointer ((β k).v (j*sz))=_
  rw [h1]
 rw [e]
 have hz:((sizeOf (Tryz.prog.elem T)).run Tryz.prog w)=.ok sz w:=by
  cases hq:Tryz.prog.info? (Tryz.prog.elem T) with
  | none=>simp [hq] at hs
  | some i =>
   have hs:i.size=sz:=by simpa [hq] using hs
   simp [sizeOf,typeInfo,hq,hs]
 have h6:=run_indexAt_slice (P:=Tryz.prog) (w:=w) T ⟨b,of,none⟩ n ((β k).c 0) .i64 (j:Int) hu
 rw [if_pos ⟨by omega,by omega⟩,hz] at h6
 simp only [Result.andThen_ok,Int.toNat_natCast,Addr.add_mid] at h6
 simp [go_sem,Nat.add_zero,h6]
def eIx {T:TypeId} (hu:Tryz.prog.underlying T=some (.slice (Tryz.prog.elem T))) {sz:Nat} (hs:(Tryz.prog.info? (Tryz.prog.elem T)).map (·.size)=some sz) {n N j:Nat} (L:Nat→List Lf) (hj:j<n) (hN:n≤N):Ev Tryz.prog:=.dyn (fun o _ _=>match o.op with
 | .indexAddr t _ _=>Nat.beq t T
 | _=>false) fun o xs _=>match o.op with
 | .indexAddr _ x y=>lit (lsYOf (xs.getD 0 undefS)) fun k=>.rd (o.dst.getD 0) (.indexAddr T x y) (fun β=>[.slice ((β k).v 0) n ((β k).c 0),.int .i64 (j:Int)]) [(k,(rwT sz N L).ob)] 0 (.one (.c (.b (.z k (j*sz))))) [] (fun β w h ρ o ho hx=>ls_ix hu hs hj hN k x y β w h ρ o ho hx)
 | _=>.cut
theorem ls_ld {T:TypeId} {d:TypeDesc} (hu:Tryz.prog.underlying T=some d) (hd:d.isRow=true) {sz:Nat} {n j:Nat} {L:Nat→List Lf} (hs:(Tryz.prog.info? T).map (·.size)=some (L j).length) (hL:∀ β,(L j).map (Lf.den β)=(L j).map (Lf.den idE)) (hj:j<n) (k:Nat) (x:Operand) (β:Env) (w:World) (h:holdsAll β w [(k,(rwT sz n L).ob)]) (ρ:Operand→Value) (o:Oper) (ho:o.op=.load T x)
  (hx:(Op.load T x).operands.toList.map ρ=[.pointer ((β k).v (j*sz))]):∃ ys w',fresh β w [(k,(rwT sz n L).ob)] ys∧(execOp ρ o).run Tryz.prog w=.ok (.value ((SV.one (.a (L j))).den (extE β 0 ys))) w'∧newHold w' [] ys∧Below w.heap.size w w':=by
 have h1:RwD sz n L w (β k):=h _ (List.mem_singleton.2 rfl)
 have h3:ρ x=.pointer ((β k).v (j*sz)):=by simpa [Op.operands] using hx
 rcases h1 with h1 | ⟨h0,b,of,cs,t,fr,h1,h2,h4,h5⟩
 · omega
 refine ⟨[],w,(fun _ h=>by cases h),?_,trivial,Below.refl _ _⟩
 unfold execOp
 rw [ho]
 dsimp only
 rw [h3,h1]
 have h6:=run_loadAt_mid (P:=Tryz.prog) w b (of+j*sz) T ((L j).map (Lf.den idE)) d (h5 j hj) hu hd (by rw [List.length_map]; exact hs)
 have e:((SV.one (.a (L j))).den (extE β 0 []))=.agg ((L j).map (Lf.den idE)).toArray:=by
  show Value.agg ((L j).map (Lf.den (extE β 0 []))).toArray=_
  rw [hL]
 rw [e]
 simp only [Sem.run_bind,h6,Result.andThen_ok]
 rfl
def eLd {T:TypeId} {d:TypeDesc} (hu:Tryz.prog.underlying T=some d) (hd:d.isRow=true) (sz:Nat) {n j:Nat} {L:Nat→List Lf} (hs:(Tryz.prog.info? T).map (·.size)=some (L j).length) (hL:∀ β,(L j).map (Lf.den β)=(L j).map (Lf.den idE)) (hj:j<n):Ev Tryz.prog:=.dyn (fun o xs _=>match o.op with
 | .load t _=>Nat.beq t T
 | _=>false) fun o xs _=>match o.op with
 | .load _ x=>lit (lsZOf (xs.getD 0 undefS)) fun k=>.rd (o.dst.getD 0) (.load T x) (fun β=>[.pointer ((β k).v (j*sz))]) [(k,(rwT sz n L).ob)] 0 (.one (.a (L j))) [] (fun β w h ρ o ho hx=>ls_ld hu hd hs hL hj k x β w h ρ o ho hx)
 | _=>.cut
theorem app_core {P:Program} (A:AppT P) (w:World) (ty:TypeId) {n m:Nat} {xs news:List Value} (old:Option (Nat × Nat)) (v:Value)
  (hold:(old=none∧n=0∧xs=[]∧v=.slice none 0 0)∨∃ b c,old=some (b,c)∧v=.slice (some ⟨b,0,none⟩) n c∧w.ownsRow 0 A.e A.sz v n xs)
  (ad:Addr) (cc:Nat) (hl:news.length=m*A.sz) (hnews:∀ j u,news[j]?=some u→w.cell? (ad.add j)=some u) (h1:∀ u∈news,u.oneCell'=true) (hm:0<m) (h63:n+m≤maxLen) (hb:(n+m)*A.bytes≤140737488355328) :
  ∃ g cap w',(Builtin.append_ #[A.t,A.t] ty #[v,.slice (some ad) m cc]).run P w=.ok (.slice (some ⟨g,0,none⟩) (n+m) cap) w'∧w'.ownsRow 0 A.e A.sz (.slice (some ⟨g,0,none⟩) (n+m) cap) (n+m) (xs++news) ∧
   ((w.heap.size≤g∧Below w.heap.size w w')∨∃ c,old=some (g,c)∧∃ N,Slot w g 0 N∧Touch w w' g 0 N):=by
 have hsmall:n+m≤9223372036854775807:=by simp only [maxLen] at h63; omega
 have grown:∀ (o:Nat),o<n+m→xs.length=n*A.sz →
   (w.drew.alloc (.cells (xs.toArray++news.toArray++Builtin.zeroCells A.z.cells (grownCap w (n+m) o A.e-(n+m))) A.e)).ownsRow 0 A.e A.sz
    (.slice (some ⟨w.heap.size,0,none⟩) (n+m) (grownCap w (n+m) o A.e)) (n+m) (xs++news) ∧
   Below w.heap.size w (w.drew.alloc (.cells (xs.toArray++news.toArray++Builtin.zeroCells A.z.cells (grownCap w (n+m) o A.e-(n+m))) A.e)):=by
  intro o ho hx
  have hge:=grownCap_ge w (n+m) o A.e
  have hcm:grownCap w (n+m) o A.e≤maxLen:=grownCap_le_maxLen w (n+m) o A.e h63
  have hlen:(xs++news).length=(n+m)*A.sz:=by rw [List.length_append,hx,hl,Nat.add_mul]
  refine ⟨⟨hlen,.inr ⟨w.heap.size,_,_,rfl,Nat.zero_le _,heap_alloc_new w.drew _,hge,hcm,?_,?_⟩⟩,⟨rfl,rfl,rfl,by simp,fun k hk=>Below.heap_alloc w.drew _ k hk⟩⟩
  · simp only [Array.size_append,List.size_toArray,size_zeroCells,A.hzs,hx,hl,← Nat.add_mul]
    congr 1
    omega
  · simp only [Array.toList_append,List.append_assoc]
    rw [← List.append_assoc,← hlen]
    exact List.take_left
 rcases hold with ⟨rfl,rfl,rfl,rfl⟩ | ⟨b,c,rfl,rfl,hown⟩
 · obtain ⟨g1,g2⟩:=grown 0 (by omega) (by simp)
   refine ⟨w.heap.size,grownCap w (0+m) 0 A.e,_,?_,g1,.inl ⟨Nat.le_refl _,g2⟩⟩
   have:=run_append_nil (P:=P) w A.t ty A.e A.i A.z A.ht A.hi A.hz ad m cc news (by rw [A.hsize]; exact hl) hnews hm (by omega) (by rw [A.hby]; rw [Nat.zero_add] at hb; omega)
   simpa using this
 · have hown2:=hown
   obtain ⟨hxl,h2⟩:=hown
   rcases h2 with ⟨e,_⟩ | ⟨g,cap,cur,e,_,hh,hnc,hcm,hcs,ht⟩
   · cases e
   injection e with e1 e2 e3
   injection e1 with e1
   injection e1 with e1
   subst e1 e3
   by_cases hroom:n+m≤c
   · have hfit:n*A.i.size+news.length≤cur.size:=by rw [hl,hcs,A.hsize,← Nat.add_mul]; exact Nat.mul_le_mul_right _ hroom
     have hr:=run_append_room (P:=P) w A.t ty A.e A.i A.ht A.hi b n c cur hh ad m cc news (by rw [A.hsize]; exact hl) hnews h1 hroom hfit
     have hsize:(cur.toList.take (n*A.i.size)++news++cur.toList.drop (n*A.i.size+news.length)).toArray.size=cur.size:=by
      simp only [List.size_toArray,List.length_append,List.length_take,List.length_drop,Array.length_toList]
      omega
     refine ⟨b,c,_,hr,⟨by rw [List.length_append,hxl,hl,Nat.add_mul],.inr ⟨b,c,_,rfl,Nat.zero_le _,setRow_heap w b cur _ A.e _ hh,hroom,hcm,by rw [hsize]; exact hcs,?_⟩⟩,.inr ⟨c,rfl,cur.size,⟨cur,A.e,hh,A.he,by omega⟩,?_⟩⟩
     · rw [A.hsize,ht]
       have hlen:(xs++news).length=(n+m)*A.sz:=by rw [List.length_append,hxl,hl,Nat.add_mul]
       rw [← hlen]
       exact List.take_left
     · exact ⟨rfl,rfl,rfl,by simp,fun k hk hne=>setRow_other w _ k _ hne,fun cs2 t2 fr2 h2=>by
        rw [hh] at h2
        obtain ⟨rfl,rfl,rfl⟩:=Obj.cells.inj (Option.some.inj h2)
        refine ⟨_,setRow_heap w _ _ _ _ _ hh,hsize,fun j hj=>?_⟩
        have hj2:cur.size≤j:=by omega
        rw [Array.getElem?_eq_none (by rw [hsize]; exact hj2),Array.getElem?_eq_none hj2]⟩
   · obtain ⟨g1,g2⟩:=grown c (by omega) hxl
     refine ⟨w.heap.size,grownCap w (n+m) c A.e,_,?_,g1,.inl ⟨Nat.le_refl _,g2⟩⟩
     exact run_append_grow (P:=P) w A.t ty A.e A.i A.z A.ht A.hi A.hz ⟨b,0,none⟩ n c xs (by rw [A.hsize]; exact hxl) (fun j u hu=>by
      have hj:j<n*A.sz:=by have:=(List.getElem?_eq_some_iff.1 hu).1; omega
      have:=hown2.cellAt j hj
      rw [Addr.add_mid,Nat.zero_add,this]
      exact hu) ad m cc news (by rw [A.hsize]; exact hl) hnews (by omega) (by omega) (growslice_fits (by omega) (by rw [A.hby]; exact hb))
def rwCs (L:Nat→List Lf) (n:Nat):List Value:=(List.range n).flatMap fun j=>(L j).map (Lf.den idE)
theorem rwCs_succ (L:Nat→List Lf) (n:Nat):rwCs L (n+1)=rwCs L n++(L n).map (Lf.den idE):=by
 unfold rwCs
 rw [List.range_succ,List.flatMap_append,List.flatMap_cons,List.flatMap_nil,List.append_nil]
theorem rwCs_len {sz:Nat} {L:Nat→List Lf}:∀ n,(∀ j,j<n→(L j).length=sz)→(rwCs L n).length=n*sz
 | 0,_=>by simp [rwCs]
 | n+1,h=>by rw [rwCs_succ,List.length_append,rwCs_len n fun j hj=>h j (by omega),List.length_map,h n (by omega),Nat.add_mul,Nat.one_mul]
theorem rwCs_get {sz:Nat} {L:Nat→List Lf} {i e:Nat} {v:Value} (hv:((L i).map (Lf.den idE))[e]?=some v):∀ n,(∀ j,j<n→(L j).length=sz)→i<n→(rwCs L n)[i*sz+e]?=some v
 | 0,_,h=>absurd h (Nat.not_lt_zero i)
 | n+1,hs,h=>by
  have he:e<(L i).length:=by have:=(List.getElem?_eq_some_iff.1 hv).1; rwa [List.length_map] at this
  have hl:(rwCs L n).length=n*sz:=rwCs_len n fun j hj=>hs j (by omega)
  rw [rwCs_succ]
  rcases Nat.lt_succ_iff_lt_or_eq.1 h with h1 | rfl
  · have:i*sz+sz≤n*sz:=by rw [← Nat.succ_mul]; exact Nat.mul_le_mul_right _ h1
    rw [List.getElem?_append_left (by rw [hl]; have:=hs i (by omega); omega)]
    exact rwCs_get hv n (fun j hj=>hs j (by omega)) h1
  · rw [List.getElem?_append_right (by rw [hl]; omega),hl,show i*sz+e-i*sz=e by omega]
    exact hv
theorem rwCs_at {sz:Nat} {L:Nat→List Lf} {k:Nat} {v:Value}:∀ n,(∀ j,j<n→(L j).length=sz)→(rwCs L n)[k]?=some v→∃ i e,i<n∧k=i*sz+e∧((L i).map (Lf.den idE))[e]?=some v
 | 0,_,h=>by simp [rwCs] at h
 | n+1,hs,h=>by
  have hl:(rwCs L n).length=n*sz:=rwCs_len n fun j hj=>hs j (by omega)
  rw [rwCs_succ] at h
  by_cases hk:k<n*sz
  · rw [List.getElem?_append_left (by omega)] at h
    obtain ⟨i,e,h1,h2,h3⟩:=rwCs_at n (fun j hj=>hs j (by omega)) h
    exact ⟨i,e,by omega,h2,h3⟩
  · rw [List.getElem?_append_right (by omega),hl] at h
    exact ⟨n,k-n*sz,by omega,by omega,h⟩
theorem rwCs_add (L:Nat→List Lf) (n:Nat):∀ m,rwCs L (n+m)=rwCs L n++rwCs (fun j=>L (n+j)) m
 | 0=>by simp [rwCs]
 | m+1=>by rw [← Nat.add_assoc,rwCs_succ,rwCs_succ,rwCs_add L n m,List.append_assoc]
def OrD (sz:Nat) (e:TypeId) (n:Nat) (L:Nat→List Lf) (w:World) (g:Pl):Prop :=
 (∀ c,g.F c↔c=g.b)∧(∀ m,g.v m=some ⟨g.b,m,none⟩)∧(0<n∧∀ j,j<n→(L j).length=sz)∧w.ownsRow 0 e sz (.slice (some ⟨g.b,0,none⟩) n (g.c 0)) n (rwCs L n)
theorem OrD.cells {sz:Nat} {e:TypeId} {n:Nat} {L:Nat→List Lf} {w:World} {g:Pl} (h:OrD sz e n L w g):∃ cur,w.heap[g.b]?=some (.cells cur e (0,0))∧n≤g.c 0∧g.c 0≤maxLen∧cur.size=g.c 0*sz∧cur.toList.take (n*sz)=rwCs L n:=by
 rcases h.2.2.2.2 with ⟨e1,_⟩ | ⟨g',cap,cur,e1,_,hh,h1,h2,h3,h4⟩
 · cases e1
 · injection e1 with e1 e2 e3
   injection e1 with e1
   injection e1 with e1
   subst e1 e3
   exact ⟨cur,hh,h1,h2,h3,h4⟩
theorem OrD.heap {sz:Nat} {e:TypeId} {n:Nat} {L:Nat→List Lf} {w w':World} {g:Pl} (h:OrD sz e n L w g) (k:w'.heap[g.b]?=w.heap[g.b]?):OrD sz e n L w' g:=by
 obtain ⟨cur,hh,h1,h2,h3,h4⟩:=h.cells
 exact ⟨h.1,h.2.1,h.2.2.1,h.2.2.2.1,.inr ⟨g.b,g.c 0,cur,rfl,Nat.zero_le _,by rw [k]; exact hh,h1,h2,h3,h4⟩⟩
theorem lr_stable (sz:Nat) (e:TypeId) (n:Nat) (L:Nat→List Lf):Stable (OrD sz e n L) :=
 ⟨fun w g h c hc=>by rw [(h.1 c).1 hc]; obtain ⟨cur,hh,_⟩:=h.cells; exact heap_some_lt hh,
  fun w w' g h k=>h.heap (k.block _ (by obtain ⟨cur,hh,_⟩:=h.cells; exact heap_some_lt hh)),
  fun w w' g b o m s h hs ht hF=>h.heap (ht.block _ (by obtain ⟨cur,hh,_⟩:=h.cells; exact heap_some_lt hh) fun e=>hF ((h.1 b).2 e.symm))⟩
theorem OrD.rw {sz:Nat} {e:TypeId} {n:Nat} {L:Nat→List Lf} (w:World) (g:Pl) (h:OrD sz e n L w g):RwD sz n L w g:=by
 obtain ⟨cur,hh,h1,h2,h3,h4⟩:=h.cells
 refine .inr ⟨h.2.2.1.1,g.b,0,cur,e,(0,0),fun m=>by rw [h.2.1,Nat.zero_add],h.1,hh,fun j hj i v hv=>?_⟩
 rw [cell_of_row _ _ _ _ _ _ hh,Nat.zero_add]
 have hi:i<(L j).length:=by have:=(List.getElem?_eq_some_iff.1 hv).1; rwa [List.length_map] at this
 have h5:=rwCs_get hv n h.2.2.1.2 hj
 have hlt:j*sz+i<n*sz:=by
  have:j*sz+sz≤n*sz:=by rw [← Nat.succ_mul]; exact Nat.mul_le_mul_right _ hj
  have:=h.2.2.1.2 j hj
  omega
 rw [← h4,List.getElem?_take_of_lt hlt] at h5
 rw [← Array.getElem?_toList]
 exact h5
def orT (sz:Nat) (e:TypeId) (n:Nat) (L:Nat→List Lf):Thing :=
 ⟨OrD sz e n L,lr_stable sz e n L,1,RwD sz n L,lsRw_stable sz n L,OrD.rw,false,fun h=>(Bool.noConfusion h),false,fun h=>(Bool.noConfusion h),false,fun h=>(Bool.noConfusion h),false,fun h=>(Bool.noConfusion h)⟩
def orO (sz:Nat) (e:TypeId) (n:Nat) (L:Nat→List Lf):Ob:=.ow (orT sz e n L) e
inductive OrB (β:Env) (sz:Nat) (e:TypeId) (n0:Nat) (L:Nat→List Lf):Option (Nat × Ob)→Value→Prop where
 | nil (h:n0=0):OrB β sz e n0 L none (.slice none 0 0)
 | row (K:Nat) (h:n0=0):OrB β sz e n0 L (some (K,.row [] e 0 sz)) (.slice (some ⟨(β K).b,0,none⟩) 0 ((β K).c 0))
 | own (K:Nat):OrB β sz e n0 L (some (K,orO sz e n0 L)) (.slice ((β K).v 0) n0 ((β K).c 0))
structure OrL (A:AppT Tryz.prog) (L:Nat→List Lf) (n:Nat):Prop where
 len:∀ j,j<n→(L j).length=A.sz
 one:∀ j,j<n→∀ u∈(L j).map (Lf.den idE),u.oneCell'=true
 max:n≤maxLen
 bytes:n*A.bytes≤140737488355328
theorem or_core (A:AppT Tryz.prog) {L:Nat→List Lf} {n0 m:Nat} (h:OrL A L (n0+m)) (hm:0<m) {β:Env} {w:World} {old:Option (Nat × Ob)} {v:Value} (hold:oldHolds β w old) (hk:OrB β A.sz A.e n0 L old v) (b of cc M:Nat)
  (hnews:∀ i,i<m→w.rangeAt b (of+i*A.sz) ((L (n0+i)).map (Lf.den idE))) (s y:Operand) (ρ:Operand→Value) (o:Oper) (ho:o.op=.call ⟨.builtin .append,#[s,y],#[A.t,A.t]⟩) (h1:ρ s=v) (h2:ρ y=.slice (some ⟨b,of,none⟩) m cc) :
  ∃ (g:Pl) (w':World),(execOp ρ o).run Tryz.prog w=.ok (.value ((SV.one (.c (.b (.y M 0 (n0+m))))).den (extE β M [g]))) w'∧(orO A.sz A.e (n0+m) L).holds (extE β M [g]) w' g∧Grow β w w' old g∧(∀ c,g.F c→c=g.b):=by
 have hnl:(rwCs (fun j=>L (n0+j)) m).length=m*A.sz:=rwCs_len m fun j hj=>h.len _ (by omega)
 have hnc:∀ j u,(rwCs (fun j=>L (n0+j)) m)[j]?=some u→w.cell? ((⟨b,of,none⟩:Addr).add j)=some u:=fun j u hu=>by
  obtain ⟨i,e,h3,h4,h5⟩:=rwCs_at m (fun j hj=>h.len (n0+j) (by omega)) hu
  have:=hnews i h3 e u h5
  rw [Addr.add_mid,h4,← Nat.add_assoc]
  exact this
 have hone:∀ u∈rwCs (fun j=>L (n0+j)) m,u.oneCell'=true:=fun u hu=>by
  obtain ⟨j,hj,hu⟩:=List.mem_flatMap.1 hu
  exact h.one _ (by have:=List.mem_range.1 hj; omega) u hu
 obtain ⟨ol,hol,hol2⟩:∃ ol:Option (Nat × Nat),((ol=none∧n0=0∧rwCs L n0=[]∧v=.slice none 0 0)∨∃ b c,ol=some (b,c)∧v=.slice (some ⟨b,0,none⟩) n0 c∧w.ownsRow 0 A.e A.sz v n0 (rwCs L n0)) ∧
   ∀ g c,ol=some (g,c)→∃ p,old=some p∧g=(β p.1).b:=by
  cases hk with
  | nil h0=>subst h0; exact ⟨none,.inl ⟨rfl,rfl,rfl,rfl⟩,fun g c e=>by cases e⟩
  | row K h0 =>
   subst h0
   obtain ⟨ho1,cur,hc1,hc2,hc3,hc4,hc5,hc6⟩:(Ob.row [] A.e 0 A.sz).holds β w (β K):=hold
   exact ⟨some ((β K).b,(β K).c 0),.inr ⟨_,_,rfl,rfl,by simp [rwCs],.inr ⟨_,_,cur,rfl,Nat.zero_le _,hc1,hc3,hc4,hc5,by simp [rwCs]⟩⟩,fun g c e=>by
    injection e with e
    injection e with e1 e2
    exact ⟨_,rfl,e1.symm⟩⟩
  | own K =>
   obtain ⟨_,hd⟩:(orO A.sz A.e n0 L).holds β w (β K):=hold
   have hd:OrD A.sz A.e n0 L w (β K):=hd
   have hv:=hd.2.1 0
   exact ⟨some ((β K).b,(β K).c 0),.inr ⟨_,_,rfl,by rw [hv],by rw [hv]; exact hd.2.2.2⟩,fun g c e=>by
    injection e with e
    injection e with e1 e2
    exact ⟨_,rfl,e1.symm⟩⟩
 obtain ⟨g,cap,w',hr,hown,hgr⟩:=app_core A w o.type ol v hol ⟨b,of,none⟩ cc hnl hnc hone hm h.max h.bytes
 rw [← rwCs_add] at hown
 obtain ⟨cur,hcur⟩:∃ cur,w'.heap[g]?=some (.cells cur A.e (0,0)):=by
  rcases hown.2 with ⟨e1,_⟩ | ⟨g',cap,cur,e1,_,hh,_⟩
  · cases e1
  · injection e1 with e1 e2 e3
    injection e1 with e1
    injection e1 with e1
    subst e1
    exact ⟨cur,hh⟩
 refine ⟨⟨g,fun m=>some ⟨g,m,none⟩,fun _=>cap,fun c=>c=g,fun _=>undef⟩,w',?_,⟨⟨rfl,A.he,_,hcur⟩,fun c=>Iff.rfl,fun m=>rfl,⟨by omega,h.len⟩,hown⟩,?_,fun c hc=>hc⟩
 · have e:(SV.one (.c (.b (.y M 0 (n0+m))))).den (extE β M [(⟨g,fun m=>some ⟨g,m,none⟩,fun _=>cap,fun c=>c=g,fun _=>undef⟩:Pl)])=.slice (some ⟨g,0,none⟩) (n0+m) cap:=by
    have:=extE_in (β:=β) (n:=M) (xs:=[(⟨g,fun m=>some ⟨g,m,none⟩,fun _=>cap,fun c=>c=g,fun _=>undef⟩:Pl)]) (i:=0) rfl
    simp only [Nat.add_zero] at this
    simp only [SV.den,SC.den,Lf.den,Lf0.den,this]
   rw [e]
   exact exec_append s y A.t ho h1 h2 hr
 · rcases hgr with ⟨k1,k2⟩ | ⟨c,k1,N,k2,k3⟩
   · exact .inl ⟨k1,k2⟩
   · obtain ⟨p,p1,p2⟩:=hol2 g c k1
     exact .inr ⟨p,p1,p2,N,k2,k3⟩
def isApT (t:TypeId) (o:Oper):Bool:=match o.op,o.dst with
 | .call ⟨.builtin .append,#[_,_],#[u,u']⟩,some _=>Nat.beq u t&&Nat.beq u' t
 | _,_=>false
def lsKOf:SV→Nat
 | .one (.c (.b (.y k _ _)))=>k
 | .one (.c (.b (.r k _)))=>k
 | .one (.c (.b (.s k _ _ _)))=>k
 | _=>0
inductive OrK where
 | nil
 | row
 | own
def OrK.old (k:OrK) (sz:Nat) (e:TypeId) (n0:Nat) (L:Nat→List Lf) (K:Nat):Option (Nat × Ob):=match k with
 | .nil=>none
 | .row=>some (K,.row [] e 0 sz)
 | .own=>some (K,orO sz e n0 L)
def OrK.val (k:OrK) (n0:Nat) (g:Pl):Value:=match k with
 | .nil=>.slice none 0 0
 | .row=>.slice (some ⟨g.b,0,none⟩) 0 (g.c 0)
 | .own=>.slice (g.v 0) n0 (g.c 0)
def OrK.ok (k:OrK) (n0:Nat):Prop:=match k with
 | .nil=>n0=0
 | .row=>n0=0
 | .own=>True
theorem OrK.orB {k:OrK} {n0:Nat} (h:k.ok n0) (β:Env) (sz:Nat) (e:TypeId) (L:Nat→List Lf) (K:Nat):OrB β sz e n0 L (k.old sz e n0 L K) (k.val n0 (β K)):=by
 cases k
 · exact .nil h
 · exact .row K h
 · exact .own K
def eApL (A:AppT Tryz.prog) (k:OrK) {n0 m N t:Nat} {L L':Nat→List Lf} (hk:k.ok n0) (ht:n0+m=t) (h:OrL A L t) (hm:0<m) (hN:m≤N) (hL:∀ i,i<m→L (n0+i)=L' i):Ev Tryz.prog:=.dynU (fun o _ _=>isApT A.t o) fun o xs ob=>match o.op,o.dst with
 | .call ⟨.builtin .append,#[s,y],_⟩,some d=>lit (lsKOf (xs.getD 0 undefS)) fun K=>lit (lsKOf (xs.getD 1 undefS)) fun a=>lit ob.length fun M =>
   .upd (some d) (.call ⟨.builtin .append,#[s,y],#[A.t,A.t]⟩) (fun β=>[k.val n0 (β K),.slice ((β a).v 0) m ((β a).c 0)]) [(a,(rwT A.sz N L').ob)] (k.old A.sz A.e n0 L K) M (orO A.sz A.e t L) (.one (.c (.b (.y M 0 t)))) (fun β w hh hold ρ o ho hx=>by
    subst ht
    have h3:ρ s=k.val n0 (β K)∧ρ y=.slice ((β a).v 0) m ((β a).c 0):=by simpa [Op.operands,Call.operands] using hx
    have hd:RwD A.sz N L' w (β a):=hh (a,(rwT A.sz N L').ob) (List.mem_singleton.2 rfl)
    rcases hd with hd | ⟨h0,b,of,cs,t,fr,d1,d2,d3,d4⟩
    · omega
    obtain ⟨g,w',r1,r2,r3,r4⟩:=or_core A h hm hold (OrK.orB hk β A.sz A.e L K) b of ((β a).c 0) M (fun i hi=>by rw [hL i hi]; exact d4 i (by omega)) s y ρ o ho h3.1 (by rw [h3.2,d1]; rfl)
    exact ⟨g,w',r1,r2,r3,fun c hc=>.inl (r4 c hc)⟩)
 | _,_=>.cut
def eAp1 (A:AppT Tryz.prog) (k:OrK) {n0:Nat} {L:Nat→List Lf} {cs:List Lf} (hk:k.ok n0) (h:OrL A L (n0+1)) (hL:L n0=cs) (hc:∀ β,cs.map (Lf.den β)=cs.map (Lf.den idE)):Ev Tryz.prog:=.dynU (fun o _ _=>isApT A.t o) fun o xs ob=>match o.op,o.dst with
 | .call ⟨.builtin .append,#[s,y],_⟩,some d=>lit (lsKOf (xs.getD 0 undefS)) fun K=>lit (lsKOf (xs.getD 1 undefS)) fun a=>lit ob.length fun M =>
   .upd (some d) (.call ⟨.builtin .append,#[s,y],#[A.t,A.t]⟩) (fun β=>[k.val n0 (β K),.slice (some ⟨(β a).b,0,none⟩) 1 1]) [(a,.box cs A.e)] (k.old A.sz A.e n0 L K) M (orO A.sz A.e (n0+1) L) (.one (.c (.b (.y M 0 (n0+1))))) (fun β w hh hold ρ o ho hx=>by
    have h3:ρ s=k.val n0 (β K)∧ρ y=.slice (some ⟨(β a).b,0,none⟩) 1 1:=by simpa [Op.operands,Call.operands] using hx
    have hd:(Ob.box cs A.e).holds β w (β a):=hh (a,.box cs A.e) (List.mem_singleton.2 rfl)
    obtain ⟨g,w',r1,r2,r3,r4⟩:=or_core A h (Nat.zero_lt_one) hold (OrK.orB hk β A.sz A.e L K) (β a).b 0 1 M (fun i hi=>by
     obtain rfl:i=0:=by omega
     rw [Nat.add_zero,hL,← hc β]
     intro j v hv
     rw [cell_of_row _ _ _ _ _ _ hd.2,Nat.zero_mul]
     simpa using hv) s y ρ o ho h3.1 h3.2
    exact ⟨g,w',r1,r2,r3,fun c hc=>.inl (r4 c hc)⟩)
 | _,_=>.cut
theorem ap_none (A:AppT Tryz.prog) (s y:Operand) (w:World) (v0:Option Addr) (c0:Nat) (v:Option Addr) (c:Nat) (ρ:Operand→Value) (o:Oper) (ho:o.op=.call ⟨.builtin .append,#[s,y],#[A.t,A.t]⟩) (h1:ρ s=.slice v0 0 c0) (h2:ρ y=.slice v 0 c):(execOp ρ o).run Tryz.prog w=.ok (.value (.slice v0 0 c0)) w:=by
 refine exec_append s y A.t ho h1 h2 (run_append_nothing w A.t A.t o.type A.e A.i A.ht A.hi v0 0 c0 (Nat.zero_le _) _ ?_)
 cases v with
 | none=>exact Src.ofNil w A.ht c
 | some a=>exact Src.ofSlice w A.ht a 0 c [] (by simp) (fun j u hu=>by simp at hu) (fun u hu=>by cases hu)
def eAp0 (A:AppT Tryz.prog) (k:OrK) (hk:k.ok 0) {N:Nat} {L':Nat→List Lf}:Ev Tryz.prog:=.dyn (fun o _ _=>isApT A.t o) fun o xs ob=>match o.op,o.dst with
 | .call ⟨.builtin .append,#[s,y],_⟩,some d=>lit (lsKOf (xs.getD 0 undefS)) fun K=>lit (lsKOf (xs.getD 1 undefS)) fun a =>
   .rd d (.call ⟨.builtin .append,#[s,y],#[A.t,A.t]⟩) (fun β=>[k.val 0 (β K),.slice ((β a).v 0) 0 ((β a).c 0)]) [] 0 (match k with
    | .nil=>.one (.c (.b (.v (.slice none 0 0))))
    | .row=>.one (.c (.b (.r K 0)))
    | .own=>.one (.c (.b (.y K 0 0)))) [] (fun β w hh ρ o ho hx=>by
    have h3:ρ s=k.val 0 (β K)∧ρ y=.slice ((β a).v 0) 0 ((β a).c 0):=by simpa [Op.operands,Call.operands] using hx
    refine ⟨[],w,(fun _ h=>by cases h),?_,trivial,Below.refl _ _⟩
    cases k
    · exact ap_none A s y w _ _ _ _ ρ o ho h3.1 h3.2
    · exact ap_none A s y w _ _ _ _ ρ o ho h3.1 h3.2
    · exact ap_none A s y w _ _ _ _ ρ o ho h3.1 h3.2)
 | _,_=>.cut
def lsOwAt:List Ob→Nat→Nat
 | [],_=>0
 | .ow _ _::_,k=>k
 | _::r,k=>lsOwAt r (k+1)
def eFrz:Ev Tryz.prog:=.frz fun ob=>lsOwAt ob 0
def eSl {T:TypeId} (hu:Tryz.prog.underlying T=some (.slice (Tryz.prog.elem T))) {sz:Nat} (hs:(Tryz.prog.info? (Tryz.prog.elem T)).map (·.size)=some sz) {N n:Nat} (hN:n≤N) (e:TypeId) (L:Nat→List Lf):Ev Tryz.prog:=.dyn (fun o _ _=>match o.op with
 | .slice t _ none (some _) none=>Nat.beq t T
 | _=>false) fun o xs _=>match o.op with
 | .slice _ x none (some y) none=>lit (lsKOf (xs.getD 0 undefS)) fun k=>.rd (o.dst.getD 0) (.slice T x none (some y) none) (fun β=>[.slice ((β k).v 0) N ((β k).c 0),.int .i64 (n:Int)]) [(k,.th (orT sz e N L))] 0 (.one (.c (.b (.y k 0 n)))) [] (fun β w h ρ o ho hx=>by
   have h3:ρ x=.slice ((β k).v 0) N ((β k).c 0)∧ρ y=.int .i64 (n:Int):=by simpa [Op.operands] using hx
   have hd:OrD sz e N L w (β k):=h (k,.th (orT sz e N L)) (List.mem_singleton.2 rfl)
   obtain ⟨cur,_,h1,_⟩:=hd.cells
   refine ⟨[],w,(fun _ h=>by cases h),?_,trivial,Below.refl _ _⟩
   have hz:((sizeOf (Tryz.prog.elem T)).run Tryz.prog w)=.ok sz w:=by
    cases hq:Tryz.prog.info? (Tryz.prog.elem T) with
    | none=>simp [hq] at hs
    | some i =>
     have hs:i.size=sz:=by simpa [hq] using hs
     simp [sizeOf,typeInfo,hq,hs]
   have h6:=run_slice_h (P:=Tryz.prog) (w:=w) T ((β k).v 0) N ((β k).c 0) hu .i64 (n:Int) (by omega) (by omega)
   rw [hz] at h6
   have e:((SV.one (.c (.b (.y k 0 n)))).den (extE β 0 []))=.slice ((β k).v 0) n ((β k).c 0):=rfl
   rw [e]
   unfold execOp
   rw [ho]
   dsimp only
   simp only [Option.map_none,Option.map_some,h3.1,h3.2]
   have h7:(Instr.sliceAt T (.slice ((β k).v 0) N ((β k).c 0)) none (some (.int .i64 (n:Int))) none).run Tryz.prog w=.ok (.slice ((β k).v 0) n ((β k).c 0)) w:=by
    rw [run_sliceAt_slice (P:=Tryz.prog) (w:=w) T _ _ _ _ hu,h6,hd.2.1 0]
    simp [sliced,Addr.add]
   simp only [Sem.run_bind,h7,Result.andThen_ok]
   rfl)
 | _=>.cut
end Go.Proofs.YtbepimnlleilfaaGreat.Y
end
