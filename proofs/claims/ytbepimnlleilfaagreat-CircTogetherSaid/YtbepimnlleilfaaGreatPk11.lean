/- EyE, MayP, Rs4, Pts, Alg, Rs7, Nrm, EyF, Rs8, MoA, MoC, EqM, MkA, Row, Osp, GsB, L4, CiA, CiB, GsC, GsD, Wof, Ops, Near, Txt, GsT, CiC, CiD. -/
import Derived.Deep.MidRow
import Derived.Test.YtbepimnlleilfaaGreatPk10
set_option linter.unnecessarySimpa false
set_option linter.unusedVariables false
set_option linter.unusedSimpArgs false
section
namespace Go.Proofs.YtbepimnlleilfaaGreat.Y
open Go Go.RowKit
set_option maxRecDepth 100000
def eqEv (t:TypeId) (xs ys:Array Value) (r:Bool) (hg:Tryz.prog.eqGuardType Tryz.prog.depth t=false) (h:∀ w,(Op.equalIn 10000 t (.agg xs) (.agg ys)).run Tryz.prog w=.ok r w):Ev Tryz.prog :=
 .dyn (fun o _ _=>match o.op with
  | .binOp .eql t' _ _ _=>Nat.beq t' t
  | .binOp .neq t' _ _ _=>Nat.beq t' t
  | _=>false) fun o _ _=>match o.op with
  | .binOp .eql _ a b u=>.gen (o.dst.getD 0) (.binOp .eql t a b u) [.agg xs,.agg ys] (.bool r) (fun ρ o w ho hx=>by
    simp only [Op.operands,List.map_cons,List.map_nil,List.cons.injEq] at hx
    exact exec_eql hg (h w) a b ρ o ho hx.1 hx.2.1)
  | .binOp .neq _ a b u=>.gen (o.dst.getD 0) (.binOp .neq t a b u) [.agg xs,.agg ys] (.bool (!r)) (fun ρ o w ho hx=>by
    simp only [Op.operands,List.map_cons,List.map_nil,List.cons.injEq] at hx
    exact exec_neq hg (h w) a b ρ o ho hx.1 hx.2.1)
  | _=>.eqv 0 undef undef rfl
def eqEvP (i i':Bool) (x y x' y':R4) (r:Bool) (h:((i==i')&&((x.eq x'&&(y.eq y'&&true))&&true))=r):Ev Tryz.prog :=
 eqEv 61 #[.bool i,.bool x.b,.string x.s,.bool x.c,.string x.t,.bool y.b,.string y.s,.bool y.c,.string y.t] #[.bool i',.bool x'.b,.string x'.s,.bool x'.c,.string x'.t,.bool y'.b,.string y'.s,.bool y'.c,.string y'.t] r (by kernel_rfl) (fun w=>by rw [← h]; exact eqP 9995 i i' x y x' y')
def spI:Pp→Bool
 | .fin ..=>false
 | _=>true
def spT:Pp→List Thing
 | .fin a b=>ofT a b
 | _=>gM g0
def sSpot (p:Pp):Spec Tryz.prog :=
 ⟨158,Tryz.call158,[.one (.a (lsX p.C))],[],.tup [.a [.b (.v (.bool (spI p))),.b (.z 0 0),.b (.z 1 0)],.c (.b (.v (.bool p.B)))],spT p,fun β w hh=>by
  rcases p with _ | ⟨a,b⟩ | ⟨x,y,h⟩
  · exact nilpair (r:=(SV.tup [.a [.b (.v (.bool true)),.b (.v (.pointer none)),.b (.v (.pointer none))],.c (.b (.v (.bool true)))]).den) (r':=(SV.tup [.a [.b (.v (.bool true)),.b (.z 0 0),.b (.z 1 0)],.c (.b (.v (.bool true)))]).den) (spec_auto (args:=[.one (.a (lsX Pp.inf.C))]) (obs:=[]) (res:=.tup [.a [.b (.v (.bool true)),.b (.v (.pointer none)),.b (.v (.pointer none))],.c (.b (.v (.bool true)))]) (news:=[]) (evs:=[]) (Ns:=[(2,2004005)]) (m:=400) Tryz.func158 hmA (fun β=>by kernel_rfl) (by kernel_rfl) β w hh) (by kernel_rfl)
  · cases a with
    | ok x hx=>cases b with
     | ok y hy=>exact spec_auto (obs:=[]) (evs:=[(sOf (.ok x hx) (.ok y hy)).e]) (Ns:=[(2,2004005)]) (m:=400) Tryz.func158 hmA (fun β=>by kernel_rfl) (by kernel_rfl) β w hh
     | no b2 c2 s2 t2 h2 u2 v2=>exact spec_auto (obs:=[]) (evs:=[(sOf (.ok x hx) (.no b2 c2 s2 t2 h2 u2 v2)).e]) (Ns:=[(2,2004005)]) (m:=400) Tryz.func158 hmA (fun β=>by kernel_rfl) (by kernel_rfl) β w hh
    | no b1 c1 s1 t1 h1 u1 v1=>cases b with
     | ok y hy=>exact spec_auto (obs:=[]) (evs:=[(sOf (.no b1 c1 s1 t1 h1 u1 v1) (.ok y hy)).e]) (Ns:=[(2,2004005)]) (m:=400) Tryz.func158 hmA (fun β=>by kernel_rfl) (by kernel_rfl) β w hh
     | no b2 c2 s2 t2 h2 u2 v2=>exact spec_auto (obs:=[]) (evs:=[(sOf (.no b1 c1 s1 t1 h1 u1 v1) (.no b2 c2 s2 t2 h2 u2 v2)).e]) (Ns:=[(2,2004005)]) (m:=400) Tryz.func158 hmA (fun β=>by kernel_rfl) (by kernel_rfl) β w hh
  · exact nilpair (r:=(SV.tup [.a [.b (.v (.bool true)),.b (.v (.pointer none)),.b (.v (.pointer none))],.c (.b (.v (.bool false)))]).den) (r':=(SV.tup [.a [.b (.v (.bool true)),.b (.z 0 0),.b (.z 1 0)],.c (.b (.v (.bool false)))]).den) (spec_auto (args:=[.one (.a (lsX (Pp.odd x y h).C))]) (obs:=[]) (res:=.tup [.a [.b (.v (.bool true)),.b (.v (.pointer none)),.b (.v (.pointer none))],.c (.b (.v (.bool false)))]) (news:=[]) (evs:=[eqEvP true true x y r40 r40 false (odd_ne h)]) (Ns:=[(2,2004005)]) (m:=400) Tryz.func158 hmA (fun β=>by kernel_rfl) (by kernel_rfl) β w hh) (by kernel_rfl),by
  rcases p with _ | ⟨_ | _,_ | _⟩ | _<;>kernel_rfl⟩
theorem fitG_sz {z:GQ} (h:FitG z):GSz 1024 z:=⟨h.1.sz,h.2.sz⟩
end Go.Proofs.YtbepimnlleilfaaGreat.Y
end
section
namespace Go.Proofs.YtbepimnlleilfaaGreat
open Go.Proofs.YtbepimnlleilfaaGreat.Y
open Go Go.RowKit
set_option maxRecDepth 100000
def Fp.mayE:Fp→Ev Tryz.prog
 | .ok x h=>eMayF x h
 | .no b c s t h hs ht=>eMay b c s t hs ht false ⟨fun e=>Bool.noConfusion e,fun e=>absurd e h⟩
def gMayE (a b:Fp):List (Ev Tryz.prog):=match a with
 | .ok ..=>[a.mayE,b.mayE]
 | .no ..=>[a.mayE]
def sGMay (a b:Fp):Y.Spec Tryz.prog :=
 Y.Spec.auto Tryz.call295 [.one (.a (a.C++b.C))] [] (.one (.c (.b (.v (.bool (a.B&&b.B)))))) []
  (gMayE a b) [] 400 Tryz.func295 hmA (by cases a<;>cases b<;>kernel_rfl) (fun β=>by cases a<;>cases b<;>kernel_rfl)
theorem Sz.le {i k:Nat} {x:Rat} (h:Sz i x) (hk:Nat.ble i k=true:=by decide):Sz k x:=h.mono (Nat.le_of_ble_eq_true hk)
abbrev svG (z:GQ):SV:=.one (.a (gC z))
abbrev svF (x:Rat):SV:=.one (.a (fC x))
section
variable {z w:GQ} {x:Rat}
def sR4Times (hz:GSz KE z) (hw:GSz KE w):Y.Spec Tryz.prog:=Y.Spec.auto Tryz.call51 [svG z,svG w] [] (svG (gmul z w)) []
 [(sR3Times hz.1.le hw.1.le).e,(sR3Times hz.2.le hw.2.le).e,(sR3Minus (hz.1.mul hw.1).le (hz.2.mul hw.2).le).e,(sR3Times hz.1.le hw.2.le).e,(sR3Times hz.2.le hw.1.le).e,(sR3Plus (hz.1.mul hw.2).le (hz.2.mul hw.1).le).e] [(1,12),(2,12)] 400 Tryz.func51 hmA (by kernel_rfl) (fun β=>by kernel_rfl)
def sR4Dot (hz:GSz KE z) (hw:GSz KE w):Y.Spec Tryz.prog:=Y.Spec.auto Tryz.call299 [svG z,svG w] [] (svF (z.re*w.re+z.im*w.im)) []
 [(sR3Times hz.1.le hw.1.le).e,(sR3Times hz.2.le hw.2.le).e,(sR3Plus (hz.1.mul hw.1).le (hz.2.mul hw.2).le).e] [(1,11)] 400 Tryz.func299 hmA (by kernel_rfl) (fun β=>by kernel_rfl)
def sR4Norm (hz:GSz KE z):Y.Spec Tryz.prog:=Y.Spec.auto Tryz.call179 [svG z] [] (svF (gnorm z)) [] [(sR4Dot hz hz).e] [] 400 Tryz.func179 hmA (by kernel_rfl) (fun β=>by kernel_rfl)
end
def sR4Int (n m:Int) (hn : -9223372036854775808≤n∧n≤9223372036854775807:=by decide) (hm : -9223372036854775808≤m∧m≤9223372036854775807:=by decide):Y.Spec Tryz.prog :=
 Y.Spec.auto Tryz.call55 [.one (.c (.b (.v (.int .i64 n)))),.one (.c (.b (.v (.int .i64 m))))] [] (svG (gint n m)) [] [(sR3Int n hn).e,(sR3Int m hm).e] [] 400 Tryz.func55 hmA (by kernel_rfl) (fun β=>by kernel_rfl)
def sR4Fits (z:GQ) {b:Bool} (hb:b=true↔FitG z):Y.Spec Tryz.prog :=
 ⟨208,Tryz.call208,[svG z],[],.one (.c (.b (.v (.bool b)))),[],fun β w hh=>by
  by_cases h1:Fit z.re
  · have h2:b=true↔Fit z.im:=hb.trans ⟨fun h=>h.2,fun h=>⟨h1,h⟩⟩
    cases b<;>exact spec_auto (evs:=[eFFit (iff_true_of h1),eFFit h2]) (Ns:=[]) (m:=400) Tryz.func208 hmA (fun β=>by kernel_rfl) (by kernel_rfl) β w hh
  · obtain rfl:=eq_false_of hb fun h=>h1 h.1
    exact spec_auto (evs:=[eFFit (iff_false_of h1)]) (Ns:=[]) (m:=400) Tryz.func208 hmA (fun β=>by kernel_rfl) (by kernel_rfl) β w hh,by kernel_rfl⟩
def Fp.may3:Fp→Y.Spec Tryz.prog
 | .ok x h=>sR3May _ _ _ _ true (iff_true_of (fitF x h))
 | .no b c s t h hs ht=>sR3May b c s t false (iff_false_of h)
def may4E (a b:Fp):List (Ev Tryz.prog):=match a with
 | .ok ..=>[a.may3.e,b.may3.e]
 | .no ..=>[a.may3.e]
def sR4May (a b:Fp):Y.Spec Tryz.prog :=
 Y.Spec.auto Tryz.call75 [.one (.a (a.C++b.C))] [] (.one (.c (.b (.v (.bool (a.B&&b.B)))))) [] (may4E a b) [] 400 Tryz.func75 hmA (by cases a<;>cases b<;>kernel_rfl) (fun β=>by cases a<;>cases b<;>kernel_rfl)
def Fp.raw:Fp→R4
 | .ok x _=>⟨decide (x.num<0),mag x.num.natAbs,false,mag x.den⟩
 | .no b c s t _ _ _=>⟨b,s,c,t⟩
def Pp.rI:Pp→Bool
 | .fin ..=>false
 | _=>true
def Pp.rX:Pp→R4
 | .inf=>r40
 | .fin a _=>a.raw
 | .odd x _ _=>x
def Pp.rY:Pp→R4
 | .inf=>r40
 | .fin _ b=>b.raw
 | .odd _ y _=>y
def rawC (i:Bool) (x y:R4):List Lf:=.b (.v (.bool i))::(x.L++y.L)
theorem Pp.C_raw (p:Pp):p.C=rawC p.rI p.rX p.rY:=by rcases p with _ | ⟨_ | _,_ | _⟩ | _<;>rfl
def Y.Spec.as {P:Program} (S:Y.Spec P) (args:List SV) (res:SV) (ha:S.args=args) (hr:S.res=res):Y.Spec P :=
 ⟨S.f,S.en,args,S.obs,res,S.news,fun β w hh=>by subst ha; subst hr; exact S.ok β w hh,by subst ha; subst hr; exact S.closed⟩
def fR (x:Rat):R4:=⟨decide (x.num<0),mag x.num.natAbs,false,mag x.den⟩
def Pt.i:Pt→Bool
 | .inf=>true
 | .fin _=>false
def Pt.x:Pt→R4
 | .inf=>r40
 | .fin z=>fR z.re
def Pt.y:Pt→R4
 | .inf=>r40
 | .fin z=>fR z.im
abbrev svR (i:Bool) (x y:R4):SV:=.one (.a (rawC i x y))
abbrev svP (p:Pt):SV:=svR p.i p.x p.y
def FitP:Pt→Prop
 | .inf=>True
 | .fin z=>FitG z
theorem FitP.sz {p:Pt} (h:FitP p):PSz 1024 p:=by
 cases p
 · trivial
 · exact ⟨h.1.sz,h.2.sz⟩
structure Rw where
 i:Bool
 x:R4
 y:R4
def Rw.ok (r:Rw):Prop:=(r.x.s.size≤maxLen∧r.x.t.size≤maxLen)∧r.y.s.size≤maxLen∧r.y.t.size≤maxLen
def Pt.w (p:Pt):Rw:=⟨p.i,p.x,p.y⟩
def Pp.w (p:Pp):Rw:=⟨p.rI,p.rX,p.rY⟩
theorem fp_of (x:R4) (h1:x.s.size≤maxLen) (h2:x.t.size≤maxLen):∃ a:Fp,a.raw=x:=by
 obtain ⟨b,s,c,t⟩:=x
 rcases fp_all b c s t with ⟨q,h,rfl,rfl,rfl,rfl⟩ | h
 · exact ⟨.ok q h,rfl⟩
 · exact ⟨.no b c s t h h1 h2,rfl⟩
theorem pp_of (r:Rw) (h:r.ok):∃ p:Pp,p.w=r:=by
 obtain ⟨i,x,y⟩:=r
 cases i
 · obtain ⟨a,rfl⟩:=fp_of x h.1.1 h.1.2
   obtain ⟨b,rfl⟩:=fp_of y h.2.1 h.2.2
   exact ⟨.fin a b,rfl⟩
 · by_cases h0:x=⟨false,⟨#[]⟩,false,⟨#[]⟩⟩∧y=⟨false,⟨#[]⟩,false,⟨#[]⟩⟩
   · obtain ⟨rfl,rfl⟩:=h0
     exact ⟨.inf,rfl⟩
   · exact ⟨.odd x y h0,rfl⟩
theorem fR_inj {x y:Rat} (h:fR x=fR y):x=y:=by
 injection h with h1 h2 h3 h4
 have hn:x.num.natAbs=y.num.natAbs:=mag_inj h2
 have hd:x.den=y.den:=mag_inj h4
 have hb:(x.num<0)=(y.num<0):=by simpa using h1
 refine Rat.ext ?_ hd
 by_cases h0:x.num<0
 · have:y.num<0:=by rw [← hb]; exact h0
   omega
 · have:¬ y.num<0:=by rw [← hb]; exact h0
   omega
theorem Pt.w_inj {p q:Pt} (h:p.w=q.w):p=q:=by
 cases p<;>cases q
 · rfl
 · injection h with h1; cases h1
 · injection h with h1; cases h1
 · rename_i z w
   injection h with _ h2 h3
   exact congrArg Pt.fin (GQ.ext2 (fR_inj h2) (fR_inj h3))
def rwB (i i':Bool) (x y x' y':R4):Bool:=(i==i')&&((x.eq x'&&(y.eq y'&&true))&&true)
theorem rwB_iff {i i':Bool} {x y x' y':R4}:rwB i i' x y x' y'=true↔i=i'∧x=x'∧y=y':=by
 unfold rwB
 simp only [Bool.and_true,Bool.and_eq_true,R4.eq_iff,beq_iff_eq]
def ptB (p q:Pt):Bool:=rwB p.i q.i p.x p.y q.x q.y
theorem ptB_iff {p q:Pt}:ptB p q=true↔p=q:=by
 unfold ptB
 rw [rwB_iff]
 constructor
 · rintro ⟨h1,h2,h3⟩
   exact Pt.w_inj (by unfold Pt.w; rw [h1,h2,h3])
 · rintro rfl; exact ⟨rfl,rfl,rfl⟩
theorem gz_true {z:GQ}:gzero z=true↔z=g0:=by
 rw [gzero_iff]
 exact ⟨fun h=>GQ.ext2 h.1 h.2,fun h=>by rw [h]; exact ⟨rfl,rfl⟩⟩
structure BSpec (P:Program) where
 f:FuncId
 en:Enters P f
 args:List SV
 cs:List Lf
 t:TypeId
 r:Value
 ok:∀ β w,(Ob.box cs t).holds β w (β 0)→Calls P f (args.map (SV.den β)).toArray w fun e w'=>e=.returned r∧Below w.heap.size w w'
 cl:(cs.all (Lf.of fun _=>false)&&args.all (SV.of fun k=>Nat.beq k 0))=true
 hr:∀ β,(tag r).den β=r
def bkOf:List SV→Nat
 | []=>0
 | .one (.c (.b (.s k _ _ _)))::_=>k
 | _::r=>bkOf r
theorem cells_closed {β β':Env} {cs:List Lf} (h:cs.all (Lf.of fun _=>false)=true):cs.map (Lf.den β)=cs.map (Lf.den β') :=
 List.map_congr_left fun x hx=>Lf.den_congr (q:=fun _=>false) (fun k hk=>by cases hk) x (List.all_eq_true.1 h x hx)
def BSpec.e {P:Program} (S:BSpec P):Ev P:=.dyn (fun o _ _=>isCallB o) fun _ xs ob=>lit (bkOf xs) fun i =>
 .call S.f S.en (fun β=>(S.args.map (SV.den fun _=>β i)).toArray) [(i,.box S.cs S.t)] 0 (tag S.r) [] (fun β w h=>of_pure0 (by
  have hc:=S.cl
  rw [Bool.and_eq_true] at hc
  refine S.ok (fun _=>β i) w ?_
  have h1:(β i).one∧w.heap[(β i).b]?=some (.cells (S.cs.map (Lf.den β)).toArray S.t (0,0)):=h _ (List.mem_singleton.2 rfl)
  show (β i).one∧w.heap[(β i).b]?=some (.cells (S.cs.map (Lf.den fun _=>β i)).toArray S.t (0,0))
  rw [cells_closed (β':=β) hc.1]
  exact h1) S.hr)
theorem bspec_ok {P:Program} {f:FuncId} {fn:Func} {args:List SV} {cs:List Lf} {t:TypeId} {r:Value} (evs:List (Ev P)) (Ns:List (Nat × Nat)) (m:Nat) (hf:P.funcs[f]?=some fn) (hm:P.follows .mixedOrders=true)
  (h:∀ β,(allS P fn args [.box cs t] evs Ns m (tag r) [] β).map Prod.fst=(allS P fn args [.box cs t] evs Ns m (tag r) [] β).map Prod.snd)
  (hB:(args.all (SV.of fun k=>Nat.blt k 1)&&[Ob.box cs t].all fun x=>x.of (fun k=>Nat.blt k 1)&&x.own)=true) (hr:∀ β,(tag r).den β=r) (β:Env) (w:World) (hh:(Ob.box cs t).holds β w (β 0)) :
  Calls P f (args.map (SV.den β)).toArray w fun e w'=>e=.returned r∧Below w.heap.size w w':=by
 rw [Bool.and_eq_true] at hB
 refine (sx (P:=P) args [.box cs t] evs Ns m (tag r) [] hf hm (fun β=>ok_of_maps (h β)) hB.1 hB.2 β w (fun k o ho=>?_)).mono ?_
 · cases k with
   | zero=>simp only [List.getElem?_cons_zero] at ho; obtain rfl:=Option.some.inj ho; exact hh
   | succ k=>simp at ho
 · rintro e w' ⟨β',q,obj,e1,rfl,e2,e4,e5,g⟩
   exact ⟨by rw [hr],g.bel⟩
def big (k:Nat) (s:ByteArray):Bool:=decide ((k:Int)<(s.size:Int))
def Rw.C (r:Rw):List Lf:=rawC r.i r.x r.y
def Pp.may7E:Pp→List (Ev Tryz.prog)
 | .inf=>[]
 | .fin a b=>[(sR4May a b).e]
 | .odd x y h=>[eqEvP true true x y r40 r40 false (odd_ne h)]
def sR7May0 (p:Pp):Y.Spec Tryz.prog :=
 Y.Spec.auto Tryz.call36 [.one (.a p.C)] [] (.one (.c (.b (.v (.bool p.B))))) []
  p.may7E [] 400 Tryz.func36 hmA (by rcases p with _ | ⟨_ | _,_ | _⟩ | _<;>kernel_rfl) (fun β=>by rcases p with _ | ⟨_ | _,_ | _⟩ | _<;>kernel_rfl)
def sR7May (p:Pp) {b:Bool} (hb:p.B=b):Y.Spec Tryz.prog :=
 (sR7May0 p).as [svR p.rI p.rX p.rY] (.one (.c (.b (.v (.bool b))))) (congrArg (fun l=>[SV.one (.a l)]) (Pp.C_raw p)) (congrArg (fun b=>SV.one (.c (.b (.v (.bool b))))) hb)
theorem ptB_ne' {p q:Pt} (h:p≠q):ptB p q=false:=by
 cases k:ptB p q
 · rfl
 · exact absurd (ptB_iff.1 k) h
def mid (t:Bool):MQ:=⟨gint 1 0,g0,g0,gint 1 0,t⟩
end Go.Proofs.YtbepimnlleilfaaGreat
end
section
namespace Go.Proofs.YtbepimnlleilfaaGreat.Y
open Go Go.RowKit
set_option maxRecDepth 100000
theorem an_mem {w:World} {D1 D2:Thing} {xs:List Pl} (h:newHold w [D1,D2] xs):newHold w [anyT,anyT] xs:=by
 match xs,h with
 | [p,q],h=>exact ⟨an_of D1.st h.1,an_of D2.st h.2.1,trivial⟩
theorem spT_any {w:World} {p:Pp} {xs:List Pl} (h:newHold w (spT p) xs):newHold w [anyT,anyT] xs:=by
 rcases p with _ | ⟨_ | _,_ | _⟩ | _<;>exact an_mem h
def sSpotW (p:Pp) {r:Bool} (hr:p.B=r):Spec Tryz.prog :=
 ⟨158,Tryz.call158,[.one (.a (lsX p.w.C))],[],.tup [.a [.b (.v (.bool (spI p))),.b (.z 0 0),.b (.z 1 0)],.c (.b (.v (.bool r)))],[anyT,anyT],fun β w hh=>by
  rw [← hr]
  have h:=(sSpot p).ok β w hh
  rw [show (sSpot p).args=[.one (.a (lsX p.w.C))] from congrArg (fun l=>[SV.one (.a (lsX l))]) p.C_raw] at h
  exact h.mono fun e w' ⟨xs,h1,he,h2,h3⟩=>⟨xs,h1,he,spT_any h2,h3⟩,by kernel_rfl⟩
def sSpotP (p:Pt) (h:FitP p):Spec Tryz.prog :=
 ⟨158,Tryz.call158,[.one (.a (lsX p.w.C))],[],.tup [.a (pL 0 p),.c (.b (.v (.bool true)))],pM p,fun β w hh=>by
  cases p with
  | inf=>exact (sSpot .inf).ok β w hh
  | fin z =>
   refine ((sSpot (.fin (.ok z.re h.1) (.ok z.im h.2))).ok β w hh).mono fun e w' ⟨xs,h1,he,h2,h3⟩=>⟨xs,h1,he,?_,h3⟩
   have h4:newHold w' [ratT z.re,ratT z.im] xs:=h2
   match xs,h4 with
   | [a,b],h4=>exact ⟨(ratT z.re).imp _ _ h4.1,(ratT z.im).imp _ _ h4.2.1,trivial⟩,by kernel_rfl⟩
def MayQ (q:MQ):Prop:=FitM q∧gzero (mdet q)=false∧(gzero (gsub q.c (gint 1 0))=true∨gzero q.c=true∧gzero (gsub q.d (gint 1 0))=true)
end Go.Proofs.YtbepimnlleilfaaGreat.Y
end
section
namespace Go.Proofs.YtbepimnlleilfaaGreat
open Go.Proofs.YtbepimnlleilfaaGreat.Y
open Go Go.RowKit
set_option maxRecDepth 100000
abbrev KT:Nat:=125
abbrev P6 (p q r s u v:Pt) (k:Pt→Prop):Prop:=k p∧k q∧k r∧k s∧k u∧k v
end Go.Proofs.YtbepimnlleilfaaGreat
end
section
namespace Go.Proofs.YtbepimnlleilfaaGreat.Y
open Go Go.RowKit
set_option maxRecDepth 100000
def eqEvPt {p q:Pt} {r:Bool} (h:ptB p q=r):Ev Tryz.prog:=eqEvP p.i q.i p.x p.y q.x q.y r h
structure Gp where
 a:Fr
 b:Fr
def Gp.C (g:Gp):SV:=.one (.a (rL g.a.r++rL g.b.r))
def Gp.B (g:Gp):Bool:=g.a.a.B&&g.b.a.B
abbrev tB' (t:Bool):SV:=.one (.c (.b (.v (.bool t))))
abbrev nI' (k:Int):SC:=.c (.b (.v (.int .i64 k)))
abbrev gS (z:GQ):SV:=.one (.a (lsX (gC z)))
end Go.Proofs.YtbepimnlleilfaaGreat.Y
end
section
namespace Go.Proofs.YtbepimnlleilfaaGreat
open Go.Proofs.YtbepimnlleilfaaGreat.Y
open Go Go.RowKit
set_option maxRecDepth 100000
abbrev svI (n:Int):SC:=.c (.b (.v (.int .i64 n)))
theorem sz_lit1 {n:Int} (h:n.natAbs<256):Fit (Rat.divInt n 1):=(Sz.small h).fit (by decide)
theorem fit_int {n m:Int} (h:n.natAbs<256) (k:m.natAbs<256):FitG (gint n m):=⟨sz_lit1 h,sz_lit1 k⟩
def gV (a a':R4):Array Value:=#[.bool a.b,.string a.s,.bool a.c,.string a.t,.bool a'.b,.string a'.s,.bool a'.c,.string a'.t]
def geq (x y x' y':R4):Bool:=x.eq x'&&(y.eq y'&&true)
theorem geq_self (x y:R4):geq x y x y=true:=by
 unfold geq
 rw [R4.eq_iff.2 rfl,R4.eq_iff.2 rfl]; rfl
abbrev pI (n m:Int):Pt:=.fin (gint n m)
theorem pI_ne {n m n' m':Int} (h:¬ (n=n'∧m=m')):pI n m≠pI n' m':=fun e=>h (by
 injection e with e
 injection e with e1 e2
 have k1:=congrArg Rat.num e1
 have k2:=congrArg Rat.num e2
 rw [(divInt_one n).1,(divInt_one n').1] at k1
 rw [(divInt_one m).1,(divInt_one m').1] at k2
 exact ⟨k1,k2⟩)
end Go.Proofs.YtbepimnlleilfaaGreat
end
section
namespace Go.Proofs.YtbepimnlleilfaaGreat.Y
open Go Go.RowKit
set_option maxRecDepth 100000
theorem fit00:FitG (gint 0 0):=fit_int (by decide) (by decide)
def frX (x:Rat) (h:Fit x):Fr:=⟨fR x,.ok x h,rfl⟩
def gpX (z:GQ) (h:FitG z):Gp:=⟨frX z.re h.1,frX z.im h.2⟩
inductive Gn where
 | ok (z:GQ) (h:FitG z)
 | no (g:Gp) (h:g.B=false)
def Gn.B:Gn→Bool
 | .ok ..=>true
 | .no ..=>false
def Gn.z:Gn→GQ
 | .ok z _=>z
 | .no ..=>g0
inductive Cd where
 | v (x:Value)
 | r (x:Rat)
 | t (x:Rat)
def cd1 (g:Pl) (i:Nat):Cd→Value
 | .v x=>x
 | .r _=>.pointer (g.v i)
 | .t _=>.pointer (g.v i)
def cdV (g:Pl):Nat→List Cd→List Value
 | _,[]=>[]
 | i,c::l=>cd1 g i c::cdV g (i+1) l
def cdP (w:World) (g:Pl) (i:Nat):Cd→Prop
 | .v _=>True
 | .r x=>(g.v i=none∧x=0)∨∃ b,g.v i=some ⟨b,0,none⟩∧g.F b∧RatAt w b 0 x
 | .t x=>∃ b,g.v i=some ⟨b,0,none⟩∧g.F b∧RatAt w b 0 x
def cdOk (w:World) (g:Pl):Nat→List Cd→Prop
 | _,[]=>True
 | i,c::l=>cdP w g i c∧cdOk w g (i+1) l
theorem cdV_at {g:Pl}:∀ {l:List Cd} {i j:Nat} {c:Cd},l[j]?=some c→(cdV g i l)[j]?=some (cd1 g (i+j) c)
 | _::_,i,0,c,h=>by
  simp only [List.getElem?_cons_zero] at h
  obtain rfl:=Option.some.inj h
  rfl
 | _::l,i,j+1,c,h=>by
  have:=cdV_at (g:=g) (l:=l) (i:=i+1) (j:=j) (c:=c) (by simpa using h)
  rw [show i+(j+1)=i+1+j by omega]
  simpa [cdV] using this
theorem cdOk_at {w:World} {g:Pl}:∀ {l:List Cd} {i j:Nat} {c:Cd},cdOk w g i l→l[j]?=some c→cdP w g (i+j) c
 | _::_,i,0,c,h,hl=>by
  simp only [List.getElem?_cons_zero] at hl
  obtain rfl:=Option.some.inj hl
  exact h.1
 | _::l,i,j+1,c,h,hl=>by
  rw [show i+(j+1)=i+1+j by omega]
  exact cdOk_at (l:=l) h.2 (by simpa using hl)
theorem cdP_below {w w':World} {g:Pl} {i:Nat} (hb:Below w.heap.size w w'):∀ c:Cd,cdP w g i c→cdP w' g i c
 | .v _,_=>trivial
 | .r x,h=>h.imp id fun ⟨b,h1,h2,h3⟩=>⟨b,h1,h2,h3.on hb⟩
 | .t x,⟨b,h1,h2,h3⟩=>⟨b,h1,h2,h3.on hb⟩
theorem cdP_touch {w w':World} {g:Pl} {i b o n:Nat} (hs:NW w b) (ht:Touch w w' b o n) (hne:¬ g.F b):∀ c:Cd,cdP w g i c→cdP w' g i c
 | .v _,_=>trivial
 | .r x,h=>h.imp id fun ⟨d,h1,h2,h3⟩=>⟨d,h1,h2,RatAt.touchN h3 hs ht fun e=>hne (e▸h2)⟩
 | .t x,⟨d,h1,h2,h3⟩=>⟨d,h1,h2,RatAt.touchN h3 hs ht fun e=>hne (e▸h2)⟩
theorem cdOk_map {w w':World} {g:Pl} (h:∀ i c,cdP w g i c→cdP w' g i c):∀ {l:List Cd} {i:Nat},cdOk w g i l→cdOk w' g i l
 | [],_,_=>trivial
 | c::l,i,k=>⟨h i c k.1,cdOk_map h k.2⟩
def RW (e:TypeId) (cs:List Cd) (w:World) (g:Pl):Prop :=
 (g.F g.b∧∃ cur:Array Value,w.heap[g.b]?=some (.cells cur e (0,0))∧cur.toList.take cs.length=cdV g 0 cs)∧(cdOk w g 0 cs∧g.v cs.length=some ⟨g.b,0,none⟩)∧∀ c,g.F c→c<w.heap.size
theorem rw_stable (e:TypeId) (cs:List Cd):Stable (RW e cs) :=
 ⟨fun w g h=>h.2.2,
  fun w w' g ⟨⟨hf,cur,h1,h2⟩,⟨h3,h5⟩,h4⟩ hb=>⟨⟨hf,cur,by rw [hb.block g.b (heap_lt h1)]; exact h1,h2⟩,⟨cdOk_map (fun i c=>cdP_below hb c) h3,h5⟩,fun c hc=>Nat.lt_of_lt_of_le (h4 c hc) hb.size⟩,
  fun w w' g b o n m ⟨⟨hf,cur,h1,h2⟩,⟨h3,h5⟩,h4⟩ hs ht hne=>⟨⟨hf,cur,by rw [ht.block g.b (heap_lt h1) fun e=>hne (e▸hf)]; exact h1,h2⟩,⟨cdOk_map (fun i c=>cdP_touch hs ht hne c) h3,h5⟩,
   fun c hc=>Nat.lt_of_lt_of_le (h4 c hc) (ht.below (B:=0) (Nat.zero_le _) (Nat.zero_le _)).size⟩⟩
def rowT (e:TypeId) (cs:List Cd):Thing:=thing (RW e cs) (rw_stable e cs)
def cellPl (g:Pl) (i:Nat):Pl:=⟨(match g.v i with | some a=>a.block | none=>0),fun _=>g.v i,fun _=>0,fun c=>∃ a,g.v i=some a∧c=a.block,fun _=>undef⟩
theorem cellPl_or {w:World} {g:Pl} {i:Nat} {x:Rat} (h:cdP w g i (.r x)):OR0 x w (cellPl g i):=by
 rcases h with ⟨h1,h2⟩ | ⟨b,h1,h2,h3⟩
 · exact .inl ⟨h1,(fun c hc=>by obtain ⟨a,ha,_⟩:=hc; rw [h1] at ha; cases ha),h2⟩
 · exact .inr ⟨b,⟨h1,fun c=>⟨fun ⟨a,ha,hc⟩=>by rw [h1] at ha; cases ha; exact hc,fun hc=>⟨_,h1,hc⟩⟩⟩,h3⟩
theorem cellPl_F {w:World} {g:Pl} {i:Nat} {x:Rat} (h:cdP w g i (.r x)) {c:Nat} (hc:(cellPl g i).F c):g.F c:=by
 obtain ⟨a,ha,rfl⟩:=hc
 rcases h with ⟨h1,h2⟩ | ⟨b,h1,h2,h3⟩
 · rw [h1] at ha; cases ha
 · rw [h1] at ha; cases ha; exact h2
theorem rw_cell {e:TypeId} {cs:List Cd} {w:World} {g:Pl} (h:RW e cs w g) {j:Nat} {c:Cd} (hj:cs[j]?=some c):w.cell? ⟨g.b,j,none⟩=some (cd1 g j c):=by
 obtain ⟨⟨_,cur,h1,h2⟩,_⟩:=h
 have h3:=cdV_at (g:=g) (i:=0) hj
 rw [← h2,Nat.zero_add] at h3
 rw [List.getElem?_take] at h3
 split at h3
 · rw [Array.getElem?_toList] at h3
   exact cell_lay h1 h3
 · cases h3
def adOf:SV→Nat × Nat
 | .one (.c (.b (.p k o)))=>(k,o)
 | _=>(0,0)
def isAd:SV→Bool
 | .one (.c (.b (.p _ _)))=>true
 | _=>false
def yOf:SV→Nat × Nat
 | .one (.c (.b (.y k _ n)))=>(k,n)
 | _=>(0,0)
def isY:SV→Bool
 | .one (.c (.b (.y _ _ _)))=>true
 | _=>false
def intS:SV→Nat
 | .one (.c (.b (.v (.int _ i))))=>i.toNat
 | _=>0
structure CSpec (P:Program) where
 f:FuncId
 en:Enters P f
 args:List SV
 cs:List Lf
 t:TypeId
 res:SV
 news:List Thing
 ok:∀ β w,(Ob.box cs t).holds β w (β 0)→Calls P f (args.map (SV.den β)).toArray w fun e w'=>∃ xs:List Pl,(∀ x∈xs,∀ c,x.F c→w.heap.size≤c)∧e=.returned (res.den (extE β 1 xs))∧newHold w' news xs∧Below w.heap.size w w'
 cl:(cs.all (Lf.of fun _=>false)&&args.all (SV.of fun k=>Nat.beq k 0)&&res.of fun k=>Nat.ble 1 k&&Nat.blt k (1+news.length))=true
def bkOfY:List SV→Nat
 | []=>0
 | .one (.c (.b (.s k _ _ _)))::_=>k
 | _::r=>bkOfY r
def CSpec.e {P:Program} (S:CSpec P):Ev P:=.dyn (fun o _ _=>isCallB o) fun _ xs ob=>lit (bkOfY xs) fun i=>lit ob.length fun n =>
 .call S.f S.en (fun β=>(S.args.map (SV.den fun _=>β i)).toArray) [(i,.box S.cs S.t)] n (S.res.ren fun k=>n+(k-1)) S.news (fun β w h=>by
  have hc:=S.cl
  simp only [Bool.and_eq_true] at hc
  have h1:(β i).one∧w.heap[(β i).b]?=some (.cells (S.cs.map (Lf.den β)).toArray S.t (0,0)):=h _ (List.mem_singleton.2 rfl)
  refine (S.ok (fun _=>β i) w ?_).mono fun e w' ⟨xs,k1,k2,k3,k4⟩=>⟨xs,fun x hx c hc=>.inl (k1 x hx c hc),?_,k3,k4⟩
  · show (β i).one∧w.heap[(β i).b]?=some (.cells (S.cs.map (Lf.den fun _=>β i)).toArray S.t (0,0))
    rw [show S.cs.map (Lf.den fun _=>β i)=S.cs.map (Lf.den β) from List.map_congr_left fun x hx=>Lf.den_congr (q:=fun _=>false) (fun k hk=>by cases hk) x (List.all_eq_true.1 hc.1.1 x hx)]
    exact h1
  · rw [k2,SV.den_ren]
    congr 1
    refine SV.den_congr (fun k hk=>?_) _ hc.2
    have hlen:=(newHold_get k3).1
    rw [Bool.and_eq_true,Nat.ble_eq,Nat.blt_eq] at hk
    have h5:k-1<xs.length:=by omega
    rw [extE_in (List.getElem?_eq_getElem h5)]
    have:=extE_in (β:=fun _=>β i) (n:=1) (List.getElem?_eq_getElem h5)
    rw [show 1+(k-1)=k by omega] at this
    exact this)
def Ob.ren (ρ:Nat→Nat):Ob→Ob
 | .box cs t=>.box (cs.map (Lf.ren ρ)) t
 | x=>x
def ptrB:Option Lf→Bool
 | some (.b (.z _ _))=>true
 | some (.b (.p _ _))=>true
 | some (.b (.v (.string _)))=>true
 | _=>false
def Ob.plainB:Ob→Bool
 | .box cs _=>Nat.blt cs.length 4||ptrB cs[1]?
 | .th _=>true
 | _=>false
theorem Ob.holds_ren {β:Env} {w:World} {g:Pl} {ρ:Nat→Nat}:∀ {o:Ob},o.plainB=true→(o.ren ρ).holds β w g→o.holds (fun k=>β (ρ k)) w g
 | .box cs t,_,h=>⟨h.1,by
  rw [h.2,List.map_map]
  rw [show (Lf.den β ∘ Lf.ren ρ)=Lf.den (fun k=>β (ρ k)) from funext fun x=>Lf.den_ren β ρ x]⟩
 | .th _,_,h=>h
theorem Ob.holds_cg {q:Nat→Bool} {β β':Env} {w:World} {g:Pl} (hq:∀ k,q k=true→β k=β' k):∀ {o:Ob},o.plainB=true→o.of q=true→o.holds β w g→o.holds β' w g
 | .box cs t,_,h,k=>⟨k.1,by rw [k.2,all_congr h (Lf.den_congr hq)]⟩
 | .th _,_,_,k=>k
structure OSpec (P:Program) where
 f:FuncId
 en:Enters P f
 args:List SV
 obs:List Ob
 res:SV
 news:List Rat
 ok:∀ β w,(∀ (k:Nat) (o:Ob),obs[k]?=some o→o.holds β w (β k))→Calls P f (args.map (SV.den β)).toArray w fun e w'=>∃ xs:List Pl,(∀ x∈xs,∀ c,x.F c→w.heap.size≤c∨∃ i o,obs[i]?=some o∧o.isTh=true∧(β i).F c)∧e=.returned (res.den (extE β obs.length xs))∧newHold w' (news.map ratT) xs∧Below w.heap.size w w'
 closed:(args.all (SV.of fun k=>Nat.blt k obs.length)&&obs.all (fun x=>x.of (fun k=>Nat.blt k obs.length)&&x.plainB)&&res.of fun k=>Nat.blt k (obs.length+news.length))=true
def mtBox (o c:Ob):List (Nat × Nat):=match o,c with
 | .box xs _,.box ys _=>mtLs xs ys
 | _,_=>[]
def mtObs (obs ob:List Ob):List (Nat × Nat)→List (Nat × Nat)
 | []=>[]
 | (k,j)::r=>(match obs[k]?,ob[j]? with | some o,some c=>mtBox o c | _,_=>[])++mtObs obs ob r
def sigO {P:Program} (S:OSpec P) (xs:List SV) (ob:List Ob):List Nat:=sigL (mtVs S.args xs++mtObs S.obs ob (mtVs S.args xs)) 0 S.obs.length
def needsO (σ:List Nat) (ρ:Nat→Nat):List Ob→Nat→List (Nat × Ob)
 | [],_=>[]
 | o::r,k=>(lit (σ.getD k 0) fun j=>j,o.ren ρ)::needsO σ ρ r (k+1)
theorem needsO_at {σ:List Nat} {ρ:Nat→Nat}:∀ {l:List Ob} {i k:Nat} {o:Ob},l[k]?=some o→(σ.getD (i+k) 0,o.ren ρ)∈needsO σ ρ l i
 | x::r,i,0,o,h=>by
  simp only [List.getElem?_cons_zero] at h
  obtain rfl:=Option.some.inj h
  unfold needsO
  rw [lit_eq]
  exact List.mem_cons_self ..
 | x::r,i,k+1,o,h=>by
  have:=needsO_at (σ:=σ) (ρ:=ρ) (l:=r) (i:=i+1) (k:=k) (o:=o) (by simpa using h)
  rw [show i+(k+1)=i+1+k by omega]
  exact List.mem_cons_of_mem _ this
def OSpec.ev {P:Program} (S:OSpec P) (σ:List Nat) (n:Nat) (hσ:(Nat.ble S.obs.length σ.length&&σ.all fun k=>Nat.blt k n)=true):Ev P :=
 .call S.f S.en (fun β=>(S.args.map (SV.den fun k=>β (atS σ S.obs.length n k))).toArray) (needsO σ (atS σ S.obs.length n) S.obs 0) n (S.res.ren (atS σ S.obs.length n)) (S.news.map ratT) fun β w h=>by
  have hc:=S.closed
  simp only [Bool.and_eq_true] at hc
  have hat:∀ k,k<S.obs.length→atS σ S.obs.length n k=σ.getD k 0:=fun k hk=>by
   unfold atS
   rw [lit_eq,show Nat.blt k S.obs.length=true by rw [Nat.blt_eq]; exact hk,cond_true]
  have hat2:∀ k,¬ k<S.obs.length→atS σ S.obs.length n k=n+(k-S.obs.length):=fun k hk=>by
   unfold atS
   rw [lit_eq,show Nat.blt k S.obs.length=false by rw [Bool.eq_false_iff,ne_eq,Nat.blt_eq]; exact hk,cond_false]
  rw [Bool.and_eq_true,Nat.ble_eq] at hσ
  have hsn:∀ k,k<S.obs.length→σ.getD k 0<n:=fun k hk=>by
   rw [List.getD_eq_getElem?_getD]
   cases hx:σ[k]? with
   | none=>rw [List.getElem?_eq_none_iff] at hx; omega
   | some y=>have:=List.all_eq_true.1 hσ.2 y (List.mem_of_getElem? hx); rw [Nat.blt_eq] at this; exact this
  have hq:∀ k,Nat.blt k S.obs.length=true→β (atS σ S.obs.length n k)=β (σ.getD k 0):=fun k hk=>by rw [hat k (by simpa [Nat.blt_eq] using hk)]
  have hargs:S.args.map (SV.den fun k=>β (atS σ S.obs.length n k))=S.args.map (SV.den fun k=>β (σ.getD k 0)):=List.map_congr_left fun x hx=>SV.den_congr hq _ (List.all_eq_true.1 hc.1.1 x hx)
  rw [hargs]
  refine (S.ok (fun k=>β (σ.getD k 0)) w fun k o hk=>?_).mono ?_
  · have ho:=List.all_eq_true.1 hc.1.2 o (List.mem_of_getElem? hk)
    rw [Bool.and_eq_true] at ho
    have hlt:k<S.obs.length:=(List.getElem?_eq_some_iff.1 hk).1
    have h1:(o.ren (atS σ S.obs.length n)).holds β w (β (σ.getD k 0)):=by
     have:=h _ (needsO_at (i:=0) hk)
     rwa [Nat.zero_add] at this
    exact Ob.holds_cg hq ho.2 ho.1 (Ob.holds_ren ho.2 h1)
  · rintro e w' ⟨xs,h1,rfl,h3,h4⟩
    refine ⟨xs,fun x hx c hc2=>?_,?_,h3,h4⟩
    · rcases h1 x hx c hc2 with h5 | ⟨i,o,h5,h6,h7⟩
      · exact .inl h5
      · refine .inr ⟨_,needsO_at (i:=0) h5,?_,?_⟩
        · cases o<;>first | exact h6 | cases h6
        · rw [Nat.zero_add]; exact h7
    · rw [SV.den_ren]
      congr 1
      refine SV.den_congr (fun k hk=>?_) _ hc.2
      have hlen:=(newHold_get h3).1
      rw [List.length_map] at hlen
      rw [Nat.blt_eq] at hk
      by_cases hk2:k<S.obs.length
      · rw [hat k hk2,extE_out (β:=β) (n:=n) (k:=σ.getD k 0) (xs:=xs) (by have:=hsn k hk2; omega),extE_out (n:=S.obs.length) (k:=k) (xs:=xs) (by omega)]
      · rw [hat2 k hk2]
        have h5:k-S.obs.length<xs.length:=by omega
        rw [extE_in (List.getElem?_eq_getElem h5)]
        have:=extE_in (β:=fun k=>β (σ.getD k 0)) (n:=S.obs.length) (List.getElem?_eq_getElem h5)
        rw [show S.obs.length+(k-S.obs.length)=k by omega] at this
        exact this
def OSpec.e {P:Program} (S:OSpec P):Ev P:=.dyn (fun o _ _=>isCallB o) fun _ xs ob =>
 lits (sigO S xs ob) fun σ=>lit ob.length fun n=>if h:(Nat.ble S.obs.length σ.length&&σ.all fun k=>Nat.blt k n)=true then S.ev σ n h else .eqv 0 undef undef rfl
theorem ptr_no_rat {w:World} {b:Nat} {cs:Array Value} {t:TypeId} {x:Rat} {q:Option Addr} (h:w.heap[b]?=some (.cells cs t (0,0))) (hq:cs[1]?=some (.pointer q)) (k:RatAt w b 0 x):False:=by
 obtain ⟨A,m,cap,_,h1,_⟩:=k.2.1.open_
 have h2:=cell_lay (o:=1) h hq
 rw [Nat.zero_add,h2] at h1
 cases h1
theorem str1_no_rat {w:World} {b:Nat} {cs:Array Value} {t:TypeId} {x:Rat} {q:ByteArray} (h:w.heap[b]?=some (.cells cs t (0,0))) (hq:cs[1]?=some (.string q)) (k:RatAt w b 0 x):False:=by
 obtain ⟨A,m,cap,_,h1,_⟩:=k.2.1.open_
 have h2:=cell_lay (o:=1) h hq
 rw [Nat.zero_add,h2] at h1
 cases h1
theorem small_no_rat {w:World} {b:Nat} {cs:Array Value} {t:TypeId} {x:Rat} (h:w.heap[b]?=some (.cells cs t (0,0))) (hs:cs.size<4) (k:RatAt w b 0 x):False:=by
 obtain ⟨cs',t',h1,_,h2⟩:=k.1
 rw [h] at h1
 obtain ⟨rfl,_,_⟩:=Obj.cells.inj (Option.some.inj h1)
 omega
def idxO (P:Program) (fn:Func) (args:List SV) (obs:List Ob) (evs:List (Ev P)) (Ns:List (Nat × Nat)) (m:Nat) (res:SV):List (Nat × Nat) :=
 match fn.body with
 | some c=>match fullS P fn args obs evs Ns m c with
  | some f=>match run1 P obs.length false (results fn (tmpsS idE f.sl (sizeS fn args))) f.q f.ob [] with
   | some ⟨v,_,_,_⟩=>mtR res (tag v)
   | none=>[]
  | none=>[]
 | none=>[]
def specO (P:Program) (fn:Func) (args:List SV) (obs:List Ob) (evs:List (Ev P)) (Ns:List (Nat × Nat)) (m:Nat) (res:SV) (news:List Rat) (idx:List Nat) (β:Env):Eqs :=
 allS P fn args obs evs Ns m (res.ren (backS obs.length idx)) (idx.zip (news.map fun x=>(ratT x).ob)) β
def specOA (P:Program) (fn:Func) (args:List SV) (obs:List Ob) (evs:List (Ev P)) (Ns:List (Nat × Nat)) (m:Nat) (res:SV) (news:List Rat) (β:Env):Eqs :=
 lits (sigL (idxO P fn args obs evs Ns m res) obs.length news.length) fun idx=>specO P fn args obs evs Ns m res news idx β
theorem newHold_rats {β:Env} {w:World}:∀ {idx:List Nat} {l:List Rat},idx.length=l.length→holdsAll β w (idx.zip (l.map fun x=>(ratT x).ob))→newHold w (l.map ratT) (idx.map β)
 | [],[],_,_=>trivial
 | [],_::_,h,_=>by simp at h
 | _::_,[],h,_=>by simp at h
 | i::r,t::l,h,k=>⟨k (i,(ratT t).ob) (by simp),newHold_rats (by simpa using h) fun p hp=>k p (by simp only [List.map_cons,List.zip_cons_cons]; exact List.mem_cons_of_mem _ hp)⟩
theorem ospec_ok {P:Program} {f:FuncId} {fn:Func} {args:List SV} {obs:List Ob} {evs:List (Ev P)} {Ns:List (Nat × Nat)} {m:Nat} {res:SV} {news:List Rat} (hf:P.funcs[f]?=some fn) (hm:P.follows .mixedOrders=true)
  (h0:∀ β,(specOA P fn args obs evs Ns m res news β).map Prod.fst=(specOA P fn args obs evs Ns m res news β).map Prod.snd)
  (hB:(args.all (SV.of fun k=>Nat.blt k obs.length)&&obs.all (fun x=>x.of (fun k=>Nat.blt k obs.length)&&x.plainB)&&res.of fun k=>Nat.blt k (obs.length+news.length))=true)
  (β:Env) (w:World) (hh:∀ (k:Nat) (o:Ob),obs[k]?=some o→o.holds β w (β k)) :
  Calls P f (args.map (SV.den β)).toArray w fun e w'=>∃ xs:List Pl,(∀ x∈xs,∀ c,x.F c→w.heap.size≤c∨∃ i o,obs[i]?=some o∧o.isTh=true∧(β i).F c)∧e=.returned (res.den (extE β obs.length xs))∧newHold w' (news.map ratT) xs∧Below w.heap.size w w':=by
 obtain ⟨idx,hidx⟩:∃ idx,idx=sigL (idxO P fn args obs evs Ns m res) obs.length news.length:=⟨_,rfl⟩
 have hlen:idx.length=news.length:=by rw [hidx,sigL_len]
 have h:∀ β,(specO P fn args obs evs Ns m res news idx β).map Prod.fst=(specO P fn args obs evs Ns m res news idx β).map Prod.snd:=fun β=>by
  have:=h0 β
  unfold specOA at this
  rw [lits_eq,← hidx] at this
  exact this
 simp only [Bool.and_eq_true] at hB
 obtain ⟨⟨h1,h2⟩,h3⟩:=hB
 refine (sx (P:=P) args obs evs Ns m (res.ren (backS obs.length idx)) (idx.zip (news.map fun x=>(ratT x).ob)) hf hm (fun β=>ok_of_maps (h β)) h1
  (List.all_eq_true.2 fun x hx=>by
   have:=List.all_eq_true.1 h2 x hx
   rw [Bool.and_eq_true] at this ⊢
   refine ⟨this.1,?_⟩
   have h4:=this.2
   cases x<;>first | rfl | cases h4) β w hh).mono ?_
 rintro e w' ⟨β',q,obj,e1,rfl,e2,e4,e5,g⟩
 have hz:(idx.zip (news.map fun x=>(ratT x).ob)).map (fun p=>β' p.1)=idx.map β':=by
  rw [show (fun p:Nat × Ob=>β' p.1)=β' ∘ Prod.fst from rfl,← List.map_map,List.map_fst_zip (by rw [List.length_map]; omega)]
 refine ⟨idx.map β',fun x hx c hcF=>?_,?_,newHold_rats hlen e5,g.bel⟩
 · rw [← hz] at hx
   obtain ⟨p,hp,rfl⟩:=List.mem_map.1 hx
   rcases e4 p hp c hcF with h5 | ⟨i,h5,h6⟩
   · exact .inl h5
   · have ho:=List.getElem?_eq_getElem h5
     have hpl:=List.all_eq_true.1 h2 obs[i] (List.getElem_mem h5)
     rw [Bool.and_eq_true] at hpl
     have hho:=hh i _ ho
     generalize obs[i]=o at ho hpl hho
     cases o with
     | th D=>exact .inr ⟨i,_,ho,rfl,h6⟩
     | box cs t =>
      exfalso
      obtain ⟨hone,hheap⟩:=hho
      have hcb:=(hone.1 c).1 h6
      subst hcb
      obtain ⟨r,hr⟩:∃ r,p.2=(ratT r).ob:=by
       have:=(List.of_mem_zip hp).2
       obtain ⟨r,_,hr⟩:=List.mem_map.1 this
       exact ⟨r,hr.symm⟩
      have hD:=e5 p hp
      rw [hr] at hD
      obtain ⟨b,hb1,hb2⟩:PR r w' (β' p.1):=hD
      have hcb:=(hb1.2 _).1 hcF
      subst hcb
      have hw:w'.heap[(β i).b]?=some (.cells (cs.map (Lf.den β)).toArray t (0,0)):=by rw [g.bel.block _ (heap_lt hheap)]; exact hheap
      have:=hpl.2
      unfold Ob.plainB at this
      rw [Bool.or_eq_true,Nat.blt_eq] at this
      rcases this with this | this
      · exact small_no_rat hw (by simpa using this) hb2
      · have hq:(∃ q,(cs.map (Lf.den β))[1]?=some (.pointer q))∨∃ q,(cs.map (Lf.den β))[1]?=some (.string q):=by
         rw [List.getElem?_map]
         unfold ptrB at this
         split at this
         · rename_i k j e; rw [e]; exact .inl ⟨_,rfl⟩
         · rename_i k j e; rw [e]; exact .inl ⟨_,rfl⟩
         · rename_i k e; rw [e]; exact .inr ⟨_,rfl⟩
         · cases this
        rcases hq with ⟨q,hq⟩ | ⟨q,hq⟩
        · exact ptr_no_rat hw (by simpa using hq) hb2
        · exact str1_no_rat hw (by simpa using hq) hb2
     | al r D=>cases hpl.2
     | pl n=>cases hpl.2
     | row cs t n sz=>cases hpl.2
     | ow D t=>cases hpl.2
     | dead=>cases hpl.2
 · rw [SV.den_ren]
   congr 1
   refine SV.den_congr (fun k hk=>?_) _ h3
   rw [Nat.blt_eq] at hk
   unfold backS
   rw [lit_eq]
   by_cases hk2:k<obs.length
   · rw [show Nat.blt k obs.length=true by rw [Nat.blt_eq]; exact hk2,cond_true,extE_out (by omega)]
     exact e1 k hk2
   · rw [show Nat.blt k obs.length=false by rw [Bool.eq_false_iff,ne_eq,Nat.blt_eq]; exact hk2,cond_false]
     have h5:k-obs.length<idx.length:=by omega
     have:=extE_in (β:=β) (n:=obs.length) (xs:=idx.map β') (i:=k-obs.length) (x:=β' idx[k-obs.length]) (by simp [h5])
     rw [show obs.length+(k-obs.length)=k by omega] at this
     rw [this,List.getD_eq_getElem?_getD,List.getElem?_eq_getElem h5,Option.getD_some]
def OSpec.auto {P:Program} {f:FuncId} {fn:Func} (en:Enters P f) (args:List SV) (obs:List Ob) (res:SV) (news:List Rat) (evs:List (Ev P)) (Ns:List (Nat × Nat)) (m:Nat) (hf:P.funcs[f]?=some fn) (hm:P.follows .mixedOrders=true)
  (hB:(args.all (SV.of fun k=>Nat.blt k obs.length)&&obs.all (fun x=>x.of (fun k=>Nat.blt k obs.length)&&x.plainB)&&res.of fun k=>Nat.blt k (obs.length+news.length))=true)
  (h:∀ β,(specOA P fn args obs evs Ns m res news β).map Prod.fst=(specOA P fn args obs evs Ns m res news β).map Prod.snd):OSpec P :=
 ⟨f,en,args,obs,res,news,ospec_ok hf hm h hB,hB⟩
theorem _root_.Go.Proofs.YtbepimnlleilfaaGreat.FitG.gsz {z:GQ} (h:FitG z):GSz 1024 z:=⟨h.1.sz,h.2.sz⟩
noncomputable abbrev fA (x:Rat):List Lf:=[.b (.v (.bool (ansB x))),.b (.v (.string (ansS x))),.b (.v (.bool false)),.b (.v (.string (ansD x)))]
theorem fA_fit {x:Rat} (h:Fit x):fA x=fC x∧ansK x=0:=by
 unfold fA fC
 rw [(ansF_fit h).1,(ansF_fit h).2.1,(ansF_fit h).2.2.1]
 exact ⟨rfl,(ansF_fit h).2.2.2⟩
def sGM (g:Gp) {r:Bool} (h:g.B=r):Spec Tryz.prog :=
 (sGMay g.a.a g.b.a).as [g.C] (tB' r) (by
  show [SV.one (.a (g.a.a.C++g.b.a.C))]=[SV.one (.a (rL g.a.r++rL g.b.r))]
  rw [show g.a.a.C=rL g.a.r from g.a.e,show g.b.a.C=rL g.b.r from g.b.e]) (congrArg tB' h)
def rdEq (d t:Nat) (x:Rat) (k:Nat):Ev Tryz.prog:=.rd d (.binOp .eql 153 (.tmp t) (.const (.pointer none)) 153) (fun β=>[.pointer ((β k).v 0),.pointer none]) [(k,(ratT x).ob)] 0 (.one (.c (.b (.v (.bool false))))) [] (fun β w h ρ o ho hx=>by
 obtain ⟨a,ha,ka⟩:=needP (x:=x) (k:=k) h (by simp)
 have h2:ρ (.tmp t)=.pointer (some ⟨a,0,none⟩)∧ρ (.const (.pointer none))=.pointer none:=by
  rw [ha.1] at hx
  simpa [Op.operands] using hx
 refine ⟨[],w,(fun _ h=>by cases h),?_,trivial,Below.refl _ _⟩
 unfold execOp
 rw [ho]
 simp only [h2.1,h2.2]
 kernel_rfl)
def dEq (x:Rat):Ev Tryz.prog:=.dyn (fun o _ _=>match o.op with
 | .binOp .eql a (.tmp _) (.const (.pointer none)) _=>Nat.beq a 153
 | _=>false) fun o xs _=>match o.op with
 | .binOp _ _ (.tmp t) _ _=>lit (ptOf (xs.getD 0 undefS)) fun k=>rdEq (o.dst.getD 0) t x k
 | _=>.eqv 0 undef undef rfl
theorem zero_div:(Rat.divInt 0 1:Rat)=0:=of_decide_eq_true (by kernel_rfl:decide ((Rat.divInt 0 1:Rat)=0)=true)
def rdNew0 (d n:Nat):Ev Tryz.prog:=.rd d (.alloc 163) (fun _=>[]) [] n (.one (.c (.b (.z n 0)))) [ratT (Rat.divInt 0 1)] (fun β w h ρ o ho hx=>by
 refine ⟨[newPl w.heap.size],w.alloc (.cells #[.bool false,.slice none 0 0,.bool false,.slice none 0 0] 163),fun x hx c hc=>?_,?_,⟨⟨_,(newPl_one _).at1,?_⟩,trivial⟩,below_new w _⟩
 · obtain rfl:=List.mem_singleton.1 hx
   rw [((newPl_one _).1 c).1 hc]
   exact .inl (Nat.le_refl _)
 · rw [extE_z]
   unfold execOp
   rw [ho]
   kernel_rfl
 · rw [zero_div]
   exact RatAt.new w)
def nZero:Ev Tryz.prog:=.dyn (fun o _ _=>match o.op with
 | .alloc t'=>Nat.beq t' 163
 | _=>false) fun o _ ob=>lit ob.length fun n=>rdNew0 (o.dst.getD 0) n
abbrev KC:Nat:=1000000
structure RQ where
 a:Rat
 b:GQ
 c:Rat
structure RSz (k:Nat) (r:RQ):Prop where
 a:Sz k r.a
 b:GSz k r.b
 c:Sz k r.c
theorem RSz.mono {i k:Nat} {r:RQ} (h:RSz i r) (hk:i≤k):RSz k r:=⟨h.a.mono hk,h.b.mono hk,h.c.mono hk⟩
abbrev rgV (k:Nat):SV:=.one (.a [.b (.z k 0),.b (.z (k+1) 0),.b (.z (k+2) 0),.b (.z (k+3) 0)])
abbrev rgM (r:RQ):List Thing:=[ratT r.a,ratM r.b.re,ratM r.b.im,ratM r.c]
abbrev rgT (r:RQ):List Thing:=[ratT r.a,ratT r.b.re,ratT r.b.im,ratT r.c]
def rpow (r:RQ):Rat:=gnorm r.b-r.a*r.c
def sPower {r:RQ} (h:RSz KC r):Spec Tryz.prog :=
 Spec.auto Tryz.call203 [rgV 0] (rgM r) (rV 4) [ratT (rpow r)] [mkR,(sNorm (h.b.mono (by decide))).e,(sMulR (h.a.mono (by decide)) (h.c.mono (by decide))).e,fSub (h.b.norm.mono (by decide)) ((h.a.mul h.c).mono (by decide))] [(1,11)] 400 Tryz.func203 hmA (by kernel_rfl) (fun β=>by kernel_rfl)
def rbyQ (i j:Bool) (r:RQ):Rat:=bif i then (bif j then r.b.im else r.b.re) else r.a
def rnm (r:RQ) (x:Rat):RQ:=⟨r.a*x⁻¹,gscale r.b x⁻¹,r.c*x⁻¹⟩
theorem rby_sz {k:Nat} {r:RQ} (h:RSz k r) (i j:Bool):Sz k (rbyQ i j r):=by
 cases i
 · exact h.a
 · cases j
   · exact h.b.1
   · exact h.b.2
theorem rnm_sz {k:Nat} {r:RQ} (h:RSz k r) {x:Rat} (hx:Sz k x) (h0:x≠0):RSz (k+k) (rnm r x) :=
 ⟨h.a.mul (hx.inv h0),⟨h.b.1.mul (hx.inv h0),h.b.2.mul (hx.inv h0)⟩,h.c.mul (hx.inv h0)⟩
def rnE {r:RQ} (h:RSz KC r) {x:Rat} (hx:Sz KC x) (h0:x≠0):List (Ev Tryz.prog) :=
 [mkR,fInv (hx.mono (by decide)) h0,(sMulR (h.a.mono (by decide)) ((hx.inv h0).mono (by decide))).e,(sScale (h.b.mono (by decide)) ((hx.inv h0).mono (by decide))).e,(sMulR (h.c.mono (by decide)) ((hx.inv h0).mono (by decide))).e]
def sRNormal {r:RQ} (h:RSz KC r) {i j:Bool} (hi:decide (r.a=0)=i) (hj:decide (r.b.re=0)=j) (h0:rbyQ i j r≠0):Spec Tryz.prog :=
 ⟨308,Tryz.call308,[rgV 0],rgM r,rgV 4,rgT (rnm r (rbyQ i j r)),fun β w hh=>by
  cases i
  · exact spec_auto (args:=[rgV 0]) (obs:=rgM r) (res:=rgV 4) (news:=rgT (rnm r (rbyQ false j r))) (evs:=[(sParts r.b).e,nSign (x:=r.a) rfl,.eqv 27 (.bool (r.a.num.sign==0)) (.bool false) (sign_lit hi),nSign (x:=r.a) rfl,.eqv 27 (.bool (r.a.num.sign==0)) (.bool false) (sign_lit hi)]++rnE h (rby_sz h false j) h0) (Ns:=[(10,13)]) (m:=800) Tryz.func308 hmA (fun β=>by kernel_rfl) (by kernel_rfl) β w hh
  · cases j
    · exact spec_auto (args:=[rgV 0]) (obs:=rgM r) (res:=rgV 4) (news:=rgT (rnm r (rbyQ true false r))) (evs:=[(sParts r.b).e,nSign (x:=r.a) rfl,.eqv 27 (.bool (r.a.num.sign==0)) (.bool true) (sign_lit hi),nSign (x:=r.b.re) rfl,.eqv 27 (.bool (r.b.re.num.sign==0)) (.bool false) (sign_lit hj)]++rnE h (rby_sz h true false) h0) (Ns:=[(10,13)]) (m:=800) Tryz.func308 hmA (fun β=>by kernel_rfl) (by kernel_rfl) β w hh
    · exact spec_auto (args:=[rgV 0]) (obs:=rgM r) (res:=rgV 4) (news:=rgT (rnm r (rbyQ true true r))) (evs:=[(sParts r.b).e,nSign (x:=r.a) rfl,.eqv 27 (.bool (r.a.num.sign==0)) (.bool true) (sign_lit hi),nSign (x:=r.b.re) rfl,.eqv 27 (.bool (r.b.re.num.sign==0)) (.bool true) (sign_lit hj)]++rnE h (rby_sz h true true) h0) (Ns:=[(10,13)]) (m:=800) Tryz.func308 hmA (fun β=>by kernel_rfl) (by kernel_rfl) β w hh,by kernel_rfl⟩
def FitC (m:RQ):Prop:=Fit m.a∧FitG m.b∧Fit m.c
open Classical in
noncomputable def ciR (m:RQ) (x:Rat):R4:=if FitC m then fR x else r40
open Classical in
noncomputable def ciK (m:RQ):Int:=if FitC m then 0 else 4
noncomputable abbrev ciC (m:RQ):List Lf:=rL (ciR m m.a)++rL (ciR m m.b.re)++rL (ciR m m.b.im)++rL (ciR m m.c)
abbrev cC (m:RQ):List Lf:=rL (fR m.a)++rL (fR m.b.re)++rL (fR m.b.im)++rL (fR m.c)
abbrev c0C:List Lf:=rL r40++rL r40++rL r40++rL r40
theorem ci_fit {m:RQ} (h:FitC m):ciC m=cC m∧ciK m=0:=by
 have e:∀ x,ciR m x=fR x:=fun x=>if_pos h
 exact ⟨by rw [ciC,e,e,e,e],if_pos h⟩
theorem ci_not {m:RQ} (h:¬ FitC m):ciC m=c0C∧ciK m=4:=by
 have e:∀ x,ciR m x=r40:=fun x=>if_neg h
 exact ⟨by rw [ciC,e,e,e,e],if_neg h⟩
noncomputable abbrev ciA (m:RQ):SV:=.tup [.a (ciC m),nI' (ciK m)]
theorem ansK_fit {x:Rat} (h:Fit x):(ansK x != 0)=false:=by rw [(ansF_fit h).2.2.2]; rfl
theorem ansK_not {x:Rat} (h:¬ Fit x):(ansK x != 0)=true:=by rw [show ansK x=4 from if_neg h]; rfl
section
variable {r:RQ} (h:RSz KC r) {i j:Bool} (hi:decide (r.a=0)=i) (hj:decide (r.b.re=0)=j) (h0:rbyQ i j r≠0)
include h hi hj h0
noncomputable def rtE:List (Ev Tryz.prog) :=
 have hn:=rnm_sz h (rby_sz h i j) h0
 [(sRNormal h hi hj h0).e,(sFrac (hn.a.mono (by decide))).e,(sTold (z:=gscale r.b (rbyQ i j r)⁻¹) (hn.b.mono (by decide))).e,(sFrac (hn.c.mono (by decide))).e]
theorem rtold_ok (β:Env) (w:World) (hh:∀ (k:Nat) (t:Thing),(rgM r)[k]?=some t→t.D w (β k)) :
  Calls Tryz.prog 191 (([rgV 0]:List SV).map (SV.den β)).toArray w fun e w'=>∃ xs:List Pl,freshS β w 4 xs∧e=.returned ((ciA (rnm r (rbyQ i j r))).den (extE β 4 xs))∧newHold w' [] xs∧Below w.heap.size w w':=by
 by_cases h1:Fit (rnm r (rbyQ i j r)).a
 · by_cases h2:FitG (rnm r (rbyQ i j r)).b
   · by_cases h3:Fit (rnm r (rbyQ i j r)).c
     · have e:ciA (rnm r (rbyQ i j r))=.tup [.a (fA (rnm r (rbyQ i j r)).a++gaC (rnm r (rbyQ i j r)).b++fA (rnm r (rbyQ i j r)).c),nI' 0]:=by
        rw [ciA,(ci_fit ⟨h1,h2,h3⟩).1,(ci_fit ⟨h1,h2,h3⟩).2,(fA_fit h1).1,(ga_fit h2).1,(fA_fit h3).1]
        rfl
       rw [e]
       exact spec_auto (args:=[rgV 0]) (obs:=rgM r) (news:=[]) (evs:=rtE h hi hj h0++[.eqv 31 (.bool (ansK (rnm r (rbyQ i j r)).a != 0)) (.bool false) (ansK_ne (ansK_fit h1)),.eqv 34 (.bool (gaK (rnm r (rbyQ i j r)).b != 0)) (.bool false) (gaK_ne (gaK_fit h2)),.eqv 38 (.bool (ansK (rnm r (rbyQ i j r)).c != 0)) (.bool false) (ansK_ne (ansK_fit h3))]) (Ns:=[]) (m:=800) Tryz.func191 hmA (fun β=>by kernel_rfl) (by kernel_rfl) β w hh
     · rw [ciA,(ci_not (m:=rnm r (rbyQ i j r)) fun e=>h3 e.2.2).1,(ci_not (m:=rnm r (rbyQ i j r)) fun e=>h3 e.2.2).2]
       exact spec_auto (args:=[rgV 0]) (obs:=rgM r) (news:=[]) (evs:=rtE h hi hj h0++[.eqv 31 (.bool (ansK (rnm r (rbyQ i j r)).a != 0)) (.bool false) (ansK_ne (ansK_fit h1)),.eqv 34 (.bool (gaK (rnm r (rbyQ i j r)).b != 0)) (.bool false) (gaK_ne (gaK_fit h2)),.eqv 38 (.bool (ansK (rnm r (rbyQ i j r)).c != 0)) (.bool true) (ansK_ne (ansK_not h3))]) (Ns:=[]) (m:=800) Tryz.func191 hmA (fun β=>by kernel_rfl) (by kernel_rfl) β w hh
   · rw [ciA,(ci_not (m:=rnm r (rbyQ i j r)) fun e=>h2 e.2.1).1,(ci_not (m:=rnm r (rbyQ i j r)) fun e=>h2 e.2.1).2]
     exact spec_auto (args:=[rgV 0]) (obs:=rgM r) (news:=[]) (evs:=rtE h hi hj h0++[.eqv 31 (.bool (ansK (rnm r (rbyQ i j r)).a != 0)) (.bool false) (ansK_ne (ansK_fit h1)),.eqv 34 (.bool (gaK (rnm r (rbyQ i j r)).b != 0)) (.bool true) (gaK_ne (gaK_not h2))]) (Ns:=[]) (m:=800) Tryz.func191 hmA (fun β=>by kernel_rfl) (by kernel_rfl) β w hh
 · rw [ciA,(ci_not (m:=rnm r (rbyQ i j r)) fun e=>h1 e.1).1,(ci_not (m:=rnm r (rbyQ i j r)) fun e=>h1 e.1).2]
   exact spec_auto (args:=[rgV 0]) (obs:=rgM r) (news:=[]) (evs:=rtE h hi hj h0++[.eqv 31 (.bool (ansK (rnm r (rbyQ i j r)).a != 0)) (.bool true) (ansK_ne (ansK_not h1))]) (Ns:=[]) (m:=800) Tryz.func191 hmA (fun β=>by kernel_rfl) (by kernel_rfl) β w hh
noncomputable def sRTold:Spec Tryz.prog :=
 ⟨191,Tryz.call191,[rgV 0],rgM r,ciA (rnm r (rbyQ i j r)),[],rtold_ok h hi hj h0,by kernel_rfl⟩
end
theorem sgn_le {n:Int} {t:Bool} (h:decide (n≤0)=t):Value.bool (decide (n≤0))=.bool t:=by rw [h]
noncomputable def sMade1 {r:RQ} (h:RSz KC r) (hp:decide ((rpow r).num.sign≤0)=false) {i j:Bool} (hi:decide (r.a=0)=i) (hj:decide (r.b.re=0)=j) (h0:rbyQ i j r≠0):Spec Tryz.prog :=
 Spec.auto Tryz.call302 [rgV 0] (rgM r) (ciA (rnm r (rbyQ i j r))) [] [(sPower h).e,nSign (x:=rpow r) rfl,.eqv 7 (.bool (decide ((rpow r).num.sign≤0))) (.bool false) (sgn_le hp),(sRTold h hi hj h0).e] [] 400 Tryz.func302 hmA (by kernel_rfl) (fun β=>by kernel_rfl)
def rby (r:RQ):Rat:=rbyQ (decide (r.a=0)) (decide (r.b.re=0)) r
def rone (r:RQ):RQ:=rnm r (rby r)
theorem rby_ne {r:RQ} (hp:decide ((rpow r).num.sign≤0)=false):rby r≠0:=by
 intro e
 unfold rby rbyQ at e
 have hs:=of_decide_eq_false hp
 cases h1:decide (r.a=0) with
 | false=>rw [h1] at e; exact of_decide_eq_false h1 e
 | true=>cases h2:decide (r.b.re=0) with
  | false=>rw [h1,h2] at e; exact of_decide_eq_false h2 e
  | true =>
   rw [h1,h2] at e
   have ha:=of_decide_eq_true h1
   have hr:=of_decide_eq_true h2
   have hi:r.b.im=0:=e
   apply hs
   have:rpow r=0:=by
    unfold rpow gnorm
    rw [ha,hr,hi]
    grind
   rw [this]
   decide
noncomputable def sMade2 {r:RQ} (h:RSz KC r) (hp:decide ((rpow r).num.sign≤0)=false):Spec Tryz.prog:=sMade1 h hp rfl rfl (rby_ne hp)
def ofG {z:GQ} (h:FitG z):Spec Tryz.prog:=sOf (.ok z.re h.1) (.ok z.im h.2)
section
variable {a:Rat} {b:GQ} {c:Rat} (ha:Fit a) (hb:FitG b) (hc:Fit c)
abbrev mkA (a:Rat) (b:GQ) (c:Rat):List SV:=[.one (.a (fC a)),gS b,.one (.a (fC c))]
include ha hb hc in
theorem mk_sz:RSz KC ⟨a,b,c⟩:=⟨ha.sz.mono (by decide),hb.gsz.mono (by decide),hc.sz.mono (by decide)⟩
noncomputable def sCMake (hp:decide ((rpow ⟨a,b,c⟩).num.sign≤0)=false):Spec Tryz.prog :=
 Spec.auto Tryz.call185 (mkA a b c) [] (ciA (rone ⟨a,b,c⟩)) [] [(ofG hb).e,(sRatIn ha).e,(sRatIn hc).e,dEq a,dEq c,(sMade2 (mk_sz ha hb hc) hp).e] [(2,6)] 400 Tryz.func185 hmA (by kernel_rfl) (fun β=>by kernel_rfl)
theorem one_sz:Sz 8 (Rat.divInt 1 1):=sz_lit 1 1 (by decide) (by decide) (by decide)
end
section
variable {n z:GQ} (hn:FitG n) (hz:FitG z)
theorem zero_sz:Sz 8 (Rat.divInt 0 1):=sz_lit 0 1 (by decide) (by decide) (by decide)
end
def cirV (a b b' c:R4):Array Value:=#[.bool a.b,.string a.s,.bool a.c,.string a.t,.bool b.b,.string b.s,.bool b.c,.string b.t,.bool b'.b,.string b'.s,.bool b'.c,.string b'.t,.bool c.b,.string c.s,.bool c.c,.string c.t]
def frV (a:R4):Array Value:=#[.bool a.b,.string a.s,.bool a.c,.string a.t]
theorem eqCi {w:World} (n:Nat) (a b b' c p q q' s:R4):(Op.equalIn (n+5) 95 (.agg (cirV a b b' c)) (.agg (cirV p q q' s))).run Tryz.prog w=.ok (a.eq p&&(geq b b' q q'&&(c.eq s&&true))) w:=by
 unfold cirV
 rw [run_equalIn_agg _ _ _ _ _ (by kernel_rfl) (by kernel_rfl)]
 refine run_eqF_cons (a:=.agg (frV a)) (b:=.agg (frV p)) (by kernel_rfl) (by kernel_rfl) (by kernel_rfl) (eqF (n+1) _ _ _ _ _ _ _ _) ?_
 refine run_eqF_cons (a:=.agg (gV b b')) (b:=.agg (gV q q')) (by kernel_rfl) (by kernel_rfl) (by kernel_rfl) (eqG n _ _ _ _) ?_
 refine run_eqF_cons (a:=.agg (frV c)) (b:=.agg (frV s)) (by kernel_rfl) (by kernel_rfl) (by kernel_rfl) (eqF (n+1) _ _ _ _ _ _ _ _) ?_
 kernel_rfl
def eqEvC (a b b' c p q q' s:R4) (r:Bool) (h:(a.eq p&&(geq b b' q q'&&(c.eq s&&true)))=r):Ev Tryz.prog :=
 eqEv 95 (cirV a b b' c) (cirV p q q' s) r (by kernel_rfl) (fun w=>by rw [← h]; exact eqCi 9995 ..)
theorem ceq_self (a b b' c:R4):(a.eq a&&(geq b b' b b'&&(c.eq c&&true)))=true:=by
 rw [R4.eq_iff.2 rfl,R4.eq_iff.2 rfl,geq_self]; rfl
def eqC1 (a b b' c:R4):Ev Tryz.prog:=eqEvC a b b' c a b b' c true (ceq_self ..)
def sCOver {z:GQ} {x:Rat} (hz:GSz KC z) (hx:Sz KC x) (h0:x≠0):Spec Tryz.prog :=
 Spec.auto Tryz.call317 [gS z,.one (.a (fC x))] [] (gS ⟨z.re/x,z.im/x⟩) [] [(sR3Over (hz.1.mono (by decide)) (hx.mono (by decide)) h0).e,(sR3Over (hz.2.mono (by decide)) (hx.mono (by decide)) h0).e] [(1,9)] 400 Tryz.func317 hmA (by kernel_rfl) (fun β=>by kernel_rfl)
def rqd (r:RQ) (x:Rat):RQ:=⟨r.a/x,⟨r.b.re/x,r.b.im/x⟩,r.c/x⟩
theorem rqd_eq (r:RQ) (x:Rat):rqd r x=rnm r x:=by
 unfold rqd rnm gscale
 rw [Rat.div_def,Rat.div_def,Rat.div_def,Rat.div_def]
def cnE {r:RQ} (h:RSz KC r) {x:Rat} (hx:Sz KC x) (h0:x≠0):List (Ev Tryz.prog) :=
 [(sR3Over (h.a.mono (by decide)) (hx.mono (by decide)) h0).e,(sCOver h.b hx h0).e,(sR3Over (h.c.mono (by decide)) (hx.mono (by decide)) h0).e]
def rS (r:RQ):SV:=.one (.a (cC r))
def sCNormal {r:RQ} (h:RSz KC r) {i j:Bool} (hi:decide (r.a=0)=i) (hj:decide (r.b.re=0)=j) (h0:rbyQ i j r≠0):Spec Tryz.prog :=
 ⟨207,Tryz.call207,[.one (.a (fC r.a)),gS r.b,.one (.a (fC r.c))],[],.one (.a (cC (rqd r (rbyQ i j r)))),[],fun β w hh=>by
  cases i
  · exact spec_auto (evs:=[(sR3Sign (x:=r.a) rfl).e,.eqv 11 (.bool (r.a.num.sign==0)) (.bool false) (sign_lit hi),(sR3Sign (x:=r.a) rfl).e,.eqv 16 (.bool (r.a.num.sign==0)) (.bool false) (sign_lit hi)]++cnE h (rby_sz h false j) h0) (Ns:=[(6,10)]) (m:=800) Tryz.func207 hmA (fun β=>by kernel_rfl) (by kernel_rfl) β w hh
  · cases j
    · exact spec_auto (evs:=[(sR3Sign (x:=r.a) rfl).e,.eqv 11 (.bool (r.a.num.sign==0)) (.bool true) (sign_lit hi),(sR3Sign (x:=r.b.re) rfl).e,.eqv 16 (.bool (r.b.re.num.sign==0)) (.bool false) (sign_lit hj)]++cnE h (rby_sz h true false) h0) (Ns:=[(6,10)]) (m:=800) Tryz.func207 hmA (fun β=>by kernel_rfl) (by kernel_rfl) β w hh
    · exact spec_auto (evs:=[(sR3Sign (x:=r.a) rfl).e,.eqv 11 (.bool (r.a.num.sign==0)) (.bool true) (sign_lit hi),(sR3Sign (x:=r.b.re) rfl).e,.eqv 16 (.bool (r.b.re.num.sign==0)) (.bool true) (sign_lit hj)]++cnE h (rby_sz h true true) h0) (Ns:=[(6,10)]) (m:=800) Tryz.func207 hmA (fun β=>by kernel_rfl) (by kernel_rfl) β w hh,by kernel_rfl⟩
def sCTwice {x:Rat} (hx:Sz K3 x):Spec Tryz.prog :=
 Spec.auto Tryz.call209 [.one (.a (fC x))] [] (.one (.a (fC (x+x)))) [] [(sR3Plus hx hx).e] [] 400 Tryz.func209 hmA (by kernel_rfl) (fun β=>by kernel_rfl)
def sCFits (m:RQ) {b:Bool} (hb:b=true↔FitC m):Spec Tryz.prog :=
 ⟨197,Tryz.call197,[.one (.a (cC m))],[],tB' b,[],fun β w hh=>by
  by_cases h1:Fit m.a
  · by_cases h2:FitG m.b
    · have h3:b=true↔Fit m.c:=hb.trans ⟨fun h=>h.2.2,fun h=>⟨h1,h2,h⟩⟩
      cases b<;>exact spec_auto (evs:=[eFFit (iff_true_of h1),(sR4Fits m.b (iff_true_of h2)).e,eFFit h3]) (Ns:=[]) (m:=400) Tryz.func197 hmA (fun β=>by kernel_rfl) (by kernel_rfl) β w hh
    · obtain rfl:=eq_false_of hb fun h=>h2 h.2.1
      exact spec_auto (evs:=[eFFit (iff_true_of h1),(sR4Fits m.b (iff_false_of h2)).e]) (Ns:=[]) (m:=400) Tryz.func197 hmA (fun β=>by kernel_rfl) (by kernel_rfl) β w hh
  · obtain rfl:=eq_false_of hb fun h=>h1 h.1
    exact spec_auto (evs:=[eFFit (iff_false_of h1)]) (Ns:=[]) (m:=400) Tryz.func197 hmA (fun β=>by kernel_rfl) (by kernel_rfl) β w hh,by kernel_rfl⟩
def sNum11 (k:Int):Spec Tryz.prog:=Spec.auto Tryz.call58 [.one (nI' k)] [] (.one (nI' k)) [] [] [] 400 Tryz.func58 hmA (by kernel_rfl) (fun β=>by kernel_rfl)
inductive Fn where
 | ok (x:Rat) (h:Fit x)
 | no (f:Fr) (h:f.a.B=false)
def Fn.fr:Fn→Fr
 | .ok x h=>frX x h
 | .no f _=>f
def Fn.r (a:Fn):R4:=a.fr.r
def Fn.B:Fn→Bool
 | .ok ..=>true
 | .no ..=>false
abbrev z20:GQ:=gint 2 0
def alOf (ob:List Ob) (j:Nat):Nat:=match ob[j]? with
 | some (.al i _)=>i
 | _=>0
theorem one_at {g:Pl} {b:Nat} (h:g.one) (k:At1 g b):b=g.b:=((k.2 g.b).1 ((h.1 _).2 rfl)).symm
end Go.Proofs.YtbepimnlleilfaaGreat.Y
end
section
namespace Go.Proofs.YtbepimnlleilfaaGreat
open Go.RowKit
def pv (g:Nat):Value:=.pointer (some ⟨g,0,none⟩)
theorem ptr_info:(Tryz.prog.info? 155).map (fun i=>(i.zero,i.size,i.bytes))=some (some (.pointer none),1,8):=by kernel_rfl
def PRow (w:World) (base:Nat) (v:Value) (zs:List Nat):Prop:=w.ownsRow base 155 1 v zs.length (zs.map pv)
theorem PRow.nil (w:World) (base:Nat):PRow w base (.slice none 0 0) []:=by simpa [PRow] using World.ownsRow_nil w base 155 1
theorem PRow.alloc {w:World} {base:Nat} {v:Value} {zs:List Nat} (h:PRow w base v zs) (o:Obj):PRow (w.alloc o) base v zs:=World.ownsRow.alloc h o
theorem PRow.open_ {w:World} {base:Nat} {v:Value} {zs:List Nat} (h:PRow w base v zs) (h0:0<zs.length) :
  ∃ g cap,v=.slice (some ⟨g,0,none⟩) zs.length cap∧base≤g∧g<w.heap.size∧∀ i,i<zs.length→w.cell? ⟨g,i,none⟩=some (pv (zs.getD i 0)):=by
 obtain ⟨hlen,h2⟩:=h
 rcases h2 with ⟨rfl,h1⟩ | ⟨g,cap,cur,rfl,hg,hh,hc,_,hcs,ht⟩
 · omega
 · refine ⟨g,cap,rfl,hg,heap_some_lt hh,fun i hi=>?_⟩
   have h3:(cur.toList.take (zs.length*1))[i]?=(zs.map pv)[i]?:=by rw [ht]
   rw [List.getElem?_take_of_lt (by omega),List.getElem?_map,List.getElem?_eq_getElem hi] at h3
   rw [cell_of_row _ _ _ _ _ _ hh,← Array.getElem?_toList,h3,getD_in hi]
   rfl
theorem wpList_append_ptr {ops:Array Oper} {rest:List Oper} {o:Oper} {a:Act} {w:World} {Q:Exit→Act→World→Prop} (hg:o.guard=none) (s x:Operand)
  (ho:o.op=.call { callee:=.builtin .append,args:=#[s,x],argTypes:=#[311,311] })
  (base:Nat) (v:Value) (zs:List Nat) (hs:a.eval s=v) (hown:PRow w base v zs) (ad:Addr) (c:Nat) (y:Nat) (hx:a.eval x=.slice (some ad) 1 c) (hcell:w.cell? ad=some (pv y))
  (hlen:zs.length≤17179869184) (hbase:base≤w.heap.size)
  (hK:∀ v' w',PRow w' base v' (zs++[y])→Below base w w'→w.grownBy w' v.ownBlock→wpList Tryz.prog ops Q rest (a.put o.dst v') w'):wpList Tryz.prog ops Q (o::rest) a w:=by
 obtain ⟨i0,hi,hz0,hz1,hz2⟩:=info_parts ptr_info
 refine wpList_append_own w hg s x 311 ho base 155 i0 (.pointer none) 1 8 Tryz.underlying311 hi hz0 hz1 hz2 rfl (by decide) v zs.length (zs.map pv) hs hown ad 1 c [pv y] hx rfl ?_ ?_ (by simp only [maxLen]; omega) (by omega) hbase ?_
 · intro j u hj
   cases j with
   | zero =>
    simp at hj
    subst hj
    simpa [Addr.add] using hcell
   | succ j=>simp at hj
 · intro u hu
   simp at hu
   subst hu
   rfl
 · intro v' w' h1 h2 _
   refine hK v' w' (by simpa [PRow] using h1) ((Below.refl _ _).grown h2 hbase fun k hk=>?_) h2
   · rcases hown.2 with ⟨rfl,_⟩ | ⟨g,cap,cur,rfl,hb,_⟩
     · simp [Value.ownBlock] at hk
     · simp [Value.ownBlock] at hk
       omega
def OfPost (b:Bool) (s:ByteArray) (w:World) (e:Ending) (w':World):Prop :=
 ((WholeOk b s∧∃ h cap p,e=.returned (.tuple #[.slice (some ⟨h,0,none⟩) 1 cap,.bool true])∧w'.cell? ⟨h,0,none⟩=some (.pointer (some ⟨p,0,none⟩))∧IntAt w' p 0 (numOf b s)) ∨
  (¬ WholeOk b s∧e=.returned (.tuple #[.slice none 0 0,.bool false])))∧Below w.heap.size w w'
def OfPost2 (b:Bool) (s:ByteArray) (w:World) (e:Ending) (w':World):Prop :=
 ((WholeOk b s∧∃ h cap p,e=.returned (.tuple #[.slice (some ⟨h,0,none⟩) 1 cap,.bool true])∧w'.cell? ⟨h,0,none⟩=some (.pointer (some ⟨p,0,none⟩))∧IntAt w' p 0 (numOf b s)∧Hid (w.heap.size≤h∧w.heap.size≤p)) ∨
  (¬ WholeOk b s∧e=.returned (.tuple #[.slice none 0 0,.bool false])))∧Below w.heap.size w w'
set_option maxHeartbeats 1600000 in
set_option maxRecDepth 100000 in
theorem of_one2 {w0:World} {a cap:Nat} (b:Bool) (s:ByteArray) (hs:s.size≤4294967296) {T:TypeId} (ha:BoxAt w0 a #[.bool b,.string s] T) :
  Calls Tryz.prog 336 #[.slice (some ⟨a,0,none⟩) 1 cap] w0 (OfPost2 b s w0):=by
 have hcv:=fun (w:World)=>run_bytes_of_string (P:=Tryz.prog) w 9 306 5 s Tryz.underlying9 Tryz.underlying306 Tryz.underlying5
 have HS:=Lib.hid hs
 have HS2:Hid (s.size≤maxLen):=by unfold Hid maxLen; omega
 have HX:=Lib.hid ha
 have hc0:=ha.cell 0 (.bool b) rfl
 have hc1:=ha.cell 1 (.string s) rfl
 clear hs ha
 go_enter Tryz.func336,Tryz.ntmps336
 go_wp2
 go_loopw [4,10] (fun v i wr=>Below w0.heap.size w0 wr∧((v=.slice none 0 0∧i=.int .i64 0)∨(WholeOk b s∧i=.int .i64 1∧∃ h cap p,v=.slice (some ⟨h,0,none⟩) 1 cap∧wr.cell? ⟨h,0,none⟩=some (.pointer (some ⟨p,0,none⟩))∧IntAt wr p 0 (numOf b s)∧Hid (w0.heap.size≤h∧w0.heap.size≤p)))) (fun _ i _=>1-(intOf i).toNat)
 case atStart=>exact ⟨Below.refl _ _,.inl ⟨rfl,rfl⟩⟩
 case round =>
  obtain ⟨hb,h | h⟩:=hrel
  · obtain ⟨rfl,rfl⟩:=h
    have HBR:=Lib.hid hb
    have hd0:=(HX.out.on hb).cell 0 (.bool b) rfl
    have hd1:=(HX.out.on hb).cell 1 (.string s) rfl
    have HN:=Lib.hid (BoxAt.new wr #[.bool b,.string s] 23)
    have HBN:=Lib.hid (below_new wr (.cells #[.bool b,.string s] 23))
    clear hb hc0 hc1
    go_wp2_with fail
    refine (Check_any b s HS2.out).mono ?_
    rintro e w1 ⟨k,rfl,hk,hb⟩
    have HB1:=Lib.hid ((HBR.out.trans (HBN.out.mono HBR.out.size)).trans (hb.mono (Nat.le_trans HBR.out.size HBN.out.size)))
    have HN1:=Lib.hid (HN.out.on hb)
    have hl1:wr.heap.size<w1.heap.size:=HN1.out.lt
    clear hb hd0 hd1
    by_cases ho:WholeOk b s
    · obtain rfl:k=0:=hk.elim (fun h=>h.1) (fun h=>absurd ho h.2)
      have HO:=Lib.hid ho
      have hn0:=HN1.out.cell 0 (.bool b) rfl
      have hn1:=HN1.out.cell 1 (.string s) rfl
      clear hk ho
      go_wp2_with fail
      generalize hW2:w1.alloc (.cells #[.bool false,.slice none 0 0] 161)=W2
      have hi:IntAt W2 w1.heap.size 0 0:=by rw [← hW2]; exact IntAt.new _
      have hx:BoxAt W2 wr.heap.size #[.bool b,.string s] 23:=by rw [← hW2]; exact HN1.out.on (below_new _ _)
      have hb:Below w1.heap.size w1 W2:=by rw [← hW2]; exact below_new _ _
      have hsz:w1.heap.size+1=W2.heap.size:=by rw [← hW2]; simp
      have hby:=byt_row (W:=W2) s (grownCap W2 s.size 0 5) (grownCap W2 s.size 0 5) (w1.heap.size+1) ((bytesRow s (grownCap W2 s.size 0 5)).size,(bytesRow s (grownCap W2 s.size 0 5)).size+1) hsz
      have hbl:=below_row W2 (bytesRow s (grownCap W2 s.size 0 5)) 5 ((bytesRow s (grownCap W2 s.size 0 5)).size,(bytesRow s (grownCap W2 s.size 0 5)).size+1)
      clear hW2
      generalize grownCap W2 s.size 0 5=c at hby hbl ⊢
      generalize (W2.alloc (.cells (bytesRow s c) 5 ((bytesRow s c).size,(bytesRow s c).size+1))).drew=W3 at hby hbl ⊢
      refine (SetBytes_any (hi.on hbl).slot hby HS.out).mono ?_
      rintro e w4 ⟨rfl,h1,h2⟩
      rw [List.reverse_reverse] at h1
      have HT:=Lib.hid (h2.below (B:=w1.heap.size) (Nat.le_refl _) (by have:=hbl.size; omega))
      have HB4:=Lib.hid ((hb.trans (hbl.mono hb.size)).trans HT.out)
      have hd0:w4.cell? ⟨wr.heap.size,0,none⟩=some (.bool b):=by rw [HB4.out.cell (by simp; omega)]; exact HN1.out.cell 0 _ rfl
      have HI:=Lib.hid h1
      have HBB:=Lib.hid (HB1.out.trans (HB4.out.mono HB1.out.size))
      clear h1 h2 hi hx hb hsz hby hbl hn0 hn1
      cases b
      · have HV:Hid (IntAt w4 w1.heap.size 0 (numOf false s)):=by
         have:=HI.out
         simpa [Hid,numOf,sg,num] using this
        go_wp2_with (at_builtin; refine wpList_append_ptr rfl (.tmp 32) (.tmp 34) rfl w0.heap.size _ [] rfl ((PRow.nil _ _).alloc _) ⟨w4.heap.size,0,none⟩ 1 w1.heap.size rfl (cell_new0 _ _ _) ?_ ?_ ?_)
        · exact Nat.zero_le _
        · have:=HBB.out.size; simp; omega
        intro v' w6 hrow hb6 hgr
        obtain ⟨h,cap2,rfl,hge,hlt,hcc⟩:=hrow.open_ (by simp)
        have HG:Hid (w0.heap.size≤h∧w0.heap.size≤w1.heap.size):=⟨hge,HB1.out.size⟩
        clear hge
        have HC:=Lib.hid (hcc 0 (by simp))
        have HB6:=Lib.hid ((HBB.out.trans ((below_new w4 (.cells #[.pointer (some ⟨w1.heap.size,0,none⟩)] 155)).mono HBB.out.size)).trans hb6)
        have HV6:=Lib.hid ((HV.out.on (below_new w4 (.cells #[.pointer (some ⟨w1.heap.size,0,none⟩)] 155))).on (Below.grown (Below.refl _ _) hgr (Nat.le_refl _) (fun k hk=>by simp [Value.ownBlock] at hk)))
        clear hrow hb6 hgr hcc
        go_wp2
        go_roundw
        case rel=>exact ⟨HB6.out,.inr ⟨HO.out,by go_num,h,cap2,_,rfl,HC.out,HV6.out,HG⟩⟩
        case measure=>simp [intOf]
      · go_wp2_with fail
        refine (neg_any HI.out.slot HI.out).mono ?_
        rintro e w5 ⟨rfl,h1,h2⟩
        have HV:Hid (IntAt w5 w1.heap.size 0 (numOf true s)):=by
         have:=h1
         simpa [Hid,numOf,sg,num] using this
        have HB5:=Lib.hid (HBB.out.trans (h2.below (B:=w0.heap.size) (by have:=HB1.out.size; omega) HBB.out.size))
        clear h1 h2 hd0
        go_wp2_with (at_builtin; refine wpList_append_ptr rfl (.tmp 32) (.tmp 34) rfl w0.heap.size _ [] rfl ((PRow.nil _ _).alloc _) ⟨w5.heap.size,0,none⟩ 1 w1.heap.size rfl (cell_new0 _ _ _) ?_ ?_ ?_)
        · exact Nat.zero_le _
        · have:=HB5.out.size; simp; omega
        intro v' w6 hrow hb6 hgr
        obtain ⟨h,cap2,rfl,hge,hlt,hcc⟩:=hrow.open_ (by simp)
        have HG:Hid (w0.heap.size≤h∧w0.heap.size≤w1.heap.size):=⟨hge,HB1.out.size⟩
        clear hge
        have HC:=Lib.hid (hcc 0 (by simp))
        have HB6:=Lib.hid ((HB5.out.trans ((below_new w5 (.cells #[.pointer (some ⟨w1.heap.size,0,none⟩)] 155)).mono HB5.out.size)).trans hb6)
        have HV6:=Lib.hid ((HV.out.on (below_new w5 (.cells #[.pointer (some ⟨w1.heap.size,0,none⟩)] 155))).on (Below.grown (Below.refl _ _) hgr (Nat.le_refl _) (fun k hk=>by simp [Value.ownBlock] at hk)))
        clear hrow hb6 hgr hcc
        go_wp2
        go_roundw
        case rel=>exact ⟨HB6.out,.inr ⟨HO.out,by go_num,h,cap2,_,rfl,HC.out,HV6.out,HG⟩⟩
        case measure=>simp [intOf]
    · obtain rfl:k=2:=hk.elim (fun h=>absurd h.2 ho) (fun h=>h.1)
      have HO:=Lib.hid ho
      clear hk ho
      go_wp2
      go_ret2
      exact ⟨.inr ⟨HO.out,rfl⟩,HB1.out⟩
  · obtain ⟨ho,rfl,h,cap2,p,rfl,hc,hi,HG⟩:=h
    have HO:=Lib.hid ho
    have HC:=Lib.hid hc
    have HI:=Lib.hid hi
    have HB:=Lib.hid hb
    clear ho hc hi hb hc0 hc1
    go_wp2
    go_ret2
    exact ⟨.inl ⟨HO.out,h,cap2,p,rfl,HC.out,HI.out,HG⟩,HB.out⟩
theorem of_one {w0:World} {a cap:Nat} (b:Bool) (s:ByteArray) (hs:s.size≤4294967296) {T:TypeId} (ha:BoxAt w0 a #[.bool b,.string s] T) :
  Calls Tryz.prog 336 #[.slice (some ⟨a,0,none⟩) 1 cap] w0 (OfPost b s w0) :=
 (of_one2 b s hs ha).mono fun e w' ⟨h,hb⟩=>⟨h.imp (fun ⟨ho,h,cap,p,h1,h2,h3,_⟩=>⟨ho,h,cap,p,h1,h2,h3⟩) id,hb⟩
theorem fracV_num {b c:Bool} {s t:ByteArray} {x:Rat} (h:FracParts b s c t x):WholeOk b s∧numOf b s=x.num:=by
 have h1:=(isFrac_parts h.isFrac).1
 obtain ⟨rfl,rfl,_,_⟩:=agg4 h.val
 exact ⟨h1,numOf_mag _⟩
theorem fracV_inj {x y:Rat} (h:fracV x=fracV y):x=y:=by
 obtain ⟨h1,h2,_,h4⟩:=agg4 h
 have e1:x.num=y.num:=sg_inj h1 (mag_inj h2)
 have e2:x.den=y.den:=mag_inj h4
 exact Rat.ext e1 e2
theorem sz_i64 {n:Int} (h : -9223372036854775808≤n∧n≤9223372036854775807):sz n≤8:=by
 rw [sz_le]
 have:n.natAbs≤9223372036854775808:=by omega
 exact Nat.lt_of_le_of_lt this (by decide)
theorem okn_i64 {n:Int} (h : -9223372036854775808≤n∧n≤9223372036854775807):Okn n:=okn_size (Nat.le_trans (sz_i64 h) (by decide))
set_option maxHeartbeats 1600000 in
set_option maxRecDepth 100000 in
theorem WText_any {w0:World} (b:Bool) (s:ByteArray) (hs:s.size≤4294967296) :
  Calls Tryz.prog 249 #[.agg #[.bool b,.string s]] w0 fun e w'=>∃ u k,e=.returned (.tuple #[.string u,.int .i64 k])∧(WholeOk b s∧u=textN (numOf b s)∧k=0∨¬ WholeOk b s∧u=⟨#[]⟩∧k=2)∧Below w0.heap.size w0 w':=by
 have HS:=Lib.hid hs
 have h1:=below_new w0 (.cells #[.bool b,.string s] 23)
 have h2:=below_new (w0.alloc (.cells #[.bool b,.string s] 23)) (.cells #[.bool b,.string s] 23)
 have HB:=Lib.hid (h1.trans (h2.mono h1.size))
 have HX:=Lib.hid (BoxAt.new_at (w:=w0.alloc (.cells #[.bool b,.string s] 23)) #[.bool b,.string s] 23 (size_alloc w0 _).symm)
 clear hs h1 h2
 go_enter Tryz.func249,Tryz.ntmps249
 go_wp2_with fail
 refine (of_one b s HS.out HX.out).mono ?_
 rintro e w1 ⟨h,hb⟩
 have HB1:=Lib.hid (HB.out.trans (hb.mono HB.out.size))
 clear hb
 rcases h with ⟨ho,g,cap,p,rfl,hc,hi⟩ | ⟨ho,rfl⟩
 · have HO:=Lib.hid ho
   have HI:=Lib.hid hi
   have KT:Hid (Okt (numOf b s)):=by
    have h3:(mag (numOf b s).natAbs).size≤16384:=by rw [(numOf_ok ho).2.1]; exact ho.2
    have:=wl_size h3
    unfold Hid Okt
    omega
   clear ho hi
   go_wp2_with fail
   refine (String_any HI.out KT.out).mono ?_
   rintro e w2 ⟨rfl,hb⟩
   have HB2:=Lib.hid (HB1.out.trans (hb.mono HB1.out.size))
   clear hb hc
   go_wp2
   go_ret2
   exact ⟨_,_,rfl,.inl ⟨HO.out,rfl,rfl⟩,HB2.out⟩
 · have HO:=Lib.hid ho
   clear ho
   go_wp2
   go_ret2
   exact ⟨_,_,rfl,.inr ⟨HO.out,rfl,rfl⟩,HB1.out⟩
theorem textN_len (n:Int):(textN n).size≤32*(dig n.natAbs).length+1:=by
 rw [textN_size]
 unfold txt
 have:=dd_len_words n.natAbs
 split
 · simp
 · rw [List.length_reverse,List.length_append]
   split<;>simp<;>omega
theorem textN_small {n:Int} (h:(mag n.natAbs).size≤16384):(textN n).size≤200000:=by
 have h1:=textN_len n
 have h2:=wl_size h
 omega
def textQ (x:Rat):ByteArray:=if x.den=1 then textN x.num else textN x.num++(⟨#[47]⟩++textN (x.den:Int))
def TextAns (va:Value) (u:ByteArray) (k:Int):Prop:=(∃ x,Fit x∧va=fracV x∧u=textQ x∧k=0)∨(¬ IsFrac va∧u=⟨#[]⟩∧k=2)
theorem parts_den {b c:Bool} {s t:ByteArray} {x:Rat} (h:FracParts b s c t x):c=false∧t=mag x.den∧WholeOk false t∧numOf false t=(x.den:Int):=by
 have h2:=(isFrac_parts h.isFrac).2.1
 obtain ⟨rfl,rfl,rfl,rfl⟩:=agg4 h.val
 refine ⟨rfl,rfl,h2,?_⟩
 have:=numOf_mag (x.den:Int)
 rwa [show decide ((x.den:Int)<0)=false by simp,Int.natAbs_natCast] at this
set_option maxHeartbeats 3200000 in
set_option maxRecDepth 100000 in
theorem FText_any {w0:World} (b c:Bool) (s t:ByteArray) (hs:s.size≤maxLen) (ht:t.size≤maxLen) :
  Calls Tryz.prog 106 #[.agg #[.bool b,.string s,.bool c,.string t]] w0 fun e w'=>∃ u k,e=.returned (.tuple #[.string u,.int .i64 k])∧TextAns (.agg #[.bool b,.string s,.bool c,.string t]) u k∧Below w0.heap.size w0 w':=by
 have HS:=Lib.hid hs
 have HT:=Lib.hid ht
 have HW0:=Lib.hid (below_new w0 (.cells #[.bool b,.string s,.bool c,.string t] 25))
 have HX0:=Lib.hid (BoxAt.new w0 #[.bool b,.string s,.bool c,.string t] 25)
 clear hs ht
 go_enter Tryz.func106,Tryz.ntmps106
 go_wp2_with fail
 refine (May_any b c s t HS.out HT.out).mono ?_
 rintro e w1 ⟨r,rfl,hr,hb⟩
 have HX1:=Lib.hid (HX0.out.on hb)
 have HW1:=Lib.hid (HW0.out.trans (hb.mono HW0.out.size))
 have HR:=Lib.hid hr
 clear hb hr
 cases r
 · go_wp2
   go_ret2
   exact ⟨_,_,rfl,.inr ⟨fun h=>Bool.noConfusion (HR.out.2 h),rfl,rfl⟩,HW1.out⟩
 obtain ⟨x,hx⟩:=parts_of (by first | exact HR.out.1 rfl | exact HR.out.1 trivial)
 have HX:=Lib.hid hx
 obtain ⟨rfl,ht2,ho2,hn2⟩:=parts_den hx
 have HT2:=Lib.hid ht2
 have HO2:=Lib.hid ho2
 have HN2:=Lib.hid hn2
 have hc0:=HX1.out.cell 0 (.bool b) rfl
 have hc1:=HX1.out.cell 1 (.string s) rfl
 clear hx HR ht2 ho2 hn2
 go_wp2_with fail
 refine (WText_any b s HX.out.hs).mono ?_
 rintro e w2 ⟨un,k,rfl,hu,hb⟩
 have HU:Hid (un=textN x.num):=by
  obtain ⟨h1,h2⟩:=fracV_num HX.out
  rcases hu with h | h
  · rw [← h2]; exact h.2.1
  · exact absurd h1 h.1
 have HX2:=Lib.hid (HX1.out.on hb)
 have HW2:=Lib.hid (HW1.out.trans (hb.mono HW1.out.size))
 clear hu hb hc0 hc1
 go_wp2
 refine wp_region_acts 4 (fun w'=>Below w0.heap.size w0 w'∧BoxAt w' w0.heap.size #[.bool b,.string s,.bool false,.string t] 25) (fun w w'=>Below w.heap.size w w') (fun i w v=>match i with
   | 0=>v=.pointer (some ⟨w0.heap.size,2,none⟩)
   | 1=>v=.agg #[.bool false,.string t]
   | 2=>∃ g,v=.pointer (some ⟨g,0,none⟩)∧IntAt w g 0 1
   | _=>∃ s',v=.agg #[.bool false,.string s']∧Hid (s'=mag 1)) (by kernel_rfl) (by kernel_rfl) (by kernel_rfl) ⟨HW2.out.drew,HX2.out⟩ (fun _ _=>(Below.refl _ _)) ?_ ⟨?_,?_,?_,?_,trivial⟩ ?_
 · intro i w1 w2 v hC hC2 hE hV
   match i with
   | 0=>exact hV
   | 1=>exact hV
   | 2=>obtain ⟨g,e,h⟩:=hV; exact ⟨g,e,h.on hE⟩
   | _+3=>exact hV
 · intro a' w' hag hC hd K hK
   have e1:a'.tmps.getD 1 undef=.pointer (some ⟨w0.heap.size,0,none⟩):=hag 1 rfl
   go_step
   exact hK _ _ hC ((Below.refl _ _)) rfl
 · intro a' w' hag hC hd K hK
   have e17:a'.tmps.getD 17 undef=.pointer (some ⟨w0.heap.size,2,none⟩):=hd.1
   have hc0:=hC.2.cell 2 (.bool false) rfl
   have hc1:=hC.2.cell 3 (.string t) rfl
   have HK:=Lib.hid (hK (.agg #[.bool false,.string t]) _ hC (Below.refl _ _) rfl)
   clear hK hC
   go_step
   exact HK.out
 · intro a' w' hag hC hd K hK
   go_step
   refine (NewInt_any (n:=1) (by decide)).mono ?_
   rintro e w2 ⟨g,rfl,hg,h1,h2⟩
   exact hK _ _ ⟨hC.1.trans (h2.mono hC.1.size),hC.2.on h2⟩ h2 ⟨_,rfl,h1⟩
 · intro a' w' hag hC hd K hK
   obtain ⟨g19,e19,h19⟩:=hd.1
   have e19:a'.tmps.getD 19 undef=.pointer (some ⟨g19,0,none⟩):=e19
   go_step
   refine (back_agg h19 (okn_i64 (by decide))).mono ?_
   rintro e w2 ⟨p,s',rfl,h1,h2,hb⟩
   have hp:p=false:=by rw [h1.out]; rfl
   subst hp
   exact hK _ _ ⟨hC.1.trans (hb.mono hC.1.size),hC.2.on hb⟩ hb ⟨s',rfl,h2⟩
 · intro u w' hC hall
   obtain ⟨u0,u1,u2,u3,_⟩:=hall
   have u0:u 0=.pointer (some ⟨w0.heap.size,2,none⟩):=u0
   have u1:u 1=.agg #[.bool false,.string t]:=u1
   obtain ⟨s20,eu3,hs20⟩:=u3
   have u3:u 3=.agg #[.bool false,.string s20]:=eu3
   simp only [fillR,List.take_succ_cons,List.take_zero,Act.put,List.setIfInBounds_toArray,List.set_cons_succ,List.set_cons_zero,Nat.zero_add,Nat.reduceAdd,u0,u1,u3]
   clear u0 u1 u3
   have HC:=Lib.hid hC.1
   have HX3:=Lib.hid hC.2
   clear hC
   by_cases hd:t.toList=s20.toList
   · have HD:Hid (x.den=1):=by
      have h1:=toList_inj.1 hd
      rw [HT2.out,hs20.out] at h1
      exact mag_inj h1
     go_wp2
     go_ret2
     exact ⟨_,_,rfl,.inl ⟨x,HX.out.fit,HX.out.val,by rw [textQ,if_pos HD.out]; exact HU.out,rfl⟩,HC.out⟩
   · have HD:Hid (¬ x.den=1):=fun e=>hd (by rw [HT2.out,hs20.out,e])
     have hc0:=HX3.out.cell 2 (.bool false) rfl
     have hc1:=HX3.out.cell 3 (.string t) rfl
     go_wp2_with fail
     refine (WText_any false t HX.out.ht).mono ?_
     rintro e w4 ⟨u2,k2,rfl,hu,hb⟩
     have HU2:Hid (u2=textN (x.den:Int)):=by
      rcases hu with h | h
      · rw [← HN2.out]; exact h.2.1
      · exact absurd HO2.out h.1
     have HB:=Lib.hid (HC.out.trans (hb.mono HC.out.size))
     have hu1:un.size≤200000:=by rw [HU.out]; exact textN_small (Nat.le_trans HX.out.fit.1 (by decide))
     have hu2:u2.size≤200000:=by rw [HU2.out]; exact textN_small (by rw [Int.natAbs_natCast]; exact Nat.le_trans HX.out.fit.2 (by decide))
     have hu3:((⟨#[47]⟩:ByteArray)++u2).size≤200001:=by rw [ByteArray.size_append]; show 1+u2.size≤_; omega
     clear hu hb hc0 hc1
     go_wp2
     go_ret2
     exact ⟨_,_,rfl,.inl ⟨x,HX.out.fit,HX.out.val,by rw [textQ,if_neg HD.out,← HU.out,← HU2.out],rfl⟩,HB.out⟩
end Go.Proofs.YtbepimnlleilfaaGreat
end
section
namespace Go.Proofs.YtbepimnlleilfaaGreat.Y
open Go Go.RowKit
set_option maxRecDepth 100000
def sFText {x:Rat} (h:Fit x) {u:ByteArray} (hu:textQ x=u):Spec Tryz.prog :=
 ⟨106,Tryz.call106,[.one (.a (fC x))],[],.tup [.c (.b (.v (.string u))),nI' 0],[],fun β w hh=>by
  refine (FText_any (decide (x.num<0)) false (mag x.num.natAbs) (mag x.den) (Nat.le_trans h.1 (by decide)) (Nat.le_trans h.2 (by decide))).mono ?_
  rintro e w' ⟨v,k,rfl,⟨y,_,hy,rfl,rfl⟩ | ⟨hn,_⟩,hb⟩
  · obtain rfl:x=y:=fracV_inj hy
    rw [hu]
    exact ⟨[],(fun _ h=>by cases h),rfl,trivial,hb⟩
  · exact absurd (fitF x h) hn,by kernel_rfl⟩
def z4:List Lf:=[.b (.v (.bool false)),.b (.v (.slice none 0 0)),.b (.v (.bool false)),.b (.v (.slice none 0 0))]
theorem RatAt.zero {w:World} {b:Nat} (hb:w.heap[b]?=some (.cells #[.bool false,.slice none 0 0,.bool false,.slice none 0 0] 163 (0,0))):RatAt w b 0 0:=by
 refine ⟨⟨_,_,hb,by decide,by simp⟩,⟨⟨_,_,hb,by decide,by simp⟩,?_,.slice none 0 0,?_,?_⟩,0,⟨⟨_,_,hb,by decide,by simp⟩,?_,.slice none 0 0,?_,?_⟩,.inr ⟨rfl,rfl⟩⟩
 · rw [cell_of_row _ _ _ _ _ _ hb]; rfl
 · rw [cell_of_row _ _ _ _ _ _ hb]; rfl
 · rw [show (0:Rat).num=0 from rfl,Int.natAbs_zero,dig_zero]; exact Words.nil _
 · rw [cell_of_row _ _ _ _ _ _ hb]; rfl
 · rw [cell_of_row _ _ _ _ _ _ hb]; rfl
 · rw [Int.natAbs_zero,dig_zero]; exact Words.nil _
theorem okr0:Sz KB (0:Rat):=sz_zero.mono (by decide)
def eSum0 {y:Rat} (i n k:Nat) (hy:Sz KB y):Ev Tryz.prog:=.refill 128 Tryz.call128 (fun β=>#[.pointer (some ⟨(β i).b,0,none⟩),.pointer (some ⟨(β i).b,0,none⟩),.pointer ((β k).v 0)]) [(i,.box z4 163),(k,(ratT y).ob)] i i 4 n (ratT (0+y))
 (fun β w h hji ho hs=>by
  have hb:(Ob.box z4 163).holds β w (β i):=h (i,.box z4 163) (by simp)
  obtain ⟨b,hb2,kb⟩:=needP (x:=y) (k:=k) h (by simp)
  simp only [hb2.1]
  exact fillP ho (rAdd_any hs (RatAt.zero hb.2) kb (okr0.okR2 (by decide)) (hy.okR2 (by decide))))
def eSumP {x y:Rat} (i j n k:Nat) (hx:Sz KB x) (hy:Sz KB y):Ev Tryz.prog:=.refill 128 Tryz.call128 (fun β=>#[.pointer (some ⟨(β i).b,0,none⟩),.pointer (some ⟨(β i).b,0,none⟩),.pointer ((β k).v 0)]) [(j,(ratT x).ob),(k,(ratT y).ob)] i j 4 n (ratT (x+y))
 (fun β w h hji ho hs=>by
  obtain ⟨a,ha,ka⟩:=needP (x:=x) (k:=j) h (by simp)
  obtain ⟨b,hb,kb⟩:=needP (x:=y) (k:=k) h (by simp)
  have e:=one_at ho (hji▸ha)
  subst e
  simp only [hb.1]
  exact fillP ho (rAdd_any hs ka kb (hx.okR2 (by decide)) (hy.okR2 (by decide))))
def eSumZ {x y:Rat} (i j n k:Nat) (hx:Sz KB x) (hy:Sz KB y):Ev Tryz.prog:=.refill 128 Tryz.call128 (fun β=>#[.pointer ((β j).v 0),.pointer ((β j).v 0),.pointer ((β k).v 0)]) [(j,(ratT x).ob),(k,(ratT y).ob)] i j 4 n (ratT (x+y))
 (fun β w h hji ho hs=>by
  obtain ⟨a,ha,ka⟩:=needP (x:=x) (k:=j) h (by simp)
  obtain ⟨b,hb,kb⟩:=needP (x:=y) (k:=k) h (by simp)
  have e:=one_at ho (hji▸ha)
  subst e
  simp only [ha.1,hb.1]
  exact fillP ho (rAdd_any hs ka kb (hx.okR2 (by decide)) (hy.okR2 (by decide))))
def sum0 {y:Rat} (hy:Sz KB y):Ev Tryz.prog:=.dyn (fun o _ _=>isCallB o) fun _ xs ob=>lit ob.length fun n=>lit (ptOf (xs.getD 0 undefS)) fun i=>lit (ptOf (xs.getD 2 undefS)) fun k=>eSum0 i n k hy
def sumN {x y:Rat} (hx:Sz KB x) (hy:Sz KB y):Ev Tryz.prog:=.dyn (fun o _ _=>isCallB o) fun _ xs ob=>lit ob.length fun n=>lit (ptOf (xs.getD 2 undefS)) fun k=>match xs.getD 0 undefS with
 | .one (.c (.b (.p i _)))=>lit i fun i=>lit ((findA i ob 0).getD 0) fun j=>eSumP i j n k hx hy
 | .one (.c (.b (.z j _)))=>lit j fun j=>lit (alOf ob j) fun i=>eSumZ i j n k hx hy
 | _=>.eqv 0 undef undef rfl
def roQ:Pt→Nat→Rat
 | .inf,0=>Rat.divInt 1 1
 | .inf,_=>Rat.divInt 0 1
 | .fin z,0=>gnorm z
 | .fin z,1=>z.re
 | .fin z,2=>z.im
 | .fin _,_=>Rat.divInt 1 1
abbrev roT (p:Pt):List Thing:=[ratT (roQ p 0),ratT (roQ p 1),ratT (roQ p 2),ratT (roQ p 3)]
def sRow {p:Pt} (hp:FitP p):Spec Tryz.prog :=
 ⟨305,Tryz.call305,[pV 0 p],pM p,.one (.a [.b (.z 2 0),.b (.z 3 0),.b (.z 4 0),.b (.z 5 0)]),roT p,fun β w hh=>by
  cases p with
  | inf=>exact spec_auto (args:=[pV 0 .inf]) (obs:=pM .inf) (res:=.one (.a [.b (.z 2 0),.b (.z 3 0),.b (.z 4 0),.b (.z 5 0)])) (news:=roT .inf) (evs:=[nNew 1 1 (by decide) (by decide) (by decide),nZero,nZero,nZero]) (Ns:=[]) (m:=400) Tryz.func305 hmA (fun β=>by kernel_rfl) (by kernel_rfl) β w hh
  | fin z=>exact spec_auto (args:=[pV 0 (.fin z)]) (obs:=pM (.fin z)) (res:=.one (.a [.b (.z 2 0),.b (.z 3 0),.b (.z 4 0),.b (.z 5 0)])) (news:=roT (.fin z)) (evs:=[(sParts z).e,(sNorm (fitG_sz hp |>.mono (by decide))).e,nNew 1 1 (by decide) (by decide) (by decide)]) (Ns:=[]) (m:=400) Tryz.func305 hmA (fun β=>by kernel_rfl) (by kernel_rfl) β w hh,by cases p<;>kernel_rfl⟩
abbrev KD5:Nat:=5000
theorem ro_sz {p:Pt} (hp:FitP p) (n:Nat):Sz KD5 (roQ p n):=by
 cases p with
 | inf=>match n with
  | 0=>exact one_sz.mono (by decide)
  | n+1=>exact zero_sz.mono (by decide)
 | fin z =>
  have h:GSz 1024 z:=fitG_sz hp
  match n with
  | 0=>exact h.norm.mono (by decide)
  | 1=>exact h.1.mono (by decide)
  | 2=>exact h.2.mono (by decide)
  | n+3=>exact one_sz.mono (by decide)
section
variable {f g h:Nat→Rat} (hf:∀ n,Sz KD5 (f n)) (hg:∀ n,Sz KD5 (g n)) (hh:∀ n,Sz KD5 (h n))
def trm (f g h:Nat→Rat) (s:Int) (a b c:Nat):Rat:=Rat.divInt s 1*(f a*(g b*h c))
def detE (f g h:Nat→Rat) (i j k:Nat):Rat:=0+trm f g h 1 i j k+trm f g h 1 j k i+trm f g h 1 k i j+trm f g h (-1) i k j+trm f g h (-1) j i k+trm f g h (-1) k j i
abbrev KT:Nat:=15008
include hf hg hh in
theorem trm1_sz (a b c:Nat):Sz KT (trm f g h 1 a b c):=((sz_lit 1 1 (by decide) (by decide) (by decide)).mul ((hf a).mul ((hg b).mul (hh c)))).mono (by decide)
include hf hg hh in
theorem trmN_sz (a b c:Nat):Sz KT (trm f g h (-1) a b c):=((sz_lit (-1) 1 (by decide) (by decide) (by decide)).mul ((hf a).mul ((hg b).mul (hh c)))).mono (by decide)
def tmE (s:Int) (hs : -9223372036854775808≤s∧s≤9223372036854775807) (hz:Sz 8 (Rat.divInt s 1)) (a b c:Nat):List (Ev Tryz.prog) :=
 [nNew s 1 hs (by decide) (by decide),(sMulR ((hg b).mono (by decide)) ((hh c).mono (by decide))).e,(sMulR ((hf a).mono (by decide)) (((hg b).mul (hh c)).mono (by decide))).e,(sMulR (hz.mono (by decide)) (((hf a).mul ((hg b).mul (hh c))).mono (by decide))).e]
theorem one8:Sz 8 (Rat.divInt 1 1):=sz_lit 1 1 (by decide) (by decide) (by decide)
theorem mone8:Sz 8 (Rat.divInt (-1) 1):=sz_lit (-1) 1 (by decide) (by decide) (by decide)
include hf hg hh in
theorem det_szs (i j k:Nat):Sz (1+KT+1) (0+trm f g h 1 i j k)∧Sz (1+KT+1+KT+1) (0+trm f g h 1 i j k+trm f g h 1 j k i)∧Sz (1+KT+1+KT+1+KT+1) (0+trm f g h 1 i j k+trm f g h 1 j k i+trm f g h 1 k i j) ∧
  Sz (1+KT+1+KT+1+KT+1+KT+1) (0+trm f g h 1 i j k+trm f g h 1 j k i+trm f g h 1 k i j+trm f g h (-1) i k j)∧Sz (1+KT+1+KT+1+KT+1+KT+1+KT+1) (0+trm f g h 1 i j k+trm f g h 1 j k i+trm f g h 1 k i j+trm f g h (-1) i k j+trm f g h (-1) j i k)∧Sz 100000 (detE f g h i j k):=by
 have a1:=sz_zero.add (trm1_sz hf hg hh i j k)
 have a2:=a1.add (trm1_sz hf hg hh j k i)
 have a3:=a2.add (trm1_sz hf hg hh k i j)
 have a4:=a3.add (trmN_sz hf hg hh i k j)
 have a5:=a4.add (trmN_sz hf hg hh j i k)
 have a6:=a5.add (trmN_sz hf hg hh k j i)
 exact ⟨a1,a2,a3,a4,a5,a6.mono (by decide)⟩
abbrev iV (n:Nat):SV:=.one (.c (.b (.v (.int .i64 (n:Int)))))
abbrev rowO (f g h:Nat→Rat):List Ob:=[(ratT (f 0)).ob,(ratT (f 1)).ob,(ratT (f 2)).ob,(ratT (f 3)).ob,(ratT (g 0)).ob,(ratT (g 1)).ob,(ratT (g 2)).ob,(ratT (g 3)).ob,(ratT (h 0)).ob,(ratT (h 1)).ob,(ratT (h 2)).ob,(ratT (h 3)).ob,
 .box [.b (.z 0 0),.b (.z 1 0),.b (.z 2 0),.b (.z 3 0),.b (.z 4 0),.b (.z 5 0),.b (.z 6 0),.b (.z 7 0),.b (.z 8 0),.b (.z 9 0),.b (.z 10 0),.b (.z 11 0)] 345]
def detEv (i j k:Nat):List (Ev Tryz.prog) :=
 have z:=det_szs hf hg hh i j k
 tmE hf hg hh 1 (by decide) one8 i j k++[sum0 ((trm1_sz hf hg hh i j k).mono (by decide))]++tmE hf hg hh 1 (by decide) one8 j k i++[sumN (z.1.mono (by decide)) ((trm1_sz hf hg hh j k i).mono (by decide))] ++
  tmE hf hg hh 1 (by decide) one8 k i j++[sumN (z.2.1.mono (by decide)) ((trm1_sz hf hg hh k i j).mono (by decide))]++tmE hf hg hh (-1) (by decide) mone8 i k j++[sumN (z.2.2.1.mono (by decide)) ((trmN_sz hf hg hh i k j).mono (by decide))] ++
  tmE hf hg hh (-1) (by decide) mone8 j i k++[sumN (z.2.2.2.1.mono (by decide)) ((trmN_sz hf hg hh j i k).mono (by decide))]++tmE hf hg hh (-1) (by decide) mone8 k j i++[sumN (z.2.2.2.2.1.mono (by decide)) ((trmN_sz hf hg hh k j i).mono (by decide))]
noncomputable def sDet123:OSpec Tryz.prog :=
 OSpec.auto Tryz.call306 [iV 1,iV 2,iV 3,.one (.c (.b (.p 12 0)))] (rowO f g h) (rV 13) [detE f g h 1 2 3] (detEv hf hg hh 1 2 3) [(5,23)] 3000 Tryz.func306 hmA (by kernel_rfl) (fun β=>by kernel_rfl)
noncomputable def sDet023:OSpec Tryz.prog :=
 OSpec.auto Tryz.call306 [iV 0,iV 2,iV 3,.one (.c (.b (.p 12 0)))] (rowO f g h) (rV 13) [detE f g h 0 2 3] (detEv hf hg hh 0 2 3) [(5,23)] 3000 Tryz.func306 hmA (by kernel_rfl) (fun β=>by kernel_rfl)
noncomputable def sDet013:OSpec Tryz.prog :=
 OSpec.auto Tryz.call306 [iV 0,iV 1,iV 3,.one (.c (.b (.p 12 0)))] (rowO f g h) (rV 13) [detE f g h 0 1 3] (detEv hf hg hh 0 1 3) [(5,23)] 3000 Tryz.func306 hmA (by kernel_rfl) (fun β=>by kernel_rfl)
noncomputable def sDet012:OSpec Tryz.prog :=
 OSpec.auto Tryz.call306 [iV 0,iV 1,iV 2,.one (.c (.b (.p 12 0)))] (rowO f g h) (rV 13) [detE f g h 0 1 2] (detEv hf hg hh 0 1 2) [(5,23)] 3000 Tryz.func306 hmA (by kernel_rfl) (fun β=>by kernel_rfl)
end
theorem rat_self {x:Rat} (h:x≠0):x*x⁻¹=1:=Rat.mul_inv_cancel x h
theorem rby_one {r:RQ} (h0:rby r≠0):rby (rone r)=1:=by
 unfold rone
 generalize hx:rby r=x at h0 ⊢
 unfold rby rbyQ at hx
 have key:∀ y:Rat,y=0→y*x⁻¹=0:=fun y e=>by rw [e,Rat.zero_mul]
 cases h1:decide (r.a=0) with
 | false =>
  rw [h1] at hx
  have e:(rnm r x).a=1:=by show r.a*x⁻¹=1; rw [show r.a=x from hx]; exact rat_self h0
  unfold rby rbyQ
  rw [show decide ((rnm r x).a=0)=false by rw [e]; decide]
  exact e
 | true =>
  have ha:(rnm r x).a=0:=key _ (of_decide_eq_true h1)
  cases h2:decide (r.b.re=0) with
  | false =>
   rw [h1,h2] at hx
   have e:(rnm r x).b.re=1:=by show r.b.re*x⁻¹=1; rw [show r.b.re=x from hx]; exact rat_self h0
   unfold rby rbyQ
   rw [show decide ((rnm r x).a=0)=true by rw [ha]; decide,show decide ((rnm r x).b.re=0)=false by rw [e]; decide]
   exact e
  | true =>
   rw [h1,h2] at hx
   have hr:(rnm r x).b.re=0:=key _ (of_decide_eq_true h2)
   have e:(rnm r x).b.im=1:=by show r.b.im*x⁻¹=1; rw [show r.b.im=x from hx]; exact rat_self h0
   unfold rby rbyQ
   rw [show decide ((rnm r x).a=0)=true by rw [ha]; decide,show decide ((rnm r x).b.re=0)=true by rw [hr]; decide]
   exact e
theorem rone_rone {r:RQ} (h0:rby r≠0):rone (rone r)=rone r:=by
 have h1:(1:Rat)⁻¹=1:=of_decide_eq_true (by kernel_rfl:decide ((1:Rat)⁻¹=1)=true)
 have h:∀ s:RQ,rnm s 1=s:=fun s=>by
  unfold rnm gscale
  rw [h1,Rat.mul_one,Rat.mul_one,Rat.mul_one,Rat.mul_one]
 have:rone (rone r)=rnm (rone r) 1:=by rw [← rby_one h0]; rfl
 rw [this,h]
theorem sq_sum {x y:Rat} (h:x*x+y*y=0):x=0∧y=0:=by
 have hn:∀ z:Rat,0≤z*z:=fun z=>by
  rcases Rat.le_total (a:=0) (b:=z) with h | h
  · exact Rat.mul_nonneg h h
  · have:=Rat.mul_nonneg (a:=-z) (b:=-z) (by grind) (by grind)
    grind
 have h1:=hn x
 have h2:=hn y
 have e1:x*x=0:=by grind
 have e2:y*y=0:=by grind
 exact ⟨by rcases Rat.mul_eq_zero.1 e1 with h | h<;>exact h,by rcases Rat.mul_eq_zero.1 e2 with h | h<;>exact h⟩
theorem tri_no {a b u1 u2 v1 v2:Rat} (hu:¬ (u1=0∧u2=0)) (hv:¬ (v1=0∧v2=0)) (hd:¬ (u1-v1=0∧u2-v2=0))
  (k1:u1*v2-u2*v1=0) (k2:(2*(a*u1+b*u2)+(u1*u1+u2*u2))*v2=(2*(a*v1+b*v2)+(v1*v1+v2*v2))*u2)
  (k3:(2*(a*u1+b*u2)+(u1*u1+u2*u2))*v1=(2*(a*v1+b*v2)+(v1*v1+v2*v2))*u1):False:=by
 have a1:(a*u1+b*u2)*(v1*v1+v2*v2)=(a*v1+b*v2)*(u1*v1+u2*v2):=by
  have:(a*u1+b*u2)*(v1*v1+v2*v2)-(a*v1+b*v2)*(u1*v1+u2*v2)=(a*v2-b*v1)*(u1*v2-u2*v1):=by grind
  rw [k1,Rat.mul_zero] at this
  grind
 have a2:(a*u1+b*u2)*(u1*v1+u2*v2)=(a*v1+b*v2)*(u1*u1+u2*u2):=by
  have:(a*u1+b*u2)*(u1*v1+u2*v2)-(a*v1+b*v2)*(u1*u1+u2*u2)=(a*u2-b*u1)*(u1*v2-u2*v1):=by grind
  rw [k1,Rat.mul_zero] at this
  grind
 have b1:(2*(a*u1+b*u2)+(u1*u1+u2*u2))*(v1*v1+v2*v2)=(2*(a*v1+b*v2)+(v1*v1+v2*v2))*(u1*v1+u2*v2):=by
  have:(2*(a*u1+b*u2)+(u1*u1+u2*u2))*(v1*v1+v2*v2)=((2*(a*u1+b*u2)+(u1*u1+u2*u2))*v1)*v1+((2*(a*u1+b*u2)+(u1*u1+u2*u2))*v2)*v2:=by grind
  rw [this,k3,k2]
  grind
 have b2:(2*(a*u1+b*u2)+(u1*u1+u2*u2))*(u1*v1+u2*v2)=(2*(a*v1+b*v2)+(v1*v1+v2*v2))*(u1*u1+u2*u2):=by
  have:(2*(a*u1+b*u2)+(u1*u1+u2*u2))*(u1*v1+u2*v2)=((2*(a*u1+b*u2)+(u1*u1+u2*u2))*v1)*u1+((2*(a*u1+b*u2)+(u1*u1+u2*u2))*v2)*u2:=by grind
  rw [this,k3,k2]
  grind
 generalize hα:a*u1+b*u2=α at *
 generalize hβ:a*v1+b*v2=β at *
 generalize hS:u1*u1+u2*u2=S at *
 generalize hT:v1*v1+v2*v2=T at *
 generalize hP:u1*v1+u2*v2=Q at *
 have hS0:S≠0:=fun e=>hu (sq_sum (by rw [hS]; exact e))
 have hT0:T≠0:=fun e=>hv (sq_sum (by rw [hT]; exact e))
 have c1:T*(S-Q)=0:=by grind
 have c2:S*(Q-T)=0:=by grind
 have d1:S-Q=0:=(Rat.mul_eq_zero.1 c1).resolve_left hT0
 have d2:Q-T=0:=(Rat.mul_eq_zero.1 c2).resolve_left hS0
 exact hd (sq_sum (by grind))
theorem lit1:(Rat.divInt 1 1:Rat)=1:=of_decide_eq_true (by kernel_rfl:decide ((Rat.divInt 1 1:Rat)=1)=true)
theorem litN:(Rat.divInt (-1) 1:Rat) = -1:=of_decide_eq_true (by kernel_rfl:decide ((Rat.divInt (-1) 1:Rat) = -1)=true)
theorem litH:(Rat.divInt (-1) 2:Rat) = -(Rat.divInt 1 2):=of_decide_eq_true (by kernel_rfl:decide ((Rat.divInt (-1) 2:Rat) = -(Rat.divInt 1 2))=true)
theorem litH0:(Rat.divInt (-1) 2:Rat)≠0:=of_decide_eq_true (by kernel_rfl:decide ((Rat.divInt (-1) 2:Rat)≠0)=true)
abbrev hlf:Rat:=Rat.divInt (-1) 2
def detR (f g h:Nat→Rat) (i j k:Nat):Rat:=f i*(g j*h k-g k*h j)-f j*(g i*h k-g k*h i)+f k*(g i*h j-g j*h i)
theorem det_eq (f g h:Nat→Rat) (i j k:Nat):detE f g h i j k=detR f g h i j k:=by
 unfold detE detR trm
 rw [lit1,litN]
 grind
def thrQ (p q r:Pt):RQ:=⟨detE (roQ p) (roQ q) (roQ r) 1 2 3,⟨detE (roQ p) (roQ q) (roQ r) 0 2 3*hlf,detE (roQ p) (roQ q) (roQ r) 0 1 3*hlf⟩,-(detE (roQ p) (roQ q) (roQ r) 0 1 2)⟩
theorem thr_dets {p q r:Pt} (h1:p≠q) (h2:q≠r) (h3:p≠r):¬ (detE (roQ p) (roQ q) (roQ r) 1 2 3=0∧detE (roQ p) (roQ q) (roQ r) 0 2 3=0∧detE (roQ p) (roQ q) (roQ r) 0 1 3=0):=by
 rw [det_eq,det_eq,det_eq]
 unfold detR
 have ne:∀ {z w:GQ},Pt.fin z≠Pt.fin w→¬ (z.re=w.re∧z.im=w.im):=fun h e=>h (congrArg Pt.fin (GQ.ext2 e.1 e.2))
 rintro ⟨k1,k2,k3⟩
 cases p with
 | inf=>cases q with
  | inf=>exact h1 rfl
  | fin w=>cases r with
   | inf=>exact h3 rfl
   | fin t =>
    simp only [roQ,lit1,zero_div] at k1 k2 k3
    exact ne h2 ⟨by grind,by grind⟩
 | fin z=>cases q with
  | inf=>cases r with
   | inf=>exact h2 rfl
   | fin t =>
    simp only [roQ,lit1,zero_div] at k1 k2 k3
    exact ne h3 ⟨by grind,by grind⟩
  | fin w=>cases r with
   | inf =>
    simp only [roQ,lit1,zero_div] at k1 k2 k3
    exact ne h1 ⟨by grind,by grind⟩
   | fin t =>
    simp only [roQ,lit1,gnorm] at k1 k2 k3
    refine tri_no (a:=z.re) (b:=z.im) (u1:=w.re-z.re) (u2:=w.im-z.im) (v1:=t.re-z.re) (v2:=t.im-z.im) (fun e=>ne h1 ⟨by grind,by grind⟩) (fun e=>ne h3 ⟨by grind,by grind⟩) (fun e=>ne h2 ⟨by grind,by grind⟩) ?_ ?_ ?_
    · grind
    · grind
    · grind
theorem thr_ne {p q r:Pt} (h1:p≠q) (h2:q≠r) (h3:p≠r):rby (thrQ p q r)≠0:=by
 intro e
 have h:=thr_dets h1 h2 h3
 unfold rby rbyQ thrQ at e
 dsimp only at e
 have hh:∀ x:Rat,x*hlf=0→x=0:=fun x e=>(Rat.mul_eq_zero.1 e).resolve_right litH0
 cases k1:decide (detE (roQ p) (roQ q) (roQ r) 1 2 3=0) with
 | false=>rw [k1] at e; exact of_decide_eq_false k1 e
 | true=>cases k2:decide (detE (roQ p) (roQ q) (roQ r) 0 2 3*hlf=0) with
  | false=>rw [k1,k2] at e; exact of_decide_eq_false k2 e
  | true =>
   rw [k1,k2] at e
   exact h ⟨of_decide_eq_true k1,hh _ (of_decide_eq_true k2),hh _ e⟩
section
variable {p q r:Pt} (hp:FitP p) (hq:FitP q) (hr:FitP r)
theorem hlf_sz:Sz 8 hlf:=sz_lit (-1) 2 (by decide) (by decide) (by decide)
include hp hq hr in
theorem dt_sz (i j k:Nat):Sz 100000 (detE (roQ p) (roQ q) (roQ r) i j k):=(det_szs (ro_sz hp) (ro_sz hq) (ro_sz hr) i j k).2.2.2.2.2
include hp hq hr in
theorem thr_sz:RSz 300000 (thrQ p q r) :=
 ⟨(dt_sz hp hq hr 1 2 3).mono (by decide),⟨((dt_sz hp hq hr 0 2 3).mul hlf_sz).mono (by decide),((dt_sz hp hq hr 0 1 3).mul hlf_sz).mono (by decide)⟩,(dt_sz hp hq hr 0 1 2).neg.mono (by decide)⟩
noncomputable def sEThrough (h0:rby (thrQ p q r)≠0):Spec Tryz.prog :=
 Spec.auto Tryz.call190 [pV 0 p,pV 2 q,pV 4 r] (pM p++pM q++pM r) (rgV 6) (rgT (rone (thrQ p q r)))
  [(sRow hp).e,(sRow hq).e,(sRow hr).e,nNew (-1) 2 (by decide) (by decide) (by decide),(sDet123 (ro_sz hp) (ro_sz hq) (ro_sz hr)).e,(sDet023 (ro_sz hp) (ro_sz hq) (ro_sz hr)).e,(sMulR ((dt_sz hp hq hr 0 2 3).mono (by decide)) (hlf_sz.mono (by decide))).e,
   (sDet013 (ro_sz hp) (ro_sz hq) (ro_sz hr)).e,(sMulR ((dt_sz hp hq hr 0 1 3).mono (by decide)) (hlf_sz.mono (by decide))).e,mkR,(sDet012 (ro_sz hp) (ro_sz hq) (ro_sz hr)).e,fNeg (detE (roQ p) (roQ q) (roQ r) 0 1 2),(sRNormal ((thr_sz hp hq hr).mono (by decide)) rfl rfl h0).e]
  [(1,8)] 3000 Tryz.func190 hmA (by kernel_rfl) (fun β=>by kernel_rfl)
end
abbrev rowL (f:Nat→Rat):List Lf:=fC (f 0)++fC (f 1)++fC (f 2)++fC (f 3)
theorem sz1_le:sz 1≤1000000000:=Nat.le_trans (m:=1) (sz_le.2 (by decide)) (by decide)
theorem sz2_le:sz 2≤1000000000:=Nat.le_trans (m:=1) (sz_le.2 (by decide)) (by decide)
def sR3Small (n m:Int) (hn : -9223372036854775808≤n∧n≤9223372036854775807) (hm : -9223372036854775808≤m∧m≤9223372036854775807) (h0:m≠0) (sn:sz n≤1000000000) (sm:sz m≤1000000000):Spec Tryz.prog :=
 Spec.auto Tryz.call182 [.one (svI n),.one (svI m)] [] (.one (.a (fC (Rat.divInt n m)))) [] [eWOf n hn,eWOf m hm,eFOf sn sm h0] [] 400 Tryz.func182 hmA (by kernel_rfl) (fun β=>by kernel_rfl)
def sCRow {p:Pt} (hp:FitP p):Spec Tryz.prog :=
 ⟨310,Tryz.call310,[svP p],[],.one (.a (rowL (roQ p))),[],fun β w hh=>by
  cases p with
  | inf=>exact spec_auto (evs:=[(sR3Int 1 (by decide)).e,(sR3Int 0 (by decide)).e,(sR3Int 0 (by decide)).e,(sR3Int 0 (by decide)).e]) (Ns:=[(3,11)]) (m:=400) Tryz.func310 hmA (fun β=>by kernel_rfl) (by kernel_rfl) β w hh
  | fin z=>exact spec_auto (evs:=[(sR4Norm (fitG_sz hp |>.mono (by decide))).e,(sR3Int 1 (by decide)).e]) (Ns:=[(3,11)]) (m:=400) Tryz.func310 hmA (fun β=>by kernel_rfl) (by kernel_rfl) β w hh,by cases p<;>kernel_rfl⟩
section
variable {f g h:Nat→Rat} (hf:∀ n,Sz KD5 (f n)) (hg:∀ n,Sz KD5 (g n)) (hh:∀ n,Sz KD5 (h n))
def drE (a b c d e:Nat):List (Ev Tryz.prog) :=
 [(sR3Times (((hg b)).mono (by decide)) ((hh c).mono (by decide))).e,(sR3Times ((hg d).mono (by decide)) ((hh e).mono (by decide))).e,(sR3Minus (((hg b).mul (hh c)).mono (by decide)) (((hg d).mul (hh e)).mono (by decide))).e,(sR3Times ((hf a).mono (by decide)) ((((hg b).mul (hh c)).sub ((hg d).mul (hh e))).mono (by decide))).e]
include hf hg hh in
theorem dr_sz (a b c d e:Nat):Sz 30000 (f a*(g b*h c-g d*h e)):=((hf a).mul (((hg b).mul (hh c)).sub ((hg d).mul (hh e)))).mono (by decide)
def drEv (i j k:Nat):List (Ev Tryz.prog) :=
 drE hf hg hh i j k k j++drE hf hg hh j i k k i++drE hf hg hh k i j j i++[(sR3Minus ((dr_sz hf hg hh i j k k j).mono (by decide)) ((dr_sz hf hg hh j i k k i).mono (by decide))).e,(sR3Plus (((dr_sz hf hg hh i j k k j).sub (dr_sz hf hg hh j i k k i)).mono (by decide)) ((dr_sz hf hg hh k i j j i).mono (by decide))).e]
abbrev drA (f g h:Nat→Rat):SV:=.one (.a (rowL f++rowL g++rowL h))
def drN:List (Nat × Nat):=[(1,25),(2,25),(3,25),(4,5)]
def sRD123:Spec Tryz.prog:=Spec.auto Tryz.call311 [drA f g h,iV 1,iV 2,iV 3] [] (.one (.a (fC (detR f g h 1 2 3)))) [] (drEv hf hg hh 1 2 3) drN 1600 Tryz.func311 hmA (by kernel_rfl) (fun β=>by kernel_rfl)
def sRD023:Spec Tryz.prog:=Spec.auto Tryz.call311 [drA f g h,iV 0,iV 2,iV 3] [] (.one (.a (fC (detR f g h 0 2 3)))) [] (drEv hf hg hh 0 2 3) drN 1600 Tryz.func311 hmA (by kernel_rfl) (fun β=>by kernel_rfl)
def sRD013:Spec Tryz.prog:=Spec.auto Tryz.call311 [drA f g h,iV 0,iV 1,iV 3] [] (.one (.a (fC (detR f g h 0 1 3)))) [] (drEv hf hg hh 0 1 3) drN 1600 Tryz.func311 hmA (by kernel_rfl) (fun β=>by kernel_rfl)
def sRD012:Spec Tryz.prog:=Spec.auto Tryz.call311 [drA f g h,iV 0,iV 1,iV 2] [] (.one (.a (fC (detR f g h 0 1 2)))) [] (drEv hf hg hh 0 1 2) drN 1600 Tryz.func311 hmA (by kernel_rfl) (fun β=>by kernel_rfl)
end
def thrR (p q r:Pt):RQ:=⟨detR (roQ p) (roQ q) (roQ r) 1 2 3,⟨-(detR (roQ p) (roQ q) (roQ r) 0 2 3*Rat.divInt 1 2),-(detR (roQ p) (roQ q) (roQ r) 0 1 3*Rat.divInt 1 2)⟩,-(detR (roQ p) (roQ q) (roQ r) 0 1 2)⟩
theorem thrR_eq (p q r:Pt):thrR p q r=thrQ p q r:=by
 unfold thrR thrQ
 rw [det_eq,det_eq,det_eq,det_eq,hlf,litH]
 congr 1
 congr 1
 · grind
 · grind
section
variable {p q r:Pt} (hp:FitP p) (hq:FitP q) (hr:FitP r)
theorem hf_sz:Sz 8 (Rat.divInt 1 2):=sz_lit 1 2 (by decide) (by decide) (by decide)
include hp hq hr in
theorem dq_sz (i j k:Nat):Sz 100000 (detR (roQ p) (roQ q) (roQ r) i j k):=by rw [← det_eq]; exact dt_sz hp hq hr i j k
include hp hq hr in
theorem thrR_sz:RSz KC (thrR p q r):=by rw [thrR_eq]; exact (thr_sz hp hq hr).mono (by decide)
def sCNorm2 (h0:rby (thrR p q r)≠0):Spec Tryz.prog :=
 (sCNormal (thrR_sz hp hq hr) rfl rfl h0).conv (.one (.a (cC (rone (thrR p q r))))) (congrArg rS (rqd_eq (thrR p q r) (rby (thrR p q r))))
noncomputable def sCThrough (h1:ptB p q=false) (h2:ptB q r=false) (h3:ptB p r=false) (h0:rby (thrR p q r)≠0):Spec Tryz.prog :=
 (Spec.auto Tryz.call196 [svP p,svP q,svP r] [] (.tup [.a (cC (rone (thrR p q r))),nI' 0]) []
  [eqEvPt h1,eqEvPt h2,eqEvPt h3,(sCRow hp).e,(sCRow hq).e,(sCRow hr).e,(sR3Small 1 2 (by decide) (by decide) (by decide) sz1_le sz2_le).e,
   (sRD023 (ro_sz hp) (ro_sz hq) (ro_sz hr)).e,(sR3Times ((dq_sz hp hq hr 0 2 3).mono (by decide)) (hf_sz.mono (by decide))).e,(sR3Neg (detR (roQ p) (roQ q) (roQ r) 0 2 3*Rat.divInt 1 2)).e,
   (sRD013 (ro_sz hp) (ro_sz hq) (ro_sz hr)).e,(sR3Times ((dq_sz hp hq hr 0 1 3).mono (by decide)) (hf_sz.mono (by decide))).e,(sR3Neg (detR (roQ p) (roQ q) (roQ r) 0 1 3*Rat.divInt 1 2)).e,
   (sRD123 (ro_sz hp) (ro_sz hq) (ro_sz hr)).e,(sRD012 (ro_sz hp) (ro_sz hq) (ro_sz hr)).e,(sR3Neg (detR (roQ p) (roQ q) (roQ r) 0 1 2)).e,(sCNorm2 hp hq hr h0).e]
  [(3,8),(5,12),(6,7)] 3000 Tryz.func196 hmA (by kernel_rfl) (fun β=>by kernel_rfl)).conv (.tup [.a (cC (rone (thrQ p q r))),nI' 0]) (congrArg (fun x=>SV.tup [.a (cC (rone x)),nI' 0]) (thrR_eq p q r))
end
end Go.Proofs.YtbepimnlleilfaaGreat.Y
end
