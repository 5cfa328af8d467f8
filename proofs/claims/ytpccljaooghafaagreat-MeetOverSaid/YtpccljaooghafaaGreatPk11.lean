/- EyE, MayP, Rs4, Pts, Alg, Rs7, EyF, MoA, MoC, EqM, MkA, Row, Osp, GsB, L4, CiA, CiB, IntG, GsC, GsD, Ops, Nst, GsT, CiC, CiD, CiE, CiF, CiG, Yd, G1. -/
import Derived.Deep.MidRow
import Derived.Test.YtpccljaooghafaaGreatPk10
set_option linter.unnecessarySimpa false
set_option linter.unusedVariables false
set_option linter.unusedSimpArgs false
section
namespace Go.Proofs.YtpccljaooghafaaGreat.Y
open Go Go.RowKit
set_option maxRecDepth 100000
def eqEv (t:TypeId) (xs ys:Array Value) (r:Bool) (hg:Tryz.prog.eqGuardType Tryz.prog.depth t=false) (h:∀ w,(Op.equalIn 10000 t (.agg xs) (.agg ys)).run Tryz.prog w=.ok r w):Ev Tryz.prog :=
 .dyn (fun o _ _=>match o.op with
  | .binOp .eql t' _ _ _=>Nat.beq t' t
  | .binOp .neq t' _ _ _=>Nat.beq t' t
  | _=>false) fun o _ _=>match o.op with
  | .binOp .eql _ a b u=>.gen (o.dst.getD 0) (.binOp .eql t a b u) [.agg xs,.agg ys] (.bool r) (fun ρ o w ho hx=>by
    simp only [Op.operands,List.map_cons,List.map_nil,List.cons.injEq] at hx
    exact exec_eql hg (h w) a b ρ o ho hx.1 hx.2.1)
  | .binOp .neq _ a b u=>.gen (o.dst.getD 0) (.binOp .neq t a b u) [.agg xs,.agg ys] (.bool (!r)) (fun ρ o w ho hx=>by
    simp only [Op.operands,List.map_cons,List.map_nil,List.cons.injEq] at hx
    exact exec_neq hg (h w) a b ρ o ho hx.1 hx.2.1)
  | _=>.eqv 0 undef undef rfl
def eqEvP (i i':Bool) (x y x' y':R4) (r:Bool) (h:((i==i')&&((x.eq x'&&(y.eq y'&&true))&&true))=r):Ev Tryz.prog :=
 eqEv 51 #[.bool i,.bool x.b,.string x.s,.bool x.c,.string x.t,.bool y.b,.string y.s,.bool y.c,.string y.t] #[.bool i',.bool x'.b,.string x'.s,.bool x'.c,.string x'.t,.bool y'.b,.string y'.s,.bool y'.c,.string y'.t] r (by kernel_rfl) (fun w=>by rw [← h]; exact eqP 9995 i i' x y x' y')
def eqEvF (x x':R4) (r:Bool) (h:x.eq x'=r):Ev Tryz.prog :=
 eqEv 25 #[.bool x.b,.string x.s,.bool x.c,.string x.t] #[.bool x'.b,.string x'.s,.bool x'.c,.string x'.t] r (by kernel_rfl) (fun w=>by rw [← h]; exact eqF 9997 ..)
def spI:Pp→Bool
 | .fin ..=>false
 | _=>true
def spT:Pp→List Thing
 | .fin a b=>ofT a b
 | _=>gM g0
def sSpot (p:Pp):Spec Tryz.prog :=
 ⟨168,Tryz.call168,[.one (.a (lsX p.C))],[],.tup [.a [.b (.v (.bool (spI p))),.b (.z 0 0),.b (.z 1 0)],.c (.b (.v (.bool p.B)))],spT p,fun β w hh=>by
  rcases p with _ | ⟨a,b⟩ | ⟨x,y,h⟩
  · exact nilpair (r:=(SV.tup [.a [.b (.v (.bool true)),.b (.v (.pointer none)),.b (.v (.pointer none))],.c (.b (.v (.bool true)))]).den) (r':=(SV.tup [.a [.b (.v (.bool true)),.b (.z 0 0),.b (.z 1 0)],.c (.b (.v (.bool true)))]).den) (spec_auto (args:=[.one (.a (lsX Pp.inf.C))]) (obs:=[]) (res:=.tup [.a [.b (.v (.bool true)),.b (.v (.pointer none)),.b (.v (.pointer none))],.c (.b (.v (.bool true)))]) (news:=[]) (evs:=[]) (Ns:=[(2,2004005)]) (m:=400) Tryz.func168 hmA (fun β=>by kernel_rfl) (by kernel_rfl) β w hh) (by kernel_rfl)
  · cases a with
    | ok x hx=>cases b with
     | ok y hy=>exact spec_auto (obs:=[]) (evs:=[(sOf (.ok x hx) (.ok y hy)).e]) (Ns:=[(2,2004005)]) (m:=400) Tryz.func168 hmA (fun β=>by kernel_rfl) (by kernel_rfl) β w hh
     | no b2 c2 s2 t2 h2 u2 v2=>exact spec_auto (obs:=[]) (evs:=[(sOf (.ok x hx) (.no b2 c2 s2 t2 h2 u2 v2)).e]) (Ns:=[(2,2004005)]) (m:=400) Tryz.func168 hmA (fun β=>by kernel_rfl) (by kernel_rfl) β w hh
    | no b1 c1 s1 t1 h1 u1 v1=>cases b with
     | ok y hy=>exact spec_auto (obs:=[]) (evs:=[(sOf (.no b1 c1 s1 t1 h1 u1 v1) (.ok y hy)).e]) (Ns:=[(2,2004005)]) (m:=400) Tryz.func168 hmA (fun β=>by kernel_rfl) (by kernel_rfl) β w hh
     | no b2 c2 s2 t2 h2 u2 v2=>exact spec_auto (obs:=[]) (evs:=[(sOf (.no b1 c1 s1 t1 h1 u1 v1) (.no b2 c2 s2 t2 h2 u2 v2)).e]) (Ns:=[(2,2004005)]) (m:=400) Tryz.func168 hmA (fun β=>by kernel_rfl) (by kernel_rfl) β w hh
  · exact nilpair (r:=(SV.tup [.a [.b (.v (.bool true)),.b (.v (.pointer none)),.b (.v (.pointer none))],.c (.b (.v (.bool false)))]).den) (r':=(SV.tup [.a [.b (.v (.bool true)),.b (.z 0 0),.b (.z 1 0)],.c (.b (.v (.bool false)))]).den) (spec_auto (args:=[.one (.a (lsX (Pp.odd x y h).C))]) (obs:=[]) (res:=.tup [.a [.b (.v (.bool true)),.b (.v (.pointer none)),.b (.v (.pointer none))],.c (.b (.v (.bool false)))]) (news:=[]) (evs:=[eqEvP true true x y r40 r40 false (odd_ne h)]) (Ns:=[(2,2004005)]) (m:=400) Tryz.func168 hmA (fun β=>by kernel_rfl) (by kernel_rfl) β w hh) (by kernel_rfl),by
  rcases p with _ | ⟨_ | _,_ | _⟩ | _<;>kernel_rfl⟩
theorem fitG_sz {z:GQ} (h:FitG z):GSz 1024 z:=⟨h.1.sz,h.2.sz⟩
end Go.Proofs.YtpccljaooghafaaGreat.Y
end
section
namespace Go.Proofs.YtpccljaooghafaaGreat
open Go.Proofs.YtpccljaooghafaaGreat.Y
open Go Go.RowKit
set_option maxRecDepth 100000
def Fp.mayE:Fp→Ev Tryz.prog
 | .ok x h=>eMayF x h
 | .no b c s t h hs ht=>eMay b c s t hs ht false ⟨fun e=>Bool.noConfusion e,fun e=>absurd e h⟩
def gMayE (a b:Fp):List (Ev Tryz.prog):=match a with
 | .ok ..=>[a.mayE,b.mayE]
 | .no ..=>[a.mayE]
def sGMay (a b:Fp):Y.Spec Tryz.prog :=
 Y.Spec.auto Tryz.call191 [.one (.a (a.C++b.C))] [] (.one (.c (.b (.v (.bool (a.B&&b.B)))))) []
  (gMayE a b) [] 400 Tryz.func191 hmA (by cases a<;>cases b<;>kernel_rfl) (fun β=>by cases a<;>cases b<;>kernel_rfl)
def sInfinity:Y.Spec Tryz.prog :=
 Y.Spec.auto Tryz.call165 [] [] (.one (.a (.b (.v (.bool true))::g0C))) [] [] [] 400 Tryz.func165 hmA (by kernel_rfl) (fun β=>by kernel_rfl)
def Pp.mayE:Pp→List (Ev Tryz.prog)
 | .inf=>[sInfinity.e]
 | .fin a b=>[(sGMay a b).e]
 | .odd x y h=>[sInfinity.e,eqEvP true true x y r40 r40 false (odd_ne h)]
def sPMay (p:Pp):Y.Spec Tryz.prog :=
 Y.Spec.auto Tryz.call53 [.one (.a p.C)] [] (.one (.c (.b (.v (.bool p.B))))) []
  p.mayE [(2,4)] 400 Tryz.func53 hmA (by rcases p with _ | ⟨_ | _,_ | _⟩ | _<;>kernel_rfl) (fun β=>by rcases p with _ | ⟨_ | _,_ | _⟩ | _<;>kernel_rfl)
theorem Sz.le {i k:Nat} {x:Rat} (h:Sz i x) (hk:Nat.ble i k=true:=by decide):Sz k x:=h.mono (Nat.le_of_ble_eq_true hk)
abbrev svG (z:GQ):SV:=.one (.a (gC z))
abbrev svF (x:Rat):SV:=.one (.a (fC x))
section
variable {z w:GQ} {x:Rat}
def sR4Neg (z:GQ):Y.Spec Tryz.prog:=Y.Spec.auto Tryz.call193 [svG z] [] (svG (gneg z)) [] [(sR3Neg z.re).e,(sR3Neg z.im).e] [(1,7)] 400 Tryz.func193 hmA (by kernel_rfl) (fun β=>by kernel_rfl)
def sR4Conj (z:GQ):Y.Spec Tryz.prog:=Y.Spec.auto Tryz.call194 [svG z] [] (svG (gconj z)) [] [(sR3Neg z.im).e] [(1,6)] 400 Tryz.func194 hmA (by kernel_rfl) (fun β=>by kernel_rfl)
def sR4Dot (hz:GSz KE z) (hw:GSz KE w):Y.Spec Tryz.prog:=Y.Spec.auto Tryz.call330 [svG z,svG w] [] (svF (z.re*w.re+z.im*w.im)) []
 [(sR3Times hz.1.le hw.1.le).e,(sR3Times hz.2.le hw.2.le).e,(sR3Plus (hz.1.mul hw.1).le (hz.2.mul hw.2).le).e] [(1,11)] 400 Tryz.func330 hmA (by kernel_rfl) (fun β=>by kernel_rfl)
def sR4Norm (hz:GSz KE z):Y.Spec Tryz.prog:=Y.Spec.auto Tryz.call173 [svG z] [] (svF (gnorm z)) [] [(sR4Dot hz hz).e] [] 400 Tryz.func173 hmA (by kernel_rfl) (fun β=>by kernel_rfl)
end
def sR4Int (n m:Int) (hn : -9223372036854775808≤n∧n≤9223372036854775807:=by decide) (hm : -9223372036854775808≤m∧m≤9223372036854775807:=by decide):Y.Spec Tryz.prog :=
 Y.Spec.auto Tryz.call201 [.one (.c (.b (.v (.int .i64 n)))),.one (.c (.b (.v (.int .i64 m))))] [] (svG (gint n m)) [] [(sR3Int n hn).e,(sR3Int m hm).e] [] 400 Tryz.func201 hmA (by kernel_rfl) (fun β=>by kernel_rfl)
def Fp.may3:Fp→Y.Spec Tryz.prog
 | .ok x h=>sR3May _ _ _ _ true (iff_true_of (fitF x h))
 | .no b c s t h hs ht=>sR3May b c s t false (iff_false_of h)
def may4E (a b:Fp):List (Ev Tryz.prog):=match a with
 | .ok ..=>[a.may3.e,b.may3.e]
 | .no ..=>[a.may3.e]
def sR4May (a b:Fp):Y.Spec Tryz.prog :=
 Y.Spec.auto Tryz.call55 [.one (.a (a.C++b.C))] [] (.one (.c (.b (.v (.bool (a.B&&b.B)))))) [] (may4E a b) [] 400 Tryz.func55 hmA (by cases a<;>cases b<;>kernel_rfl) (fun β=>by cases a<;>cases b<;>kernel_rfl)
def Fp.raw:Fp→R4
 | .ok x _=>⟨decide (x.num<0),mag x.num.natAbs,false,mag x.den⟩
 | .no b c s t _ _ _=>⟨b,s,c,t⟩
def Pp.rI:Pp→Bool
 | .fin ..=>false
 | _=>true
def Pp.rX:Pp→R4
 | .inf=>r40
 | .fin a _=>a.raw
 | .odd x _ _=>x
def Pp.rY:Pp→R4
 | .inf=>r40
 | .fin _ b=>b.raw
 | .odd _ y _=>y
def rawC (i:Bool) (x y:R4):List Lf:=.b (.v (.bool i))::(x.L++y.L)
def Y.Spec.as {P:Program} (S:Y.Spec P) (args:List SV) (res:SV) (ha:S.args=args) (hr:S.res=res):Y.Spec P :=
 ⟨S.f,S.en,args,S.obs,res,S.news,fun β w hh=>by subst ha; subst hr; exact S.ok β w hh,by subst ha; subst hr; exact S.closed⟩
def fR (x:Rat):R4:=⟨decide (x.num<0),mag x.num.natAbs,false,mag x.den⟩
def Pt.i:Pt→Bool
 | .inf=>true
 | .fin _=>false
def Pt.x:Pt→R4
 | .inf=>r40
 | .fin z=>fR z.re
def Pt.y:Pt→R4
 | .inf=>r40
 | .fin z=>fR z.im
abbrev svR (i:Bool) (x y:R4):SV:=.one (.a (rawC i x y))
abbrev svP (p:Pt):SV:=svR p.i p.x p.y
def FitP:Pt→Prop
 | .inf=>True
 | .fin z=>FitG z
theorem FitP.sz {p:Pt} (h:FitP p):PSz 1024 p:=by
 cases p
 · trivial
 · exact ⟨h.1.sz,h.2.sz⟩
def ppt:(p:Pt)→FitP p→Pp
 | .inf,_=>.inf
 | .fin z,h=>.fin (.ok z.re h.1) (.ok z.im h.2)
structure Rw where
 i:Bool
 x:R4
 y:R4
def Rw.ok (r:Rw):Prop:=(r.x.s.size≤maxLen∧r.x.t.size≤maxLen)∧r.y.s.size≤maxLen∧r.y.t.size≤maxLen
def Pt.w (p:Pt):Rw:=⟨p.i,p.x,p.y⟩
def Pp.w (p:Pp):Rw:=⟨p.rI,p.rX,p.rY⟩
theorem fp_of (x:R4) (h1:x.s.size≤maxLen) (h2:x.t.size≤maxLen):∃ a:Fp,a.raw=x:=by
 obtain ⟨b,s,c,t⟩:=x
 rcases fp_all b c s t with ⟨q,h,rfl,rfl,rfl,rfl⟩ | h
 · exact ⟨.ok q h,rfl⟩
 · exact ⟨.no b c s t h h1 h2,rfl⟩
theorem fR_inj {x y:Rat} (h:fR x=fR y):x=y:=by
 injection h with h1 h2 h3 h4
 have hn:x.num.natAbs=y.num.natAbs:=mag_inj h2
 have hd:x.den=y.den:=mag_inj h4
 have hb:(x.num<0)=(y.num<0):=by simpa using h1
 refine Rat.ext ?_ hd
 by_cases h0:x.num<0
 · have:y.num<0:=by rw [← hb]; exact h0
   omega
 · have:¬ y.num<0:=by rw [← hb]; exact h0
   omega
theorem Pt.w_inj {p q:Pt} (h:p.w=q.w):p=q:=by
 cases p<;>cases q
 · rfl
 · injection h with h1; cases h1
 · injection h with h1; cases h1
 · rename_i z w
   injection h with _ h2 h3
   exact congrArg Pt.fin (GQ.ext2 (fR_inj h2) (fR_inj h3))
def rwB (i i':Bool) (x y x' y':R4):Bool:=(i==i')&&((x.eq x'&&(y.eq y'&&true))&&true)
theorem rwB_iff {i i':Bool} {x y x' y':R4}:rwB i i' x y x' y'=true↔i=i'∧x=x'∧y=y':=by
 unfold rwB
 simp only [Bool.and_true,Bool.and_eq_true,R4.eq_iff,beq_iff_eq]
def ptB (p q:Pt):Bool:=rwB p.i q.i p.x p.y q.x q.y
theorem ptB_iff {p q:Pt}:ptB p q=true↔p=q:=by
 unfold ptB
 rw [rwB_iff]
 constructor
 · rintro ⟨h1,h2,h3⟩
   exact Pt.w_inj (by unfold Pt.w; rw [h1,h2,h3])
 · rintro rfl; exact ⟨rfl,rfl,rfl⟩
open Classical in
noncomputable def paI (p:Pt):Bool:=if FitP p then p.i else false
open Classical in
noncomputable def paX (p:Pt):R4:=if FitP p then p.x else r40
open Classical in
noncomputable def paY (p:Pt):R4:=if FitP p then p.y else r40
theorem pa_fit {p:Pt} (h:FitP p):paI p=p.i∧paX p=p.x∧paY p=p.y:=⟨if_pos h,if_pos h,if_pos h⟩
theorem pa_not {p:Pt} (h:¬ FitP p):paI p=false∧paX p=r40∧paY p=r40:=⟨if_neg h,if_neg h,if_neg h⟩
theorem paK_fit {p:Pt} (h:FitP p):paK p=0:=by
 cases p
 · rfl
 · exact (ga_fit h).2
theorem paC_raw (p:Pt):paC p=rawC (paI p) (paX p) (paY p):=by
 by_cases h:FitP p
 · rw [(pa_fit h).1,(pa_fit h).2.1,(pa_fit h).2.2]
   cases p
   · rfl
   · show _::gaC _=_
     rw [(ga_fit h).1]; rfl
 · rw [(pa_not h).1,(pa_not h).2.1,(pa_not h).2.2]
   cases p
   · exact absurd trivial h
   · show _::gaC _=_
     rw [(ga_not h).1]; rfl
theorem gz_true {z:GQ}:gzero z=true↔z=g0:=by
 rw [gzero_iff]
 exact ⟨fun h=>GQ.ext2 h.1 h.2,fun h=>by rw [h]; exact ⟨rfl,rfl⟩⟩
structure BSpec (P:Program) where
 f:FuncId
 en:Enters P f
 args:List SV
 cs:List Lf
 t:TypeId
 r:Value
 ok:∀ β w,(Ob.box cs t).holds β w (β 0)→Calls P f (args.map (SV.den β)).toArray w fun e w'=>e=.returned r∧Below w.heap.size w w'
 cl:(cs.all (Lf.of fun _=>false)&&args.all (SV.of fun k=>Nat.beq k 0))=true
 hr:∀ β,(tag r).den β=r
def bkOf:List SV→Nat
 | []=>0
 | .one (.c (.b (.s k _ _ _)))::_=>k
 | _::r=>bkOf r
theorem cells_closed {β β':Env} {cs:List Lf} (h:cs.all (Lf.of fun _=>false)=true):cs.map (Lf.den β)=cs.map (Lf.den β') :=
 List.map_congr_left fun x hx=>Lf.den_congr (q:=fun _=>false) (fun k hk=>by cases hk) x (List.all_eq_true.1 h x hx)
def BSpec.e {P:Program} (S:BSpec P):Ev P:=.dyn (fun o _ _=>isCallB o) fun _ xs ob=>lit (bkOf xs) fun i =>
 .call S.f S.en (fun β=>(S.args.map (SV.den fun _=>β i)).toArray) [(i,.box S.cs S.t)] 0 (tag S.r) [] (fun β w h=>of_pure0 (by
  have hc:=S.cl
  rw [Bool.and_eq_true] at hc
  refine S.ok (fun _=>β i) w ?_
  have h1:(β i).one∧w.heap[(β i).b]?=some (.cells (S.cs.map (Lf.den β)).toArray S.t (0,0)):=h _ (List.mem_singleton.2 rfl)
  show (β i).one∧w.heap[(β i).b]?=some (.cells (S.cs.map (Lf.den fun _=>β i)).toArray S.t (0,0))
  rw [cells_closed (β':=β) hc.1]
  exact h1) S.hr)
theorem bspec_ok {P:Program} {f:FuncId} {fn:Func} {args:List SV} {cs:List Lf} {t:TypeId} {r:Value} (evs:List (Ev P)) (Ns:List (Nat × Nat)) (m:Nat) (hf:P.funcs[f]?=some fn) (hm:P.follows .mixedOrders=true)
  (h:∀ β,(allS P fn args [.box cs t] evs Ns m (tag r) [] β).map Prod.fst=(allS P fn args [.box cs t] evs Ns m (tag r) [] β).map Prod.snd)
  (hB:(args.all (SV.of fun k=>Nat.blt k 1)&&[Ob.box cs t].all fun x=>x.of (fun k=>Nat.blt k 1)&&x.own)=true) (hr:∀ β,(tag r).den β=r) (β:Env) (w:World) (hh:(Ob.box cs t).holds β w (β 0)) :
  Calls P f (args.map (SV.den β)).toArray w fun e w'=>e=.returned r∧Below w.heap.size w w':=by
 rw [Bool.and_eq_true] at hB
 refine (sx (P:=P) args [.box cs t] evs Ns m (tag r) [] hf hm (fun β=>ok_of_maps (h β)) hB.1 hB.2 β w (fun k o ho=>?_)).mono ?_
 · cases k with
   | zero=>simp only [List.getElem?_cons_zero] at ho; obtain rfl:=Option.some.inj ho; exact hh
   | succ k=>simp at ho
 · rintro e w' ⟨β',q,obj,e1,rfl,e2,e4,e5,g⟩
   exact ⟨by rw [hr],g.bel⟩
def big (k:Nat) (s:ByteArray):Bool:=decide ((k:Int)<(s.size:Int))
def smB (k:Nat) (x y:R4):Bool:=!(big k x.s||(big k x.t||(big k y.s||big k y.t)))
theorem big_lit {k:Nat} {s:ByteArray} {r:Bool} (h:big k s=r):Value.bool (decide ((k:Int)<(s.size:Int)))=.bool r:=by rw [← h]; rfl
def evBig (k:Nat) (s:ByteArray) (d:Nat) (r:Bool) (h:big k s=r):Ev Tryz.prog:=.eqv d (.bool (decide ((k:Int)<(s.size:Int)))) (.bool r) (big_lit h)
theorem small4_ok (k:Nat) (x y:R4) {b:Bool} (hb:smB k x y=b) (β:Env) (w:World) (hh:(Ob.box (x.L++y.L) 49).holds β w (β 0)) :
  Calls Tryz.prog 67 (([.one (.c (.b (.v (.int .i64 (k:Int))))),.one (.c (.b (.s 0 0 1 1)))]:List SV).map (SV.den β)).toArray w fun e w'=>e=.returned (.bool b)∧Below w.heap.size w w':=by
 unfold smB at hb
 cases h1:big k x.s with
 | true =>
  obtain rfl:b=false:=by rw [← hb,h1]; rfl
  exact bspec_ok [evBig k x.s 23 true h1] [] 800 Tryz.func67 hmA (fun β=>by kernel_rfl) (by kernel_rfl) (fun β=>rfl) β w hh
 | false=>cases h2:big k x.t with
 | true =>
  obtain rfl:b=false:=by rw [← hb,h1,h2]; rfl
  exact bspec_ok [evBig k x.s 23 false h1,evBig k x.t 31 true h2] [] 800 Tryz.func67 hmA (fun β=>by kernel_rfl) (by kernel_rfl) (fun β=>rfl) β w hh
 | false=>cases h3:big k y.s with
 | true =>
  obtain rfl:b=false:=by rw [← hb,h1,h2,h3]; rfl
  exact bspec_ok [evBig k x.s 23 false h1,evBig k x.t 31 false h2,evBig k y.s 40 true h3] [] 800 Tryz.func67 hmA (fun β=>by kernel_rfl) (by kernel_rfl) (fun β=>rfl) β w hh
 | false=>cases h4:big k y.t with
 | true =>
  obtain rfl:b=false:=by rw [← hb,h1,h2,h3,h4]; rfl
  exact bspec_ok [evBig k x.s 23 false h1,evBig k x.t 31 false h2,evBig k y.s 40 false h3,evBig k y.t 49 true h4] [] 800 Tryz.func67 hmA (fun β=>by kernel_rfl) (by kernel_rfl) (fun β=>rfl) β w hh
 | false =>
  obtain rfl:b=true:=by rw [← hb,h1,h2,h3,h4]; rfl
  exact bspec_ok [evBig k x.s 23 false h1,evBig k x.t 31 false h2,evBig k y.s 40 false h3,evBig k y.t 49 false h4] [] 800 Tryz.func67 hmA (fun β=>by kernel_rfl) (by kernel_rfl) (fun β=>rfl) β w hh
def sR4Small (k:Nat) (x y:R4) {b:Bool} (hb:smB k x y=b):BSpec Tryz.prog :=
 ⟨67,Tryz.call67,[.one (.c (.b (.v (.int .i64 (k:Int))))),.one (.c (.b (.s 0 0 1 1)))],x.L++y.L,49,.bool b,small4_ok k x y hb,by kernel_rfl,fun _=>rfl⟩
def Rw.C (r:Rw):List Lf:=rawC r.i r.x r.y
abbrev KP:Nat:=1000000
def sR7Of (z:GQ):Y.Spec Tryz.prog:=Y.Spec.auto Tryz.call56 [svG z] [] (svP (.fin z)) [] [] [] 400 Tryz.func56 hmA (by kernel_rfl) (fun β=>by kernel_rfl)
def sR7Int (n m:Int) (hn : -9223372036854775808≤n∧n≤9223372036854775807:=by decide) (hm : -9223372036854775808≤m∧m≤9223372036854775807:=by decide):Y.Spec Tryz.prog :=
 Y.Spec.auto Tryz.call111 [.one (.c (.b (.v (.int .i64 n)))),.one (.c (.b (.v (.int .i64 m))))] [] (svP (.fin (gint n m))) [] [(sR4Int n m hn hm).e,(sR7Of (gint n m)).e] [] 400 Tryz.func111 hmA (by kernel_rfl) (fun β=>by kernel_rfl)
end Go.Proofs.YtpccljaooghafaaGreat
end
section
namespace Go.Proofs.YtpccljaooghafaaGreat.Y
open Go Go.RowKit
set_option maxRecDepth 100000
def sSpotP (p:Pt) (h:FitP p):Spec Tryz.prog :=
 ⟨168,Tryz.call168,[.one (.a (lsX p.w.C))],[],.tup [.a (pL 0 p),.c (.b (.v (.bool true)))],pM p,fun β w hh=>by
  cases p with
  | inf=>exact (sSpot .inf).ok β w hh
  | fin z =>
   refine ((sSpot (.fin (.ok z.re h.1) (.ok z.im h.2))).ok β w hh).mono fun e w' ⟨xs,h1,he,h2,h3⟩=>⟨xs,h1,he,?_,h3⟩
   have h4:newHold w' [ratT z.re,ratT z.im] xs:=h2
   match xs,h4 with
   | [a,b],h4=>exact ⟨(ratT z.re).imp _ _ h4.1,(ratT z.im).imp _ _ h4.2.1,trivial⟩,by kernel_rfl⟩
def eqEvPt {p q:Pt} {r:Bool} (h:ptB p q=r):Ev Tryz.prog:=eqEvP p.i q.i p.x p.y q.x q.y r h
structure Gp where
 a:Fr
 b:Fr
def Gp.C (g:Gp):SV:=.one (.a (rL g.a.r++rL g.b.r))
def Gp.B (g:Gp):Bool:=g.a.a.B&&g.b.a.B
abbrev tB' (t:Bool):SV:=.one (.c (.b (.v (.bool t))))
abbrev nI' (k:Int):SC:=.c (.b (.v (.int .i64 k)))
abbrev gS (z:GQ):SV:=.one (.a (lsX (gC z)))
end Go.Proofs.YtpccljaooghafaaGreat.Y
end
section
namespace Go.Proofs.YtpccljaooghafaaGreat
open Go.Proofs.YtpccljaooghafaaGreat.Y
open Go Go.RowKit
set_option maxRecDepth 100000
abbrev svI (n:Int):SC:=.c (.b (.v (.int .i64 n)))
theorem sz_lit1 {n:Int} (h:n.natAbs<256):Fit (Rat.divInt n 1):=(Sz.small h).fit (by decide)
theorem fit_int {n m:Int} (h:n.natAbs<256) (k:m.natAbs<256):FitG (gint n m):=⟨sz_lit1 h,sz_lit1 k⟩
def gV (a a':R4):Array Value:=#[.bool a.b,.string a.s,.bool a.c,.string a.t,.bool a'.b,.string a'.s,.bool a'.c,.string a'.t]
def geq (x y x' y':R4):Bool:=x.eq x'&&(y.eq y'&&true)
theorem geq_self (x y:R4):geq x y x y=true:=by
 unfold geq
 rw [R4.eq_iff.2 rfl,R4.eq_iff.2 rfl]; rfl
abbrev pI (n m:Int):Pt:=.fin (gint n m)
theorem gq_lit {z w:GQ} (h1:decide (z.re=w.re)=true) (h2:decide (z.im=w.im)=true):z=w:=GQ.ext2 (of_decide_eq_true h1) (of_decide_eq_true h2)
end Go.Proofs.YtpccljaooghafaaGreat
end
section
namespace Go.Proofs.YtpccljaooghafaaGreat.Y
open Go Go.RowKit
set_option maxRecDepth 100000
def frX (x:Rat) (h:Fit x):Fr:=⟨fR x,.ok x h,rfl⟩
def gpX (z:GQ) (h:FitG z):Gp:=⟨frX z.re h.1,frX z.im h.2⟩
theorem rL_inj {x y:R4} (h:rL x=rL y):x=y:=by
 obtain ⟨b,s,c,t⟩:=x
 obtain ⟨b',s',c',t'⟩:=y
 simp only [rL,List.cons.injEq,Lf.b.injEq,Lf0.v.injEq,Value.bool.injEq,Value.string.injEq,and_true] at h
 obtain ⟨rfl,rfl,rfl,rfl⟩:=h
 rfl
inductive Gn where
 | ok (z:GQ) (h:FitG z)
 | no (g:Gp) (h:g.B=false)
def Gn.gp:Gn→Gp
 | .ok z h=>gpX z h
 | .no g _=>g
def Gn.x (g:Gn):R4:=g.gp.a.r
def Gn.y (g:Gn):R4:=g.gp.b.r
def Gn.B:Gn→Bool
 | .ok ..=>true
 | .no ..=>false
theorem Gn.gpB:∀ g:Gn,g.gp.B=g.B
 | .ok ..=>rfl
 | .no _ h=>h
def Gn.z:Gn→GQ
 | .ok z _=>z
 | .no ..=>g0
theorem fr_of (r:R4) (h:r.s.size≤maxLen∧r.t.size≤maxLen):∃ a:Fr,a.r=r:=by
 obtain ⟨a,ha⟩:=fp_of r h.1 h.2
 exact ⟨⟨r,a,by rw [← ha]; cases a<;>rfl⟩,rfl⟩
theorem gn_of (x y:R4) (hx:x.s.size≤maxLen∧x.t.size≤maxLen) (hy:y.s.size≤maxLen∧y.t.size≤maxLen):∃ g:Gn,g.x=x∧g.y=y:=by
 obtain ⟨a,rfl⟩:=fr_of x hx
 obtain ⟨b,rfl⟩:=fr_of y hy
 cases h:(Gp.mk a b).B with
 | false=>exact ⟨.no ⟨a,b⟩ h,rfl,rfl⟩
 | true =>
  have h':=Bool.and_eq_true_iff.1 h
  obtain ⟨ra,fa,ea⟩:=a
  obtain ⟨rb,fb,eb⟩:=b
  cases fa with
  | no=>cases h'.1
  | ok x hx2=>cases fb with
   | no=>cases h'.2
   | ok y hy2 =>
    refine ⟨.ok ⟨x,y⟩ ⟨hx2,hy2⟩,rL_inj ?_,rL_inj ?_⟩
    · exact ea
    · exact eb
inductive Cd where
 | v (x:Value)
 | r (x:Rat)
 | t (x:Rat)
def cd1 (g:Pl) (i:Nat):Cd→Value
 | .v x=>x
 | .r _=>.pointer (g.v i)
 | .t _=>.pointer (g.v i)
def cdV (g:Pl):Nat→List Cd→List Value
 | _,[]=>[]
 | i,c::l=>cd1 g i c::cdV g (i+1) l
def cdP (w:World) (g:Pl) (i:Nat):Cd→Prop
 | .v _=>True
 | .r x=>(g.v i=none∧x=0)∨∃ b,g.v i=some ⟨b,0,none⟩∧g.F b∧RatAt w b 0 x
 | .t x=>∃ b,g.v i=some ⟨b,0,none⟩∧g.F b∧RatAt w b 0 x
def cdOk (w:World) (g:Pl):Nat→List Cd→Prop
 | _,[]=>True
 | i,c::l=>cdP w g i c∧cdOk w g (i+1) l
theorem cdV_at {g:Pl}:∀ {l:List Cd} {i j:Nat} {c:Cd},l[j]?=some c→(cdV g i l)[j]?=some (cd1 g (i+j) c)
 | _::_,i,0,c,h=>by
  simp only [List.getElem?_cons_zero] at h
  obtain rfl:=Option.some.inj h
  rfl
 | _::l,i,j+1,c,h=>by
  have:=cdV_at (g:=g) (l:=l) (i:=i+1) (j:=j) (c:=c) (by simpa using h)
  rw [show i+(j+1)=i+1+j by omega]
  simpa [cdV] using this
theorem cdOk_at {w:World} {g:Pl}:∀ {l:List Cd} {i j:Nat} {c:Cd},cdOk w g i l→l[j]?=some c→cdP w g (i+j) c
 | _::_,i,0,c,h,hl=>by
  simp only [List.getElem?_cons_zero] at hl
  obtain rfl:=Option.some.inj hl
  exact h.1
 | _::l,i,j+1,c,h,hl=>by
  rw [show i+(j+1)=i+1+j by omega]
  exact cdOk_at (l:=l) h.2 (by simpa using hl)
theorem cdP_below {w w':World} {g:Pl} {i:Nat} (hb:Below w.heap.size w w'):∀ c:Cd,cdP w g i c→cdP w' g i c
 | .v _,_=>trivial
 | .r x,h=>h.imp id fun ⟨b,h1,h2,h3⟩=>⟨b,h1,h2,h3.on hb⟩
 | .t x,⟨b,h1,h2,h3⟩=>⟨b,h1,h2,h3.on hb⟩
theorem cdP_touch {w w':World} {g:Pl} {i b o n m:Nat} (hs:Slot w b o m) (ht:Touch w w' b o n) (hne:¬ g.F b):∀ c:Cd,cdP w g i c→cdP w' g i c
 | .v _,_=>trivial
 | .r x,h=>h.imp id fun ⟨d,h1,h2,h3⟩=>⟨d,h1,h2,h3.touch hs ht fun e=>hne (e▸h2)⟩
 | .t x,⟨d,h1,h2,h3⟩=>⟨d,h1,h2,h3.touch hs ht fun e=>hne (e▸h2)⟩
theorem cdOk_map {w w':World} {g:Pl} (h:∀ i c,cdP w g i c→cdP w' g i c):∀ {l:List Cd} {i:Nat},cdOk w g i l→cdOk w' g i l
 | [],_,_=>trivial
 | c::l,i,k=>⟨h i c k.1,cdOk_map h k.2⟩
def RW (e:TypeId) (cs:List Cd) (w:World) (g:Pl):Prop :=
 (g.F g.b∧∃ cur:Array Value,w.heap[g.b]?=some (.cells cur e (0,0))∧cur.toList.take cs.length=cdV g 0 cs)∧(cdOk w g 0 cs∧g.v cs.length=some ⟨g.b,0,none⟩)∧∀ c,g.F c→c<w.heap.size
theorem rw_stable (e:TypeId) (cs:List Cd):Stable (RW e cs) :=
 ⟨fun w g h=>h.2.2,
  fun w w' g ⟨⟨hf,cur,h1,h2⟩,⟨h3,h5⟩,h4⟩ hb=>⟨⟨hf,cur,by rw [hb.block g.b (heap_lt h1)]; exact h1,h2⟩,⟨cdOk_map (fun i c=>cdP_below hb c) h3,h5⟩,fun c hc=>Nat.lt_of_lt_of_le (h4 c hc) hb.size⟩,
  fun w w' g b o n m ⟨⟨hf,cur,h1,h2⟩,⟨h3,h5⟩,h4⟩ hs ht hne=>⟨⟨hf,cur,by rw [ht.block g.b (heap_lt h1) fun e=>hne (e▸hf)]; exact h1,h2⟩,⟨cdOk_map (fun i c=>cdP_touch hs ht hne c) h3,h5⟩,
   fun c hc=>Nat.lt_of_lt_of_le (h4 c hc) (ht.below (B:=0) (Nat.zero_le _) (Nat.zero_le _)).size⟩⟩
def rowT (e:TypeId) (cs:List Cd):Thing:=thing (RW e cs) (rw_stable e cs)
def cellPl (g:Pl) (i:Nat):Pl:=⟨(match g.v i with | some a=>a.block | none=>0),fun _=>g.v i,fun _=>0,fun c=>∃ a,g.v i=some a∧c=a.block,fun _=>undef⟩
theorem cellPl_or {w:World} {g:Pl} {i:Nat} {x:Rat} (h:cdP w g i (.r x)):OR0 x w (cellPl g i):=by
 rcases h with ⟨h1,h2⟩ | ⟨b,h1,h2,h3⟩
 · exact .inl ⟨h1,(fun c hc=>by obtain ⟨a,ha,_⟩:=hc; rw [h1] at ha; cases ha),h2⟩
 · exact .inr ⟨b,⟨h1,fun c=>⟨fun ⟨a,ha,hc⟩=>by rw [h1] at ha; cases ha; exact hc,fun hc=>⟨_,h1,hc⟩⟩⟩,h3⟩
theorem cellPl_F {w:World} {g:Pl} {i:Nat} {x:Rat} (h:cdP w g i (.r x)) {c:Nat} (hc:(cellPl g i).F c):g.F c:=by
 obtain ⟨a,ha,rfl⟩:=hc
 rcases h with ⟨h1,h2⟩ | ⟨b,h1,h2,h3⟩
 · rw [h1] at ha; cases ha
 · rw [h1] at ha; cases ha; exact h2
theorem rw_cell {e:TypeId} {cs:List Cd} {w:World} {g:Pl} (h:RW e cs w g) {j:Nat} {c:Cd} (hj:cs[j]?=some c):w.cell? ⟨g.b,j,none⟩=some (cd1 g j c):=by
 obtain ⟨⟨_,cur,h1,h2⟩,_⟩:=h
 have h3:=cdV_at (g:=g) (i:=0) hj
 rw [← h2,Nat.zero_add] at h3
 rw [List.getElem?_take] at h3
 split at h3
 · rw [Array.getElem?_toList] at h3
   exact cell_lay h1 h3
 · cases h3
def adOf:SV→Nat × Nat
 | .one (.c (.b (.p k o)))=>(k,o)
 | _=>(0,0)
def isAd:SV→Bool
 | .one (.c (.b (.p _ _)))=>true
 | _=>false
def yOf:SV→Nat × Nat
 | .one (.c (.b (.y k _ n)))=>(k,n)
 | _=>(0,0)
def isY:SV→Bool
 | .one (.c (.b (.y _ _ _)))=>true
 | _=>false
def intS:SV→Nat
 | .one (.c (.b (.v (.int _ i))))=>i.toNat
 | _=>0
structure CSpec (P:Program) where
 f:FuncId
 en:Enters P f
 args:List SV
 cs:List Lf
 t:TypeId
 res:SV
 news:List Thing
 ok:∀ β w,(Ob.box cs t).holds β w (β 0)→Calls P f (args.map (SV.den β)).toArray w fun e w'=>∃ xs:List Pl,(∀ x∈xs,∀ c,x.F c→w.heap.size≤c)∧e=.returned (res.den (extE β 1 xs))∧newHold w' news xs∧Below w.heap.size w w'
 cl:(cs.all (Lf.of fun _=>false)&&args.all (SV.of fun k=>Nat.beq k 0)&&res.of fun k=>Nat.ble 1 k&&Nat.blt k (1+news.length))=true
def bkOfY:List SV→Nat
 | []=>0
 | .one (.c (.b (.s k _ _ _)))::_=>k
 | _::r=>bkOfY r
def CSpec.e {P:Program} (S:CSpec P):Ev P:=.dyn (fun o _ _=>isCallB o) fun _ xs ob=>lit (bkOfY xs) fun i=>lit ob.length fun n =>
 .call S.f S.en (fun β=>(S.args.map (SV.den fun _=>β i)).toArray) [(i,.box S.cs S.t)] n (S.res.ren fun k=>n+(k-1)) S.news (fun β w h=>by
  have hc:=S.cl
  simp only [Bool.and_eq_true] at hc
  have h1:(β i).one∧w.heap[(β i).b]?=some (.cells (S.cs.map (Lf.den β)).toArray S.t (0,0)):=h _ (List.mem_singleton.2 rfl)
  refine (S.ok (fun _=>β i) w ?_).mono fun e w' ⟨xs,k1,k2,k3,k4⟩=>⟨xs,fun x hx c hc=>.inl (k1 x hx c hc),?_,k3,k4⟩
  · show (β i).one∧w.heap[(β i).b]?=some (.cells (S.cs.map (Lf.den fun _=>β i)).toArray S.t (0,0))
    rw [show S.cs.map (Lf.den fun _=>β i)=S.cs.map (Lf.den β) from List.map_congr_left fun x hx=>Lf.den_congr (q:=fun _=>false) (fun k hk=>by cases hk) x (List.all_eq_true.1 hc.1.1 x hx)]
    exact h1
  · rw [k2,SV.den_ren]
    congr 1
    refine SV.den_congr (fun k hk=>?_) _ hc.2
    have hlen:=(newHold_get k3).1
    rw [Bool.and_eq_true,Nat.ble_eq,Nat.blt_eq] at hk
    have h5:k-1<xs.length:=by omega
    rw [extE_in (List.getElem?_eq_getElem h5)]
    have:=extE_in (β:=fun _=>β i) (n:=1) (List.getElem?_eq_getElem h5)
    rw [show 1+(k-1)=k by omega] at this
    exact this)
def Ob.ren (ρ:Nat→Nat):Ob→Ob
 | .box cs t=>.box (cs.map (Lf.ren ρ)) t
 | x=>x
def ptrB:Option Lf→Bool
 | some (.b (.z _ _))=>true
 | some (.b (.p _ _))=>true
 | some (.b (.v (.string _)))=>true
 | _=>false
def Ob.plainB:Ob→Bool
 | .box cs _=>Nat.blt cs.length 4||ptrB cs[1]?
 | .th _=>true
 | _=>false
theorem Ob.holds_ren {β:Env} {w:World} {g:Pl} {ρ:Nat→Nat}:∀ {o:Ob},o.plainB=true→(o.ren ρ).holds β w g→o.holds (fun k=>β (ρ k)) w g
 | .box cs t,_,h=>⟨h.1,by
  rw [h.2,List.map_map]
  rw [show (Lf.den β ∘ Lf.ren ρ)=Lf.den (fun k=>β (ρ k)) from funext fun x=>Lf.den_ren β ρ x]⟩
 | .th _,_,h=>h
theorem Ob.holds_cg {q:Nat→Bool} {β β':Env} {w:World} {g:Pl} (hq:∀ k,q k=true→β k=β' k):∀ {o:Ob},o.plainB=true→o.of q=true→o.holds β w g→o.holds β' w g
 | .box cs t,_,h,k=>⟨k.1,by rw [k.2,all_congr h (Lf.den_congr hq)]⟩
 | .th _,_,_,k=>k
structure OSpec (P:Program) where
 f:FuncId
 en:Enters P f
 args:List SV
 obs:List Ob
 res:SV
 news:List Rat
 ok:∀ β w,(∀ (k:Nat) (o:Ob),obs[k]?=some o→o.holds β w (β k))→Calls P f (args.map (SV.den β)).toArray w fun e w'=>∃ xs:List Pl,(∀ x∈xs,∀ c,x.F c→w.heap.size≤c∨∃ i o,obs[i]?=some o∧o.isTh=true∧(β i).F c)∧e=.returned (res.den (extE β obs.length xs))∧newHold w' (news.map ratT) xs∧Below w.heap.size w w'
 closed:(args.all (SV.of fun k=>Nat.blt k obs.length)&&obs.all (fun x=>x.of (fun k=>Nat.blt k obs.length)&&x.plainB)&&res.of fun k=>Nat.blt k (obs.length+news.length))=true
def mtBox (o c:Ob):List (Nat × Nat):=match o,c with
 | .box xs _,.box ys _=>mtLs xs ys
 | _,_=>[]
def mtObs (obs ob:List Ob):List (Nat × Nat)→List (Nat × Nat)
 | []=>[]
 | (k,j)::r=>(match obs[k]?,ob[j]? with | some o,some c=>mtBox o c | _,_=>[])++mtObs obs ob r
def sigO {P:Program} (S:OSpec P) (xs:List SV) (ob:List Ob):List Nat:=sigL (mtVs S.args xs++mtObs S.obs ob (mtVs S.args xs)) 0 S.obs.length
def needsO (σ:List Nat) (ρ:Nat→Nat):List Ob→Nat→List (Nat × Ob)
 | [],_=>[]
 | o::r,k=>(lit (σ.getD k 0) fun j=>j,o.ren ρ)::needsO σ ρ r (k+1)
theorem needsO_at {σ:List Nat} {ρ:Nat→Nat}:∀ {l:List Ob} {i k:Nat} {o:Ob},l[k]?=some o→(σ.getD (i+k) 0,o.ren ρ)∈needsO σ ρ l i
 | x::r,i,0,o,h=>by
  simp only [List.getElem?_cons_zero] at h
  obtain rfl:=Option.some.inj h
  unfold needsO
  rw [lit_eq]
  exact List.mem_cons_self ..
 | x::r,i,k+1,o,h=>by
  have:=needsO_at (σ:=σ) (ρ:=ρ) (l:=r) (i:=i+1) (k:=k) (o:=o) (by simpa using h)
  rw [show i+(k+1)=i+1+k by omega]
  exact List.mem_cons_of_mem _ this
def OSpec.ev {P:Program} (S:OSpec P) (σ:List Nat) (n:Nat) (hσ:(Nat.ble S.obs.length σ.length&&σ.all fun k=>Nat.blt k n)=true):Ev P :=
 .call S.f S.en (fun β=>(S.args.map (SV.den fun k=>β (atS σ S.obs.length n k))).toArray) (needsO σ (atS σ S.obs.length n) S.obs 0) n (S.res.ren (atS σ S.obs.length n)) (S.news.map ratT) fun β w h=>by
  have hc:=S.closed
  simp only [Bool.and_eq_true] at hc
  have hat:∀ k,k<S.obs.length→atS σ S.obs.length n k=σ.getD k 0:=fun k hk=>by
   unfold atS
   rw [lit_eq,show Nat.blt k S.obs.length=true by rw [Nat.blt_eq]; exact hk,cond_true]
  have hat2:∀ k,¬ k<S.obs.length→atS σ S.obs.length n k=n+(k-S.obs.length):=fun k hk=>by
   unfold atS
   rw [lit_eq,show Nat.blt k S.obs.length=false by rw [Bool.eq_false_iff,ne_eq,Nat.blt_eq]; exact hk,cond_false]
  rw [Bool.and_eq_true,Nat.ble_eq] at hσ
  have hsn:∀ k,k<S.obs.length→σ.getD k 0<n:=fun k hk=>by
   rw [List.getD_eq_getElem?_getD]
   cases hx:σ[k]? with
   | none=>rw [List.getElem?_eq_none_iff] at hx; omega
   | some y=>have:=List.all_eq_true.1 hσ.2 y (List.mem_of_getElem? hx); rw [Nat.blt_eq] at this; exact this
  have hq:∀ k,Nat.blt k S.obs.length=true→β (atS σ S.obs.length n k)=β (σ.getD k 0):=fun k hk=>by rw [hat k (by simpa [Nat.blt_eq] using hk)]
  have hargs:S.args.map (SV.den fun k=>β (atS σ S.obs.length n k))=S.args.map (SV.den fun k=>β (σ.getD k 0)):=List.map_congr_left fun x hx=>SV.den_congr hq _ (List.all_eq_true.1 hc.1.1 x hx)
  rw [hargs]
  refine (S.ok (fun k=>β (σ.getD k 0)) w fun k o hk=>?_).mono ?_
  · have ho:=List.all_eq_true.1 hc.1.2 o (List.mem_of_getElem? hk)
    rw [Bool.and_eq_true] at ho
    have hlt:k<S.obs.length:=(List.getElem?_eq_some_iff.1 hk).1
    have h1:(o.ren (atS σ S.obs.length n)).holds β w (β (σ.getD k 0)):=by
     have:=h _ (needsO_at (i:=0) hk)
     rwa [Nat.zero_add] at this
    exact Ob.holds_cg hq ho.2 ho.1 (Ob.holds_ren ho.2 h1)
  · rintro e w' ⟨xs,h1,rfl,h3,h4⟩
    refine ⟨xs,fun x hx c hc2=>?_,?_,h3,h4⟩
    · rcases h1 x hx c hc2 with h5 | ⟨i,o,h5,h6,h7⟩
      · exact .inl h5
      · refine .inr ⟨_,needsO_at (i:=0) h5,?_,?_⟩
        · cases o<;>first | exact h6 | cases h6
        · rw [Nat.zero_add]; exact h7
    · rw [SV.den_ren]
      congr 1
      refine SV.den_congr (fun k hk=>?_) _ hc.2
      have hlen:=(newHold_get h3).1
      rw [List.length_map] at hlen
      rw [Nat.blt_eq] at hk
      by_cases hk2:k<S.obs.length
      · rw [hat k hk2,extE_out (β:=β) (n:=n) (k:=σ.getD k 0) (xs:=xs) (by have:=hsn k hk2; omega),extE_out (n:=S.obs.length) (k:=k) (xs:=xs) (by omega)]
      · rw [hat2 k hk2]
        have h5:k-S.obs.length<xs.length:=by omega
        rw [extE_in (List.getElem?_eq_getElem h5)]
        have:=extE_in (β:=fun k=>β (σ.getD k 0)) (n:=S.obs.length) (List.getElem?_eq_getElem h5)
        rw [show S.obs.length+(k-S.obs.length)=k by omega] at this
        exact this
def OSpec.e {P:Program} (S:OSpec P):Ev P:=.dyn (fun o _ _=>isCallB o) fun _ xs ob =>
 lits (sigO S xs ob) fun σ=>lit ob.length fun n=>if h:(Nat.ble S.obs.length σ.length&&σ.all fun k=>Nat.blt k n)=true then S.ev σ n h else .eqv 0 undef undef rfl
theorem ptr_no_rat {w:World} {b:Nat} {cs:Array Value} {t:TypeId} {x:Rat} {q:Option Addr} (h:w.heap[b]?=some (.cells cs t (0,0))) (hq:cs[1]?=some (.pointer q)) (k:RatAt w b 0 x):False:=by
 obtain ⟨A,m,cap,_,h1,_⟩:=k.2.1.open_
 have h2:=cell_lay (o:=1) h hq
 rw [Nat.zero_add,h2] at h1
 cases h1
theorem str1_no_rat {w:World} {b:Nat} {cs:Array Value} {t:TypeId} {x:Rat} {q:ByteArray} (h:w.heap[b]?=some (.cells cs t (0,0))) (hq:cs[1]?=some (.string q)) (k:RatAt w b 0 x):False:=by
 obtain ⟨A,m,cap,_,h1,_⟩:=k.2.1.open_
 have h2:=cell_lay (o:=1) h hq
 rw [Nat.zero_add,h2] at h1
 cases h1
theorem small_no_rat {w:World} {b:Nat} {cs:Array Value} {t:TypeId} {x:Rat} (h:w.heap[b]?=some (.cells cs t (0,0))) (hs:cs.size<4) (k:RatAt w b 0 x):False:=by
 obtain ⟨cs',t',h1,_,h2⟩:=k.1
 rw [h] at h1
 obtain ⟨rfl,_,_⟩:=Obj.cells.inj (Option.some.inj h1)
 omega
def idxO (P:Program) (fn:Func) (args:List SV) (obs:List Ob) (evs:List (Ev P)) (Ns:List (Nat × Nat)) (m:Nat) (res:SV):List (Nat × Nat) :=
 match fn.body with
 | some c=>match fullS P fn args obs evs Ns m c with
  | some f=>match run1 P obs.length false (results fn (tmpsS idE f.sl (sizeS fn args))) f.q f.ob [] with
   | some ⟨v,_,_,_⟩=>mtR res (tag v)
   | none=>[]
  | none=>[]
 | none=>[]
def specO (P:Program) (fn:Func) (args:List SV) (obs:List Ob) (evs:List (Ev P)) (Ns:List (Nat × Nat)) (m:Nat) (res:SV) (news:List Rat) (idx:List Nat) (β:Env):Eqs :=
 allS P fn args obs evs Ns m (res.ren (backS obs.length idx)) (idx.zip (news.map fun x=>(ratT x).ob)) β
def specOA (P:Program) (fn:Func) (args:List SV) (obs:List Ob) (evs:List (Ev P)) (Ns:List (Nat × Nat)) (m:Nat) (res:SV) (news:List Rat) (β:Env):Eqs :=
 lits (sigL (idxO P fn args obs evs Ns m res) obs.length news.length) fun idx=>specO P fn args obs evs Ns m res news idx β
theorem newHold_rats {β:Env} {w:World}:∀ {idx:List Nat} {l:List Rat},idx.length=l.length→holdsAll β w (idx.zip (l.map fun x=>(ratT x).ob))→newHold w (l.map ratT) (idx.map β)
 | [],[],_,_=>trivial
 | [],_::_,h,_=>by simp at h
 | _::_,[],h,_=>by simp at h
 | i::r,t::l,h,k=>⟨k (i,(ratT t).ob) (by simp),newHold_rats (by simpa using h) fun p hp=>k p (by simp only [List.map_cons,List.zip_cons_cons]; exact List.mem_cons_of_mem _ hp)⟩
theorem ospec_ok {P:Program} {f:FuncId} {fn:Func} {args:List SV} {obs:List Ob} {evs:List (Ev P)} {Ns:List (Nat × Nat)} {m:Nat} {res:SV} {news:List Rat} (hf:P.funcs[f]?=some fn) (hm:P.follows .mixedOrders=true)
  (h0:∀ β,(specOA P fn args obs evs Ns m res news β).map Prod.fst=(specOA P fn args obs evs Ns m res news β).map Prod.snd)
  (hB:(args.all (SV.of fun k=>Nat.blt k obs.length)&&obs.all (fun x=>x.of (fun k=>Nat.blt k obs.length)&&x.plainB)&&res.of fun k=>Nat.blt k (obs.length+news.length))=true)
  (β:Env) (w:World) (hh:∀ (k:Nat) (o:Ob),obs[k]?=some o→o.holds β w (β k)) :
  Calls P f (args.map (SV.den β)).toArray w fun e w'=>∃ xs:List Pl,(∀ x∈xs,∀ c,x.F c→w.heap.size≤c∨∃ i o,obs[i]?=some o∧o.isTh=true∧(β i).F c)∧e=.returned (res.den (extE β obs.length xs))∧newHold w' (news.map ratT) xs∧Below w.heap.size w w':=by
 obtain ⟨idx,hidx⟩:∃ idx,idx=sigL (idxO P fn args obs evs Ns m res) obs.length news.length:=⟨_,rfl⟩
 have hlen:idx.length=news.length:=by rw [hidx,sigL_len]
 have h:∀ β,(specO P fn args obs evs Ns m res news idx β).map Prod.fst=(specO P fn args obs evs Ns m res news idx β).map Prod.snd:=fun β=>by
  have:=h0 β
  unfold specOA at this
  rw [lits_eq,← hidx] at this
  exact this
 simp only [Bool.and_eq_true] at hB
 obtain ⟨⟨h1,h2⟩,h3⟩:=hB
 refine (sx (P:=P) args obs evs Ns m (res.ren (backS obs.length idx)) (idx.zip (news.map fun x=>(ratT x).ob)) hf hm (fun β=>ok_of_maps (h β)) h1
  (List.all_eq_true.2 fun x hx=>by
   have:=List.all_eq_true.1 h2 x hx
   rw [Bool.and_eq_true] at this ⊢
   refine ⟨this.1,?_⟩
   have h4:=this.2
   cases x<;>first | rfl | cases h4) β w hh).mono ?_
 rintro e w' ⟨β',q,obj,e1,rfl,e2,e4,e5,g⟩
 have hz:(idx.zip (news.map fun x=>(ratT x).ob)).map (fun p=>β' p.1)=idx.map β':=by
  rw [show (fun p:Nat × Ob=>β' p.1)=β' ∘ Prod.fst from rfl,← List.map_map,List.map_fst_zip (by rw [List.length_map]; omega)]
 refine ⟨idx.map β',fun x hx c hcF=>?_,?_,newHold_rats hlen e5,g.bel⟩
 · rw [← hz] at hx
   obtain ⟨p,hp,rfl⟩:=List.mem_map.1 hx
   rcases e4 p hp c hcF with h5 | ⟨i,h5,h6⟩
   · exact .inl h5
   · have ho:=List.getElem?_eq_getElem h5
     have hpl:=List.all_eq_true.1 h2 obs[i] (List.getElem_mem h5)
     rw [Bool.and_eq_true] at hpl
     have hho:=hh i _ ho
     generalize obs[i]=o at ho hpl hho
     cases o with
     | th D=>exact .inr ⟨i,_,ho,rfl,h6⟩
     | box cs t =>
      exfalso
      obtain ⟨hone,hheap⟩:=hho
      have hcb:=(hone.1 c).1 h6
      subst hcb
      obtain ⟨r,hr⟩:∃ r,p.2=(ratT r).ob:=by
       have:=(List.of_mem_zip hp).2
       obtain ⟨r,_,hr⟩:=List.mem_map.1 this
       exact ⟨r,hr.symm⟩
      have hD:=e5 p hp
      rw [hr] at hD
      obtain ⟨b,hb1,hb2⟩:PR r w' (β' p.1):=hD
      have hcb:=(hb1.2 _).1 hcF
      subst hcb
      have hw:w'.heap[(β i).b]?=some (.cells (cs.map (Lf.den β)).toArray t (0,0)):=by rw [g.bel.block _ (heap_lt hheap)]; exact hheap
      have:=hpl.2
      unfold Ob.plainB at this
      rw [Bool.or_eq_true,Nat.blt_eq] at this
      rcases this with this | this
      · exact small_no_rat hw (by simpa using this) hb2
      · have hq:(∃ q,(cs.map (Lf.den β))[1]?=some (.pointer q))∨∃ q,(cs.map (Lf.den β))[1]?=some (.string q):=by
         rw [List.getElem?_map]
         unfold ptrB at this
         split at this
         · rename_i k j e; rw [e]; exact .inl ⟨_,rfl⟩
         · rename_i k j e; rw [e]; exact .inl ⟨_,rfl⟩
         · rename_i k e; rw [e]; exact .inr ⟨_,rfl⟩
         · cases this
        rcases hq with ⟨q,hq⟩ | ⟨q,hq⟩
        · exact ptr_no_rat hw (by simpa using hq) hb2
        · exact str1_no_rat hw (by simpa using hq) hb2
     | al r D=>cases hpl.2
     | pl n=>cases hpl.2
     | row cs t n sz=>cases hpl.2
     | ow D t=>cases hpl.2
     | dead=>cases hpl.2
 · rw [SV.den_ren]
   congr 1
   refine SV.den_congr (fun k hk=>?_) _ h3
   rw [Nat.blt_eq] at hk
   unfold backS
   rw [lit_eq]
   by_cases hk2:k<obs.length
   · rw [show Nat.blt k obs.length=true by rw [Nat.blt_eq]; exact hk2,cond_true,extE_out (by omega)]
     exact e1 k hk2
   · rw [show Nat.blt k obs.length=false by rw [Bool.eq_false_iff,ne_eq,Nat.blt_eq]; exact hk2,cond_false]
     have h5:k-obs.length<idx.length:=by omega
     have:=extE_in (β:=β) (n:=obs.length) (xs:=idx.map β') (i:=k-obs.length) (x:=β' idx[k-obs.length]) (by simp [h5])
     rw [show obs.length+(k-obs.length)=k by omega] at this
     rw [this,List.getD_eq_getElem?_getD,List.getElem?_eq_getElem h5,Option.getD_some]
def OSpec.auto {P:Program} {f:FuncId} {fn:Func} (en:Enters P f) (args:List SV) (obs:List Ob) (res:SV) (news:List Rat) (evs:List (Ev P)) (Ns:List (Nat × Nat)) (m:Nat) (hf:P.funcs[f]?=some fn) (hm:P.follows .mixedOrders=true)
  (hB:(args.all (SV.of fun k=>Nat.blt k obs.length)&&obs.all (fun x=>x.of (fun k=>Nat.blt k obs.length)&&x.plainB)&&res.of fun k=>Nat.blt k (obs.length+news.length))=true)
  (h:∀ β,(specOA P fn args obs evs Ns m res news β).map Prod.fst=(specOA P fn args obs evs Ns m res news β).map Prod.snd):OSpec P :=
 ⟨f,en,args,obs,res,news,ospec_ok hf hm h hB,hB⟩
abbrev gnS (a:Gn):SV:=.one (.a (rL a.x++rL a.y))
theorem _root_.Go.Proofs.YtpccljaooghafaaGreat.FitG.gsz {z:GQ} (h:FitG z):GSz 1024 z:=⟨h.1.sz,h.2.sz⟩
noncomputable abbrev fA (x:Rat):List Lf:=[.b (.v (.bool (ansB x))),.b (.v (.string (ansS x))),.b (.v (.bool false)),.b (.v (.string (ansD x)))]
theorem fA_fit {x:Rat} (h:Fit x):fA x=fC x∧ansK x=0:=by
 unfold fA fC
 rw [(ansF_fit h).1,(ansF_fit h).2.1,(ansF_fit h).2.2.1]
 exact ⟨rfl,(ansF_fit h).2.2.2⟩
theorem gint01:gint 0 1=⟨0,1⟩:=gq_lit (by kernel_rfl) (by kernel_rfl)
def sGM (g:Gp) {r:Bool} (h:g.B=r):Spec Tryz.prog :=
 (sGMay g.a.a g.b.a).as [g.C] (tB' r) (by
  show [SV.one (.a (g.a.a.C++g.b.a.C))]=[SV.one (.a (rL g.a.r++rL g.b.r))]
  rw [show g.a.a.C=rL g.a.r from g.a.e,show g.b.a.C=rL g.b.r from g.b.e]) (congrArg tB' h)
def rdEq (d t:Nat) (x:Rat) (k:Nat):Ev Tryz.prog:=.rd d (.binOp .eql 149 (.tmp t) (.const (.pointer none)) 149) (fun β=>[.pointer ((β k).v 0),.pointer none]) [(k,(ratT x).ob)] 0 (.one (.c (.b (.v (.bool false))))) [] (fun β w h ρ o ho hx=>by
 obtain ⟨a,ha,ka⟩:=needP (x:=x) (k:=k) h (by simp)
 have h2:ρ (.tmp t)=.pointer (some ⟨a,0,none⟩)∧ρ (.const (.pointer none))=.pointer none:=by
  rw [ha.1] at hx
  simpa [Op.operands] using hx
 refine ⟨[],w,(fun _ h=>by cases h),?_,trivial,Below.refl _ _⟩
 unfold execOp
 rw [ho]
 simp only [h2.1,h2.2]
 kernel_rfl)
def dEq (x:Rat):Ev Tryz.prog:=.dyn (fun o _ _=>match o.op with
 | .binOp .eql a (.tmp _) (.const (.pointer none)) _=>Nat.beq a 149
 | _=>false) fun o xs _=>match o.op with
 | .binOp _ _ (.tmp t) _ _=>lit (ptOf (xs.getD 0 undefS)) fun k=>rdEq (o.dst.getD 0) t x k
 | _=>.eqv 0 undef undef rfl
abbrev KC:Nat:=1000000
structure RQ where
 a:Rat
 b:GQ
 c:Rat
structure RSz (k:Nat) (r:RQ):Prop where
 a:Sz k r.a
 b:GSz k r.b
 c:Sz k r.c
theorem RSz.mono {i k:Nat} {r:RQ} (h:RSz i r) (hk:i≤k):RSz k r:=⟨h.a.mono hk,h.b.mono hk,h.c.mono hk⟩
abbrev rgV (k:Nat):SV:=.one (.a [.b (.z k 0),.b (.z (k+1) 0),.b (.z (k+2) 0),.b (.z (k+3) 0)])
abbrev rgM (r:RQ):List Thing:=[ratT r.a,ratM r.b.re,ratM r.b.im,ratM r.c]
abbrev rgT (r:RQ):List Thing:=[ratT r.a,ratT r.b.re,ratT r.b.im,ratT r.c]
def rpow (r:RQ):Rat:=gnorm r.b-r.a*r.c
def sPower {r:RQ} (h:RSz KC r):Spec Tryz.prog :=
 Spec.auto Tryz.call244 [rgV 0] (rgM r) (rV 4) [ratT (rpow r)] [mkR,(sNorm (h.b.mono (by decide))).e,(sMulR (h.a.mono (by decide)) (h.c.mono (by decide))).e,fSub (h.b.norm.mono (by decide)) ((h.a.mul h.c).mono (by decide))] [(1,11)] 400 Tryz.func244 hmA (by kernel_rfl) (fun β=>by kernel_rfl)
def rbyQ (i j:Bool) (r:RQ):Rat:=bif i then (bif j then r.b.im else r.b.re) else r.a
def rnm (r:RQ) (x:Rat):RQ:=⟨r.a*x⁻¹,gscale r.b x⁻¹,r.c*x⁻¹⟩
theorem rby_sz {k:Nat} {r:RQ} (h:RSz k r) (i j:Bool):Sz k (rbyQ i j r):=by
 cases i
 · exact h.a
 · cases j
   · exact h.b.1
   · exact h.b.2
theorem rnm_sz {k:Nat} {r:RQ} (h:RSz k r) {x:Rat} (hx:Sz k x) (h0:x≠0):RSz (k+k) (rnm r x) :=
 ⟨h.a.mul (hx.inv h0),⟨h.b.1.mul (hx.inv h0),h.b.2.mul (hx.inv h0)⟩,h.c.mul (hx.inv h0)⟩
def rnE {r:RQ} (h:RSz KC r) {x:Rat} (hx:Sz KC x) (h0:x≠0):List (Ev Tryz.prog) :=
 [mkR,fInv (hx.mono (by decide)) h0,(sMulR (h.a.mono (by decide)) ((hx.inv h0).mono (by decide))).e,(sScale (h.b.mono (by decide)) ((hx.inv h0).mono (by decide))).e,(sMulR (h.c.mono (by decide)) ((hx.inv h0).mono (by decide))).e]
def sRNormal {r:RQ} (h:RSz KC r) {i j:Bool} (hi:decide (r.a=0)=i) (hj:decide (r.b.re=0)=j) (h0:rbyQ i j r≠0):Spec Tryz.prog :=
 ⟨345,Tryz.call345,[rgV 0],rgM r,rgV 4,rgT (rnm r (rbyQ i j r)),fun β w hh=>by
  cases i
  · exact spec_auto (args:=[rgV 0]) (obs:=rgM r) (res:=rgV 4) (news:=rgT (rnm r (rbyQ false j r))) (evs:=[(sParts r.b).e,nSign (x:=r.a) rfl,.eqv 27 (.bool (r.a.num.sign==0)) (.bool false) (sign_lit hi),nSign (x:=r.a) rfl,.eqv 27 (.bool (r.a.num.sign==0)) (.bool false) (sign_lit hi)]++rnE h (rby_sz h false j) h0) (Ns:=[(10,13)]) (m:=800) Tryz.func345 hmA (fun β=>by kernel_rfl) (by kernel_rfl) β w hh
  · cases j
    · exact spec_auto (args:=[rgV 0]) (obs:=rgM r) (res:=rgV 4) (news:=rgT (rnm r (rbyQ true false r))) (evs:=[(sParts r.b).e,nSign (x:=r.a) rfl,.eqv 27 (.bool (r.a.num.sign==0)) (.bool true) (sign_lit hi),nSign (x:=r.b.re) rfl,.eqv 27 (.bool (r.b.re.num.sign==0)) (.bool false) (sign_lit hj)]++rnE h (rby_sz h true false) h0) (Ns:=[(10,13)]) (m:=800) Tryz.func345 hmA (fun β=>by kernel_rfl) (by kernel_rfl) β w hh
    · exact spec_auto (args:=[rgV 0]) (obs:=rgM r) (res:=rgV 4) (news:=rgT (rnm r (rbyQ true true r))) (evs:=[(sParts r.b).e,nSign (x:=r.a) rfl,.eqv 27 (.bool (r.a.num.sign==0)) (.bool true) (sign_lit hi),nSign (x:=r.b.re) rfl,.eqv 27 (.bool (r.b.re.num.sign==0)) (.bool true) (sign_lit hj)]++rnE h (rby_sz h true true) h0) (Ns:=[(10,13)]) (m:=800) Tryz.func345 hmA (fun β=>by kernel_rfl) (by kernel_rfl) β w hh,by kernel_rfl⟩
def FitC (m:RQ):Prop:=Fit m.a∧FitG m.b∧Fit m.c
open Classical in
noncomputable def ciR (m:RQ) (x:Rat):R4:=if FitC m then fR x else r40
open Classical in
noncomputable def ciK (m:RQ):Int:=if FitC m then 0 else 4
noncomputable abbrev ciC (m:RQ):List Lf:=rL (ciR m m.a)++rL (ciR m m.b.re)++rL (ciR m m.b.im)++rL (ciR m m.c)
abbrev cC (m:RQ):List Lf:=rL (fR m.a)++rL (fR m.b.re)++rL (fR m.b.im)++rL (fR m.c)
abbrev c0C:List Lf:=rL r40++rL r40++rL r40++rL r40
theorem ci_fit {m:RQ} (h:FitC m):ciC m=cC m∧ciK m=0:=by
 have e:∀ x,ciR m x=fR x:=fun x=>if_pos h
 exact ⟨by rw [ciC,e,e,e,e],if_pos h⟩
theorem ci_not {m:RQ} (h:¬ FitC m):ciC m=c0C∧ciK m=4:=by
 have e:∀ x,ciR m x=r40:=fun x=>if_neg h
 exact ⟨by rw [ciC,e,e,e,e],if_neg h⟩
noncomputable abbrev ciA (m:RQ):SV:=.tup [.a (ciC m),nI' (ciK m)]
section
variable {r:RQ} (h:RSz KC r) {i j:Bool} (hi:decide (r.a=0)=i) (hj:decide (r.b.re=0)=j) (h0:rbyQ i j r≠0)
include h hi hj h0
end
theorem sgn_le {n:Int} {t:Bool} (h:decide (n≤0)=t):Value.bool (decide (n≤0))=.bool t:=by rw [h]
def rby (r:RQ):Rat:=rbyQ (decide (r.a=0)) (decide (r.b.re=0)) r
def rone (r:RQ):RQ:=rnm r (rby r)
theorem rby_ne {r:RQ} (hp:decide ((rpow r).num.sign≤0)=false):rby r≠0:=by
 intro e
 unfold rby rbyQ at e
 have hs:=of_decide_eq_false hp
 cases h1:decide (r.a=0) with
 | false=>rw [h1] at e; exact of_decide_eq_false h1 e
 | true=>cases h2:decide (r.b.re=0) with
  | false=>rw [h1,h2] at e; exact of_decide_eq_false h2 e
  | true =>
   rw [h1,h2] at e
   have ha:=of_decide_eq_true h1
   have hr:=of_decide_eq_true h2
   have hi:r.b.im=0:=e
   apply hs
   have:rpow r=0:=by
    unfold rpow gnorm
    rw [ha,hr,hi]
    grind
   rw [this]
   decide
def ofG {z:GQ} (h:FitG z):Spec Tryz.prog:=sOf (.ok z.re h.1) (.ok z.im h.2)
section
variable {a:Rat} {b:GQ} {c:Rat} (ha:Fit a) (hb:FitG b) (hc:Fit c)
include ha hb hc in
theorem mk_sz:RSz KC ⟨a,b,c⟩:=⟨ha.sz.mono (by decide),hb.gsz.mono (by decide),hc.sz.mono (by decide)⟩
abbrev roundQ (b:GQ) (c:Rat):RQ:=⟨Rat.divInt 1 1,gneg (gconj b),gnorm b-c⟩
theorem one_sz:Sz 8 (Rat.divInt 1 1):=sz_lit 1 1 (by decide) (by decide) (by decide)
include hb hc in
theorem rd_sz:RSz KC (roundQ b c):=⟨one_sz.mono (by decide),hb.gsz.conj.neg.mono (by decide),(hb.gsz.norm.sub hc.sz).mono (by decide)⟩
end
section
variable {n z:GQ} (hn:FitG n) (hz:FitG z)
theorem two_sz:Sz 8 (Rat.divInt (-2) 1):=sz_lit (-2) 1 (by decide) (by decide) (by decide)
end
def cirV (a b b' c:R4):Array Value:=#[.bool a.b,.string a.s,.bool a.c,.string a.t,.bool b.b,.string b.s,.bool b.c,.string b.t,.bool b'.b,.string b'.s,.bool b'.c,.string b'.t,.bool c.b,.string c.s,.bool c.c,.string c.t]
def frV (a:R4):Array Value:=#[.bool a.b,.string a.s,.bool a.c,.string a.t]
theorem eqCi {w:World} (n:Nat) (a b b' c p q q' s:R4):(Op.equalIn (n+5) 112 (.agg (cirV a b b' c)) (.agg (cirV p q q' s))).run Tryz.prog w=.ok (a.eq p&&(geq b b' q q'&&(c.eq s&&true))) w:=by
 unfold cirV
 rw [run_equalIn_agg _ _ _ _ _ (by kernel_rfl) (by kernel_rfl)]
 refine run_eqF_cons (a:=.agg (frV a)) (b:=.agg (frV p)) (by kernel_rfl) (by kernel_rfl) (by kernel_rfl) (eqF (n+1) _ _ _ _ _ _ _ _) ?_
 refine run_eqF_cons (a:=.agg (gV b b')) (b:=.agg (gV q q')) (by kernel_rfl) (by kernel_rfl) (by kernel_rfl) (eqG n _ _ _ _) ?_
 refine run_eqF_cons (a:=.agg (frV c)) (b:=.agg (frV s)) (by kernel_rfl) (by kernel_rfl) (by kernel_rfl) (eqF (n+1) _ _ _ _ _ _ _ _) ?_
 kernel_rfl
def eqEvC (a b b' c p q q' s:R4) (r:Bool) (h:(a.eq p&&(geq b b' q q'&&(c.eq s&&true)))=r):Ev Tryz.prog :=
 eqEv 112 (cirV a b b' c) (cirV p q q' s) r (by kernel_rfl) (fun w=>by rw [← h]; exact eqCi 9995 ..)
theorem ceq_self (a b b' c:R4):(a.eq a&&(geq b b' b b'&&(c.eq c&&true)))=true:=by
 rw [R4.eq_iff.2 rfl,R4.eq_iff.2 rfl,geq_self]; rfl
def eqC1 (a b b' c:R4):Ev Tryz.prog:=eqEvC a b b' c a b b' c true (ceq_self ..)
def sCPower {r:RQ} (h:RSz KC r):Spec Tryz.prog :=
 Spec.auto Tryz.call366 [.one (.a (cC r))] [] (.one (.a (fC (rpow r)))) [] [(sR4Norm (h.b.mono (by decide))).e,(sR3Times (h.a.mono (by decide)) (h.c.mono (by decide))).e,(sR3Minus (h.b.norm.mono (by decide)) ((h.a.mul h.c).mono (by decide))).e] [(1,9)] 400 Tryz.func366 hmA (by kernel_rfl) (fun β=>by kernel_rfl)
def sCOver {z:GQ} {x:Rat} (hz:GSz KC z) (hx:Sz KC x) (h0:x≠0):Spec Tryz.prog :=
 Spec.auto Tryz.call407 [gS z,.one (.a (fC x))] [] (gS ⟨z.re/x,z.im/x⟩) [] [(sR3Over (hz.1.mono (by decide)) (hx.mono (by decide)) h0).e,(sR3Over (hz.2.mono (by decide)) (hx.mono (by decide)) h0).e] [(1,9)] 400 Tryz.func407 hmA (by kernel_rfl) (fun β=>by kernel_rfl)
def rqd (r:RQ) (x:Rat):RQ:=⟨r.a/x,⟨r.b.re/x,r.b.im/x⟩,r.c/x⟩
theorem rqd_eq (r:RQ) (x:Rat):rqd r x=rnm r x:=by
 unfold rqd rnm gscale
 rw [Rat.div_def,Rat.div_def,Rat.div_def,Rat.div_def]
def cnE {r:RQ} (h:RSz KC r) {x:Rat} (hx:Sz KC x) (h0:x≠0):List (Ev Tryz.prog) :=
 [(sR3Over (h.a.mono (by decide)) (hx.mono (by decide)) h0).e,(sCOver h.b hx h0).e,(sR3Over (h.c.mono (by decide)) (hx.mono (by decide)) h0).e]
def rS (r:RQ):SV:=.one (.a (cC r))
def sCNormal {r:RQ} (h:RSz KC r) {i j:Bool} (hi:decide (r.a=0)=i) (hj:decide (r.b.re=0)=j) (h0:rbyQ i j r≠0):Spec Tryz.prog :=
 ⟨367,Tryz.call367,[.one (.a (fC r.a)),gS r.b,.one (.a (fC r.c))],[],.one (.a (cC (rqd r (rbyQ i j r)))),[],fun β w hh=>by
  cases i
  · exact spec_auto (evs:=[(sR3Sign (x:=r.a) rfl).e,.eqv 11 (.bool (r.a.num.sign==0)) (.bool false) (sign_lit hi),(sR3Sign (x:=r.a) rfl).e,.eqv 16 (.bool (r.a.num.sign==0)) (.bool false) (sign_lit hi)]++cnE h (rby_sz h false j) h0) (Ns:=[(6,10)]) (m:=800) Tryz.func367 hmA (fun β=>by kernel_rfl) (by kernel_rfl) β w hh
  · cases j
    · exact spec_auto (evs:=[(sR3Sign (x:=r.a) rfl).e,.eqv 11 (.bool (r.a.num.sign==0)) (.bool true) (sign_lit hi),(sR3Sign (x:=r.b.re) rfl).e,.eqv 16 (.bool (r.b.re.num.sign==0)) (.bool false) (sign_lit hj)]++cnE h (rby_sz h true false) h0) (Ns:=[(6,10)]) (m:=800) Tryz.func367 hmA (fun β=>by kernel_rfl) (by kernel_rfl) β w hh
    · exact spec_auto (evs:=[(sR3Sign (x:=r.a) rfl).e,.eqv 11 (.bool (r.a.num.sign==0)) (.bool true) (sign_lit hi),(sR3Sign (x:=r.b.re) rfl).e,.eqv 16 (.bool (r.b.re.num.sign==0)) (.bool true) (sign_lit hj)]++cnE h (rby_sz h true true) h0) (Ns:=[(6,10)]) (m:=800) Tryz.func367 hmA (fun β=>by kernel_rfl) (by kernel_rfl) β w hh,by kernel_rfl⟩
def sCNorm1 {r:RQ} (h:RSz KC r) (hp:decide ((rpow r).num.sign≤0)=false):Spec Tryz.prog :=
 (sCNormal h rfl rfl (rby_ne hp)).conv (.one (.a (cC (rone r)))) (congrArg rS (rqd_eq r (rby r)))
def wtB (r:RQ):Bool:=decide ((rpow r).num.sign≤0)
def wtR (r:RQ) (x:Rat):R4:=bif wtB r then r40 else fR x
def wtK (r:RQ):Int:=bif wtB r then 210 else 0
abbrev wtC (r:RQ):List Lf:=rL (wtR r (rone r).a)++rL (wtR r (rone r).b.re)++rL (wtR r (rone r).b.im)++rL (wtR r (rone r).c)
theorem wt_no {r:RQ} (h:decide ((rpow r).num.sign≤0)=true):wtC r=c0C∧wtK r=210:=by
 have e:wtB r=true:=h
 exact ⟨by simp only [wtC,wtR,e,cond_true],by rw [wtK,e]; rfl⟩
theorem wt_yes {r:RQ} (h:decide ((rpow r).num.sign≤0)=false):wtC r=cC (rone r)∧wtK r=0:=by
 have e:wtB r=false:=h
 exact ⟨by simp only [wtC,wtR,e,cond_false],by rw [wtK,e]; rfl⟩
abbrev wtA (r:RQ):SV:=.tup [.a (wtC r),nI' (wtK r)]
def sCRMake {r:RQ} (h:RSz KC r):Spec Tryz.prog :=
 ⟨404,Tryz.call404,[.one (.a (fC r.a)),gS r.b,.one (.a (fC r.c))],[],wtA r,[],fun β w hh=>by
  cases hp:decide ((rpow r).num.sign≤0) with
  | true =>
   rw [wtA,(wt_no hp).1,(wt_no hp).2]
   exact spec_auto (evs:=[(sCPower h).e,(sR3Sign (x:=rpow r) rfl).e,.eqv 14 (.bool (decide ((rpow r).num.sign≤0))) (.bool true) (sgn_le hp)]) (Ns:=[]) (m:=400) Tryz.func404 hmA (fun β=>by kernel_rfl) (by kernel_rfl) β w hh
  | false =>
   rw [wtA,(wt_yes hp).1,(wt_yes hp).2]
   exact spec_auto (evs:=[(sCPower h).e,(sR3Sign (x:=rpow r) rfl).e,.eqv 14 (.bool (decide ((rpow r).num.sign≤0))) (.bool false) (sgn_le hp),(sCNorm1 h hp).e]) (Ns:=[]) (m:=400) Tryz.func404 hmA (fun β=>by kernel_rfl) (by kernel_rfl) β w hh,by kernel_rfl⟩
def sCRRound {b:GQ} {c:Rat} (hb:FitG b) (hc:Fit c):Spec Tryz.prog :=
 Spec.auto Tryz.call354 [gS b,.one (.a (fC c))] [] (wtA (roundQ b c)) [] [(sR3Int 1 (by decide)).e,(sR4Conj b).e,(sR4Neg (gconj b)).e,(sR4Norm (hb.gsz.mono (by decide))).e,(sR3Minus (hb.gsz.norm.mono (by decide)) (hc.sz.mono (by decide))).e,(sCRMake (rd_sz hb hc)).e] [(1,11)] 400 Tryz.func354 hmA (by kernel_rfl) (fun β=>by kernel_rfl)
inductive Fn where
 | ok (x:Rat) (h:Fit x)
 | no (f:Fr) (h:f.a.B=false)
def Fn.fr:Fn→Fr
 | .ok x h=>frX x h
 | .no f _=>f
def Fn.r (a:Fn):R4:=a.fr.r
def Fn.B:Fn→Bool
 | .ok ..=>true
 | .no ..=>false
theorem fn_of (x:R4) (h:x.s.size≤maxLen∧x.t.size≤maxLen):∃ a:Fn,a.r=x:=by
 obtain ⟨⟨r,f,e⟩,rfl⟩:=fr_of x h
 cases f with
 | ok x hx=>exact ⟨.ok x hx,rL_inj e⟩
 | no b c s t hn hs ht=>exact ⟨.no ⟨r,.no b c s t hn hs ht,e⟩ rfl,rfl⟩
def sRatFn (f:Fr) (h:f.a.B=false):Spec Tryz.prog :=
 ⟨276,Tryz.call276,[.one (.a (rL f.r))],[],.one (.c (.b (.v (.pointer none)))),[],fun β w hh=>by
  obtain ⟨r,a,e⟩:=f
  cases a with
  | ok=>cases h
  | no b c s t hn hs ht =>
   dsimp only
   rw [← e]
   exact (sRatNo hn).ok β w hh,by kernel_rfl⟩
def ratFn:Fn→Spec Tryz.prog
 | .ok _ h=>sRatIn h
 | .no f h=>sRatFn f h
end Go.Proofs.YtpccljaooghafaaGreat.Y
end
section
namespace Go.Proofs.YtpccljaooghafaaGreat
open Go.RowKit
set_option maxRecDepth 100000 in
theorem Lsh_any {w:World} {b o c p n k:Nat} (hz:Slot w b o 2) (hx:IntAt w c p (n:Int)) (hn:(dig n).length≤8589934592) (hk:k≤137438953472) :
  Calls Tryz.prog 411 #[.pointer (some ⟨b,o,none⟩),.pointer (some ⟨c,p,none⟩),.int .u64 (k:Int)] w fun e w'=>e=.returned (.pointer (some ⟨b,o,none⟩))∧IntAt w' b o ((n*2^k:Nat):Int)∧Touch w w' b o 2:=by
 obtain ⟨A,m,cap,hc0,hc1,hv,hlt⟩:=hx.open_
 rw [show decide ((n:Int)<0)=false by simp] at hc0
 rw [Int.natAbs_natCast] at hv
 have hm:=hv.len.1
 rw [← hm] at hn
 have HZ:=Lib.hid hz
 have HV:=Lib.hid hv
 have HC0:=Lib.hid hc0
 have HC1:=Lib.hid hc1
 clear hx hz hv hc0 hc1 hm
 go_enter Tryz.func411,Tryz.ntmps411
 go_wp2
 refine wp_region_acts 12 (fun w'=>Below w.heap.size w w') (fun w w'=>Below w.heap.size w w') (fun i w v=>match i with
   | 0=>v=.pointer (some ⟨b,o,none⟩)
   | 1=>v=.pointer (some ⟨c,p,none⟩)
   | 2=>v=.pointer (some ⟨c,p,none⟩)
   | 3=>v=.pointer (some ⟨c,p,none⟩)
   | 4=>v=.bool false
   | 5=>v=.pointer (some ⟨c,p,none⟩)
   | 6=>v=.pointer (some ⟨c,p,none⟩)
   | 7=>v=.pointer (some ⟨c,p+1,none⟩)
   | 8=>v=.slice A m cap
   | 9=>v=.int .u64 (k:Int)
   | 10=>v=.int .i64 (k:Int)
   | _=>∃ A' m' c',v=.slice A' m' c'∧Words w (.slice A' m' c') (dig (n*2^k))) (by kernel_rfl) (by kernel_rfl) (by kernel_rfl) ((Below.refl _ _).drew) (fun _ _=>Below.refl _ _) ?_ ⟨?_,?_,?_,?_,?_,?_,?_,?_,?_,?_,?_,?_,trivial⟩ ?_
 · intro i w1 w2 v hC hC2 hE hV
   match i with
   | 0=>exact hV
   | 1=>exact hV
   | 2=>exact hV
   | 3=>exact hV
   | 4=>exact hV
   | 5=>exact hV
   | 6=>exact hV
   | 7=>exact hV
   | 8=>exact hV
   | 9=>exact hV
   | 10=>exact hV
   | _+11=>obtain ⟨A',m',c',e,h⟩:=hV; exact ⟨A',m',c',e,h.below hE⟩
 · intro a' w' hag hC hd K hK
   have e0:a'.tmps.getD 0 undef=.pointer (some ⟨b,o,none⟩):=hag 0 rfl
   go_step
   exact hK _ _ hC (Below.refl _ _) rfl
 · intro a' w' hag hC hd K hK
   have e1:a'.tmps.getD 1 undef=.pointer (some ⟨c,p,none⟩):=hag 1 rfl
   go_step
   exact hK _ _ hC (Below.refl _ _) rfl
 · intro a' w' hag hC hd K hK
   have e8:a'.tmps.getD 8 undef=.pointer (some ⟨c,p,none⟩):=hd.1
   go_step
   exact hK _ _ hC (Below.refl _ _) rfl
 · intro a' w' hag hC hd K hK
   have e9:a'.tmps.getD 9 undef=.pointer (some ⟨c,p,none⟩):=hd.1
   go_step
   exact hK _ _ hC (Below.refl _ _) rfl
 · intro a' w' hag hC hd K hK
   have e10:a'.tmps.getD 10 undef=.pointer (some ⟨c,p,none⟩):=hd.1
   have hcell:w'.cell? ⟨c,p,none⟩=some (.bool false):=by rw [hC.cell (p:=⟨c,p,none⟩) hlt]; exact HC0.out
   have HC:=Lib.hid hC
   clear hC
   go_step
   exact hK _ _ HC.out (Below.refl _ _) rfl
 · intro a' w' hag hC hd K hK
   have e1:a'.tmps.getD 1 undef=.pointer (some ⟨c,p,none⟩):=hag 1 rfl
   go_step
   exact hK _ _ hC (Below.refl _ _) rfl
 · intro a' w' hag hC hd K hK
   have e12:a'.tmps.getD 12 undef=.pointer (some ⟨c,p,none⟩):=hd.1
   go_step
   exact hK _ _ hC (Below.refl _ _) rfl
 · intro a' w' hag hC hd K hK
   have e13:a'.tmps.getD 13 undef=.pointer (some ⟨c,p,none⟩):=hd.1
   go_step
   exact hK _ _ hC (Below.refl _ _) rfl
 · intro a' w' hag hC hd K hK
   have e14:a'.tmps.getD 14 undef=.pointer (some ⟨c,p+1,none⟩):=hd.1
   have hcell:w'.cell? ⟨c,p+1,none⟩=some (.slice A m cap):=by rw [hC.cell (p:=⟨c,p+1,none⟩) hlt]; exact HC1.out
   have HC:=Lib.hid hC
   clear hC
   go_step
   exact hK _ _ HC.out (Below.refl _ _) rfl
 · intro a' w' hag hC hd K hK
   have e2:a'.tmps.getD 2 undef=.int .u64 (k:Int):=hag 2 rfl
   go_step
   exact hK _ _ hC (Below.refl _ _) rfl
 · intro a' w' hag hC hd K hK
   have e16:a'.tmps.getD 16 undef=.int .u64 (k:Int):=hd.1
   go_step
   exact hK _ _ hC (Below.refl _ _) rfl
 · intro a' w' hag hC hd K hK
   have e15:a'.tmps.getD 15 undef=.slice A m cap:=hd.1
   have e17:a'.tmps.getD 17 undef=.int .i64 (k:Int):=hd.2.1
   go_step
   refine (left_any (HV.out.below hC) hn k hk).mono ?_
   rintro e w2 ⟨v,rfl,h1,h2⟩
   obtain ⟨A',m',c',rfl⟩:=h1.form
   rw [val_dig] at h1
   exact hK _ _ (hC.trans (h2.mono hC.size)) h2 ⟨_,_,_,rfl,h1⟩
 · intro u w' hC hall
   obtain ⟨u0,u1,u2,u3,u4,u5,u6,u7,u8,u9,u10,u11,_⟩:=hall
   have u0:u 0=.pointer (some ⟨b,o,none⟩):=u0
   have u1:u 1=.pointer (some ⟨c,p,none⟩):=u1
   have u2:u 2=.pointer (some ⟨c,p,none⟩):=u2
   have u3:u 3=.pointer (some ⟨c,p,none⟩):=u3
   have u4:u 4=.bool false:=u4
   have u5:u 5=.pointer (some ⟨c,p,none⟩):=u5
   have u6:u 6=.pointer (some ⟨c,p,none⟩):=u6
   have u7:u 7=.pointer (some ⟨c,p+1,none⟩):=u7
   have u8:u 8=.slice A m cap:=u8
   have u9:u 9=.int .u64 (k:Int):=u9
   have u10:u 10=.int .i64 (k:Int):=u10
   obtain ⟨A',m',c',eu11,hw'⟩:=u11
   have u11:u 11=.slice A' m' c':=eu11
   simp only [fillR,List.take_succ_cons,List.take_zero,Act.put,List.setIfInBounds_toArray,List.set_cons_succ,List.set_cons_zero,Nat.zero_add,Nat.reduceAdd,u0,u1,u2,u3,u4,u5,u6,u7,u8,u9,u10,u11]
   clear u0 u1 u2 u3 u4 u5 u6 u7 u8 u9 u10 u11
   have HW:=Lib.hid hw'
   have HC:=Lib.hid hC
   have hsl:=HZ.out.on hC
   clear hw' hC
   go_wp2_with (go_at_call 384; refine (is_any false hsl HW.out).mono ?_; rintro e w2 ⟨rfl,h1,h2⟩)
   go_ret
   rw [val_dig] at h1
   exact ⟨rfl,h1,(Touch.of_below HC.out _ _ _).trans h2⟩
set_option maxRecDepth 100000 in
theorem Rsh_any {w:World} {b o c p n k:Nat} (hz:Slot w b o 2) (hx:IntAt w c p (n:Int)) (hk:k≤1099511627776) :
  Calls Tryz.prog 412 #[.pointer (some ⟨b,o,none⟩),.pointer (some ⟨c,p,none⟩),.int .u64 (k:Int)] w fun e w'=>e=.returned (.pointer (some ⟨b,o,none⟩))∧IntAt w' b o ((n/2^k:Nat):Int)∧Touch w w' b o 2:=by
 obtain ⟨A,m,cap,hc0,hc1,hv,hlt⟩:=hx.open_
 rw [show decide ((n:Int)<0)=false by simp] at hc0
 rw [Int.natAbs_natCast] at hv
 have hm:m≤17179869184:=by have:=hv.len.1; have:=hv.2.1; omega
 have HZ:=Lib.hid hz
 have HV:=Lib.hid hv
 have HC0:=Lib.hid hc0
 clear hx hz hv
 go_enter Tryz.func412,Tryz.ntmps412
 go_wp2_with fail
 refine (right_any HV.out hm k hk).mono ?_
 rintro e w1 ⟨v,rfl,h1,h2⟩
 obtain ⟨A1,m1,c1,rfl⟩:=h1.form
 rw [val_dig] at h1
 have hd0:w1.cell? ⟨c,p,none⟩=some (.bool false):=by rw [h2.cell (p:=⟨c,p,none⟩) hlt]; exact HC0.out
 have hlt1:c<w1.heap.size:=Nat.lt_of_lt_of_le hlt h2.size
 have HD0:=Lib.hid hd0
 have HW:=Lib.hid h1
 have HB:=Lib.hid h2
 clear h1 h2 hc0 hc1 hd0
 go_wp2
 refine wp_region_acts 16 (fun w'=>Below w1.heap.size w1 w') (fun w w'=>Below w.heap.size w w') (fun i w v=>match i with
   | 0=>v=.pointer (some ⟨c,p,none⟩)
   | 1=>v=.pointer (some ⟨c,p,none⟩)
   | 2=>v=.pointer (some ⟨c,p,none⟩)
   | 3=>v=.bool false
   | 4=>v=.bool false
   | 5=>v=undef
   | 6=>v=undef
   | 7=>v=undef
   | 8=>v=undef
   | 9=>v=undef
   | 10=>v=undef
   | 11=>v=undef
   | 12=>v=undef
   | 13=>v=undef
   | 14=>v=undef
   | _=>v=.bool false) (by kernel_rfl) (by kernel_rfl) (by kernel_rfl) ((Below.refl _ _).drew) (fun _ _=>Below.refl _ _) ?_ ⟨?_,?_,?_,?_,?_,?_,?_,?_,?_,?_,?_,?_,?_,?_,?_,?_,trivial⟩ ?_
 · intro i w1 w2 v hC hC2 hE hV
   match i with
   | 0=>exact hV
   | 1=>exact hV
   | 2=>exact hV
   | 3=>exact hV
   | 4=>exact hV
   | 5=>exact hV
   | 6=>exact hV
   | 7=>exact hV
   | 8=>exact hV
   | 9=>exact hV
   | 10=>exact hV
   | 11=>exact hV
   | 12=>exact hV
   | 13=>exact hV
   | 14=>exact hV
   | _+15=>exact hV
 · intro a' w' hag hC hd K hK
   have e1:a'.tmps.getD 1 undef=.pointer (some ⟨c,p,none⟩):=hag 1 rfl
   go_step
   exact hK _ _ hC (Below.refl _ _) rfl
 · intro a' w' hag hC hd K hK
   have e15:a'.tmps.getD 15 undef=.pointer (some ⟨c,p,none⟩):=hd.1
   go_step
   exact hK _ _ hC (Below.refl _ _) rfl
 · intro a' w' hag hC hd K hK
   have e16:a'.tmps.getD 16 undef=.pointer (some ⟨c,p,none⟩):=hd.1
   go_step
   exact hK _ _ hC (Below.refl _ _) rfl
 · intro a' w' hag hC hd K hK
   have e17:a'.tmps.getD 17 undef=.pointer (some ⟨c,p,none⟩):=hd.1
   have hcell:w'.cell? ⟨c,p,none⟩=some (.bool false):=by rw [hC.cell (p:=⟨c,p,none⟩) hlt1]; exact HD0.out
   have HC:=Lib.hid hC
   clear hC
   go_step
   exact hK _ _ HC.out (Below.refl _ _) rfl
 · intro a' w' hag hC hd K hK
   have e18:a'.tmps.getD 18 undef=.bool false:=hd.1
   go_step
   exact hK _ _ hC (Below.refl _ _) rfl
 · intro a' w' hag hC hd
   exact ⟨fun hw=>Bool.noConfusion (hw.symm.trans (unwanted_of (j:=4) (d:=19) (b':=false) rfl rfl rfl hd.1 (by decide))),fun _=>rfl⟩
 · intro a' w' hag hC hd
   exact ⟨fun hw=>Bool.noConfusion (hw.symm.trans (unwanted_of (j:=4) (d:=19) (b':=false) rfl rfl rfl hd.1 (by decide))),fun _=>rfl⟩
 · intro a' w' hag hC hd
   exact ⟨fun hw=>Bool.noConfusion (hw.symm.trans (unwanted_of (j:=4) (d:=19) (b':=false) rfl rfl rfl hd.2.1 (by decide))),fun _=>rfl⟩
 · intro a' w' hag hC hd
   exact ⟨fun hw=>Bool.noConfusion (hw.symm.trans (unwanted_of (j:=4) (d:=19) (b':=false) rfl rfl rfl hd.2.2.1 (by decide))),fun _=>rfl⟩
 · intro a' w' hag hC hd
   exact ⟨fun hw=>Bool.noConfusion (hw.symm.trans (unwanted_of (j:=4) (d:=19) (b':=false) rfl rfl rfl hd.1 (by decide))),fun _=>rfl⟩
 · intro a' w' hag hC hd
   exact ⟨fun hw=>Bool.noConfusion (hw.symm.trans (unwanted_of (j:=4) (d:=19) (b':=false) rfl rfl rfl hd.2.1 (by decide))),fun _=>rfl⟩
 · intro a' w' hag hC hd
   exact ⟨fun hw=>Bool.noConfusion (hw.symm.trans (unwanted_of (j:=4) (d:=19) (b':=false) rfl rfl rfl hd.2.1 (by decide))),fun _=>rfl⟩
 · intro a' w' hag hC hd
   exact ⟨fun hw=>Bool.noConfusion (hw.symm.trans (unwanted_of (j:=4) (d:=19) (b':=false) rfl rfl rfl hd.2.1 (by decide))),fun _=>rfl⟩
 · intro a' w' hag hC hd
   exact ⟨fun hw=>Bool.noConfusion (hw.symm.trans (unwanted_of (j:=4) (d:=19) (b':=false) rfl rfl rfl hd.2.2.2.1 (by decide))),fun _=>rfl⟩
 · intro a' w' hag hC hd
   exact ⟨fun hw=>Bool.noConfusion (hw.symm.trans (unwanted_of (j:=4) (d:=19) (b':=false) rfl rfl rfl hd.2.1 (by decide))),fun _=>rfl⟩
 · intro a' w' hag hC hd K hK
   have e19:a'.tmps.getD 19 undef=.bool false:=hd.1
   have e29:a'.tmps.getD 29 undef=undef:=hd.2.1
   go_step
   exact hK _ _ hC (Below.refl _ _) rfl
 · intro u w' hC hall
   obtain ⟨u0,u1,u2,u3,u4,u5,u6,u7,u8,u9,u10,u11,u12,u13,u14,u15,_⟩:=hall
   have u0:u 0=.pointer (some ⟨c,p,none⟩):=u0
   have u1:u 1=.pointer (some ⟨c,p,none⟩):=u1
   have u2:u 2=.pointer (some ⟨c,p,none⟩):=u2
   have u3:u 3=.bool false:=u3
   have u4:u 4=.bool false:=u4
   have u5:u 5=undef:=u5
   have u6:u 6=undef:=u6
   have u7:u 7=undef:=u7
   have u8:u 8=undef:=u8
   have u9:u 9=undef:=u9
   have u10:u 10=undef:=u10
   have u11:u 11=undef:=u11
   have u12:u 12=undef:=u12
   have u13:u 13=undef:=u13
   have u14:u 14=undef:=u14
   have u15:u 15=.bool false:=u15
   simp only [fillR,List.take_succ_cons,List.take_zero,Act.put,List.setIfInBounds_toArray,List.set_cons_succ,List.set_cons_zero,Nat.zero_add,Nat.reduceAdd,u0,u1,u2,u3,u4,u5,u6,u7,u8,u9,u10,u11,u12,u13,u14,u15]
   clear u0 u1 u2 u3 u4 u5 u6 u7 u8 u9 u10 u11 u12 u13 u14 u15
   have HC:=Lib.hid hC
   have hc1:w'.cell? ⟨c,p,none⟩=some (.bool false):=by rw [hC.cell (p:=⟨c,p,none⟩) hlt1]; exact HD0.out
   have hsl:=(HZ.out.on HB.out).on hC
   have hw2:=HW.out.below hC
   clear hC
   go_wp2_with (go_at_call 384; refine (is_any false hsl hw2).mono ?_; rintro e w2 ⟨rfl,h1,h2⟩)
   go_ret
   rw [val_dig] at h1
   exact ⟨rfl,h1,((Touch.of_below HB.out _ _ _).trans (Touch.of_below HC.out _ _ _)).trans h2⟩
theorem newton_up (n R:Nat) (hR:0<R):n<((n/R+R)/2+1)*((n/R+R)/2+1):=by
 have h1:n<R*(n/R+1):=by have:=Nat.lt_mul_div_succ n hR; simpa [Nat.mul_add] using this
 generalize n/R=q at h1
 generalize hs:(q+R)/2=s
 have h2:q+1+R≤2*(s+1):=by omega
 refine Nat.lt_of_lt_of_le h1 ?_
 rcases Nat.le_total R (s+1) with h | h
 · obtain ⟨d,hd⟩:=Nat.exists_eq_add_of_le h
   rw [hd] at h2 ⊢
   have h3:q+1≤R+2*d:=by omega
   calc R*(q+1)≤R*(R+2*d):=Nat.mul_le_mul_left _ h3
    _≤(R+d)*(R+d):=by rw [Nat.mul_add,Nat.add_mul,Nat.mul_add,Nat.mul_add,Nat.mul_comm d R,Nat.mul_left_comm,Nat.two_mul]; omega
 · obtain ⟨d,hd⟩:=Nat.exists_eq_add_of_le h
   have h3:q+1+2*d≤R:=by omega
   rw [hd] at h2 ⊢
   have h4:q+1+d≤s+1:=by omega
   calc (s+1+d)*(q+1)=(s+1)*(q+1)+d*(q+1):=by rw [Nat.add_mul]
    _≤(s+1)*(q+1)+d*(s+1):=Nat.add_le_add_left (Nat.mul_le_mul_left _ (by omega)) _
    _=(s+1)*(q+1+d):=by rw [Nat.mul_add (s+1) (q+1) d,Nat.mul_comm d]
    _≤(s+1)*(s+1):=Nat.mul_le_mul_left _ h4
theorem newton_end (n R:Nat) (hR:0<R) (h:R≤(n/R+R)/2):R*R≤n:=by
 have h1:R≤n/R:=by omega
 exact Nat.le_trans (Nat.mul_le_mul_left _ h1) (Nat.mul_div_le n R)
theorem newton_pos (n R:Nat) (hn:0<n) (hR:0<R) (h:(n/R+R)/2<R):0<(n/R+R)/2:=by
 rcases Nat.lt_or_ge R 2 with h2 | h2
 · obtain rfl:R=1:=by omega
   rw [Nat.div_one] at h ⊢
   omega
 · generalize n/R=q at h ⊢
   omega
theorem okn_nat {m k:Nat} (h:m≤k) (hk:(dig k).length≤4294967296):Okn (m:Int):=by
 unfold Okn
 rw [Int.natAbs_natCast]
 exact Nat.le_trans (dig_len_mono _ _ h) hk
theorem cmpI_lt {a b:Nat} (h:a<b):cmpI (a:Int) (b:Int) = -1:=by
 unfold cmpI
 rw [if_pos (by omega)]
theorem cmpI_ge {a b:Nat} (h:b≤a):cmpI (a:Int) (b:Int)=0∨cmpI (a:Int) (b:Int)=1:=by
 unfold cmpI
 rw [if_neg (by omega)]
 by_cases k:(b:Int)<(a:Int)
 · rw [if_pos k]; exact .inr rfl
 · rw [if_neg k]; exact .inl rfl
theorem root_start {n L:Nat} (hn:0<n) (h:Bits n L):2^(L/2+1)≤4*n∧n<(2^(L/2+1)+1)*(2^(L/2+1)+1):=by
 have hL:0<L:=by
  rcases Nat.eq_zero_or_pos L with h0 | h0
  · subst h0; have:=h.1; simp at this; omega
  · exact h0
 have h1:=h.2 hL
 have h2:=h.1
 constructor
 · have h3:2^(L/2+1)≤2^(L-1+2):=Nat.pow_le_pow_right (by decide) (by omega)
   rw [show 2^(L-1+2)=2^(L-1)*4 from by rw [Nat.pow_add]] at h3
   exact Nat.le_trans h3 (by rw [Nat.mul_comm]; exact Nat.mul_le_mul_left _ h1)
 · have h3:2^L≤2^(L/2+1)*2^(L/2+1):=by
    rw [← Nat.pow_add]
    exact Nat.pow_le_pow_right (by decide) (by omega)
   have h4:2^(L/2+1)*2^(L/2+1)≤(2^(L/2+1)+1)*(2^(L/2+1)+1):=Nat.mul_le_mul (Nat.le_succ _) (Nat.le_succ _)
   omega
set_option maxHeartbeats 1600000 in
set_option maxRecDepth 100000 in
theorem Sqrt_any {w:World} {b o c p n:Nat} (hz:Slot w b o 2) (hx:IntAt w c p (n:Int)) (hn:(dig (5*n)).length≤4294967296) :
  Calls Tryz.prog 390 #[.pointer (some ⟨b,o,none⟩),.pointer (some ⟨c,p,none⟩)] w fun e w'=>e=.returned (.pointer (some ⟨b,o,none⟩))∧(∃ r:Nat,r*r≤n∧n<(r+1)*(r+1)∧IntAt w' b o (r:Int))∧Touch w w' b o 2:=by
 have HZ:=Lib.hid hz
 have HN:=Lib.hid hn
 rcases Nat.eq_zero_or_pos n with h0 | h0
 · subst h0
   have HX:Hid (IntAt w c p 0):=Lib.hid hx
   clear hz hx hn
   go_enter Tryz.func390,Tryz.ntmps390
   go_wp2_with fail
   refine (sign_any HX.out).mono ?_
   rw [Int.sign_zero]
   rintro e w1 ⟨rfl,rfl⟩
   go_wp2_with fail
   refine (is_any false HZ.out (Words.nil w)).mono ?_
   rintro e w2 ⟨rfl,h1,h2⟩
   have H1:=Lib.hid h1
   have H2:=Lib.hid h2
   clear h1 h2
   go_wp2
   go_ret
   exact ⟨rfl,⟨0,Nat.le_refl _,by decide,H1.out⟩,H2.out⟩
 · have HX:=Lib.hid hx
   have H0:=Lib.hid h0
   have hs:((n:Nat):Int).sign=1:=Int.sign_eq_one_of_pos (by omega)
   clear hz hx hn
   go_enter Tryz.func390,Tryz.ntmps390
   go_wp2_with fail
   refine (sign_any HX.out).mono ?_
   rw [hs]
   rintro e w1 ⟨rfl,rfl⟩
   clear hs h0
   go_wp2_with fail
   have HA:=Lib.hid ((Below.refl w.heap.size w).alloc (Nat.le_refl _) (.cells #[.bool false,.slice none 0 0] 163))
   have HS:=Lib.hid (IntAt.new w).slot
   refine (NewInt_any (n:=1) (by decide)).mono ?_
   rintro e w2 ⟨g1,rfl,hg1,h1,hb1⟩
   have H1:=Lib.hid h1
   have HS2:=Lib.hid (HS.out.on hb1)
   have HB2:=Lib.hid (HA.out.trans (hb1.mono HA.out.size))
   clear h1 hb1 hg1
   go_wp2_with fail
   refine (BitLen_any (HX.out.on HB2.out)).mono ?_
   rintro e w3 ⟨L,rfl,hL,hLb,hb2⟩
   rw [Int.natAbs_natCast] at hL
   obtain ⟨q,hq⟩:∃ q,q=L/2:=⟨_,rfl⟩
   have hqi:(L:Int)/2=(q:Int):=by omega
   have hqi2:(L:Int).tdiv 2=(q:Int):=by rw [Int.tdiv_eq_ediv_of_nonneg (by omega)]; exact hqi
   obtain ⟨k,hk⟩:∃ k,k=q+1:=⟨_,rfl⟩
   have hki:(q:Int)+1=(k:Int):=by omega
   have hkb:k≤274877906945:=by omega
   have hrs:=root_start H0.out hL
   rw [← hq,← hk] at hrs
   have HR:=Lib.hid hrs
   have H1b:=Lib.hid (H1.out.on hb2)
   have HS3:=Lib.hid (HS2.out.on hb2)
   have HB3:=Lib.hid (HB2.out.trans (hb2.mono HB2.out.size))
   have HKL:Hid (k≤137438953472):=by
    have h5:(dig n).length≤4294967296:=Nat.le_trans (dig_len_mono n (5*n) (by omega)) HN.out
    have h6:=dig_lt n
    rw [p32] at h6
    obtain ⟨E,hE⟩:∃ E:Nat,E=137438953472:=⟨_,rfl⟩
    have h7:n<2^E:=Nat.lt_of_lt_of_le h6 (Nat.pow_le_pow_right (by decide) (by omega))
    have h8:L≤E:=by
     rcases Nat.lt_or_ge E L with h9 | h9
     · have h10:=hL.2 (by omega)
       have h11:2^E≤2^(L-1):=Nat.pow_le_pow_right (by decide) (by omega)
       exact absurd (Nat.lt_of_lt_of_le h7 (Nat.le_trans h11 h10)) (Nat.lt_irrefl _)
     · exact h9
    clear h6 h7 hrs
    show k≤137438953472
    omega
   clear hb2 hL hrs hq hk
   go_wp2_with fail
   refine (Lsh_any (n:=1) (k:=k) HS3.out H1b.out (Nat.le_trans (dig_len_mono 1 (5*n) (by have:=H0.out; omega)) (Nat.le_trans HN.out (by decide))) HKL.out).mono ?_
   rintro e w4 ⟨rfl,h2,h3⟩
   rw [Nat.one_mul] at h2
   have H2:=Lib.hid h2
   have HB4:=Lib.hid (HB3.out.trans (h3.below (B:=w.heap.size) (Nat.le_refl _) HB3.out.size))
   clear h2 h3
   go_wp2
   go_loopg [5,6] (2^k) (fun m rv sv wr=>∃ (g R:Nat),rv=.pointer (some ⟨g,0,none⟩)∧R≤m∧Hid (w.heap.size≤g)∧Hid (0<R)∧Hid (R≤4*n)∧Hid (n<(R+1)*(R+1))∧Hid (IntAt wr g 0 (R:Int))∧Hid (Below w.heap.size w wr))
   case atStart=>exact ⟨w.heap.size,2^k,rfl,Nat.le_refl _,Nat.le_refl _,Nat.pow_pos (by decide),HR.out.1,HR.out.2,H2.out,HB4.out⟩
   case round =>
    obtain ⟨g,R,rfl,hRm,hg,hR0,hR4,hRn,hr,hb⟩:=hrel
    clear H1 HS HS2 HB2 HS3 HB3 H1b H2 HB4 HA
    go_wp2_with fail
    have hA:Below wr.heap.size wr (wr.alloc (.cells #[.bool false,.slice none 0 0] 163)):=(Below.refl _ _).alloc (Nat.le_refl _) _
    have hS:=(IntAt.new wr).slot
    have hxr:=HX.out.on hb.out
    refine (Quo_any hS (hxr.on hA) (hr.out.on hA) (by have:=hR0.out; omega) (okn_nat (k:=5*n) (by omega) HN.out)).mono ?_
    rintro e w5 ⟨rfl,h1,h2⟩
    have hq:((n:Nat):Int).tdiv ((R:Nat):Int)=((n/R:Nat):Int):=rfl
    rw [hq] at h1
    have B5:=hA.trans (h2.below (B:=wr.heap.size) (Nat.le_refl _) hA.size)
    have HB5:=Lib.hid B5
    have H5:=Lib.hid h1
    clear hA hS hxr h1 h2 B5 hq
    go_wp2_with fail
    have hdn:n/R≤n:=Nat.div_le_self _ _
    refine (Add_any H5.out.slot H5.out (hr.out.on HB5.out) (okn_nat (k:=5*n) (by omega) HN.out) (okn_nat (k:=5*n) (by have:=hR4.out; omega) HN.out)).mono ?_
    rintro e w6 ⟨rfl,h1,h2⟩
    rw [show ((n/R:Nat):Int)+((R:Nat):Int)=((n/R+R:Nat):Int) by omega] at h1
    have HB6:=Lib.hid (HB5.out.trans (h2.below (B:=wr.heap.size) (Nat.le_refl _) HB5.out.size))
    have H6:=Lib.hid h1
    clear h1 h2 hdn
    go_wp2_with fail
    refine (Rsh_any (k:=1) H6.out.slot H6.out (by decide)).mono ?_
    rintro e w7 ⟨rfl,h1,h2⟩
    rw [Nat.pow_one] at h1
    obtain ⟨S,hS⟩:∃ S,S=(n/R+R)/2:=⟨_,rfl⟩
    rw [← hS] at h1
    have HB7:=Lib.hid (HB6.out.trans (h2.below (B:=wr.heap.size) (Nat.le_refl _) HB6.out.size))
    have H7:=Lib.hid h1
    have HSS:=Lib.hid hS
    clear h1 h2 hS
    go_wp2_with fail
    refine (Cmp_any H7.out (hr.out.on HB7.out)).mono ?_
    rintro e w8 ⟨rfl,hb8⟩
    have HB8:=Lib.hid (HB7.out.trans (hb8.mono HB7.out.size))
    have H8:=Lib.hid (H7.out.on hb8)
    clear hb8
    rcases Nat.lt_or_ge S R with hlt | hge
    · rw [cmpI_lt hlt]
      go_wp2
      go_roundg S
      case measure=>exact Nat.lt_of_lt_of_le hlt hRm
      case rel =>
       have e:=HSS.out
       refine ⟨wr.heap.size,S,rfl,Nat.le_refl _,hb.out.size,?_,?_,?_,H8.out,hb.out.trans (HB8.out.mono hb.out.size)⟩
       · rw [Hid,e]; exact newton_pos n R H0.out hR0.out (e▸hlt)
       · exact Nat.le_trans (Nat.le_of_lt hlt) hR4.out
       · rw [Hid,e]; exact newton_up n R hR0.out
    · have hend:R*R≤n:=newton_end n R hR0.out (HSS.out▸hge)
      have HE:=Lib.hid hend
      have hzz:Slot w8 b o 2:=(HZ.out.on hb.out).on HB8.out
      have HZ8:=Lib.hid hzz
      have HR8:=Lib.hid (hr.out.on HB8.out)
      have HT:=Lib.hid (hb.out.trans (HB8.out.mono hb.out.size))
      clear hend hzz
      rcases cmpI_ge hge with h9 | h9
      all_goals
       rw [h9]
       go_wp2_with fail
       refine (set_any HZ8.out HR8.out).mono ?_
       rintro e w9 ⟨rfl,h1,h2⟩
       have K1:=Lib.hid h1
       have K2:=Lib.hid ((Touch.of_below HT.out b o 2).trans h2)
       clear h1 h2
       go_wp2
       go_ret
       exact ⟨rfl,⟨R,HE.out,hRn.out,K1.out⟩,K2.out⟩
end Go.Proofs.YtpccljaooghafaaGreat
end
section
namespace Go.Proofs.YtpccljaooghafaaGreat.Y
open Go Go.RowKit
set_option maxRecDepth 100000
theorem root_uniq {n a b:Nat} (h1:a*a≤n) (h2:n<(a+1)*(a+1)) (k1:b*b≤n) (k2:n<(b+1)*(b+1)):a=b:=by
 rcases Nat.lt_trichotomy a b with h | h | h
 · have:(a+1)*(a+1)≤b*b:=Nat.mul_le_mul h h
   omega
 · exact h
 · have:(b+1)*(b+1)≤a*a:=Nat.mul_le_mul h h
   omega
def eSqrt {m:Int} {n r:Nat} (i p k:Nat) (hm:m=(n:Int)) (h1:r*r≤n) (h2:n<(r+1)*(r+1)) (hn:(dig (5*n)).length≤4294967296):Ev Tryz.prog:=.fill 390 Tryz.call390 (fun β=>#[.pointer (some ⟨(β i).b,0,none⟩),.pointer ((β k).v 0)]) [(k,(intT m).ob)] i 2 p (intT (r:Int))
 (fun β w h ho hs=>by
  obtain ⟨b,hb,kb⟩:=needI (n:=m) (k:=k) h (by simp)
  simp only [hb.1]
  rw [hm] at kb
  refine (Sqrt_any hs kb hn).mono fun e w' ⟨he,⟨r',k1,k2,k3⟩,k4⟩=>?_
  rw [root_uniq h1 h2 k1 k2]
  exact ⟨he,⟨_,ho.at1,k3⟩,k4⟩)
def fSqrt {m:Int} {n r:Nat} (hm:m=(n:Int)) (h1:r*r≤n) (h2:n<(r+1)*(r+1)) (hn:(dig (5*n)).length≤4294967296):Ev Tryz.prog:=dyn2 fun i p k=>eSqrt i p k hm h1 h2 hn
def mkI:Ev Tryz.prog:=dynMk 163 2
theorem cmp_root {x y:Rat} {t:Bool} (h:decide (x=y)=t):Value.bool (cmpQ x y==0)=.bool t:=by
 rw [← h]
 congr 1
 rw [Bool.eq_iff_iff,beq_iff_eq,decide_eq_true_iff]
 unfold cmpQ
 constructor
 · intro h
   by_cases a:x<y
   · rw [if_pos a] at h; exact absurd h (by decide)
   · by_cases b:y<x
     · rw [if_neg a,if_pos b] at h; exact absurd h (by decide)
     · exact Rat.le_antisymm (Rat.not_lt.1 b) (Rat.not_lt.1 a)
 · rintro rfl
   rw [if_neg Rat.lt_irrefl,if_neg Rat.lt_irrefl]
theorem nat_sign {m:Int} {n:Nat} (h:m=(n:Int)):Value.bool (decide (m.sign<0))=.bool false:=by
 rw [h]
 cases n<;>rfl
def alOf (ob:List Ob) (j:Nat):Nat:=match ob[j]? with
 | some (.al i _)=>i
 | _=>0
theorem one_at {g:Pl} {b:Nat} (h:g.one) (k:At1 g b):b=g.b:=((k.2 g.b).1 ((h.1 _).2 rfl)).symm
end Go.Proofs.YtpccljaooghafaaGreat.Y
end
section
namespace Go.Proofs.YtpccljaooghafaaGreat
open Go.RowKit
theorem fracV_inj {x y:Rat} (h:fracV x=fracV y):x=y:=by
 obtain ⟨h1,h2,_,h4⟩:=agg4 h
 have e1:x.num=y.num:=sg_inj h1 (mag_inj h2)
 have e2:x.den=y.den:=mag_inj h4
 exact Rat.ext e1 e2
theorem cmpQ_zero {x y:Rat}:cmpQ x y=0↔x=y:=by
 unfold cmpQ
 constructor
 · intro h
   split at h
   · cases h
   · split at h
     · cases h
     · rename_i h1 h2
       exact Rat.le_antisymm (Rat.not_lt.1 h2) (Rat.not_lt.1 h1)
 · rintro rfl
   rw [if_neg (Rat.lt_irrefl),if_neg (Rat.lt_irrefl)]
end Go.Proofs.YtpccljaooghafaaGreat
end
section
namespace Go.Proofs.YtpccljaooghafaaGreat.Y
open Go Go.RowKit
set_option maxRecDepth 100000
theorem f12:FitG (gint 1 2):=fit_int (by decide) (by decide)
def z4:List Lf:=[.b (.v (.bool false)),.b (.v (.slice none 0 0)),.b (.v (.bool false)),.b (.v (.slice none 0 0))]
theorem RatAt.zero {w:World} {b:Nat} (hb:w.heap[b]?=some (.cells #[.bool false,.slice none 0 0,.bool false,.slice none 0 0] 165 (0,0))):RatAt w b 0 0:=by
 refine ⟨⟨_,_,hb,by decide,by simp⟩,⟨⟨_,_,hb,by decide,by simp⟩,?_,.slice none 0 0,?_,?_⟩,0,⟨⟨_,_,hb,by decide,by simp⟩,?_,.slice none 0 0,?_,?_⟩,.inr ⟨rfl,rfl⟩⟩
 · rw [cell_of_row _ _ _ _ _ _ hb]; rfl
 · rw [cell_of_row _ _ _ _ _ _ hb]; rfl
 · rw [show (0:Rat).num=0 from rfl,Int.natAbs_zero,dig_zero]; exact Words.nil _
 · rw [cell_of_row _ _ _ _ _ _ hb]; rfl
 · rw [cell_of_row _ _ _ _ _ _ hb]; rfl
 · rw [Int.natAbs_zero,dig_zero]; exact Words.nil _
theorem okr0:Sz KB (0:Rat):=sz_zero.mono (by decide)
def eSum0 {y:Rat} (i n k:Nat) (hy:Sz KB y):Ev Tryz.prog:=.refill 144 Tryz.call144 (fun β=>#[.pointer (some ⟨(β i).b,0,none⟩),.pointer (some ⟨(β i).b,0,none⟩),.pointer ((β k).v 0)]) [(i,.box z4 165),(k,(ratT y).ob)] i i 4 n (ratT (0+y))
 (fun β w h hji ho hs=>by
  have hb:(Ob.box z4 165).holds β w (β i):=h (i,.box z4 165) (by simp)
  obtain ⟨b,hb2,kb⟩:=needP (x:=y) (k:=k) h (by simp)
  simp only [hb2.1]
  exact fillP ho (rAdd_any hs (RatAt.zero hb.2) kb (okr0.okR2 (by decide)) (hy.okR2 (by decide))))
def eSumP {x y:Rat} (i j n k:Nat) (hx:Sz KB x) (hy:Sz KB y):Ev Tryz.prog:=.refill 144 Tryz.call144 (fun β=>#[.pointer (some ⟨(β i).b,0,none⟩),.pointer (some ⟨(β i).b,0,none⟩),.pointer ((β k).v 0)]) [(j,(ratT x).ob),(k,(ratT y).ob)] i j 4 n (ratT (x+y))
 (fun β w h hji ho hs=>by
  obtain ⟨a,ha,ka⟩:=needP (x:=x) (k:=j) h (by simp)
  obtain ⟨b,hb,kb⟩:=needP (x:=y) (k:=k) h (by simp)
  have e:=one_at ho (hji▸ha)
  subst e
  simp only [hb.1]
  exact fillP ho (rAdd_any hs ka kb (hx.okR2 (by decide)) (hy.okR2 (by decide))))
def eSumZ {x y:Rat} (i j n k:Nat) (hx:Sz KB x) (hy:Sz KB y):Ev Tryz.prog:=.refill 144 Tryz.call144 (fun β=>#[.pointer ((β j).v 0),.pointer ((β j).v 0),.pointer ((β k).v 0)]) [(j,(ratT x).ob),(k,(ratT y).ob)] i j 4 n (ratT (x+y))
 (fun β w h hji ho hs=>by
  obtain ⟨a,ha,ka⟩:=needP (x:=x) (k:=j) h (by simp)
  obtain ⟨b,hb,kb⟩:=needP (x:=y) (k:=k) h (by simp)
  have e:=one_at ho (hji▸ha)
  subst e
  simp only [ha.1,hb.1]
  exact fillP ho (rAdd_any hs ka kb (hx.okR2 (by decide)) (hy.okR2 (by decide))))
def sum0 {y:Rat} (hy:Sz KB y):Ev Tryz.prog:=.dyn (fun o _ _=>isCallB o) fun _ xs ob=>lit ob.length fun n=>lit (ptOf (xs.getD 0 undefS)) fun i=>lit (ptOf (xs.getD 2 undefS)) fun k=>eSum0 i n k hy
def sumN {x y:Rat} (hx:Sz KB x) (hy:Sz KB y):Ev Tryz.prog:=.dyn (fun o _ _=>isCallB o) fun _ xs ob=>lit ob.length fun n=>lit (ptOf (xs.getD 2 undefS)) fun k=>match xs.getD 0 undefS with
 | .one (.c (.b (.p i _)))=>lit i fun i=>lit ((findA i ob 0).getD 0) fun j=>eSumP i j n k hx hy
 | .one (.c (.b (.z j _)))=>lit j fun j=>lit (alOf ob j) fun i=>eSumZ i j n k hx hy
 | _=>.eqv 0 undef undef rfl
abbrev KD5:Nat:=5000
section
variable {f g h:Nat→Rat} (hf:∀ n,Sz KD5 (f n)) (hg:∀ n,Sz KD5 (g n)) (hh:∀ n,Sz KD5 (h n))
theorem mone8:Sz 8 (Rat.divInt (-1) 1):=sz_lit (-1) 1 (by decide) (by decide) (by decide)
end
theorem sq_sum {x y:Rat} (h:x*x+y*y=0):x=0∧y=0:=by
 have hn:∀ z:Rat,0≤z*z:=fun z=>by
  rcases Rat.le_total (a:=0) (b:=z) with h | h
  · exact Rat.mul_nonneg h h
  · have:=Rat.mul_nonneg (a:=-z) (b:=-z) (by grind) (by grind)
    grind
 have h1:=hn x
 have h2:=hn y
 have e1:x*x=0:=by grind
 have e2:y*y=0:=by grind
 exact ⟨by rcases Rat.mul_eq_zero.1 e1 with h | h<;>exact h,by rcases Rat.mul_eq_zero.1 e2 with h | h<;>exact h⟩
def sR3Small (n m:Int) (hn : -9223372036854775808≤n∧n≤9223372036854775807) (hm : -9223372036854775808≤m∧m≤9223372036854775807) (h0:m≠0) (sn:sz n≤1000000000) (sm:sz m≤1000000000):Spec Tryz.prog :=
 Spec.auto Tryz.call27 [.one (svI n),.one (svI m)] [] (.one (.a (fC (Rat.divInt n m)))) [] [eWOf n hn,eWOf m hm,eFOf sn sm h0] [] 400 Tryz.func27 hmA (by kernel_rfl) (fun β=>by kernel_rfl)
def sETwice {x:Rat} (hx:Sz KB x):Spec Tryz.prog :=
 Spec.auto Tryz.call352 [rV 0] [ratT x] (rV 1) [ratT (x+x)] [mkR,fAdd hx hx] [] 400 Tryz.func352 hmA (by kernel_rfl) (fun β=>by kernel_rfl)
abbrev KS3:Nat:=10000000
noncomputable def sSum3 {x y z:Rat} (hx:Sz KS3 x) (hy:Sz KS3 y) (hz:Sz KS3 z):OSpec Tryz.prog :=
 OSpec.auto Tryz.call351 [.one (.c (.b (.s 3 0 3 3)))] [(ratT x).ob,(ratT y).ob,(ratT z).ob,.box [.b (.z 0 0),.b (.z 1 0),.b (.z 2 0)] 149] (rV 4) [0+x+y+z]
  [sum0 (hx.mono (by decide)),sumN ((sz_zero.add hx).mono (by decide)) (hy.mono (by decide)),sumN (((sz_zero.add hx).add hy).mono (by decide)) (hz.mono (by decide))] [] 800 Tryz.func351 hmA (by kernel_rfl) (fun β=>by kernel_rfl)
def valQ (r:RQ) (z:GQ):Rat:=0+r.a*gnorm z+((gmul r.b z).re+(gmul r.b z).re)+r.c
noncomputable def sValue {r:RQ} {z:GQ} (h:RSz KC r) (hz:GSz KC z):Spec Tryz.prog :=
 Spec.auto Tryz.call375 [rgV 0,nV 4] (rgT r++gM z) (rV 6) [ratT (valQ r z)]
  [(sMul (h.b.mono (by decide)) (hz.mono (by decide))).e,(sParts (gmul r.b z)).e,(sNorm (hz.mono (by decide))).e,(sMulR (h.a.mono (by decide)) (hz.norm.mono (by decide))).e,(sETwice ((h.b.mul hz).1.mono (by decide))).e,
   (sSum3 ((h.a.mul hz.norm).mono (by decide)) (((h.b.mul hz).1.add (h.b.mul hz).1).mono (by decide)) (h.c.mono (by decide))).e] [(2,12)] 800 Tryz.func375 hmA (by kernel_rfl) (fun β=>by kernel_rfl)
def sidQ (r:RQ):Pt→Rat
 | .inf=>r.a
 | .fin z=>valQ r z
noncomputable def sESide {r:RQ} {p:Pt} (h:RSz KC r) (hp:FitP p):Spec Tryz.prog :=
 ⟨281,Tryz.call281,[rgV 0,pV 4 p],rgT r++pM p,.one (nI' (sidQ r p).num.sign),[],fun β w hh=>by
  cases p with
  | inf=>exact spec_auto (args:=[rgV 0,pV 4 .inf]) (obs:=rgT r++pM .inf) (evs:=[nSign (x:=r.a) rfl]) (Ns:=[]) (m:=400) Tryz.func281 hmA (fun β=>by kernel_rfl) (by kernel_rfl) β w hh
  | fin z=>exact spec_auto (args:=[rgV 0,pV 4 (.fin z)]) (obs:=rgT r++pM (.fin z)) (evs:=[(sValue h (fitG_sz hp |>.mono (by decide))).e,nSign (x:=valQ r z) rfl]) (Ns:=[]) (m:=400) Tryz.func281 hmA (fun β=>by kernel_rfl) (by kernel_rfl) β w hh,by cases p<;>kernel_rfl⟩
theorem cmp_self (x:Rat):cmpQ x x=0:=by
 have h:(!(cmpQ x x==0))=false∨(!(cmpQ x x==0))=true:=by cases (!(cmpQ x x==0))<;>simp
 unfold cmpQ
 simp
theorem gsub_self (z:GQ):gzero (gsub z z)=true:=by
 rw [gz_true]
 refine GQ.ext2 ?_ ?_<;>(simp only [gsub,g0]; grind)
noncomputable def sRSame {r:RQ} (h:RSz KC r):Spec Tryz.prog :=
 Spec.auto Tryz.call346 [rgV 0,rgV 4] (rgT r++rgT r) (tB' true) [] [nCmp (h.a.mono (by decide)) (h.a.mono (by decide)) (cmp_self r.a),(sSame (h.b.mono (by decide)) (h.b.mono (by decide)) (gsub_self r.b)).e,nCmp (h.c.mono (by decide)) (h.c.mono (by decide)) (cmp_self r.c)] [] 400 Tryz.func346 hmA (by kernel_rfl) (fun β=>by kernel_rfl)
structure MayC (r:RQ):Prop where
 fit:FitC r
 pow:decide ((rpow r).num.sign≤0)=false
 one:rone r=r
theorem MayC.sz {r:RQ} (h:MayC r):RSz KC r:=mk_sz h.fit.1 h.fit.2.1 h.fit.2.2
def Spec.newsTo {P:Program} (S:Spec P) (l:List Thing) (h:S.news=l):Spec P :=
 ⟨S.f,S.en,S.args,S.obs,S.res,l,fun β w hh=>by rw [← h]; exact S.ok β w hh,by rw [← h]; exact S.closed⟩
noncomputable def sRNorm1 {r:RQ} (h:MayC r):Spec Tryz.prog :=
 (sRNormal h.sz rfl rfl (rby_ne h.pow)).newsTo (rgT r) (by show rgT (rone r)=rgT r; rw [h.one])
noncomputable def sWheel {r:RQ} (h:MayC r):Spec Tryz.prog :=
 Spec.auto Tryz.call234 [.one (.a (cC r))] [] (.tup [.a [.b (.z 0 0),.b (.z 1 0),.b (.z 2 0),.b (.z 3 0)],.c (.b (.v (.bool true)))]) (rgT r)
  [(ofG h.fit.2.1).e,(sRatIn h.fit.1).e,(sRatIn h.fit.2.2).e,dEq r.a,dEq r.c,(sPower h.sz).e,nSign (x:=rpow r) rfl,.eqv 37 (.bool (decide ((rpow r).num.sign≤0))) (.bool false) (sgn_le h.pow),(sRNorm1 h).e,(sRSame h.sz).e] [(2,9),(5,5)] 1200 Tryz.func234 hmA (by kernel_rfl) (fun β=>by kernel_rfl)
noncomputable def sCCheck {r:RQ} (h:MayC r):Spec Tryz.prog :=
 Spec.auto Tryz.call97 [.one (.a (cC r))] [] (.one (nI' 0)) [] [(sWheel h).e] [] 400 Tryz.func97 hmA (by kernel_rfl) (fun β=>by kernel_rfl)
theorem den_three (β:Env) (n:Nat) (b:Bool) (p q:Pl):(SV.one (.a [.b (.v (.bool b)),.b (.z n 0),.b (.z (n+1) 0)])).den (extE β n [p,q])=.agg #[.bool b,.pointer (p.v 0),.pointer (q.v 0)]:=by
 have h1:=extE_in (β:=β) (n:=n) (i:=0) (xs:=[p,q]) rfl
 have h2:=extE_in (β:=β) (n:=n) (i:=1) (xs:=[p,q]) rfl
 rw [Nat.add_zero] at h1
 simp [SV.den,SC.den,Lf.den,Lf0.den,h1,h2]
def rdPlace (d t:Nat) (e:TypeId) (cs:List Cd) (o:Nat) (b:Bool) (x y:Rat) (hb:cs[o]?=some (.v (.bool b))) (hx:cs[o+1]?=some (.r x)) (hy:cs[o+2]?=some (.r y)) (k n:Nat):Ev Tryz.prog :=
 .rd d (.load 190 (.tmp t)) (fun β=>[.pointer (some ⟨(β k).b,o,none⟩)]) [(k,(rowT e cs).ob)] n (.one (.a [.b (.v (.bool b)),.b (.z n 0),.b (.z (n+1) 0)])) [ratM x,ratM y] (fun β w h ρ op ho hx'=>by
  have h1:RW e cs w (β k):=h (k,(rowT e cs).ob) (by simp)
  have h2:ρ (.tmp t)=.pointer (some ⟨(β k).b,o,none⟩):=by simpa [Op.operands] using hx'
  have p1:=cdOk_at h1.2.1.1 hx
  have p2:=cdOk_at h1.2.1.1 hy
  rw [Nat.zero_add] at p1 p2
  refine ⟨[cellPl (β k) (o+1),cellPl (β k) (o+2)],w,fun g hg c hc=>.inr ⟨(k,(rowT e cs).ob),by simp,rfl,?_⟩,?_,⟨cellPl_or p1,cellPl_or p2,trivial⟩,Below.refl _ _⟩
  · rcases List.mem_cons.1 hg with rfl | hg
    · exact cellPl_F p1 hc
    · obtain rfl:=List.mem_singleton.1 hg
      exact cellPl_F p2 hc
  · have hr:w.rangeAt (β k).b o [.bool b,.pointer ((β k).v (o+1)),.pointer ((β k).v (o+2))]:=fun j v hv=>by
     match j,hv with
     | 0,hv=>simp only [List.getElem?_cons_zero] at hv; obtain rfl:=Option.some.inj hv; exact rw_cell h1 hb
     | 1,hv=>simp only [List.getElem?_cons_succ,List.getElem?_cons_zero] at hv; obtain rfl:=Option.some.inj hv; exact rw_cell h1 hx
     | 2,hv=>simp only [List.getElem?_cons_succ,List.getElem?_cons_zero] at hv; obtain rfl:=Option.some.inj hv; exact rw_cell h1 hy
     | j+3,hv=>simp at hv
    have hl:=run_loadAt_mid (P:=Tryz.prog) w (β k).b o 190 _ _ hr Tryz.underlying190 (by kernel_rfl) (by kernel_rfl)
    rw [den_three]
    unfold execOp
    rw [ho]
    simp only [h2]
    simp [hl,Result.andThen]
    exact ⟨rfl,rfl⟩)
def dPlace (e:TypeId) (cs:List Cd):Ev Tryz.prog:=.dyn (fun o xs ob=>match o.op with
 | .load T (.tmp _)=>Nat.beq T 190&&isAd (xs.getD 0 undefS)&&(match ob[(adOf (xs.getD 0 undefS)).1]? with | some (.th _)=>true | _=>false)
 | _=>false) fun o xs ob=>match o.op with
 | .load _ (.tmp t)=>lit (adOf (xs.getD 0 undefS)).1 fun k=>lit (adOf (xs.getD 0 undefS)).2 fun off=>lit ob.length fun n=>match hb:cs[off]?,hx:cs[off+1]?,hy:cs[off+2]? with
  | some (.v (.bool b)),some (.r x),some (.r y)=>rdPlace (o.dst.getD 0) t e cs off b x y hb hx hy k n
  | _,_,_=>.eqv 0 undef undef rfl
 | _=>.eqv 0 undef undef rfl
def rdIdxP (d t:Nat) (e:TypeId) (cs:List Cd) (ix:Operand) (n j:Nat) (hj:Nat.blt j n=true) (k:Nat):Ev Tryz.prog :=
 .rd d (.indexAddr 267 (.tmp t) ix) (fun β=>[.slice ((β k).v cs.length) n ((β k).c cs.length),.int .i64 (j:Int)]) [(k,(rowT e cs).ob)] 0 (.one (.c (.b (.p k (j*3))))) [] (fun β w h ρ op ho hx'=>by
  have h1:RW e cs w (β k):=h (k,(rowT e cs).ob) (by simp)
  have h2:ρ (.tmp t)=.slice (some ⟨(β k).b,0,none⟩) n ((β k).c cs.length)∧ρ ix=.int .i64 (j:Int):=by
   rw [h1.2.1.2] at hx'
   simpa [Op.operands] using hx'
  rw [Nat.blt_eq] at hj
  refine ⟨[],w,(fun _ h=>by cases h),?_,trivial,Below.refl _ _⟩
  rw [extE_nil]
  unfold execOp
  rw [ho]
  simp only [h2.1,h2.2]
  have hi:=run_indexAt_slice (P:=Tryz.prog) w 267 ⟨(β k).b,0,none⟩ n ((β k).c cs.length) .i64 (j:Int) (by kernel_rfl)
  have hsz:(sizeOf (Tryz.prog.elem 267)).run Tryz.prog w=.ok 3 w:=by kernel_rfl
  rw [if_pos ⟨by omega,by omega⟩,hsz,Result.andThen_ok,Int.toNat_natCast] at hi
  have ha:(⟨(β k).b,0,none⟩:Addr).add (j*3)=⟨(β k).b,j*3,none⟩:=by
   simp [Addr.add]
   exact fun h=>h.symm
  rw [ha] at hi
  simp only [Sem.run_bind,hi,Result.andThen_ok]
  rfl)
def dIdxP (e:TypeId) (cs:List Cd):Ev Tryz.prog:=.dyn (fun o xs ob=>match o.op with
 | .indexAddr _ (.tmp _) _=>isY (xs.getD 0 undefS)
 | _=>false) fun o xs ob=>match o.op with
 | .indexAddr _ (.tmp t) ix=>lit (yOf (xs.getD 0 undefS)).1 fun k=>lit (yOf (xs.getD 0 undefS)).2 fun n=>lit (intS (xs.getD 1 undefS)) fun j=>if h:Nat.blt j n=true then rdIdxP (o.dst.getD 0) t e cs ix n j h k else .eqv 0 undef undef rfl
 | _=>.eqv 0 undef undef rfl
theorem place_some:(Tryz.prog.info? 190).isSome=true:=by kernel_rfl
noncomputable def appP:AppT Tryz.prog :=
 ⟨267,190,(Tryz.prog.info? 190).get place_some,.agg #[.bool false,.pointer none,.pointer none],3,24,Tryz.underlying267,(Option.some_get place_some).symm,by kernel_rfl,by kernel_rfl,by kernel_rfl,rfl,by decide,by decide⟩
def plCd (p:Pt):List Cd:=[.v (.bool (pI p)),.r (pG p).re,.r (pG p).im]
abbrev PLT:TypeId:=190
theorem pt_no_rat {w:World} {b:Nat} {c0:Value} {b1:Bool} {l:List Value} {t:TypeId} {x:Rat} (h:w.heap[b]?=some (.cells (c0::.bool b1::l).toArray t (0,0))) (k:RatAt w b 0 x):False:=by
 obtain ⟨A,m,cap,_,h1,_⟩:=k.2.1.open_
 have h2:=cell_lay (o:=1) h rfl
 rw [Nat.zero_add,h2] at h1
 cases h1
theorem or_cd {w:World} {g G:Pl} {x:Rat} {i:Nat} (h:OR0 x w g) (hv:G.v i=g.v 0) (hF:∀ c,g.F c→G.F c):cdP w G i (.r x):=by
 rcases h with ⟨h1,_,h3⟩ | ⟨b,h1,h2⟩
 · exact .inl ⟨hv.trans h1,h3⟩
 · exact .inr ⟨b,hv.trans h1.1,hF b ((h1.2 b).2 rfl),h2⟩
abbrev pl2 (p0 p1:Pt):List Cd:=plCd p0++plCd p1
theorem sgn_ne {n:Int} {t:Bool} (h:(!(n==0))=t):Value.bool (!(n==0))=.bool t:=by rw [h]
noncomputable def sOn1 {r:RQ} {p:Pt} (h:RSz KC r) (hp:FitP p) {t:Bool} (ht:(!((sidQ r p).num.sign==0))=t):OSpec Tryz.prog :=
 OSpec.auto Tryz.call280 [pV 0 p,.one (.c (.b (.p 6 0)))] [(ratM (pG p).re).ob,(ratM (pG p).im).ob,(ratT r.a).ob,(ratT r.b.re).ob,(ratT r.b.im).ob,(ratT r.c).ob,.box [.b (.z 2 0),.b (.z 3 0),.b (.z 4 0),.b (.z 5 0)] 252] (tB' t) []
  [(sESide h hp).e,.eqv 7 (.bool (!((sidQ r p).num.sign==0))) (.bool t) (sgn_ne ht)] [] 400 Tryz.func280 hmA (by cases p<;>kernel_rfl) (fun β=>by cases p<;>kernel_rfl)
section
variable {r:RQ} {p q:Pt} (h:RSz KC r) (hp:FitP p) (hq:FitP q) (h1:(!((sidQ r p).num.sign==0))=false) (h2:(!((sidQ r q).num.sign==0))=false)
abbrev onO (r:RQ) (l:List Cd):List Ob:=[(rowT PLT l).ob,(ratT r.a).ob,(ratT r.b.re).ob,(ratT r.b.im).ob,(ratT r.c).ob,.box [.b (.z 1 0),.b (.z 2 0),.b (.z 3 0),.b (.z 4 0)] 252]
abbrev onF:SV:=.one (.c (.f (.func 280) [] [.p 5 0]))
noncomputable def sIdx2:OSpec Tryz.prog :=
 OSpec.auto Tryz.call374 [.one (.c (.b (.y 0 6 2))),onF] (onO r (pl2 p q)) (.one (nI' (-1))) []
  [dIdxP PLT (pl2 p q),dPlace PLT (pl2 p q),(sOn1 h hp h1).e,dIdxP PLT (pl2 p q),dPlace PLT (pl2 p q),(sOn1 h hq h2).e] [] 800 Tryz.func374 hmA (by kernel_rfl) (fun β=>by kernel_rfl)
noncomputable def sHas2:OSpec Tryz.prog :=
 OSpec.auto Tryz.call279 [.one (.c (.b (.y 0 6 2))),onF] (onO r (pl2 p q)) (tB' false) [] [(sIdx2 h hp hq h1 h2).e] [] 400 Tryz.func279 hmA (by kernel_rfl) (fun β=>by kernel_rfl)
end
abbrev ptI (n m:Int):Pt:=.fin (gint n m)
theorem ptI_fit {n m:Int} (h:n.natAbs<256) (k:m.natAbs<256):FitP (ptI n m):=fit_int h k
theorem rq_lit {r s:RQ} (h1:decide (r.a=s.a)=true) (h2:decide (r.b.re=s.b.re)=true) (h3:decide (r.b.im=s.b.im)=true) (h4:decide (r.c=s.c)=true):r=s:=by
 obtain ⟨a,⟨b,b'⟩,c⟩:=r
 obtain ⟨d,⟨e,e'⟩,f⟩:=s
 obtain rfl:a=d:=of_decide_eq_true h1
 obtain rfl:b=e:=of_decide_eq_true h2
 obtain rfl:b'=e':=of_decide_eq_true h3
 obtain rfl:c=f:=of_decide_eq_true h4
 rfl
abbrev u1:Pt:=ptI 1 0
abbrev u2:Pt:=ptI 0 1
abbrev u3:Pt:=ptI (-1) 0
end Go.Proofs.YtpccljaooghafaaGreat.Y
end
section
namespace Go.Proofs.YtpccljaooghafaaGreat.Y
open Go Go.RowKit
theorem spec_yes {P:Program} (S:Spec P) (ho:S.obs=[]) (hr:S.res=.one (.c (.b (.v (.bool true))))) (w:World):Calls P S.f (S.args.map (SV.den idE)).toArray w fun e w'=>e=.returned (.bool true)∧Below w.heap.size w w':=by
 refine (S.ok idE w (by rw [ho]; intro k t h; simp at h)).mono ?_
 rintro e w' ⟨xs,_,rfl,_,hb⟩
 exact ⟨by rw [hr]; rfl,hb⟩
end Go.Proofs.YtpccljaooghafaaGreat.Y
end
section
namespace Go.Proofs.YtpccljaooghafaaGreat.Y
open Go Go.RowKit
set_option maxRecDepth 100000
def sR4MayG (a:Gn) {r:Bool} (h:a.B=r):Spec Tryz.prog :=
 (sR4May a.gp.a.a a.gp.b.a).as [gnS a] (tB' r) (by
  show [SV.one (.a (a.gp.a.a.C++a.gp.b.a.C))]=[SV.one (.a (rL a.gp.a.r++rL a.gp.b.r))]
  rw [show a.gp.a.a.C=rL a.gp.a.r from a.gp.a.e,show a.gp.b.a.C=rL a.gp.b.r from a.gp.b.e]) (congrArg tB' (a.gpB.trans h))
end Go.Proofs.YtpccljaooghafaaGreat.Y
end
