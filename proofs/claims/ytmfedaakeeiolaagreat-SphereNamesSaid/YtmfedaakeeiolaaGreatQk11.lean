/- MayP, Rs4, Pts, Rs7, EyC, EyD, EyE, EyF, MoA, MoC, EqM, MkA, LsO, L4, CiA, CiB, GsD, GsT, CiC, CiD, CiE, MtB, SpA, MtA, MtE, MtH, SpB, LsQ, MtK, MwB, SpF, SpG, SpH, SpI, EqT, SpK, MpT, MpA, SnL. -/
import Derived.ChangeKeysEq
import Derived.MapKept
import Derived.Test.YtmfedaakeeiolaaGreatQk10
set_option linter.unnecessarySimpa false
set_option linter.unusedVariables false
set_option linter.unusedSimpArgs false
section
namespace Go.Proofs.YtmfedaakeeiolaaGreat
open Go.Proofs.YtmfedaakeeiolaaGreat.Y
open Go Go.RowKit
set_option maxRecDepth 100000
def Fp.mayE:Fp→Ev Tryz.prog
 | .ok x h=>eMayF x h
 | .no b c s t h hs ht=>eMay b c s t hs ht false ⟨fun e=>Bool.noConfusion e,fun e=>absurd e h⟩
def gMayE (a b:Fp):List (Ev Tryz.prog):=match a with
 | .ok ..=>[a.mayE,b.mayE]
 | .no ..=>[a.mayE]
def sGMay (a b:Fp):Y.Spec Tryz.prog :=
 Y.Spec.auto Tryz.call231 [.one (.a (a.C++b.C))] [] (.one (.c (.b (.v (.bool (a.B&&b.B)))))) []
  (gMayE a b) [] 400 Tryz.func231 hmA (by cases a<;>cases b<;>kernel_rfl) (fun β=>by cases a<;>cases b<;>kernel_rfl)
def sInfinity:Y.Spec Tryz.prog :=
 Y.Spec.auto Tryz.call230 [] [] (.one (.a (.b (.v (.bool true))::g0C))) [] [] [] 400 Tryz.func230 hmA (by kernel_rfl) (fun β=>by kernel_rfl)
def Pp.mayE:Pp→List (Ev Tryz.prog)
 | .inf=>[sInfinity.e]
 | .fin a b=>[(sGMay a b).e]
 | .odd x y h=>[sInfinity.e,eqEvP true true x y r40 r40 false (odd_ne h)]
def sPMay (p:Pp):Y.Spec Tryz.prog :=
 Y.Spec.auto Tryz.call106 [.one (.a p.C)] [] (.one (.c (.b (.v (.bool p.B))))) []
  p.mayE [(2,4)] 400 Tryz.func106 hmA (by rcases p with _ | ⟨_ | _,_ | _⟩ | _<;>kernel_rfl) (fun β=>by rcases p with _ | ⟨_ | _,_ | _⟩ | _<;>kernel_rfl)
abbrev svG (z:GQ):SV:=.one (.a (gC z))
def sR4Int (n m:Int) (hn : -9223372036854775808≤n∧n≤9223372036854775807:=by decide) (hm : -9223372036854775808≤m∧m≤9223372036854775807:=by decide):Y.Spec Tryz.prog :=
 Y.Spec.auto Tryz.call50 [.one (.c (.b (.v (.int .i64 n)))),.one (.c (.b (.v (.int .i64 m))))] [] (svG (gint n m)) [] [(sR3Int n hn).e,(sR3Int m hm).e] [] 400 Tryz.func50 hmA (by kernel_rfl) (fun β=>by kernel_rfl)
def Fp.raw:Fp→R4
 | .ok x _=>⟨decide (x.num<0),mag x.num.natAbs,false,mag x.den⟩
 | .no b c s t _ _ _=>⟨b,s,c,t⟩
def Pp.rI:Pp→Bool
 | .fin ..=>false
 | _=>true
def Pp.rX:Pp→R4
 | .inf=>r40
 | .fin a _=>a.raw
 | .odd x _ _=>x
def Pp.rY:Pp→R4
 | .inf=>r40
 | .fin _ b=>b.raw
 | .odd _ y _=>y
def rawC (i:Bool) (x y:R4):List Lf:=.b (.v (.bool i))::(x.L++y.L)
theorem Pp.C_raw (p:Pp):p.C=rawC p.rI p.rX p.rY:=by rcases p with _ | ⟨_ | _,_ | _⟩ | _<;>rfl
def Y.Spec.as {P:Program} (S:Y.Spec P) (args:List SV) (res:SV) (ha:S.args=args) (hr:S.res=res):Y.Spec P :=
 ⟨S.f,S.en,args,S.obs,res,S.news,fun β w hh=>by subst ha; subst hr; exact S.ok β w hh,by subst ha; subst hr; exact S.closed⟩
def fR (x:Rat):R4:=⟨decide (x.num<0),mag x.num.natAbs,false,mag x.den⟩
def Pt.i:Pt→Bool
 | .inf=>true
 | .fin _=>false
def Pt.x:Pt→R4
 | .inf=>r40
 | .fin z=>fR z.re
def Pt.y:Pt→R4
 | .inf=>r40
 | .fin z=>fR z.im
abbrev svR (i:Bool) (x y:R4):SV:=.one (.a (rawC i x y))
abbrev svP (p:Pt):SV:=svR p.i p.x p.y
def FitP:Pt→Prop
 | .inf=>True
 | .fin z=>FitG z
theorem FitP.sz {p:Pt} (h:FitP p):PSz 1024 p:=by
 cases p
 · trivial
 · exact ⟨h.1.sz,h.2.sz⟩
def ppt:(p:Pt)→FitP p→Pp
 | .inf,_=>.inf
 | .fin z,h=>.fin (.ok z.re h.1) (.ok z.im h.2)
structure Rw where
 i:Bool
 x:R4
 y:R4
def Rw.ok (r:Rw):Prop:=(r.x.s.size≤maxLen∧r.x.t.size≤maxLen)∧r.y.s.size≤maxLen∧r.y.t.size≤maxLen
def Pt.w (p:Pt):Rw:=⟨p.i,p.x,p.y⟩
def Pp.w (p:Pp):Rw:=⟨p.rI,p.rX,p.rY⟩
theorem fR_inj {x y:Rat} (h:fR x=fR y):x=y:=by
 injection h with h1 h2 h3 h4
 have hn:x.num.natAbs=y.num.natAbs:=mag_inj h2
 have hd:x.den=y.den:=mag_inj h4
 have hb:(x.num<0)=(y.num<0):=by simpa using h1
 refine Rat.ext ?_ hd
 by_cases h0:x.num<0
 · have:y.num<0:=by rw [← hb]; exact h0
   omega
 · have:¬ y.num<0:=by rw [← hb]; exact h0
   omega
theorem Pt.w_inj {p q:Pt} (h:p.w=q.w):p=q:=by
 cases p<;>cases q
 · rfl
 · injection h with h1; cases h1
 · injection h with h1; cases h1
 · rename_i z w
   injection h with _ h2 h3
   exact congrArg Pt.fin (GQ.ext2 (fR_inj h2) (fR_inj h3))
def rwB (i i':Bool) (x y x' y':R4):Bool:=(i==i')&&((x.eq x'&&(y.eq y'&&true))&&true)
theorem rwB_iff {i i':Bool} {x y x' y':R4}:rwB i i' x y x' y'=true↔i=i'∧x=x'∧y=y':=by
 unfold rwB
 simp only [Bool.and_true,Bool.and_eq_true,R4.eq_iff,beq_iff_eq]
def ptB (p q:Pt):Bool:=rwB p.i q.i p.x p.y q.x q.y
theorem ptB_iff {p q:Pt}:ptB p q=true↔p=q:=by
 unfold ptB
 rw [rwB_iff]
 constructor
 · rintro ⟨h1,h2,h3⟩
   exact Pt.w_inj (by unfold Pt.w; rw [h1,h2,h3])
 · rintro rfl; exact ⟨rfl,rfl,rfl⟩
open Classical in
noncomputable def paI (p:Pt):Bool:=if FitP p then p.i else false
open Classical in
noncomputable def paX (p:Pt):R4:=if FitP p then p.x else r40
open Classical in
noncomputable def paY (p:Pt):R4:=if FitP p then p.y else r40
theorem pa_fit {p:Pt} (h:FitP p):paI p=p.i∧paX p=p.x∧paY p=p.y:=⟨if_pos h,if_pos h,if_pos h⟩
theorem pa_not {p:Pt} (h:¬ FitP p):paI p=false∧paX p=r40∧paY p=r40:=⟨if_neg h,if_neg h,if_neg h⟩
theorem paK_fit {p:Pt} (h:FitP p):paK p=0:=by
 cases p
 · rfl
 · exact (ga_fit h).2
theorem paC_raw (p:Pt):paC p=rawC (paI p) (paX p) (paY p):=by
 by_cases h:FitP p
 · rw [(pa_fit h).1,(pa_fit h).2.1,(pa_fit h).2.2]
   cases p
   · rfl
   · show _::gaC _=_
     rw [(ga_fit h).1]; rfl
 · rw [(pa_not h).1,(pa_not h).2.1,(pa_not h).2.2]
   cases p
   · exact absurd trivial h
   · show _::gaC _=_
     rw [(ga_not h).1]; rfl
structure BSpec (P:Program) where
 f:FuncId
 en:Enters P f
 args:List SV
 cs:List Lf
 t:TypeId
 r:Value
 ok:∀ β w,(Ob.box cs t).holds β w (β 0)→Calls P f (args.map (SV.den β)).toArray w fun e w'=>e=.returned r∧Below w.heap.size w w'
 cl:(cs.all (Lf.of fun _=>false)&&args.all (SV.of fun k=>Nat.beq k 0))=true
 hr:∀ β,(tag r).den β=r
def bkOf:List SV→Nat
 | []=>0
 | .one (.c (.b (.s k _ _ _)))::_=>k
 | _::r=>bkOf r
theorem cells_closed {β β':Env} {cs:List Lf} (h:cs.all (Lf.of fun _=>false)=true):cs.map (Lf.den β)=cs.map (Lf.den β') :=
 List.map_congr_left fun x hx=>Lf.den_congr (q:=fun _=>false) (fun k hk=>by cases hk) x (List.all_eq_true.1 h x hx)
def BSpec.e {P:Program} (S:BSpec P):Ev P:=.dyn (fun o _ _=>isCallB o) fun _ xs ob=>lit (bkOf xs) fun i =>
 .call S.f S.en (fun β=>(S.args.map (SV.den fun _=>β i)).toArray) [(i,.box S.cs S.t)] 0 (tag S.r) [] (fun β w h=>of_pure0 (by
  have hc:=S.cl
  rw [Bool.and_eq_true] at hc
  refine S.ok (fun _=>β i) w ?_
  have h1:(β i).one∧w.heap[(β i).b]?=some (.cells (S.cs.map (Lf.den β)).toArray S.t (0,0)):=h _ (List.mem_singleton.2 rfl)
  show (β i).one∧w.heap[(β i).b]?=some (.cells (S.cs.map (Lf.den fun _=>β i)).toArray S.t (0,0))
  rw [cells_closed (β':=β) hc.1]
  exact h1) S.hr)
theorem bspec_ok {P:Program} {f:FuncId} {fn:Func} {args:List SV} {cs:List Lf} {t:TypeId} {r:Value} (evs:List (Ev P)) (Ns:List (Nat × Nat)) (m:Nat) (hf:P.funcs[f]?=some fn) (hm:P.follows .mixedOrders=true)
  (h:∀ β,(allS P fn args [.box cs t] evs Ns m (tag r) [] β).map Prod.fst=(allS P fn args [.box cs t] evs Ns m (tag r) [] β).map Prod.snd)
  (hB:(args.all (SV.of fun k=>Nat.blt k 1)&&[Ob.box cs t].all fun x=>x.of (fun k=>Nat.blt k 1)&&x.own)=true) (hr:∀ β,(tag r).den β=r) (β:Env) (w:World) (hh:(Ob.box cs t).holds β w (β 0)) :
  Calls P f (args.map (SV.den β)).toArray w fun e w'=>e=.returned r∧Below w.heap.size w w':=by
 rw [Bool.and_eq_true] at hB
 refine (sx (P:=P) args [.box cs t] evs Ns m (tag r) [] hf hm (fun β=>ok_of_maps (h β)) hB.1 hB.2 β w (fun k o ho=>?_)).mono ?_
 · cases k with
   | zero=>simp only [List.getElem?_cons_zero] at ho; obtain rfl:=Option.some.inj ho; exact hh
   | succ k=>simp at ho
 · rintro e w' ⟨β',q,obj,e1,rfl,e2,e4,e5,g⟩
   exact ⟨by rw [hr],g.bel⟩
def Rw.C (r:Rw):List Lf:=rawC r.i r.x r.y
def sR7Inf:Y.Spec Tryz.prog:=Y.Spec.auto Tryz.call104 [] [] (svP .inf) [] [] [] 400 Tryz.func104 hmA (by kernel_rfl) (fun β=>by kernel_rfl)
def sR7Of (z:GQ):Y.Spec Tryz.prog:=Y.Spec.auto Tryz.call222 [svG z] [] (svP (.fin z)) [] [] [] 400 Tryz.func222 hmA (by kernel_rfl) (fun β=>by kernel_rfl)
def sR7Int (n m:Int) (hn : -9223372036854775808≤n∧n≤9223372036854775807:=by decide) (hm : -9223372036854775808≤m∧m≤9223372036854775807:=by decide):Y.Spec Tryz.prog :=
 Y.Spec.auto Tryz.call100 [.one (.c (.b (.v (.int .i64 n)))),.one (.c (.b (.v (.int .i64 m))))] [] (svP (.fin (gint n m))) [] [(sR4Int n m hn hm).e,(sR7Of (gint n m)).e] [] 400 Tryz.func100 hmA (by kernel_rfl) (fun β=>by kernel_rfl)
end Go.Proofs.YtmfedaakeeiolaaGreat
end
section
namespace Go.Proofs.YtmfedaakeeiolaaGreat.Y
open Go Go.RowKit
set_option maxRecDepth 100000
def pI:Pt→Bool
 | .inf=>true
 | .fin _=>false
def pG:Pt→GQ
 | .inf=>g0
 | .fin z=>z
def pL (k:Nat) (p:Pt):List Lf:=[.b (.v (.bool (pI p))),.b (.z k 0),.b (.z (k+1) 0)]
abbrev pV (k:Nat) (p:Pt):SV:=.one (.a (pL k p))
def pM (p:Pt):List Thing:=gM (pG p)
def sBy (p:Pt):Spec Tryz.prog :=
 ⟨292,Tryz.call292,[pV 0 p],pM p,.tup [nA 2,nA 4],gM (byA p)++gM (byB p),fun β w hh=>by
  cases p
  · exact spec_auto (obs:=pM .inf) (evs:=[(sInt 1 0 (by decide) (by decide)).e,(sInt 0 0 (by decide) (by decide)).e]) (Ns:=[(3,3)]) (m:=400) Tryz.func292 hmA (fun β=>by kernel_rfl) (by kernel_rfl) β w hh
  · rename_i z
    exact spec_auto (obs:=pM (.fin z)) (evs:=[(sInt 1 0 (by decide) (by decide)).e]) (Ns:=[(3,3)]) (m:=400) Tryz.func292 hmA (fun β=>by kernel_rfl) (by kernel_rfl) β w hh,by kernel_rfl⟩
def sAcross {p q:Pt} (hp:PSz KE p) (hq:PSz KE q):Spec Tryz.prog :=
 Spec.auto Tryz.call293 [pV 0 p,pV 2 q] (pM p++pM q) (nV 4) (gT (gacross p q))
  [(sBy p).e,(sBy q).e,
 (sMul ((byA_sz hp (by decide)).mono (by decide)) (byB_sz (p:=q) (by decide))).e,(sMul (byB_sz (p:=p) (by decide)) ((byA_sz hq (by decide)).mono (by decide))).e,
 (sSub (((byA_sz hp (by decide)).mul (byB_sz (k:=KE) (p:=q) (by decide))).mono (by decide)) (((byB_sz (k:=KE) (p:=p) (by decide)).mul (byA_sz hq (by decide))).mono (by decide))).e] [(3,7)] 800 Tryz.func293 hmA (by kernel_rfl) (fun β=>by kernel_rfl)
noncomputable def sToldP (p:Pt) (h:PSz KB p):Spec Tryz.prog :=
 ⟨149,Tryz.call149,[pV 0 p],pM p,.tup [.a (lsX (paC p)),.c (.b (.v (.int .i64 (paK p))))],[],fun β w hh=>by
  cases p
  · exact spec_auto (obs:=pM .inf) (evs:=[]) (Ns:=[]) (m:=400) Tryz.func149 hmA (fun β=>by kernel_rfl) (by kernel_rfl) β w hh
  · rename_i z
    exact spec_auto (obs:=pM (.fin z)) (evs:=[(sTold (z:=z) h).e]) (Ns:=[]) (m:=400) Tryz.func149 hmA (fun β=>by kernel_rfl) (by kernel_rfl) β w hh,by cases p<;>kernel_rfl⟩
theorem nilpair {P:Program} {f:FuncId} {args:Array Value} {w:World} {β:Env} {m:Nat} {r r':Env→Value}
  (h:Calls P f args w fun e w'=>∃ xs:List Pl,freshS β w m xs∧e=.returned (r (extE β m xs))∧newHold w' [] xs∧Below w.heap.size w w') (hr:r' (extE β m [nilPl,nilPl])=r (extE β m [])) :
  Calls P f args w fun e w'=>∃ xs:List Pl,freshS β w m xs∧e=.returned (r' (extE β m xs))∧newHold w' (gM g0) xs∧Below w.heap.size w w' :=
 h.mono fun e w' ⟨xs,h1,he,h2,h3⟩=>by
  match xs,h1,he,h2 with
  | [],h1,he,h2 =>
   have hn:OR0 0 w' nilPl:=nil_or (by decide) w'
   refine ⟨[nilPl,nilPl],fun x hx k hk=>?_,by rw [he,hr],⟨hn,hn,trivial⟩,h3⟩
   simp only [List.mem_cons,List.not_mem_nil,or_false] at hx
   rcases hx with rfl | rfl<;>exact hk.elim
def rL (x:R4):List Lf:=[.b (.v (.bool x.b)),.b (.v (.string x.s)),.b (.v (.bool x.c)),.b (.v (.string x.t))]
structure Fr where
 r:R4
 a:Fp
 e:fpC a=rL r
def eqEv (t:TypeId) (xs ys:Array Value) (r:Bool) (hg:Tryz.prog.eqGuardType Tryz.prog.depth t=false) (h:∀ w,(Op.equalIn 10000 t (.agg xs) (.agg ys)).run Tryz.prog w=.ok r w):Ev Tryz.prog :=
 .dyn (fun o _ _=>match o.op with
  | .binOp .eql t' _ _ _=>Nat.beq t' t
  | .binOp .neq t' _ _ _=>Nat.beq t' t
  | _=>false) fun o _ _=>match o.op with
  | .binOp .eql _ a b u=>.gen (o.dst.getD 0) (.binOp .eql t a b u) [.agg xs,.agg ys] (.bool r) (fun ρ o w ho hx=>by
    simp only [Op.operands,List.map_cons,List.map_nil,List.cons.injEq] at hx
    exact exec_eql hg (h w) a b ρ o ho hx.1 hx.2.1)
  | .binOp .neq _ a b u=>.gen (o.dst.getD 0) (.binOp .neq t a b u) [.agg xs,.agg ys] (.bool (!r)) (fun ρ o w ho hx=>by
    simp only [Op.operands,List.map_cons,List.map_nil,List.cons.injEq] at hx
    exact exec_neq hg (h w) a b ρ o ho hx.1 hx.2.1)
  | _=>.eqv 0 undef undef rfl
def eqEvP (i i':Bool) (x y x' y':R4) (r:Bool) (h:((i==i')&&((x.eq x'&&(y.eq y'&&true))&&true))=r):Ev Tryz.prog :=
 eqEv 52 #[.bool i,.bool x.b,.string x.s,.bool x.c,.string x.t,.bool y.b,.string y.s,.bool y.c,.string y.t] #[.bool i',.bool x'.b,.string x'.s,.bool x'.c,.string x'.t,.bool y'.b,.string y'.s,.bool y'.c,.string y'.t] r (by kernel_rfl) (fun w=>by rw [← h]; exact eqP 9995 i i' x y x' y')
def eqEvF (x x':R4) (r:Bool) (h:x.eq x'=r):Ev Tryz.prog :=
 eqEv 25 #[.bool x.b,.string x.s,.bool x.c,.string x.t] #[.bool x'.b,.string x'.s,.bool x'.c,.string x'.t] r (by kernel_rfl) (fun w=>by rw [← h]; exact eqF 9997 ..)
def spI:Pp→Bool
 | .fin ..=>false
 | _=>true
def spT:Pp→List Thing
 | .fin a b=>ofT a b
 | _=>gM g0
def sSpot (p:Pp):Spec Tryz.prog :=
 ⟨146,Tryz.call146,[.one (.a (lsX p.C))],[],.tup [.a [.b (.v (.bool (spI p))),.b (.z 0 0),.b (.z 1 0)],.c (.b (.v (.bool p.B)))],spT p,fun β w hh=>by
  rcases p with _ | ⟨a,b⟩ | ⟨x,y,h⟩
  · exact nilpair (r:=(SV.tup [.a [.b (.v (.bool true)),.b (.v (.pointer none)),.b (.v (.pointer none))],.c (.b (.v (.bool true)))]).den) (r':=(SV.tup [.a [.b (.v (.bool true)),.b (.z 0 0),.b (.z 1 0)],.c (.b (.v (.bool true)))]).den) (spec_auto (args:=[.one (.a (lsX Pp.inf.C))]) (obs:=[]) (res:=.tup [.a [.b (.v (.bool true)),.b (.v (.pointer none)),.b (.v (.pointer none))],.c (.b (.v (.bool true)))]) (news:=[]) (evs:=[]) (Ns:=[(2,2004005)]) (m:=400) Tryz.func146 hmA (fun β=>by kernel_rfl) (by kernel_rfl) β w hh) (by kernel_rfl)
  · cases a with
    | ok x hx=>cases b with
     | ok y hy=>exact spec_auto (obs:=[]) (evs:=[(sOf (.ok x hx) (.ok y hy)).e]) (Ns:=[(2,2004005)]) (m:=400) Tryz.func146 hmA (fun β=>by kernel_rfl) (by kernel_rfl) β w hh
     | no b2 c2 s2 t2 h2 u2 v2=>exact spec_auto (obs:=[]) (evs:=[(sOf (.ok x hx) (.no b2 c2 s2 t2 h2 u2 v2)).e]) (Ns:=[(2,2004005)]) (m:=400) Tryz.func146 hmA (fun β=>by kernel_rfl) (by kernel_rfl) β w hh
    | no b1 c1 s1 t1 h1 u1 v1=>cases b with
     | ok y hy=>exact spec_auto (obs:=[]) (evs:=[(sOf (.no b1 c1 s1 t1 h1 u1 v1) (.ok y hy)).e]) (Ns:=[(2,2004005)]) (m:=400) Tryz.func146 hmA (fun β=>by kernel_rfl) (by kernel_rfl) β w hh
     | no b2 c2 s2 t2 h2 u2 v2=>exact spec_auto (obs:=[]) (evs:=[(sOf (.no b1 c1 s1 t1 h1 u1 v1) (.no b2 c2 s2 t2 h2 u2 v2)).e]) (Ns:=[(2,2004005)]) (m:=400) Tryz.func146 hmA (fun β=>by kernel_rfl) (by kernel_rfl) β w hh
  · exact nilpair (r:=(SV.tup [.a [.b (.v (.bool true)),.b (.v (.pointer none)),.b (.v (.pointer none))],.c (.b (.v (.bool false)))]).den) (r':=(SV.tup [.a [.b (.v (.bool true)),.b (.z 0 0),.b (.z 1 0)],.c (.b (.v (.bool false)))]).den) (spec_auto (args:=[.one (.a (lsX (Pp.odd x y h).C))]) (obs:=[]) (res:=.tup [.a [.b (.v (.bool true)),.b (.v (.pointer none)),.b (.v (.pointer none))],.c (.b (.v (.bool false)))]) (news:=[]) (evs:=[eqEvP true true x y r40 r40 false (odd_ne h)]) (Ns:=[(2,2004005)]) (m:=400) Tryz.func146 hmA (fun β=>by kernel_rfl) (by kernel_rfl) β w hh) (by kernel_rfl),by
  rcases p with _ | ⟨_ | _,_ | _⟩ | _<;>kernel_rfl⟩
def sSpotP (p:Pt) (h:FitP p):Spec Tryz.prog :=
 ⟨146,Tryz.call146,[.one (.a (lsX p.w.C))],[],.tup [.a (pL 0 p),.c (.b (.v (.bool true)))],pM p,fun β w hh=>by
  cases p with
  | inf=>exact (sSpot .inf).ok β w hh
  | fin z =>
   refine ((sSpot (.fin (.ok z.re h.1) (.ok z.im h.2))).ok β w hh).mono fun e w' ⟨xs,h1,he,h2,h3⟩=>⟨xs,h1,he,?_,h3⟩
   have h4:newHold w' [ratT z.re,ratT z.im] xs:=h2
   match xs,h4 with
   | [a,b],h4=>exact ⟨(ratT z.re).imp _ _ h4.1,(ratT z.im).imp _ _ h4.2.1,trivial⟩,by kernel_rfl⟩
def eqEvPt {p q:Pt} {r:Bool} (h:ptB p q=r):Ev Tryz.prog:=eqEvP p.i q.i p.x p.y q.x q.y r h
structure Gp where
 a:Fr
 b:Fr
def Gp.B (g:Gp):Bool:=g.a.a.B&&g.b.a.B
abbrev tB' (t:Bool):SV:=.one (.c (.b (.v (.bool t))))
abbrev nI' (k:Int):SC:=.c (.b (.v (.int .i64 k)))
end Go.Proofs.YtmfedaakeeiolaaGreat.Y
end
section
namespace Go.Proofs.YtmfedaakeeiolaaGreat
open Go.Proofs.YtmfedaakeeiolaaGreat.Y
open Go Go.RowKit
set_option maxRecDepth 100000
abbrev svI (n:Int):SC:=.c (.b (.v (.int .i64 n)))
theorem sz_lit1 {n:Int} (h:n.natAbs<256):Fit (Rat.divInt n 1):=(Sz.small h).fit (by decide)
theorem fit_int {n m:Int} (h:n.natAbs<256) (k:m.natAbs<256):FitG (gint n m):=⟨sz_lit1 h,sz_lit1 k⟩
end Go.Proofs.YtmfedaakeeiolaaGreat
end
section
namespace Go.Proofs.YtmfedaakeeiolaaGreat.Y
open Go Go.RowKit
set_option maxRecDepth 100000
def frX (x:Rat) (h:Fit x):Fr:=⟨fR x,.ok x h,rfl⟩
def gpX (z:GQ) (h:FitG z):Gp:=⟨frX z.re h.1,frX z.im h.2⟩
inductive Gn where
 | ok (z:GQ) (h:FitG z)
 | no (g:Gp) (h:g.B=false)
def Gn.gp:Gn→Gp
 | .ok z h=>gpX z h
 | .no g _=>g
def Gn.x (g:Gn):R4:=g.gp.a.r
def Gn.y (g:Gn):R4:=g.gp.b.r
def Gn.z:Gn→GQ
 | .ok z _=>z
 | .no ..=>g0
theorem said_0 {P:Program} {fn:Func} {m0:Nat} {res res':SV} {β:Env} {w:World} {e:Ending} {w':World} (h:Said P fn m0 res [] β w e w') (hr:∀ β':Env,(∀ k,k<m0→β' k=β k)→res.den β'=res'.den β):∃ xs:List Pl,freshS β w m0 xs∧e=.returned (res'.den (extE β m0 xs))∧newHold w' [] xs∧Below w.heap.size w w':=by
 obtain ⟨β',q,obj,hb,rfl,_,_,_,g⟩:=h
 exact ⟨[],(fun _ h=>by cases h),by rw [hr β' hb,extE_nil],trivial,g.bel⟩
theorem hd_ev' {m0 N B0:Nat} {w0:World} {β0:Env} {Q:Exit→Act→World→Prop} {u:Nat} {sl:List (Nat × SV)} {ob:List Ob} {ev ev':List (Ev Tryz.prog)} {p:Code × List Kf} (h:HdOk Tryz.prog m0 N B0 w0 β0 Q (mkC Tryz.prog N u sl ob ev) p):HdOk Tryz.prog m0 N B0 w0 β0 Q (mkC Tryz.prog N u sl ob ev') p :=
 fun β a w hβ hs=>h β a w hβ (hs.ev ev)
noncomputable abbrev fA (x:Rat):List Lf:=[.b (.v (.bool (ansB x))),.b (.v (.string (ansS x))),.b (.v (.bool false)),.b (.v (.string (ansD x)))]
theorem fA_fit {x:Rat} (h:Fit x):fA x=fC x∧ansK x=0:=by
 unfold fA fC
 rw [(ansF_fit h).1,(ansF_fit h).2.1,(ansF_fit h).2.2.1]
 exact ⟨rfl,(ansF_fit h).2.2.2⟩
abbrev KC:Nat:=1000000
structure RQ where
 a:Rat
 b:GQ
 c:Rat
structure RSz (k:Nat) (r:RQ):Prop where
 a:Sz k r.a
 b:GSz k r.b
 c:Sz k r.c
def rpow (r:RQ):Rat:=gnorm r.b-r.a*r.c
def rbyQ (i j:Bool) (r:RQ):Rat:=bif i then (bif j then r.b.im else r.b.re) else r.a
def rnm (r:RQ) (x:Rat):RQ:=⟨r.a*x⁻¹,gscale r.b x⁻¹,r.c*x⁻¹⟩
def FitC (m:RQ):Prop:=Fit m.a∧FitG m.b∧Fit m.c
section
variable {r:RQ} (h:RSz KC r) {i j:Bool} (hi:decide (r.a=0)=i) (hj:decide (r.b.re=0)=j) (h0:rbyQ i j r≠0)
include h hi hj h0
end
def rby (r:RQ):Rat:=rbyQ (decide (r.a=0)) (decide (r.b.re=0)) r
def rone (r:RQ):RQ:=rnm r (rby r)
inductive Fn where
 | ok (x:Rat) (h:Fit x)
 | no (f:Fr) (h:f.a.B=false)
def Fn.fr:Fn→Fr
 | .ok x h=>frX x h
 | .no f _=>f
def Fn.r (a:Fn):R4:=a.fr.r
def alOf (ob:List Ob) (j:Nat):Nat:=match ob[j]? with
 | some (.al i _)=>i
 | _=>0
def dynRf {P:Program} (f:Nat→Nat→Nat→Nat→Ev P):Ev P:=.dyn (fun o _ _=>isCallB o) fun _ xs ob=>lit ob.length fun n=>lit (ptOf (xs.getD 0 undefS)) fun j=>lit (alOf ob j) fun i=>lit (ptOf (xs.getD 2 undefS)) fun k=>f i j n k
theorem one_at {g:Pl} {b:Nat} (h:g.one) (k:At1 g b):b=g.b:=((k.2 g.b).1 ((h.1 _).2 rfl)).symm
def eRQuo {x y:Rat} (i j n k:Nat) (hx:Sz KB x) (hy:Sz KB y) (h0:y≠0):Ev Tryz.prog:=.refill 178 Tryz.call178 (fun β=>#[.pointer ((β j).v 0),.pointer ((β j).v 0),.pointer ((β k).v 0)]) [(j,(ratT x).ob),(k,(ratT y).ob)] i j 4 n (ratT (x/y))
 (fun β w h hji ho hs=>by
  obtain ⟨a,ha,ka⟩:=needP (x:=x) (k:=j) h (by simp)
  obtain ⟨b,hb,kb⟩:=needP (x:=y) (k:=k) h (by simp)
  have e:=one_at ho (hji▸ha)
  subst e
  simp only [ha.1,hb.1]
  exact fillP ho (rQuo_any hs ka kb (hx.okR2 (by decide)) (hy.okR2 (by decide)) h0))
def rQuo {x y:Rat} (hx:Sz KB x) (hy:Sz KB y) (h0:y≠0):Ev Tryz.prog:=dynRf fun i j n k=>eRQuo i j n k hx hy h0
theorem no_frac:¬ IsFrac (rawV false false ⟨#[]⟩ ⟨#[]⟩):=fun h=>by
 unfold rawV at h
 rw [isFrac_doc] at h
 exact absurd h.2.2.2.1 (by decide)
abbrev KD5:Nat:=5000
theorem sq_sum {x y:Rat} (h:x*x+y*y=0):x=0∧y=0:=by
 have hn:∀ z:Rat,0≤z*z:=fun z=>by
  rcases Rat.le_total (a:=0) (b:=z) with h | h
  · exact Rat.mul_nonneg h h
  · have:=Rat.mul_nonneg (a:=-z) (b:=-z) (by grind) (by grind)
    grind
 have h1:=hn x
 have h2:=hn y
 have e1:x*x=0:=by grind
 have e2:y*y=0:=by grind
 exact ⟨by rcases Rat.mul_eq_zero.1 e1 with h | h<;>exact h,by rcases Rat.mul_eq_zero.1 e2 with h | h<;>exact h⟩
def sR3Small (n m:Int) (hn : -9223372036854775808≤n∧n≤9223372036854775807) (hm : -9223372036854775808≤m∧m≤9223372036854775807) (h0:m≠0) (sn:sz n≤1000000000) (sm:sz m≤1000000000):Spec Tryz.prog :=
 Spec.auto Tryz.call182 [.one (svI n),.one (svI m)] [] (.one (.a (fC (Rat.divInt n m)))) [] [eWOf n hn,eWOf m hm,eFOf sn sm h0] [] 400 Tryz.func182 hmA (by kernel_rfl) (fun β=>by kernel_rfl)
structure MayC (r:RQ):Prop where
 fit:FitC r
 pow:decide ((rpow r).num.sign≤0)=false
 one:rone r=r
theorem div_sz {i j:Nat} {x y:Rat} (hx:Sz i x) (hy:Sz j y) (h0:y≠0):Sz (i+j) (x/y):=by
 rw [Rat.div_def]
 exact hx.mul (hy.inv h0)
theorem n2_sz:Sz 8 (Rat.divInt 2 1):=sz_lit 2 1 (by decide) (by decide) (by decide)
def wgQ (p:Pt):Rat:=gnorm (byA p)+gnorm (byB p)
section
variable {p q:Pt} (hp:PSz 1024 p) (hq:PSz 1024 q)
theorem byA1 {p:Pt} (hp:PSz 1024 p):GSz 1024 (byA p):=byA_sz hp (by decide)
theorem byB1 (p:Pt):GSz 1024 (byB p):=byB_sz (by decide)
include hp in
theorem wg_sz:Sz 10000 (wgQ p):=((byA1 hp).norm.add (byB1 p).norm).mono (by decide)
noncomputable def sWeigh:Spec Tryz.prog :=
 ⟨314,Tryz.call314,[pV 0 p],pM p,rV 2,[ratT (wgQ p)],fun β w hh=>by
  cases p with
  | inf=>exact spec_auto (args:=[pV 0 .inf]) (obs:=pM .inf) (res:=rV 2) (news:=[ratT (wgQ .inf)]) (evs:=[(sBy .inf).e,mkR,(sNorm ((byA1 hp).mono (by decide))).e,(sNorm ((byB1 .inf).mono (by decide))).e,fAdd ((byA1 hp).norm.mono (by decide)) ((byB1 .inf).norm.mono (by decide))]) (Ns:=[(2,7)]) (m:=800) Tryz.func314 hmA (fun β=>by kernel_rfl) (by kernel_rfl) β w hh
  | fin z=>exact spec_auto (args:=[pV 0 (.fin z)]) (obs:=pM (.fin z)) (res:=rV 2) (news:=[ratT (wgQ (.fin z))]) (evs:=[(sBy (.fin z)).e,mkR,(sNorm ((byA1 hp).mono (by decide))).e,(sNorm ((byB1 (.fin z)).mono (by decide))).e,fAdd ((byA1 hp).norm.mono (by decide)) ((byB1 (.fin z)).norm.mono (by decide))]) (Ns:=[(2,7)]) (m:=800) Tryz.func314 hmA (fun β=>by kernel_rfl) (by kernel_rfl) β w hh,by cases p<;>kernel_rfl⟩
abbrev r41:Rat:=Rat.divInt 4 1
theorem r41_sz:Sz 1 r41:=Sz.small (by decide)
include hp hq in
theorem gac_sz:GSz 9000 (gacross p q):=(gacross_sz hp hq (by decide)).mono (by decide)
include hp hq in
theorem gan_sz:Sz 37000 (gnorm (gacross p q)):=(gac_sz hp hq).norm.mono (by decide)
include hp hq in
theorem wgp_sz:Sz 20000 (wgQ p*wgQ q):=((wg_sz hp).mul (wg_sz hq)).mono (by decide)
def chQ (p q:Pt):Rat:=r41*gnorm (gacross p q)/(wgQ p*wgQ q)
theorem gn_nn (z:GQ):0≤gnorm z:=by
 have h:∀ x:Rat,0≤x*x:=fun x=>by
  rcases Rat.le_total (a:=0) (b:=x) with h | h
  · exact Rat.mul_nonneg h h
  · have:=Rat.mul_nonneg (a:=-x) (b:=-x) (by grind) (by grind)
    grind
 have h1:=h z.re
 have h2:=h z.im
 unfold gnorm
 grind
theorem wg_ne (p:Pt):wgQ p≠0:=by
 intro e
 have h1:=gn_nn (byA p)
 have h2:=gn_nn (byB p)
 unfold wgQ at e
 cases p with
 | inf =>
  have e1:gnorm (byA .inf)=1:=of_decide_eq_true (by kernel_rfl:decide (gnorm (byA .inf)=1)=true)
  rw [e1] at e h1
  grind
 | fin z =>
  have e1:gnorm (byB (.fin z))=1:=of_decide_eq_true (by kernel_rfl:decide (gnorm (byB (.fin ⟨0,0⟩))=1)=true)
  rw [e1] at e h2
  grind
theorem wgp_ne (p q:Pt):wgQ p*wgQ q≠0:=fun e=>(Rat.mul_eq_zero.1 e).elim (wg_ne p) (wg_ne q)
noncomputable def spChE:List (Ev Tryz.prog) :=
 [mkR,nNew 4 1 (by decide) (by decide) (by decide),(sAcross (hp.mono (by decide)) (hq.mono (by decide))).e,(sNorm ((gac_sz hp hq).mono (by decide))).e,fMul (r41_sz.mono (by decide)) ((gan_sz hp hq).mono (by decide)),
  mkR,(sWeigh hp).e,(sWeigh hq).e,fMul ((wg_sz hp).mono (by decide)) ((wg_sz hq).mono (by decide)),rQuo ((r41_sz.mul (gan_sz hp hq)).mono (by decide)) ((wgp_sz hp hq).mono (by decide)) (wgp_ne p q)]
noncomputable def sSpChord:Spec Tryz.prog :=
 ⟨228,Tryz.call228,[pV 0 p,pV 2 q],pM p++pM q,rV 4,[ratT (chQ p q)],fun β w hh=>by
  cases p<;>cases q<;>exact spec_auto (args:=[pV 0 _,pV 2 _]) (obs:=pM _++pM _) (res:=rV 4) (news:=[ratT (chQ _ _)]) (evs:=spChE hp hq) (Ns:=[(1,8),(2,8)]) (m:=800) Tryz.func228 hmA (fun β=>by kernel_rfl) (by kernel_rfl) β w hh,by cases p<;>cases q<;>kernel_rfl⟩
end
structure CkNo (l:List Lf):Prop where
 cl:l.all (Lf.of fun _=>false)=true
 prog:∀ (β:Env) (w:World),Calls Tryz.prog 86 (([.one (.a l)]:List SV).map (SV.den β)).toArray w fun e w'=>e=.returned (.int .i64 2)∧Below w.heap.size w w'
 ref:∀ (β:Env) (w:World),Calls Tryz.prog 85 (([.one (.a l)]:List SV).map (SV.den β)).toArray w fun e w'=>e=.returned (.int .i64 2)∧Below w.heap.size w w'
inductive Cp where
 | ok (r:RQ) (h:MayC r)
 | no (a b b' c:R4) (h:CkNo (rL a++(rL b++rL b')++rL c))
def Cp.b:Cp→R4
 | .ok r _=>fR r.b.re
 | .no _ b _ _ _=>b
def Cp.c:Cp→R4
 | .ok r _=>fR r.c
 | .no _ _ _ c _=>c
abbrev fvV (f:Nat):SV:=.one (.c (.f (.func f) [] []))
abbrev PTT:TypeId:=52
abbrev pw (p:Pt):List Lf:=rawC p.i p.x p.y
abbrev pwS (p:Pp):SV:=.one (.a (lsX p.w.C))
section
variable {p q:Pt} (hp:FitP p) (hq:FitP q)
include hp hq in
theorem chQ_sz:Sz 60000 (chQ p q):=(div_sz (r41_sz.mul (gan_sz hp.sz hq.sz)) (wgp_sz hp.sz hq.sz) (wgp_ne p q)).mono (by decide)
noncomputable def sSChord:Spec Tryz.prog :=
 ⟨234,Tryz.call234,[svP p,svP q],[],.tup [.a (fA (chQ p q)),nI' (ansK (chQ p q))],[],fun β w hh=>by
  cases p<;>cases q<;>exact spec_auto (args:=[svP _,svP _]) (obs:=[]) (evs:=[(sSpotP _ hp).e,(sSpotP _ hq).e,(sSpChord hp.sz hq.sz).e,(sFrac ((chQ_sz hp hq).mono (by decide))).e]) (Ns:=[]) (m:=800) Tryz.func234 hmA (fun β=>by kernel_rfl) (by kernel_rfl) β w hh,by cases p<;>cases q<;>kernel_rfl⟩
end
noncomputable def sChkW (p:Pp) {b:Bool} (hb:p.B=b):Spec Tryz.prog :=
 ⟨310,Tryz.call310,[pwS p],[],.one (.c (.b (.v (.bool (!b))))),[],fun β w hh=>by
  have h:(sPMay p).args=[pwS p]:=congrArg (fun l=>[SV.one (.a l)]) p.C_raw
  subst hb
  cases e:p.B with
  | false=>exact spec_auto (args:=[pwS p]) (obs:=[]) (evs:=[((sPMay p).as [pwS p] (.one (.c (.b (.v (.bool false))))) h (by rw [← e]; rfl)).e]) (Ns:=[]) (m:=400) Tryz.func310 hmA (fun β=>by kernel_rfl) (by kernel_rfl) β w hh
  | true=>exact spec_auto (args:=[pwS p]) (obs:=[]) (evs:=[((sPMay p).as [pwS p] (.one (.c (.b (.v (.bool true))))) h (by rw [← e]; rfl)).e]) (Ns:=[]) (m:=400) Tryz.func310 hmA (fun β=>by kernel_rfl) (by kernel_rfl) β w hh,by kernel_rfl⟩
abbrev ck2F:SV:=fvV 310
abbrev TPs:TypeId:=61
theorem tps_u:Tryz.prog.underlying TPs=some (.slice (Tryz.prog.elem TPs)):=by kernel_rfl
theorem tps_s:(Tryz.prog.info? (Tryz.prog.elem TPs)).map (·.size)=some 9:=by kernel_rfl
theorem tpt_d:((Tryz.prog.underlying PTT).map fun d=>d.isRow)=some true:=by kernel_rfl
noncomputable def tptD:TypeDesc:=(Tryz.prog.underlying PTT).getD (.slice 0)
theorem tptD_u:Tryz.prog.underlying PTT=some tptD∧tptD.isRow=true:=by
 have h:=tpt_d
 unfold tptD
 cases h2:Tryz.prog.underlying PTT with
 | none=>rw [h2] at h; cases h
 | some d =>
  rw [h2] at h
  exact ⟨rfl,Option.some.inj h⟩
abbrev lsP (P:Nat→Pp) (j:Nat):List Lf:=lsX (P j).w.C
abbrev lpT (N:Nat) (P:Nat→Pp):Thing:=rwT 9 N (lsP P)
noncomputable def pLd {N j:Nat} (P:Nat→Pp) (hj:j<N):Ev Tryz.prog:=eLd tptD_u.1 tptD_u.2 9 (L:=lsP P) (by kernel_rfl) (fun β=>rfl) hj
noncomputable def pIx0 {n N j:Nat} (P:Nat→Pp) (hj:j<n) (hN:n≤N):Ev Tryz.prog:=eIx tps_u tps_s (lsP P) hj hN
noncomputable def pIx1 {n N j:Nat} (P:Nat→Pp) (hj:j<n) (hN:n<N):Ev Tryz.prog:=eIx1 tps_u tps_s (lsP P) hj hN
theorem lpSome:(Tryz.prog.info? 52).isSome=true:=by kernel_rfl
noncomputable def lpApp:AppT Tryz.prog :=
 ⟨TPs,PTT,(Tryz.prog.info? 52).get lpSome,.agg #[.bool false,.bool false,.string ⟨#[]⟩,.bool false,.string ⟨#[]⟩,.bool false,.string ⟨#[]⟩,.bool false,.string ⟨#[]⟩],9,104,Tryz.underlying61,(Option.some_get lpSome).symm,by kernel_rfl,by kernel_rfl,by kernel_rfl,rfl,by decide,by decide⟩
theorem lp_one (r:Rw):∀ u∈(lsX r.C).map (Lf.den idE),u.oneCell'=true:=fun u hu=>by
 have e:(lsX r.C).map (Lf.den idE)=[.bool r.i,.bool r.x.b,.string r.x.s,.bool r.x.c,.string r.x.t,.bool r.y.b,.string r.y.s,.bool r.y.c,.string r.y.t]:=rfl
 rw [e] at hu
 simp only [List.mem_cons,List.not_mem_nil,or_false] at hu
 rcases hu with rfl | rfl | rfl | rfl | rfl | rfl | rfl | rfl | rfl<;>rfl
noncomputable abbrev ixF:Func:=Tryz.f291
abbrev lpS0 (n:Nat):SV:=.one (.c (.b (.y 0 0 n)))
abbrev ixA0 (n:Nat):List SV:=[lpS0 n,ck2F]
section
variable (n N:Nat) (P:Nat→Pp)
noncomputable abbrev ixN0:Nat:=sizeS ixF (ixA0 n)
abbrev ixSl0 (j:Nat):List (Nat × SV):=[(0,lpS0 n),(1,ck2F),(7,.one (nI' (n:Int))),(8,.one (nI' (j:Int)))]
noncomputable abbrev ixC0 (j:Nat) (ev:List (Ev Tryz.prog)):Cf Tryz.prog:=mkC Tryz.prog (ixN0 n) 1 (ixSl0 n j) [(lpT N P).ob,.dead] ev
abbrev ixH0 (r:Int) (β0:Env) (w:World) (C:Cf Tryz.prog):Prop:=HdOk Tryz.prog 1 (ixN0 n) w.heap.size w β0 (bodyPost Tryz.prog ixF (Said Tryz.prog ixF 1 (.one (nI' r)) [] β0 w)) C (lpAt ixF 0)
variable (β0:Env) (w:World) {j:Nat} (hN:n≤N)
noncomputable def ixE0 (hj:j<n):List (Ev Tryz.prog):=[.eqv 9 (.bool (decide ((j:Int)<(n:Int)))) (.bool true) (by rw [decide_eq_true (by omega)]),pIx0 P hj hN,pLd P (j:=j) (N:=N) (by omega)]
theorem ix_step0 (r:Int) (hj:j<n) (h:(P (j)).B=true) {j2:Int} (hj2:IntKind.i64.wrap ((j:Int)+1)=j2) (e2:j2=((j+1:Nat):Int)) (k:ixH0 n r β0 w (ixC0 n N P (j+1) [])):ixH0 n r β0 w (ixC0 n N P j (ixE0 n N P hN hj++[(sChkW (P (j)) h).e,.eqv 18 (.int .i64 (IntKind.i64.wrap ((j:Int)+1))) (.int .i64 ((j+1:Nat):Int)) (by rw [hj2,e2]),.cut])) :=
 piece_ok (Ns:=[]) (m:=400) [] [0,0] hmA (by kernel_rfl) (fun β=>ok_of_maps (by kernel_rfl)) k
theorem ix_no0 (hj:j<n) (h:(P (j)).B=false):ixH0 n (j:Int) β0 w (ixC0 n N P j (ixE0 n N P hN hj++[(sChkW (P (j)) h).e])) :=
 last_ok (Ns:=[]) (m:=400) hmA (fun β=>ok_of_maps (by kernel_rfl))
theorem ix_end0:ixH0 n (-1) β0 w (ixC0 n N P n [.eqv 9 (.bool (decide ((n:Int)<(n:Int)))) (.bool false) (by rw [decide_eq_false (by omega)])]) :=
 last_ok (Ns:=[]) (m:=400) hmA (fun β=>ok_of_maps (by kernel_rfl))
include hN in
theorem ix_loop0 (hn:n≤1048576) (h:∀ i,i<n→(P (i)).B=true):∀ (d j:Nat),j+d=n→ixH0 n (-1) β0 w (ixC0 n N P j [])
 | 0,j,e=>by
  obtain rfl:j=n:=by omega
  exact hd_ev' (ix_end0 j N P β0 w)
 | d+1,j,e=>hd_ev' (ix_step0 n N P β0 w hN _ (by omega) (h j (by omega)) (j2:=((j+1:Nat):Int)) (by rw [IntKind.wrap_i64]; omega) rfl (ix_loop0 hn h d (j+1) (by omega)))
include hN in
theorem ix_loopN0 (hn:n≤1048576) {i:Nat} (hi:i<n) (h:(P (i)).B=false) (h2:∀ k,k<i→(P (k)).B=true):∀ (d j:Nat),j+d=i→ixH0 n (i:Int) β0 w (ixC0 n N P j [])
 | 0,j,e=>by
  obtain rfl:j=i:=by omega
  exact hd_ev' (ix_no0 n N P β0 w hN hi h)
 | d+1,j,e=>hd_ev' (ix_step0 n N P β0 w hN _ (by omega) (h2 j (by omega)) (j2:=((j+1:Nat):Int)) (by rw [IntKind.wrap_i64]; omega) rfl (ix_loopN0 hn hi h h2 d (j+1) (by omega)))
theorem ix_start0 (r:Int) (hh:(lpT N P).D w (β0 0)) (h:ixH0 n r β0 w (ixC0 n N P 0 [])):Calls Tryz.prog 291 ((ixA0 n).map (SV.den β0)).toArray w (Said Tryz.prog ixF 1 (.one (nI' r)) [] β0 w) :=
 sx_cut (P:=Tryz.prog) (ixA0 n) [(lpT N P).ob] [.cut] [] [] 400 (.one (nI' r)) [] Tryz.func291 hmA (u:=1) (sl:=ixSl0 n 0) (ob:=[(lpT N P).ob,.dead]) (σ:=[0,0]) (p':=lpAt ixF 0) (by kernel_rfl) (fun β=>ok_of_maps (by kernel_rfl)) (by kernel_rfl) (by kernel_rfl) β0 w (fun i o ho=>by
  cases i with
  | zero=>simp only [List.getElem?_cons_zero] at ho; obtain rfl:=Option.some.inj ho; exact hh
  | succ i=>simp at ho) h
end
noncomputable def lpIx0 {n N:Nat} (P:Nat→Pp) (hN:n≤N) (hn:n≤1048576) (h:∀ i,i<n→(P (i)).B=true):Spec Tryz.prog :=
 ⟨291,Tryz.call291,ixA0 n,[lpT N P],.one (nI' (-1)),[],fun β w hh=>(ix_start0 n N P β w _ (hh 0 _ rfl) (ix_loop0 n N P β w hN hn h n 0 (by omega))).mono fun e w' h=>said_0 h fun β' _=>rfl,by kernel_rfl⟩
noncomputable def lpIxNo0 {n N:Nat} (P:Nat→Pp) (hN:n≤N) (hn:n≤1048576) {i:Nat} (hi:i<n) (h:(P (i)).B=false) (h2:∀ k,k<i→(P (k)).B=true):Spec Tryz.prog :=
 ⟨291,Tryz.call291,ixA0 n,[lpT N P],.one (nI' (i:Int)),[],fun β w hh=>(ix_start0 n N P β w _ (hh 0 _ rfl) (ix_loopN0 n N P β w hN hn hi h h2 i 0 (by omega))).mono fun e w' h=>said_0 h fun β' _=>rfl,by kernel_rfl⟩
noncomputable def lpHas0 {n N:Nat} (P:Nat→Pp) (hN:n≤N) (hn:n≤1048576) (h:∀ i,i<n→(P (i)).B=true):Spec Tryz.prog :=
 Spec.auto Tryz.call188 (ixA0 n) [lpT N P] (tB' false) [] [(lpIx0 P hN hn h).e] [] 400 Tryz.func188 hmA (by kernel_rfl) (fun β=>by kernel_rfl)
noncomputable def lpHasNo0 {n N:Nat} (P:Nat→Pp) (hN:n≤N) (hn:n≤1048576) {i:Nat} (hi:i<n) (h:(P (i)).B=false) (h2:∀ k,k<i→(P (k)).B=true):Spec Tryz.prog :=
 Spec.auto Tryz.call188 (ixA0 n) [lpT N P] (tB' true) [] [(lpIxNo0 P hN hn hi h h2).e,.eqv 8 (.bool (decide ((0:Int)≤(i:Int)))) (.bool true) (by rw [decide_eq_true (by omega)])] [] 400 Tryz.func188 hmA (by kernel_rfl) (fun β=>by kernel_rfl)
noncomputable def lpCkLong0 {n N:Nat} (P:Nat→Pp) (hN:n≤N) (hn:n≤1048576) (h3:4096<n) (h:∀ i,i<n→(P (i)).B=true):Spec Tryz.prog :=
 Spec.auto Tryz.call223 [lpS0 n] [lpT N P] (.one (nI' 3)) [] [(lpHas0 P hN hn h).e,.eqv 9 (.bool (decide ((4096:Int)<(n:Int)))) (.bool true) (by rw [decide_eq_true (by omega)])] [] 400 Tryz.func223 hmA (by kernel_rfl) (fun β=>by kernel_rfl)
noncomputable def lpCkNo0 {n N:Nat} (P:Nat→Pp) (hN:n≤N) (hn:n≤1048576) {i:Nat} (hi:i<n) (h:(P (i)).B=false) (h2:∀ k,k<i→(P (k)).B=true):Spec Tryz.prog :=
 Spec.auto Tryz.call223 [lpS0 n] [lpT N P] (.one (nI' 2)) [] [(lpHasNo0 P hN hn hi h h2).e] [] 400 Tryz.func223 hmA (by kernel_rfl) (fun β=>by kernel_rfl)
abbrev lpS1 (n:Nat):SV:=.one (.c (.b (.y 0 9 n)))
abbrev ixA1 (n:Nat):List SV:=[lpS1 n,ck2F]
section
variable (n N:Nat) (P:Nat→Pp)
noncomputable abbrev ixN1:Nat:=sizeS ixF (ixA1 n)
abbrev ixSl1 (j:Nat):List (Nat × SV):=[(0,lpS1 n),(1,ck2F),(7,.one (nI' (n:Int))),(8,.one (nI' (j:Int)))]
noncomputable abbrev ixC1 (j:Nat) (ev:List (Ev Tryz.prog)):Cf Tryz.prog:=mkC Tryz.prog (ixN1 n) 1 (ixSl1 n j) [(lpT N P).ob,.dead] ev
abbrev ixH1 (r:Int) (β0:Env) (w:World) (C:Cf Tryz.prog):Prop:=HdOk Tryz.prog 1 (ixN1 n) w.heap.size w β0 (bodyPost Tryz.prog ixF (Said Tryz.prog ixF 1 (.one (nI' r)) [] β0 w)) C (lpAt ixF 0)
variable (β0:Env) (w:World) {j:Nat} (hN:n<N)
noncomputable def ixE1 (hj:j<n):List (Ev Tryz.prog):=[.eqv 9 (.bool (decide ((j:Int)<(n:Int)))) (.bool true) (by rw [decide_eq_true (by omega)]),pIx1 P hj hN,pLd P (j:=j+1) (N:=N) (by omega)]
theorem ix_step1 (r:Int) (hj:j<n) (h:(P (j+1)).B=true) {j2:Int} (hj2:IntKind.i64.wrap ((j:Int)+1)=j2) (e2:j2=((j+1:Nat):Int)) (k:ixH1 n r β0 w (ixC1 n N P (j+1) [])):ixH1 n r β0 w (ixC1 n N P j (ixE1 n N P hN hj++[(sChkW (P (j+1)) h).e,.eqv 18 (.int .i64 (IntKind.i64.wrap ((j:Int)+1))) (.int .i64 ((j+1:Nat):Int)) (by rw [hj2,e2]),.cut])) :=
 piece_ok (Ns:=[]) (m:=400) [] [0,0] hmA (by kernel_rfl) (fun β=>ok_of_maps (by kernel_rfl)) k
theorem ix_end1:ixH1 n (-1) β0 w (ixC1 n N P n [.eqv 9 (.bool (decide ((n:Int)<(n:Int)))) (.bool false) (by rw [decide_eq_false (by omega)])]) :=
 last_ok (Ns:=[]) (m:=400) hmA (fun β=>ok_of_maps (by kernel_rfl))
include hN in
theorem ix_loop1 (hn:n≤1048576) (h:∀ i,i<n→(P (i+1)).B=true):∀ (d j:Nat),j+d=n→ixH1 n (-1) β0 w (ixC1 n N P j [])
 | 0,j,e=>by
  obtain rfl:j=n:=by omega
  exact hd_ev' (ix_end1 j N P β0 w)
 | d+1,j,e=>hd_ev' (ix_step1 n N P β0 w hN _ (by omega) (h j (by omega)) (j2:=((j+1:Nat):Int)) (by rw [IntKind.wrap_i64]; omega) rfl (ix_loop1 hn h d (j+1) (by omega)))
theorem ix_start1 (r:Int) (hh:(lpT N P).D w (β0 0)) (h:ixH1 n r β0 w (ixC1 n N P 0 [])):Calls Tryz.prog 291 ((ixA1 n).map (SV.den β0)).toArray w (Said Tryz.prog ixF 1 (.one (nI' r)) [] β0 w) :=
 sx_cut (P:=Tryz.prog) (ixA1 n) [(lpT N P).ob] [.cut] [] [] 400 (.one (nI' r)) [] Tryz.func291 hmA (u:=1) (sl:=ixSl1 n 0) (ob:=[(lpT N P).ob,.dead]) (σ:=[0,0]) (p':=lpAt ixF 0) (by kernel_rfl) (fun β=>ok_of_maps (by kernel_rfl)) (by kernel_rfl) (by kernel_rfl) β0 w (fun i o ho=>by
  cases i with
  | zero=>simp only [List.getElem?_cons_zero] at ho; obtain rfl:=Option.some.inj ho; exact hh
  | succ i=>simp at ho) h
end
noncomputable def lpIx1 {n N:Nat} (P:Nat→Pp) (hN:n<N) (hn:n≤1048576) (h:∀ i,i<n→(P (i+1)).B=true):Spec Tryz.prog :=
 ⟨291,Tryz.call291,ixA1 n,[lpT N P],.one (nI' (-1)),[],fun β w hh=>(ix_start1 n N P β w _ (hh 0 _ rfl) (ix_loop1 n N P β w hN hn h n 0 (by omega))).mono fun e w' h=>said_0 h fun β' _=>rfl,by kernel_rfl⟩
noncomputable def lpHas1 {n N:Nat} (P:Nat→Pp) (hN:n<N) (hn:n≤1048576) (h:∀ i,i<n→(P (i+1)).B=true):Spec Tryz.prog :=
 Spec.auto Tryz.call188 (ixA1 n) [lpT N P] (tB' false) [] [(lpIx1 P hN hn h).e] [] 400 Tryz.func188 hmA (by kernel_rfl) (fun β=>by kernel_rfl)
noncomputable def lpCk1 {n N:Nat} (P:Nat→Pp) (hN:n<N) (hn:n≤4096) (h:∀ i,i<n→(P (i+1)).B=true):Spec Tryz.prog :=
 Spec.auto Tryz.call223 [lpS1 n] [lpT N P] (.one (nI' 0)) [] [(lpHas1 P hN (Nat.le_trans hn (by decide)) h).e,.eqv 9 (.bool (decide ((4096:Int)<(n:Int)))) (.bool false) (by rw [decide_eq_false (by omega)])] [] 400 Tryz.func223 hmA (by kernel_rfl) (fun β=>by kernel_rfl)
theorem pa_eq {p:Pt} (h:FitP p):SV.tup [.a (lsX (paC p)),.c (.b (.v (.int .i64 (paK p))))]=.tup [.a (pw p),nI' 0]:=by
 rw [paC_raw,(pa_fit h).1,(pa_fit h).2.1,(pa_fit h).2.2,paK_fit h]
theorem gn_ne {w:GQ} (h:gzero w=false):gnorm w≠0:=by
 intro e
 have:=sq_sum (x:=w.re) (y:=w.im) e
 rw [gzero_iff.2 this] at h
 cases h
def sInv1 (x y:GQ):Spec Tryz.prog :=
 Spec.auto Tryz.call317 [nV 0,nV 2] (gM x++gM y) (.tup [nA 2,nA 0]) [] [] [(1,7002003)] 400 Tryz.func317 hmA (by kernel_rfl) (fun β=>by kernel_rfl)
def sAcr1S (x y:GQ):Spec Tryz.prog :=
 Spec.auto Tryz.call318 [nV 0,nV 2] (gM x++gM y) (.tup [nA 4,nA 6]) (gT (gneg y)++gT (gconj x)) [(sNeg y).e,(sConj x).e] [(1,4)] 400 Tryz.func318 hmA (by kernel_rfl) (fun β=>by kernel_rfl)
abbrev infA:SV:=.tup [.a (.b (.v (.bool true))::g0C),nI' 0]
section
variable {p:Pt} (hp:FitP p)
noncomputable def mvI0 (h0:gzero (byA p)=true):List (Ev Tryz.prog):=[(sSpotP p hp).e,(sBy p).e,(sInv1 (byA p) (byB p)).e,(sZero h0).e,sInfinity.e]
noncomputable def sMovInv0 (h0:gzero (byA p)=true):Spec Tryz.prog :=
 ⟨316,Tryz.call316,[svP p,fvV 317],[],infA,[],fun β w hh=>by
  cases p<;>exact spec_auto (args:=[svP _,fvV 317]) (obs:=[]) (evs:=mvI0 hp h0) (Ns:=[]) (m:=800) Tryz.func316 hmA (fun β=>by kernel_rfl) (by kernel_rfl) β w hh,by cases p<;>kernel_rfl⟩
end
section
variable {p:Pt} (hp:FitP p)
include hp in
theorem gdAcross_sz (h0:gzero (gconj (byA p))=false):GSz 10000 (gdiv (gneg (byB p)) (gconj (byA p))):=((((byB1 p).neg).mul (GSz.conj ((byA1 hp.sz).conj))).scale ((GSz.norm ((byA1 hp.sz).conj)).inv (gn_ne h0))).mono (by decide)
noncomputable def mvAcross1 (h0:gzero (gconj (byA p))=false):List (Ev Tryz.prog):=[(sSpotP p hp).e,(sBy p).e,(sAcr1S (byA p) (byB p)).e,(sZero h0).e,(sDiv (((byB1 p).neg).mono (by decide)) (((byA1 hp.sz).conj).mono (by decide)) h0).e,(sToldP (.fin (gdiv (gneg (byB p)) (gconj (byA p)))) ((gdAcross_sz hp h0).mono (by decide))).e]
noncomputable def sMovAcross (h0:gzero (gconj (byA p))=false):Spec Tryz.prog :=
 ⟨316,Tryz.call316,[svP p,fvV 318],[],.tup [.a (lsX (paC (.fin (gdiv (gneg (byB p)) (gconj (byA p)))))),.c (.b (.v (.int .i64 (paK (.fin (gdiv (gneg (byB p)) (gconj (byA p))))))))],[],fun β w hh=>by
  cases p<;>exact spec_auto (args:=[svP _,fvV 318]) (obs:=[]) (evs:=mvAcross1 hp h0) (Ns:=[]) (m:=800) Tryz.func316 hmA (fun β=>by kernel_rfl) (by kernel_rfl) β w hh,by cases p<;>kernel_rfl⟩
end
section
variable {p:Pt} (hp:FitP p)
noncomputable def sSInverse0 (h0:gzero (byA p)=true):Spec Tryz.prog :=
 Spec.auto Tryz.call232 [svP p] [] infA [] [(sMovInv0 hp h0).e] [] 400 Tryz.func232 hmA (by kernel_rfl) (fun β=>by kernel_rfl)
noncomputable def sSAcross (h0:gzero (gconj (byA p))=false):Spec Tryz.prog :=
 Spec.auto Tryz.call233 [svP p] [] (.tup [.a (lsX (paC (.fin (gdiv (gneg (byB p)) (gconj (byA p)))))),.c (.b (.v (.int .i64 (paK (.fin (gdiv (gneg (byB p)) (gconj (byA p))))))))]) [] [(sMovAcross hp h0).e] [] 400 Tryz.func233 hmA (by kernel_rfl) (fun β=>by kernel_rfl)
end
abbrev lfM (p:Pt):GQ:=gmul (byA p) (gconj (byB p))
abbrev lf2:Rat:=Rat.divInt 2 1
def lf1Q (p:Pt):Rat:=(lfM p).re*lf2/wgQ p
def lf2Q (p:Pt):Rat:=(lfM p).im*lf2/wgQ p
def lf3Q (p:Pt):Rat:=(gnorm (byA p)-gnorm (byB p))/wgQ p
theorem lf_lit {x:Rat} (h:Fit x):SV.tup [.a (fA x),nI' (ansK x)]=.tup [.a (fC x),nI' 0]:=by rw [(fA_fit h).1,(fA_fit h).2]
section
variable {p:Pt} (hp:FitP p)
include hp in
theorem lfM_sz:GSz 5000 (lfM p):=((byA1 hp.sz).mul (byB1 p).conj).mono (by decide)
include hp in
theorem lfN_sz:Sz 9000 (gnorm (byA p)-gnorm (byB p)):=((byA1 hp.sz).norm.sub (byB1 p).norm).mono (by decide)
noncomputable def lfF {x:Rat} {k:Nat} (hx:Sz k x) (hk:k≤10000) (hq:Fit (x/wgQ p)):List (Ev Tryz.prog) :=
 [(sWeigh hp.sz).e,rQuo (hx.mono (Nat.le_trans hk (by decide))) ((wg_sz hp.sz).mono (by decide)) (wg_ne p),((sFrac (x:=x/wgQ p) ((div_sz hx (wg_sz hp.sz) (wg_ne p)).mono (Nat.le_trans (Nat.add_le_add_right hk _) (by decide)))).conv (.tup [.a (fC (x/wgQ p)),nI' 0]) (lf_lit hq)).e]
noncomputable def lfE (h1:Fit (lf1Q p)) (h2:Fit (lf2Q p)) (h3:Fit (lf3Q p)):List (Ev Tryz.prog) :=
 [(sSpotP p hp).e,(sBy p).e,(sConj (byB p)).e,(sMul ((byA1 hp.sz).mono (by decide)) ((byB1 p).conj.mono (by decide))).e,(sParts (lfM p)).e,mkR,(sNorm ((byA1 hp.sz).mono (by decide))).e,(sNorm ((byB1 p).mono (by decide))).e,fSub ((byA1 hp.sz).norm.mono (by decide)) ((byB1 p).norm.mono (by decide)),
  nNew 2 1 (by decide) (by decide) (by decide),mkR,fMul ((lfM_sz hp).1.mono (by decide)) (n2_sz.mono (by decide)),mkR,fMul ((lfM_sz hp).2.mono (by decide)) (n2_sz.mono (by decide))] ++
  lfF hp (((lfM_sz hp).1.mul n2_sz)) (by decide) h1++lfF hp (((lfM_sz hp).2.mul n2_sz)) (by decide) h2++lfF hp (lfN_sz hp) (by decide) h3
noncomputable def sSLift (h1:Fit (lf1Q p)) (h2:Fit (lf2Q p)) (h3:Fit (lf3Q p)):Spec Tryz.prog :=
 ⟨235,Tryz.call235,[svP p],[],.tup [.a (fC (lf1Q p)++fC (lf2Q p)++fC (lf3Q p)),nI' 0],[],fun β w hh=>by
  cases p<;>exact spec_auto (args:=[svP _]) (obs:=[]) (evs:=lfE hp h1 h2 h3) (Ns:=[(5,10),(6,7)]) (m:=1200) Tryz.func235 hmA (fun β=>by kernel_rfl) (by kernel_rfl) β w hh,by cases p<;>kernel_rfl⟩
end
end Go.Proofs.YtmfedaakeeiolaaGreat.Y
end
section
namespace Go.Proofs.YtmfedaakeeiolaaGreat
open Go.Proofs.YtmfedaakeeiolaaGreat.Y
open Go Go.RowKit
set_option maxRecDepth 100000
theorem run_eqI_cons {P:Program} {w:World} {d:Nat} {e:TypeId} {c:Nat} {xs ys:Array Value} {i:Nat} {is:List Nat} {a b:Value} {r s:Bool} (ha:(part e xs (i*c)).run P w=.ok a w) (hb:(part e ys (i*c)).run P w=.ok b w)
  (hr:(Op.equalIn d e a b).run P w=.ok r w) (hs:(Op.eqItems d e c xs ys is).run P w=.ok s w):(Op.eqItems d e c xs ys (i::is)).run P w=.ok (r&&s) w:=by
 unfold Op.eqItems
 simp only [Sem.run_bind,ha,hb,hr,Result.andThen_ok]
 cases r
 · rfl
 · simpa using hs
abbrev fr3A (x y z:R4):Array Value:=#[.bool x.b,.string x.s,.bool x.c,.string x.t,.bool y.b,.string y.s,.bool y.c,.string y.t,.bool z.b,.string z.s,.bool z.c,.string z.t]
abbrev fr1A (x:R4):Value:=.agg #[.bool x.b,.string x.s,.bool x.c,.string x.t]
theorem eqF3 {w:World} (d:Nat) (x y z x' y' z':R4):(Op.equalIn (d+4) 268 (.agg (fr3A x y z)) (.agg (fr3A x' y' z'))).run Tryz.prog w=.ok (x.eq x'&&(y.eq y'&&(z.eq z'&&true))) w:=by
 obtain ⟨i,hi⟩:∃ i,Tryz.prog.info? 25=some i:=Option.isSome_iff_exists.1 (by kernel_rfl)
 rw [run_equalIn_array (P:=Tryz.prog) (w:=w) (d:=d+3) (n:=3) (xs:=fr3A x y z) (ys:=fr3A x' y' z') (hu:=by kernel_rfl) (hi:=hi),show List.range 3=[0,1,2] from rfl]
 refine run_eqI_cons (a:=fr1A x) (b:=fr1A x') (by kernel_rfl) (by kernel_rfl) (eqF d _ _ _ _ _ _ _ _) ?_
 refine run_eqI_cons (a:=fr1A y) (b:=fr1A y') (by kernel_rfl) (by kernel_rfl) (eqF d _ _ _ _ _ _ _ _) ?_
 refine run_eqI_cons (a:=fr1A z) (b:=fr1A z') (by kernel_rfl) (by kernel_rfl) (eqF d _ _ _ _ _ _ _ _) ?_
 rfl
def eqEvF3 (x y z x' y' z':R4) (r:Bool) (h:(x.eq x'&&(y.eq y'&&(z.eq z'&&true)))=r):Ev Tryz.prog :=
 eqEv 268 (fr3A x y z) (fr3A x' y' z') r (by kernel_rfl) (fun w=>by rw [← h]; exact eqF3 9996 ..)
end Go.Proofs.YtmfedaakeeiolaaGreat
end
section
namespace Go.Proofs.YtmfedaakeeiolaaGreat.Y
open Go Go.RowKit
set_option maxRecDepth 100000
abbrev kq (n m:Int):Pt:=.fin (gint n m)
theorem kq_fit {n m:Int} (h:n.natAbs<256) (k:m.natAbs<256):FitP (kq n m):=fit_int h k
abbrev al3A:List SV:=[.one (.c (.b (.s 0 0 3 3)))]
abbrev al3L:List Lf:=pw (kq 1 0)++pw (kq 2 0)++pw (kq 1 0)
def AlikeT:Prop:=∀ (β:Env) (w:World),(Ob.box al3L PTT).holds β w (β 0)→Calls Tryz.prog 101 (al3A.map (SV.den β)).toArray w fun e w'=>e=.returned (.tuple #[.int .i64 0,.int .i64 2,.int .i64 0])∧Below w.heap.size w w'
def sAlike3 (h:AlikeT):BSpec Tryz.prog:=⟨101,Tryz.call101,al3A,al3L,PTT,.tuple #[.int .i64 0,.int .i64 2,.int .i64 0],h,by kernel_rfl,fun _=>rfl⟩
def sNum7 (k:Int):Spec Tryz.prog:=Spec.auto Tryz.call105 [.one (nI' k)] [] (.one (nI' k)) [] [] [] 400 Tryz.func105 hmA (by kernel_rfl) (fun β=>by kernel_rfl)
theorem k_ch:chQ (kq 1 0) (kq 0 1)=Rat.divInt 2 1:=of_decide_eq_true (by kernel_rfl:decide (chQ (kq 1 0) (kq 0 1)=Rat.divInt 2 1)=true)
theorem k_l1:lf1Q (kq 2 0)=Rat.divInt 4 5:=of_decide_eq_true (by kernel_rfl:decide (lf1Q (kq 2 0)=Rat.divInt 4 5)=true)
theorem k_l2:lf2Q (kq 2 0)=Rat.divInt 0 1:=of_decide_eq_true (by kernel_rfl:decide (lf2Q (kq 2 0)=Rat.divInt 0 1)=true)
theorem k_l3:lf3Q (kq 2 0)=Rat.divInt 3 5:=of_decide_eq_true (by kernel_rfl:decide (lf3Q (kq 2 0)=Rat.divInt 3 5)=true)
theorem k_ac:gdiv (gneg (byB (kq 1 0))) (gconj (byA (kq 1 0)))=gint (-1) 0:=GQ.ext2 (of_decide_eq_true (by kernel_rfl:decide ((gdiv (gneg (byB (kq 1 0))) (gconj (byA (kq 1 0)))).re=(gint (-1) 0).re)=true)) (of_decide_eq_true (by kernel_rfl:decide ((gdiv (gneg (byB (kq 1 0))) (gconj (byA (kq 1 0)))).im=(gint (-1) 0).im)=true))
theorem k_fit1 {x y:Rat} (e:x=y) (h:Fit y):SV.tup [.a (fA x),nI' (ansK x)]=.tup [.a (fC y),nI' 0]:=by rw [e,(fA_fit h).1,(fA_fit h).2]
theorem k_lift:SV.tup [.a (fC (lf1Q (kq 2 0))++fC (lf2Q (kq 2 0))++fC (lf3Q (kq 2 0))),nI' 0]=.tup [.a (fC (Rat.divInt 4 5)++fC (Rat.divInt 0 1)++fC (Rat.divInt 3 5)),nI' 0]:=by rw [k_l1,k_l2,k_l3]
theorem k_told {z w:GQ} (e:z=w) (h:FitG w):SV.tup [.a (lsX (paC (.fin z))),.c (.b (.v (.int .i64 (paK (.fin z)))))]=.tup [.a (pw (.fin w)),nI' 0]:=by rw [e]; exact pa_eq (p:=.fin w) h
theorem k45:Fit (Rat.divInt 4 5):=(sz_lit 4 5 (by decide) (by decide) (by decide)).fit (by decide)
theorem k35:Fit (Rat.divInt 3 5):=(sz_lit 3 5 (by decide) (by decide) (by decide)).fit (by decide)
theorem k01:Fit (Rat.divInt 0 1):=(Sz.small (n:=0) (by decide)).fit (by decide)
theorem k21:Fit (Rat.divInt 2 1):=(Sz.small (n:=2) (by decide)).fit (by decide)
theorem kz (n:Int) (h:n.natAbs<256):sz n≤1000000000:=Nat.le_trans (sz_small h) (by decide)
noncomputable def k7E (h:AlikeT):List (Ev Tryz.prog) :=
 [(sR7Int 0 0).e,(sSInverse0 (p:=kq 0 0) (kq_fit (n:=0) (m:=0) (by decide) (by decide)) rfl).e,(sR7Int 1 0).e,((sSAcross (p:=kq 1 0) (kq_fit (n:=1) (m:=0) (by decide) (by decide)) rfl).conv (.tup [.a (pw (kq (-1) 0)),nI' 0]) (k_told k_ac (kq_fit (n:=-1) (m:=0) (by decide) (by decide)))).e,
  (sR7Int 1 0).e,(sR7Int 0 1).e,((sSChord (p:=kq 1 0) (q:=kq 0 1) (kq_fit (n:=1) (m:=0) (by decide) (by decide)) (kq_fit (n:=0) (m:=1) (by decide) (by decide))).conv (.tup [.a (fC (Rat.divInt 2 1)),nI' 0]) (k_fit1 k_ch k21)).e,
  (sR7Int 2 0).e,((sSLift (p:=kq 2 0) (kq_fit (n:=2) (m:=0) (by decide) (by decide)) (k_l1▸k45) (k_l2▸k01) (k_l3▸k35)).conv (.tup [.a (fC (Rat.divInt 4 5)++fC (Rat.divInt 0 1)++fC (Rat.divInt 3 5)),nI' 0]) k_lift).e,
  (sR7Int 1 0).e,(sR7Int 2 0).e,(sR7Int 1 0).e,(sAlike3 h).e,
  sR7Inf.e,eqEvPt (ptB_iff.2 rfl:ptB .inf .inf=true),(sNum7 0).e,(sR7Int (-1) 0).e,eqEvPt (ptB_iff.2 rfl:ptB (kq (-1) 0) (kq (-1) 0)=true),(sNum7 0).e,(sR3Int 2 (by decide)).e,eqEvF (fR (Rat.divInt 2 1)) (fR (Rat.divInt 2 1)) true (R4.eq_iff.2 rfl),(sNum7 0).e,
  (sR3Small 4 5 (by decide) (by decide) (by decide) (kz 4 (by decide)) (kz 5 (by decide))).e,(sR3Int 0 (by decide)).e,(sR3Small 3 5 (by decide) (by decide) (by decide) (kz 3 (by decide)) (kz 5 (by decide))).e,
  eqEvF3 (fR (Rat.divInt 4 5)) (fR (Rat.divInt 0 1)) (fR (Rat.divInt 3 5)) (fR (Rat.divInt 4 5)) (fR (Rat.divInt 0 1)) (fR (Rat.divInt 3 5)) true (by rw [R4.eq_iff.2 rfl,R4.eq_iff.2 rfl,R4.eq_iff.2 rfl]; rfl),(sNum7 0).e,(sNum7 0).e,sInfinity.e,sR7Inf.e,eqEvPt (ptB_iff.2 rfl:ptB .inf .inf=true)]
noncomputable def sKnown7 (h:AlikeT):Spec Tryz.prog :=
 Spec.auto Tryz.call107 [] [] (tB' true) [] (k7E h) [(6,60)] 2000 Tryz.func107 hmA (by kernel_rfl) (fun β=>by kernel_rfl)
def mapT (es:Array MapEntry) (clk:Nat):Thing:=thing (fun w g=>(∀ c,g.F c↔c=g.b)∧g.u 0=.map (some g.b)∧w.heap[g.b]?=some (.map es clk))
 ⟨fun w g h c hc=>by rw [(h.1 c).1 hc]; exact heap_lt h.2.2,fun w w' g h k=>⟨h.1,h.2.1,by rw [k.block g.b (heap_lt h.2.2)]; exact h.2.2⟩,
  fun w w' g b o n m h hs ht hF=>⟨h.1,h.2.1,by rw [ht.block g.b (heap_lt h.2.2) (fun e=>hF ((h.1 _).2 e.symm))]; exact h.2.2⟩⟩
def mapO (es:Array MapEntry) (clk:Nat):Ob:=.ow (mapT es clk) 9
theorem mp_make (t:TypeId) (β:Env) (w:World) (ρ:Operand→Value) (o:Oper) (n:Nat) (ho:o.op=.makeMap t none) :
  ∃ (g:Pl) (w':World),(execOp ρ o).run Tryz.prog w=.ok (.value ((SV.one (.c (.b (.gh n 0)))).den (extE β n [g]))) w'∧(mapO #[] 0).holds (extE β n [g]) w' g∧Grow β w w' none g∧owF β [] none g:=by
 refine ⟨⟨w.heap.size,fun _=>none,fun _=>0,fun c=>c=w.heap.size,fun _=>.map (some w.heap.size)⟩,w.alloc (.map #[] 0),?_,⟨⟨rfl,by decide,_,(MapKept.heap_alloc w _).1⟩,fun c=>Iff.rfl,rfl,(MapKept.heap_alloc w _).1⟩,.inl ⟨Nat.le_refl _,⟨rfl,rfl,rfl,by simp [alloc_heap],fun k hk=>(MapKept.heap_alloc w _).2 k hk⟩⟩,fun c hc=>.inl hc⟩
 have e:(SV.one (.c (.b (.gh n 0)))).den (extE β n [(⟨w.heap.size,fun _=>none,fun _=>0,fun c=>c=w.heap.size,fun _=>.map (some w.heap.size)⟩:Pl)])=.map (some w.heap.size):=by
  have:=extE_in (β:=β) (n:=n) (xs:=[(⟨w.heap.size,fun _=>none,fun _=>0,fun c=>c=w.heap.size,fun _=>.map (some w.heap.size)⟩:Pl)]) (i:=0) rfl
  simp only [Nat.add_zero] at this
  simp only [SV.den,SC.den,Lf.den,Lf0.den,this]
 rw [e]
 unfold execOp
 rw [ho]
 rfl
def eMapMk:Ev Tryz.prog:=.dynU (fun o _ _=>match o.op,o.dst with
 | .makeMap _ none,some _=>true
 | _,_=>false) fun o _ ob=>match o.op,o.dst with
 | .makeMap t none,some d=>lit ob.length fun n=>.upd (some d) (.makeMap t none) (fun _=>[]) [] none n (mapO #[] 0) (.one (.c (.b (.gh n 0)))) (fun β w _ _ ρ o ho _=>mp_make t β w ρ o n ho)
 | _,_=>.cut
def owAt:List Ob→Nat→Nat
 | [],_=>0
 | .ow _ _::_,k=>k
 | _::r,k=>owAt r (k+1)
theorem mp_hold {es:Array MapEntry} {clk k:Nat} {β:Env} {w:World} (h:holdsAll β w [(k,mapO es clk)]):(β k).u 0=.map (some (β k).b)∧w.heap[(β k).b]?=some (.map es clk):=by
 have h1:(mapO es clk).holds β w (β k):=h _ (List.mem_singleton.2 rfl)
 exact h1.2.2
structure LookT (T:TypeId) (es:Array MapEntry) (key:Value) (v:Value) (b:Bool):Prop where
 run:∀ (r:Nat) (clk:Nat) (w:World),w.heap[r]?=some (.map es clk)→(Instr.lookup T (.map (some r)) key true).run Tryz.prog w=.ok (.tuple #[v,.bool b]) w
theorem mp_look {T:TypeId} {es:Array MapEntry} {key v:Value} {b:Bool} (L:LookT T es key v b) {clk k:Nat} (sv:Lf0) (hs:∀ β,sv.den β=v) (x y:Operand) (β:Env) (w:World) (h:holdsAll β w [(k,mapO es clk)]) (ρ:Operand→Value) (o:Oper) (ho:o.op=.lookup T x y true)
  (hx:(Op.lookup T x y true).operands.toList.map ρ=[(β k).u 0,key]):∃ ys w',fresh β w [(k,mapO es clk)] ys∧(execOp ρ o).run Tryz.prog w=.ok (.value ((SV.tup [.c (.b sv),.c (.b (.v (.bool b)))]).den (extE β 0 ys))) w'∧newHold w' [] ys∧Below w.heap.size w w':=by
 obtain ⟨h1,h2⟩:=mp_hold h
 refine ⟨[],w,(fun _ h=>by cases h),?_,trivial,Below.refl _ _⟩
 have h3:ρ x=.map (some (β k).b)∧ρ y=key:=by simpa [Op.operands,h1] using hx
 unfold execOp
 rw [ho]
 dsimp only
 rw [h3.1,h3.2]
 have h4:=L.run (β k).b clk w h2
 have e:((SV.tup [.c (.b sv),.c (.b (.v (.bool b)))]).den (extE β 0 []))=.tuple #[v,.bool b]:=by
  show Value.tuple (List.toArray [sv.den (extE β 0 []),.bool b])=_
  rw [hs]
 rw [e]
 simp [go_sem,h4]
def eLook {T:TypeId} {es:Array MapEntry} {key v:Value} {b:Bool} (L:LookT T es key v b) (clk:Nat) (sv:Lf0) (hs:∀ β,sv.den β=v):Ev Tryz.prog:=.dyn (fun o _ _=>match o.op with
 | .lookup t _ _ true=>Nat.beq t T
 | _=>false) fun o _ ob=>match o.op with
 | .lookup _ x y true=>lit (owAt ob 0) fun k=>.rd (o.dst.getD 0) (.lookup T x y true) (fun β=>[(β k).u 0,key]) [(k,mapO es clk)] 0 (.tup [.c (.b sv),.c (.b (.v (.bool b)))]) [] (fun β w h ρ o ho hx=>mp_look L sv hs x y β w h ρ o ho hx)
 | _=>.cut
structure PutT (T:TypeId) (es:Array MapEntry) (key v:Value):Prop where
 run:∀ (r:Nat) (clk:Nat) (w:World),w.heap[r]?=some (.map es clk)→(Instr.mapUpdate T (.map (some r)) key v).run Tryz.prog w=.ok () { w with heap:=w.heap.setIfInBounds r (.map (es.push ⟨key,v,clk⟩) (clk+1)) }
theorem mp_put {T:TypeId} {es:Array MapEntry} {key v:Value} (L:PutT T es key v) {clk k:Nat} (x y z:Operand) (β:Env) (w:World) (h:(mapO es clk).holds β w (β k)) (ρ:Operand→Value) (o:Oper) (ho:o.op=.mapUpdate T x y z)
  (hx:(Op.mapUpdate T x y z).operands.toList.map ρ=[(β k).u 0,key,v]):∃ w':World,(execOp ρ o).run Tryz.prog w=.ok .skip w'∧(mapO (es.push ⟨key,v,clk⟩) (clk+1)).holds β w' (β k)∧NW w (β k).b∧∃ o n,Touch w w' (β k).b o n:=by
 obtain ⟨⟨hF,_,_⟩,h0,h1,h2⟩:=h
 have hs:=MapKept.heap_set (o':=.map (es.push ⟨key,v,clk⟩) (clk+1)) h2
 refine ⟨{ w with heap:=w.heap.setIfInBounds (β k).b (.map (es.push ⟨key,v,clk⟩) (clk+1)) },?_,⟨⟨hF,by decide,_,hs.1⟩,h0,h1,hs.1⟩,(fun cs fr e=>by rw [h2] at e; cases e),0,0,⟨rfl,rfl,rfl,by simp,fun i hi hn=>hs.2 i hn,fun cs t fr e=>by rw [h2] at e; cases e⟩⟩
 have h3:ρ x=.map (some (β k).b)∧ρ y=key∧ρ z=v:=by simpa [Op.operands,h1] using hx
 unfold execOp
 rw [ho]
 dsimp only
 rw [h3.1,h3.2.1,h3.2.2]
 have h4:=L.run (β k).b clk w h2
 simp [go_sem,h4]
def eMapPut {T:TypeId} {es:Array MapEntry} {key v:Value} (L:PutT T es key v) (clk:Nat):Ev Tryz.prog:=.dynU (fun o _ _=>match o.op with
 | .mapUpdate t _ _ _=>Nat.beq t T
 | _=>false) fun o _ ob=>match o.op with
 | .mapUpdate _ x y z=>lit (owAt ob 0) fun k=>.chg (.mapUpdate T x y z) (fun β=>[(β k).u 0,key,v]) [] k (mapO es clk) (mapO (es.push ⟨key,v,clk⟩) (clk+1)) (fun β w _ h ρ o ho hx=>mp_put L x y z β w h ρ o ho hx)
 | _=>.cut
section
variable {T kt et:TypeId} {es:Array MapEntry} {key:Value} (hu:Tryz.prog.underlying T=some (.map kt et)) (hck:∀ w,(Instr.checkKey es.isEmpty 10000 kt key).run Tryz.prog w=.ok () w)
include hu hck
theorem look_yes {i:Nat} {v:Value} (hf:∀ w,(Instr.findKey kt key es.toList).run Tryz.prog w=.ok (some (i,v)) w):LookT T es key v true:=⟨fun r clk w h=>by
 unfold Instr.lookup
 simp only [Sem.run_bind,run_underlying hu,MapKept.run_getObj_map h,hck,hf,Result.andThen,Sem.run_pure]
 rfl⟩
theorem look_no {z:Value} (hz:∀ w,(zeroValue et).run Tryz.prog w=.ok z w) (hf:∀ w,(Instr.findKey kt key es.toList).run Tryz.prog w=.ok none w):LookT T es key z false:=⟨fun r clk w h=>by
 unfold Instr.lookup
 simp only [Sem.run_bind,run_underlying hu,MapKept.run_getObj_map h,hck,hf,hz,Result.andThen,Sem.run_pure]
 rfl⟩
end
theorem put_new {T kt et:TypeId} {es:Array MapEntry} {key:Value} (hu:Tryz.prog.underlying T=some (.map kt et)) (hck:∀ w,(Instr.checkKey false 10000 kt key).run Tryz.prog w=.ok () w) (hf:∀ w,(Instr.findKey kt key es.toList).run Tryz.prog w=.ok none w) (v:Value):PutT T es key v:=⟨fun r clk w h=>by
 unfold Instr.mapUpdate
 simp only [Sem.run_bind,run_underlying hu,MapKept.run_getObj_map h,hck,hf,Result.andThen,MapKept.run_setObj_map _ h]⟩
abbrev al3P:Pp:=ppt (kq 1 0) (kq_fit (n:=1) (m:=0) (by decide) (by decide))
abbrev al3Q:Pp:=ppt (kq 2 0) (kq_fit (n:=2) (m:=0) (by decide) (by decide))
abbrev ck3A:List SV:=[.one (.c (.b (.s 0 0 3 3))),ck2F]
theorem ck3Idx_ok (β:Env) (w:World) (hh:(Ob.box al3L PTT).holds β w (β 0)) :
  Calls Tryz.prog 291 (ck3A.map (SV.den β)).toArray w fun e w'=>e=.returned (.int .i64 (-1))∧Below w.heap.size w w' :=
 bspec_ok [(sChkW al3P (b:=true) rfl).e,(sChkW al3Q (b:=true) rfl).e,(sChkW al3P (b:=true) rfl).e] [] 800 Tryz.func291 hmA (fun β=>by kernel_rfl) (by kernel_rfl) (fun β=>rfl) β w hh
noncomputable def sCk3Idx:BSpec Tryz.prog :=
 ⟨291,Tryz.call291,ck3A,al3L,PTT,.int .i64 (-1),ck3Idx_ok,by kernel_rfl,fun _=>rfl⟩
theorem ck3Has_ok (β:Env) (w:World) (hh:(Ob.box al3L PTT).holds β w (β 0)) :
  Calls Tryz.prog 188 (ck3A.map (SV.den β)).toArray w fun e w'=>e=.returned (.bool false)∧Below w.heap.size w w' :=
 bspec_ok [sCk3Idx.e] [] 800 Tryz.func188 hmA (fun β=>by kernel_rfl) (by kernel_rfl) (fun β=>rfl) β w hh
noncomputable def sCk3Has:BSpec Tryz.prog :=
 ⟨188,Tryz.call188,ck3A,al3L,PTT,.bool false,ck3Has_ok,by kernel_rfl,fun _=>rfl⟩
theorem check3_ok (β:Env) (w:World) (hh:(Ob.box al3L PTT).holds β w (β 0)) :
  Calls Tryz.prog 223 (al3A.map (SV.den β)).toArray w fun e w'=>e=.returned (.int .i64 0)∧Below w.heap.size w w' :=
 bspec_ok [sCk3Has.e] [] 800 Tryz.func223 hmA (fun β=>by kernel_rfl) (by kernel_rfl) (fun β=>rfl) β w hh
noncomputable def sCheck3:BSpec Tryz.prog :=
 ⟨223,Tryz.call223,al3A,al3L,PTT,.int .i64 0,check3_ok,by kernel_rfl,fun _=>rfl⟩
abbrev MPT:TypeId:=259
abbrev akV (p:Pt):Value:=.agg ((pw p).map (Lf.den idE)).toArray
abbrev akE0:Array MapEntry:=#[]
abbrev akE1:Array MapEntry:=akE0.push ⟨akV (kq 1 0),.int .i64 0,0⟩
abbrev akE2:Array MapEntry:=akE1.push ⟨akV (kq 2 0),.int .i64 1,1⟩
theorem ak_hu:Tryz.prog.underlying MPT=some (.map PTT 3):=by kernel_rfl
theorem ak_ck (b:Bool) (p:Pt) (h:p=kq 1 0∨p=kq 2 0):∀ w,(Instr.checkKey b 10000 PTT (akV p)).run Tryz.prog w=.ok () w:=by
 rcases h with rfl | rfl<;>cases b<;>exact fun w=>by kernel_rfl
theorem ak_z:∀ w,(zeroValue 3).run Tryz.prog w=.ok (.int .i64 0) w:=fun w=>by kernel_rfl
theorem ak_l0:LookT MPT akE0 (akV (kq 1 0)) (.int .i64 0) false:=look_no ak_hu (ak_ck _ _ (.inl rfl)) ak_z fun w=>by kernel_rfl
theorem ak_l1:LookT MPT akE1 (akV (kq 2 0)) (.int .i64 0) false:=look_no ak_hu (ak_ck _ _ (.inr rfl)) ak_z fun w=>by kernel_rfl
theorem ak_l2:LookT MPT akE2 (akV (kq 1 0)) (.int .i64 0) true:=look_yes ak_hu (ak_ck _ _ (.inl rfl)) (i:=0) fun w=>by kernel_rfl
theorem ak_p0:PutT MPT akE0 (akV (kq 1 0)) (.int .i64 0):=put_new ak_hu (ak_ck _ _ (.inl rfl)) (fun w=>by kernel_rfl) _
theorem ak_p1:PutT MPT akE1 (akV (kq 2 0)) (.int .i64 1):=put_new ak_hu (ak_ck _ _ (.inr rfl)) (fun w=>by kernel_rfl) _
noncomputable def akEv:List (Ev Tryz.prog) :=
 [sCheck3.e,eMapMk,eLook ak_l0 0 (.v (.int .i64 0)) (fun _=>rfl),eMapPut ak_p0 0,eLook ak_l1 1 (.v (.int .i64 0)) (fun _=>rfl),eMapPut ak_p1 1,eLook ak_l2 2 (.v (.int .i64 0)) (fun _=>rfl)]
theorem alike3:AlikeT:=fun β w hh =>
 bspec_ok akEv [] 2000 Tryz.func101 hmA (fun β=>by kernel_rfl) (by kernel_rfl) (fun β=>rfl) β w hh
def snF:Fp:=.no false false ⟨#[]⟩ ⟨#[]⟩ no_frac (by decide) (by decide)
def snZ:Pp:=.fin snF snF
theorem snOdd_ne:¬ (fR (gint 0 0).re=⟨false,⟨#[]⟩,false,⟨#[]⟩⟩∧fR (gint 0 0).im=⟨false,⟨#[]⟩,false,⟨#[]⟩⟩):=fun h=>by
 have h1:=congrArg R4.t h.1
 exact absurd h1 (by decide +kernel)
def snOdd:Pp:=.odd (fR (gint 0 0).re) (fR (gint 0 0).im) snOdd_ne
def snP (j:Nat) (i:Nat):Pp:=bif Nat.blt i j then al3P else snZ
def snQ (i:Nat):Pp:=bif Nat.beq i 7 then snZ else snP 4097 i
theorem snP_ok {j i:Nat} (h:i<j):(snP j i).B=true:=by
 unfold snP
 rw [show Nat.blt i j=true by rw [Nat.blt_eq]; exact h]
 rfl
theorem snQ_ok {i:Nat} (h:i<7):(snQ i).B=true:=by
 unfold snQ
 rw [show Nat.beq i 7=false by rw [Bool.eq_false_iff,ne_eq,Nat.beq_eq]; omega]
 exact snP_ok (by omega)
theorem ak_ly:LookT MPT akE1 (akV (kq 1 0)) (.int .i64 0) true:=look_yes ak_hu (ak_ck _ _ (.inl rfl)) (i:=0) fun w=>by kernel_rfl
noncomputable def snAl1:Spec Tryz.prog :=
 Spec.auto Tryz.call101 [lpS1 4096] [lpT 4097 (snP 4097)] (.tup [nI' 0,nI' 1,nI' 0]) []
  [(lpCk1 (n:=4096) (N:=4097) (snP 4097) (by decide) (by decide) (fun i hi=>snP_ok (by omega))).e,eMapMk,pIx1 (n:=4096) (N:=4097) (j:=0) (snP 4097) (by decide) (by decide),pLd (N:=4097) (j:=1) (snP 4097) (by decide),eLook ak_l0 0 (.v (.int .i64 0)) (fun _=>rfl),eMapPut ak_p0 0,
   pIx1 (n:=4096) (N:=4097) (j:=1) (snP 4097) (by decide) (by decide),pLd (N:=4097) (j:=2) (snP 4097) (by decide),eLook ak_ly 1 (.v (.int .i64 0)) (fun _=>rfl)] [] 800 Tryz.func101 hmA (by kernel_rfl) (fun β=>by kernel_rfl)
noncomputable def snAl:Spec Tryz.prog :=
 Spec.auto Tryz.call101 [lpS0 4097] [lpT 4097 (snP 4097)] (.tup [nI' 0,nI' 0,nI' 3]) [] [(lpCkLong0 (n:=4097) (N:=4097) (snP 4097) (by decide) (by decide) (by decide) (fun i hi=>snP_ok hi)).e] [] 800 Tryz.func101 hmA (by kernel_rfl) (fun β=>by kernel_rfl)
noncomputable def snSort:Spec Tryz.prog :=
 Spec.auto Tryz.call102 [lpS0 4097] [lpT 4097 (snP 4097)] (.tup [.c (.b (.v (.slice none 0 0))),nI' 3]) [] [(lpCkLong0 (n:=4097) (N:=4097) (snP 4097) (by decide) (by decide) (by decide) (fun i hi=>snP_ok hi)).e] [] 800 Tryz.func102 hmA (by kernel_rfl) (fun β=>by kernel_rfl)
noncomputable def snSort2:Spec Tryz.prog :=
 Spec.auto Tryz.call102 [lpS0 4097] [lpT 4097 snQ] (.tup [.c (.b (.v (.slice none 0 0))),nI' 2]) [] [(lpCkNo0 (n:=4097) (N:=4097) snQ (by decide) (by decide) (i:=7) (by decide) rfl (fun i hi=>snQ_ok hi)).e] [] 800 Tryz.func102 hmA (by kernel_rfl) (fun β=>by kernel_rfl)
noncomputable def snNear:Spec Tryz.prog :=
 Spec.auto Tryz.call103 [svP .inf,lpS0 4097] [lpT 4097 (snP 4097)] (.tup [nI' 0,nI' 3]) [] [(lpCkLong0 (n:=4097) (N:=4097) (snP 4097) (by decide) (by decide) (by decide) (fun i hi=>snP_ok hi)).e,(sPMay (ppt .inf trivial)).e] [] 800 Tryz.func103 hmA (by kernel_rfl) (fun β=>by kernel_rfl)
noncomputable abbrev snFn:Func:=Tryz.f14
noncomputable abbrev snN:Nat:=sizeS snFn []
abbrev snSl (j:Nat):List (Nat × SV):=[(1,.one (.c (.b (.y 1 0 4097)))),(2,.one (nI' (j:Int)))]
abbrev snO (P:Nat→Pp):Ob:=wrO 9 PTT 4097 (lsP P)
noncomputable abbrev snC (j:Nat) (ev:List (Ev Tryz.prog)):Cf Tryz.prog:=mkC Tryz.prog snN 0 (snSl j) [.dead,snO (snP j)] ev
abbrev snH (β0:Env) (w:World) (C:Cf Tryz.prog):Prop:=HdOk Tryz.prog 0 snN w.heap.size w β0 (bodyPost Tryz.prog snFn (Said Tryz.prog snFn 0 (tB' true) [] β0 w)) C (lpAt snFn 0)
theorem sn_sz:(Tryz.prog.info? PTT).map (·.size)=some 9:=by kernel_rfl
theorem sn_L {j i:Nat} (hi:i≠j):lsP (snP (j+1)) i=lsP (snP j) i:=by
 show lsX (snP (j+1) i).w.C=lsX (snP j i).w.C
 congr 2
 unfold snP
 congr 2
 rw [Bool.eq_iff_iff,Nat.blt_eq,Nat.blt_eq]
 omega
theorem sn_Lj (j:Nat):lsP (snP (j+1)) j=lsX (Pt.w (kq 1 0)).C:=by
 show lsX (snP (j+1) j).w.C=_
 unfold snP
 rw [show Nat.blt j (j+1)=true by rw [Nat.blt_eq]; omega]
 rfl
theorem sn_Q {i:Nat} (hi:i≠7):lsP snQ i=lsP (snP 4097) i:=by
 show lsX (snQ i).w.C=lsX (snP 4097 i).w.C
 unfold snQ
 rw [show Nat.beq i 7=false by rw [Bool.eq_false_iff,ne_eq,Nat.beq_eq]; exact hi]
 rfl
noncomputable def snSt {j:Nat} (hj:j<4097):Ev Tryz.prog:=eSt (T:=PTT) (e:=PTT) (sz:=9) (n:=4097) (j:=j) (by decide) sn_sz (L:=lsP (snP j)) (L':=lsP (snP (j+1))) hj (fun i _ hi=>sn_L hi) (sn_Lj j) rfl (lp_one _)
noncomputable def snSt7:Ev Tryz.prog:=eSt (T:=PTT) (e:=PTT) (sz:=9) (n:=4097) (j:=7) (by decide) sn_sz (L:=lsP (snP 4097)) (L':=lsP snQ) (cs:=lsX snZ.w.C) (by decide) (fun i _ hi=>sn_Q hi) rfl rfl (lp_one _)
theorem sn_step (β0:Env) (w:World) {j:Nat} (hj:j<4097) {j2:Int} (hj2:IntKind.i64.wrap ((j:Int)+1)=j2) (e2:j2=((j+1:Nat):Int)) (k:snH β0 w (snC (j+1) [])) :
  snH β0 w (snC j [.eqv 19 (.bool (decide ((j:Int)<((4097:Nat):Int)))) (.bool true) (by rw [decide_eq_true (by omega)]),(sR7Int 1 0).e,pIx0 (n:=4097) (N:=4097) (snP j) hj (by decide),snSt hj,.eqv 21 (.int .i64 (IntKind.i64.wrap ((j:Int)+1))) (.int .i64 ((j+1:Nat):Int)) (by rw [hj2,e2]),.cut]) :=
 piece_ok (Ns:=[]) (m:=400) [] [0,1] hmA (by kernel_rfl) (fun β=>ok_of_maps (by kernel_rfl)) k
noncomputable def snEv:List (Ev Tryz.prog) :=
 [snAl.e,eSl1 tps_u (by decide) tps_s (n:=4097) (m:=4096) rfl (by decide) PTT (lsP (snP 4097)),snAl1.e,snSort.e,sR7Inf.e,snNear.e,pIx0 (n:=4097) (N:=4097) (j:=7) (snP 4097) (by decide) (by decide),snSt7,snSort2.e,
  (sNum7 3).e,(sNum7 0).e,(sNum7 3).e,(sNum7 3).e,(sNum7 2).e,((sPMay snZ).as [.one (.a (lsX snZ.w.C))] (tB' false) rfl rfl).e,(sR4Int 0 0).e,((sPMay snOdd).as [.one (.a (lsX snOdd.w.C))] (tB' false) rfl rfl).e,(sKnown7 alike3).e]
theorem sn_end (β0:Env) (w:World):snH β0 w (snC 4097 (.eqv 19 (.bool (decide (((4097:Nat):Int)<((4097:Nat):Int)))) (.bool false) (by rw [decide_eq_false (by omega)])::snEv)) :=
 last_ok (Ns:=[]) (m:=800) hmA (fun β=>ok_of_maps (by kernel_rfl))
theorem sn_loop (β0:Env) (w:World):∀ (d j:Nat),j+d=4097→snH β0 w (snC j [])
 | 0,j,e=>by
  obtain rfl:j=4097:=by omega
  exact hd_ev' (sn_end β0 w)
 | d+1,j,e=>hd_ev' (sn_step β0 w (by omega) (j2:=((j+1:Nat):Int)) (by rw [IntKind.wrap_i64]; omega) rfl (sn_loop β0 w d (j+1) (by omega)))
theorem sn_start (β0:Env) (w:World) (h:snH β0 w (snC 0 [])):Calls Tryz.prog 14 (([]:List SV).map (SV.den β0)).toArray w (Said Tryz.prog snFn 0 (tB' true) [] β0 w) :=
 sx_cut (P:=Tryz.prog) [] [] [eMkW lpApp (n:=4097) (z:=lsX snZ.w.C) (by decide) (by show 4097*104≤_; decide) (by decide) rfl,.cut] [] [] 400 (tB' true) [] Tryz.func14 hmA (u:=0) (sl:=snSl 0) (ob:=[.dead,snO (snP 0)]) (σ:=[0,0]) (p':=lpAt snFn 0) (by kernel_rfl) (fun β=>ok_of_maps (by kernel_rfl)) (by kernel_rfl) (by kernel_rfl) β0 w (fun i o ho=>by simp at ho) h
theorem _root_.Go.Proofs.YtmfedaakeeiolaaGreat.SphereNames_walk (w:World):Calls Tryz.prog 14 #[] w fun e w'=>e=.returned (.bool true)∧Below w.heap.size w w' :=
 (sn_start (fun _=>nilPl) w (sn_loop _ w 4097 0 (by decide))).mono fun e w' h=>by
  obtain ⟨β',q,obj,_,rfl,_,_,_,g⟩:=h
  exact ⟨rfl,g.bel⟩
end Go.Proofs.YtmfedaakeeiolaaGreat.Y
end
