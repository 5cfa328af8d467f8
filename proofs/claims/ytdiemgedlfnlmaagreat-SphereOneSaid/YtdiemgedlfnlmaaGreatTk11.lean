/- EyD, EyE, MayP, Rs4, Pts, Alg, Rs7, Nrm, EyF, MoA, MoC, EqM, MkA, L4, CiA, CiB, GsD, Wof, Ops, Near, Txt, GsT, CiC, CiD, CiE, MtB, SpA, Yd, MtA, MtD, MtE, MtH, SpB, MtI, SpC, MtK, MwN, MwB, SpD, SpF, SpG, SpH, SpI, TxR, TxB. -/
import Derived.Test.YtdiemgedlfnlmaaGreatTk10
set_option linter.unnecessarySimpa false
set_option linter.unusedVariables false
set_option linter.unusedSimpArgs false
section
namespace Go.Proofs.YtdiemgedlfnlmaaGreat.Y
open Go Go.RowKit
set_option maxRecDepth 100000
theorem nilpair {P:Program} {f:FuncId} {args:Array Value} {w:World} {β:Env} {m:Nat} {r r':Env→Value}
  (h:Calls P f args w fun e w'=>∃ xs:List Pl,freshS β w m xs∧e=.returned (r (extE β m xs))∧newHold w' [] xs∧Below w.heap.size w w') (hr:r' (extE β m [nilPl,nilPl])=r (extE β m [])) :
  Calls P f args w fun e w'=>∃ xs:List Pl,freshS β w m xs∧e=.returned (r' (extE β m xs))∧newHold w' (gM g0) xs∧Below w.heap.size w w' :=
 h.mono fun e w' ⟨xs,h1,he,h2,h3⟩=>by
  match xs,h1,he,h2 with
  | [],h1,he,h2 =>
   have hn:OR0 0 w' nilPl:=nil_or (by decide) w'
   refine ⟨[nilPl,nilPl],fun x hx k hk=>?_,by rw [he,hr],⟨hn,hn,trivial⟩,h3⟩
   simp only [List.mem_cons,List.not_mem_nil,or_false] at hx
   rcases hx with rfl | rfl<;>exact hk.elim
def rL (x:R4):List Lf:=[.b (.v (.bool x.b)),.b (.v (.string x.s)),.b (.v (.bool x.c)),.b (.v (.string x.t))]
structure Fr where
 r:R4
 a:Fp
 e:fpC a=rL r
def eqEv (t:TypeId) (xs ys:Array Value) (r:Bool) (hg:Tryz.prog.eqGuardType Tryz.prog.depth t=false) (h:∀ w,(Op.equalIn 10000 t (.agg xs) (.agg ys)).run Tryz.prog w=.ok r w):Ev Tryz.prog :=
 .dyn (fun o _ _=>match o.op with
  | .binOp .eql t' _ _ _=>Nat.beq t' t
  | .binOp .neq t' _ _ _=>Nat.beq t' t
  | _=>false) fun o _ _=>match o.op with
  | .binOp .eql _ a b u=>.gen (o.dst.getD 0) (.binOp .eql t a b u) [.agg xs,.agg ys] (.bool r) (fun ρ o w ho hx=>by
    simp only [Op.operands,List.map_cons,List.map_nil,List.cons.injEq] at hx
    exact exec_eql hg (h w) a b ρ o ho hx.1 hx.2.1)
  | .binOp .neq _ a b u=>.gen (o.dst.getD 0) (.binOp .neq t a b u) [.agg xs,.agg ys] (.bool (!r)) (fun ρ o w ho hx=>by
    simp only [Op.operands,List.map_cons,List.map_nil,List.cons.injEq] at hx
    exact exec_neq hg (h w) a b ρ o ho hx.1 hx.2.1)
  | _=>.eqv 0 undef undef rfl
def eqEvP (i i':Bool) (x y x' y':R4) (r:Bool) (h:((i==i')&&((x.eq x'&&(y.eq y'&&true))&&true))=r):Ev Tryz.prog :=
 eqEv 39 #[.bool i,.bool x.b,.string x.s,.bool x.c,.string x.t,.bool y.b,.string y.s,.bool y.c,.string y.t] #[.bool i',.bool x'.b,.string x'.s,.bool x'.c,.string x'.t,.bool y'.b,.string y'.s,.bool y'.c,.string y'.t] r (by kernel_rfl) (fun w=>by rw [← h]; exact eqP 9995 i i' x y x' y')
def eqEvW (b b':Bool) (s s':ByteArray) (r:Bool) (h:weq b b' s s'=r):Ev Tryz.prog :=
 eqEv 23 #[.bool b,.string s] #[.bool b',.string s'] r (by kernel_rfl) (fun w=>by rw [← h]; exact eqW 9998 ..)
def eqEvF (x x':R4) (r:Bool) (h:x.eq x'=r):Ev Tryz.prog :=
 eqEv 25 #[.bool x.b,.string x.s,.bool x.c,.string x.t] #[.bool x'.b,.string x'.s,.bool x'.c,.string x'.t] r (by kernel_rfl) (fun w=>by rw [← h]; exact eqF 9997 ..)
def spI:Pp→Bool
 | .fin ..=>false
 | _=>true
def spT:Pp→List Thing
 | .fin a b=>ofT a b
 | _=>gM g0
def sSpot (p:Pp):Spec Tryz.prog :=
 ⟨150,Tryz.call150,[.one (.a (lsX p.C))],[],.tup [.a [.b (.v (.bool (spI p))),.b (.z 0 0),.b (.z 1 0)],.c (.b (.v (.bool p.B)))],spT p,fun β w hh=>by
  rcases p with _ | ⟨a,b⟩ | ⟨x,y,h⟩
  · exact nilpair (r:=(SV.tup [.a [.b (.v (.bool true)),.b (.v (.pointer none)),.b (.v (.pointer none))],.c (.b (.v (.bool true)))]).den) (r':=(SV.tup [.a [.b (.v (.bool true)),.b (.z 0 0),.b (.z 1 0)],.c (.b (.v (.bool true)))]).den) (spec_auto (args:=[.one (.a (lsX Pp.inf.C))]) (obs:=[]) (res:=.tup [.a [.b (.v (.bool true)),.b (.v (.pointer none)),.b (.v (.pointer none))],.c (.b (.v (.bool true)))]) (news:=[]) (evs:=[]) (Ns:=[(2,2004005)]) (m:=400) Tryz.func150 hmA (fun β=>by kernel_rfl) (by kernel_rfl) β w hh) (by kernel_rfl)
  · cases a with
    | ok x hx=>cases b with
     | ok y hy=>exact spec_auto (obs:=[]) (evs:=[(sOf (.ok x hx) (.ok y hy)).e]) (Ns:=[(2,2004005)]) (m:=400) Tryz.func150 hmA (fun β=>by kernel_rfl) (by kernel_rfl) β w hh
     | no b2 c2 s2 t2 h2 u2 v2=>exact spec_auto (obs:=[]) (evs:=[(sOf (.ok x hx) (.no b2 c2 s2 t2 h2 u2 v2)).e]) (Ns:=[(2,2004005)]) (m:=400) Tryz.func150 hmA (fun β=>by kernel_rfl) (by kernel_rfl) β w hh
    | no b1 c1 s1 t1 h1 u1 v1=>cases b with
     | ok y hy=>exact spec_auto (obs:=[]) (evs:=[(sOf (.no b1 c1 s1 t1 h1 u1 v1) (.ok y hy)).e]) (Ns:=[(2,2004005)]) (m:=400) Tryz.func150 hmA (fun β=>by kernel_rfl) (by kernel_rfl) β w hh
     | no b2 c2 s2 t2 h2 u2 v2=>exact spec_auto (obs:=[]) (evs:=[(sOf (.no b1 c1 s1 t1 h1 u1 v1) (.no b2 c2 s2 t2 h2 u2 v2)).e]) (Ns:=[(2,2004005)]) (m:=400) Tryz.func150 hmA (fun β=>by kernel_rfl) (by kernel_rfl) β w hh
  · exact nilpair (r:=(SV.tup [.a [.b (.v (.bool true)),.b (.v (.pointer none)),.b (.v (.pointer none))],.c (.b (.v (.bool false)))]).den) (r':=(SV.tup [.a [.b (.v (.bool true)),.b (.z 0 0),.b (.z 1 0)],.c (.b (.v (.bool false)))]).den) (spec_auto (args:=[.one (.a (lsX (Pp.odd x y h).C))]) (obs:=[]) (res:=.tup [.a [.b (.v (.bool true)),.b (.v (.pointer none)),.b (.v (.pointer none))],.c (.b (.v (.bool false)))]) (news:=[]) (evs:=[eqEvP true true x y r40 r40 false (odd_ne h)]) (Ns:=[(2,2004005)]) (m:=400) Tryz.func150 hmA (fun β=>by kernel_rfl) (by kernel_rfl) β w hh) (by kernel_rfl),by
  rcases p with _ | ⟨_ | _,_ | _⟩ | _<;>kernel_rfl⟩
end Go.Proofs.YtdiemgedlfnlmaaGreat.Y
end
section
namespace Go.Proofs.YtdiemgedlfnlmaaGreat
open Go.Proofs.YtdiemgedlfnlmaaGreat.Y
open Go Go.RowKit
set_option maxRecDepth 100000
def Fp.mayE:Fp→Ev Tryz.prog
 | .ok x h=>eMayF x h
 | .no b c s t h hs ht=>eMay b c s t hs ht false ⟨fun e=>Bool.noConfusion e,fun e=>absurd e h⟩
def gMayE (a b:Fp):List (Ev Tryz.prog):=match a with
 | .ok ..=>[a.mayE,b.mayE]
 | .no ..=>[a.mayE]
def sGMay (a b:Fp):Y.Spec Tryz.prog :=
 Y.Spec.auto Tryz.call175 [.one (.a (a.C++b.C))] [] (.one (.c (.b (.v (.bool (a.B&&b.B)))))) []
  (gMayE a b) [] 400 Tryz.func175 hmA (by cases a<;>cases b<;>kernel_rfl) (fun β=>by cases a<;>cases b<;>kernel_rfl)
def sInfinity:Y.Spec Tryz.prog :=
 Y.Spec.auto Tryz.call147 [] [] (.one (.a (.b (.v (.bool true))::g0C))) [] [] [] 400 Tryz.func147 hmA (by kernel_rfl) (fun β=>by kernel_rfl)
def Pp.mayE:Pp→List (Ev Tryz.prog)
 | .inf=>[sInfinity.e]
 | .fin a b=>[(sGMay a b).e]
 | .odd x y h=>[sInfinity.e,eqEvP true true x y r40 r40 false (odd_ne h)]
def sPMay (p:Pp):Y.Spec Tryz.prog :=
 Y.Spec.auto Tryz.call37 [.one (.a p.C)] [] (.one (.c (.b (.v (.bool p.B))))) []
  p.mayE [(2,4)] 400 Tryz.func37 hmA (by rcases p with _ | ⟨_ | _,_ | _⟩ | _<;>kernel_rfl) (fun β=>by rcases p with _ | ⟨_ | _,_ | _⟩ | _<;>kernel_rfl)
theorem gres {z w:GQ} (h:z=w):SV.one (.a (gC z))=.one (.a (gC w)):=by rw [h]
theorem Sz.le {i k:Nat} {x:Rat} (h:Sz i x) (hk:Nat.ble i k=true:=by decide):Sz k x:=h.mono (Nat.le_of_ble_eq_true hk)
theorem GSz.le {i k:Nat} {z:GQ} (h:GSz i z) (hk:Nat.ble i k=true:=by decide):GSz k z:=h.mono (Nat.le_of_ble_eq_true hk)
theorem gdiv_eq (z w:GQ):gscale (gmul z (gconj w)) (Rat.divInt 1 1/gnorm w)=gdiv z w:=by
 unfold gdiv
 congr 1
 rw [Rat.div_def,show (Rat.divInt 1 1)=1 by rfl,Rat.one_mul]
abbrev svG (z:GQ):SV:=.one (.a (gC z))
abbrev svF (x:Rat):SV:=.one (.a (fC x))
section
variable {z w:GQ} {x:Rat}
def sR4Neg (z:GQ):Y.Spec Tryz.prog:=Y.Spec.auto Tryz.call177 [svG z] [] (svG (gneg z)) [] [(sR3Neg z.re).e,(sR3Neg z.im).e] [(1,7)] 400 Tryz.func177 hmA (by kernel_rfl) (fun β=>by kernel_rfl)
def sR4Conj (z:GQ):Y.Spec Tryz.prog:=Y.Spec.auto Tryz.call178 [svG z] [] (svG (gconj z)) [] [(sR3Neg z.im).e] [(1,6)] 400 Tryz.func178 hmA (by kernel_rfl) (fun β=>by kernel_rfl)
def sR4Times (hz:GSz KE z) (hw:GSz KE w):Y.Spec Tryz.prog:=Y.Spec.auto Tryz.call53 [svG z,svG w] [] (svG (gmul z w)) []
 [(sR3Times hz.1.le hw.1.le).e,(sR3Times hz.2.le hw.2.le).e,(sR3Minus (hz.1.mul hw.1).le (hz.2.mul hw.2).le).e,(sR3Times hz.1.le hw.2.le).e,(sR3Times hz.2.le hw.1.le).e,(sR3Plus (hz.1.mul hw.2).le (hz.2.mul hw.1).le).e] [(1,12),(2,12)] 400 Tryz.func53 hmA (by kernel_rfl) (fun β=>by kernel_rfl)
def sR4Dot (hz:GSz KE z) (hw:GSz KE w):Y.Spec Tryz.prog:=Y.Spec.auto Tryz.call288 [svG z,svG w] [] (svF (z.re*w.re+z.im*w.im)) []
 [(sR3Times hz.1.le hw.1.le).e,(sR3Times hz.2.le hw.2.le).e,(sR3Plus (hz.1.mul hw.1).le (hz.2.mul hw.2).le).e] [(1,11)] 400 Tryz.func288 hmA (by kernel_rfl) (fun β=>by kernel_rfl)
def sR4Norm (hz:GSz KE z):Y.Spec Tryz.prog:=Y.Spec.auto Tryz.call155 [svG z] [] (svF (gnorm z)) [] [(sR4Dot hz hz).e] [] 400 Tryz.func155 hmA (by kernel_rfl) (fun β=>by kernel_rfl)
def sR4Scale (hz:GSz K3 z) (hx:Sz K3 x):Y.Spec Tryz.prog:=Y.Spec.auto Tryz.call228 [svG z,svF x] [] (svG (gscale z x)) [] [(sR3Times hz.1 hx).e,(sR3Times hz.2 hx).e] [(1,9)] 400 Tryz.func228 hmA (by kernel_rfl) (fun β=>by kernel_rfl)
theorem sz_one:Sz 1 (Rat.divInt 1 1):=Sz.small (by decide)
def sR4Over (hz:GSz KE z) (hw:GSz KE w) (h0:gzero w=false):Y.Spec Tryz.prog:=(Y.Spec.auto Tryz.call88 [svG z,svG w] [] (svG (gscale (gmul z (gconj w)) (Rat.divInt 1 1/gnorm w))) []
 [(sR4Conj w).e,(sR4Times hz hw.conj).e,(sR3Int 1 (by decide)).e,(sR4Norm hw).e,(sR3Over sz_one.le hw.norm.le (gnorm_ne h0)).e,(sR4Scale (hz.mul hw.conj).le (sz_one.div hw.norm (gnorm_ne h0)).le).e] [(1,9)] 400 Tryz.func88 hmA (by kernel_rfl) (fun β=>by kernel_rfl)).conv (svG (gdiv z w)) (gres (gdiv_eq z w))
end
def sR4Int (n m:Int) (hn : -9223372036854775808≤n∧n≤9223372036854775807:=by decide) (hm : -9223372036854775808≤m∧m≤9223372036854775807:=by decide):Y.Spec Tryz.prog :=
 Y.Spec.auto Tryz.call49 [.one (.c (.b (.v (.int .i64 n)))),.one (.c (.b (.v (.int .i64 m))))] [] (svG (gint n m)) [] [(sR3Int n hn).e,(sR3Int m hm).e] [] 400 Tryz.func49 hmA (by kernel_rfl) (fun β=>by kernel_rfl)
theorem sign_num (x:Rat) {b:Bool} (h:decide (x=0)=b):Value.bool (x.num.sign==0)=.bool b:=sign_lit h
def sR4Zero (z:GQ) {b:Bool} (hb:gzero z=b):Y.Spec Tryz.prog :=
 ⟨218,Tryz.call218,[svG z],[],.one (.c (.b (.v (.bool b)))),[],fun β w hh=>by
  cases h1:decide (z.re=0) with
  | false =>
   obtain rfl:b=false:=by rw [← hb]; unfold gzero; rw [h1]; rfl
   exact spec_auto (evs:=[(sR3Sign (x:=z.re) rfl).e,.eqv 6 (.bool (z.re.num.sign==0)) (.bool false) (sign_num _ h1)]) (Ns:=[]) (m:=400) Tryz.func218 hmA (fun β=>by kernel_rfl) (by kernel_rfl) β w hh
  | true =>
   obtain rfl:b=decide (z.im=0):=by rw [← hb]; unfold gzero; rw [h1]; rfl
   cases h2:decide (z.im=0) with
   | false=>exact spec_auto (evs:=[(sR3Sign (x:=z.re) rfl).e,.eqv 6 (.bool (z.re.num.sign==0)) (.bool true) (sign_num _ h1),(sR3Sign (x:=z.im) rfl).e,.eqv 11 (.bool (z.im.num.sign==0)) (.bool false) (sign_num _ h2)]) (Ns:=[]) (m:=400) Tryz.func218 hmA (fun β=>by kernel_rfl) (by kernel_rfl) β w hh
   | true=>exact spec_auto (evs:=[(sR3Sign (x:=z.re) rfl).e,.eqv 6 (.bool (z.re.num.sign==0)) (.bool true) (sign_num _ h1),(sR3Sign (x:=z.im) rfl).e,.eqv 11 (.bool (z.im.num.sign==0)) (.bool true) (sign_num _ h2)]) (Ns:=[]) (m:=400) Tryz.func218 hmA (fun β=>by kernel_rfl) (by kernel_rfl) β w hh,by kernel_rfl⟩
def sR4Fits (z:GQ) {b:Bool} (hb:b=true↔FitG z):Y.Spec Tryz.prog :=
 ⟨219,Tryz.call219,[svG z],[],.one (.c (.b (.v (.bool b)))),[],fun β w hh=>by
  by_cases h1:Fit z.re
  · have h2:b=true↔Fit z.im:=hb.trans ⟨fun h=>h.2,fun h=>⟨h1,h⟩⟩
    cases b<;>exact spec_auto (evs:=[eFFit (iff_true_of h1),eFFit h2]) (Ns:=[]) (m:=400) Tryz.func219 hmA (fun β=>by kernel_rfl) (by kernel_rfl) β w hh
  · obtain rfl:=eq_false_of hb fun h=>h1 h.1
    exact spec_auto (evs:=[eFFit (iff_false_of h1)]) (Ns:=[]) (m:=400) Tryz.func219 hmA (fun β=>by kernel_rfl) (by kernel_rfl) β w hh,by kernel_rfl⟩
def Fp.may3:Fp→Y.Spec Tryz.prog
 | .ok x h=>sR3May _ _ _ _ true (iff_true_of (fitF x h))
 | .no b c s t h hs ht=>sR3May b c s t false (iff_false_of h)
def may4E (a b:Fp):List (Ev Tryz.prog):=match a with
 | .ok ..=>[a.may3.e,b.may3.e]
 | .no ..=>[a.may3.e]
def sR4May (a b:Fp):Y.Spec Tryz.prog :=
 Y.Spec.auto Tryz.call39 [.one (.a (a.C++b.C))] [] (.one (.c (.b (.v (.bool (a.B&&b.B)))))) [] (may4E a b) [] 400 Tryz.func39 hmA (by cases a<;>cases b<;>kernel_rfl) (fun β=>by cases a<;>cases b<;>kernel_rfl)
def Fp.raw:Fp→R4
 | .ok x _=>⟨decide (x.num<0),mag x.num.natAbs,false,mag x.den⟩
 | .no b c s t _ _ _=>⟨b,s,c,t⟩
def Pp.rI:Pp→Bool
 | .fin ..=>false
 | _=>true
def Pp.rX:Pp→R4
 | .inf=>r40
 | .fin a _=>a.raw
 | .odd x _ _=>x
def Pp.rY:Pp→R4
 | .inf=>r40
 | .fin _ b=>b.raw
 | .odd _ y _=>y
def rawC (i:Bool) (x y:R4):List Lf:=.b (.v (.bool i))::(x.L++y.L)
theorem Pp.C_raw (p:Pp):p.C=rawC p.rI p.rX p.rY:=by rcases p with _ | ⟨_ | _,_ | _⟩ | _<;>rfl
def Y.Spec.as {P:Program} (S:Y.Spec P) (args:List SV) (res:SV) (ha:S.args=args) (hr:S.res=res):Y.Spec P :=
 ⟨S.f,S.en,args,S.obs,res,S.news,fun β w hh=>by subst ha; subst hr; exact S.ok β w hh,by subst ha; subst hr; exact S.closed⟩
def fR (x:Rat):R4:=⟨decide (x.num<0),mag x.num.natAbs,false,mag x.den⟩
def Pt.i:Pt→Bool
 | .inf=>true
 | .fin _=>false
def Pt.x:Pt→R4
 | .inf=>r40
 | .fin z=>fR z.re
def Pt.y:Pt→R4
 | .inf=>r40
 | .fin z=>fR z.im
abbrev svR (i:Bool) (x y:R4):SV:=.one (.a (rawC i x y))
abbrev svP (p:Pt):SV:=svR p.i p.x p.y
def FitP:Pt→Prop
 | .inf=>True
 | .fin z=>FitG z
theorem FitP.sz {p:Pt} (h:FitP p):PSz 1024 p:=by
 cases p
 · trivial
 · exact ⟨h.1.sz,h.2.sz⟩
def ppt:(p:Pt)→FitP p→Pp
 | .inf,_=>.inf
 | .fin z,h=>.fin (.ok z.re h.1) (.ok z.im h.2)
theorem ppt_C (p:Pt) (h:FitP p):(ppt p h).C=rawC p.i p.x p.y:=by cases p<;>rfl
theorem ppt_B (p:Pt) (h:FitP p):(ppt p h).B=true:=by cases p<;>rfl
structure Rw where
 i:Bool
 x:R4
 y:R4
def Rw.ok (r:Rw):Prop:=(r.x.s.size≤maxLen∧r.x.t.size≤maxLen)∧r.y.s.size≤maxLen∧r.y.t.size≤maxLen
def Pt.w (p:Pt):Rw:=⟨p.i,p.x,p.y⟩
def Pp.w (p:Pp):Rw:=⟨p.rI,p.rX,p.rY⟩
theorem fp_of (x:R4) (h1:x.s.size≤maxLen) (h2:x.t.size≤maxLen):∃ a:Fp,a.raw=x:=by
 obtain ⟨b,s,c,t⟩:=x
 rcases fp_all b c s t with ⟨q,h,rfl,rfl,rfl,rfl⟩ | h
 · exact ⟨.ok q h,rfl⟩
 · exact ⟨.no b c s t h h1 h2,rfl⟩
theorem pp_of (r:Rw) (h:r.ok):∃ p:Pp,p.w=r:=by
 obtain ⟨i,x,y⟩:=r
 cases i
 · obtain ⟨a,rfl⟩:=fp_of x h.1.1 h.1.2
   obtain ⟨b,rfl⟩:=fp_of y h.2.1 h.2.2
   exact ⟨.fin a b,rfl⟩
 · by_cases h0:x=⟨false,⟨#[]⟩,false,⟨#[]⟩⟩∧y=⟨false,⟨#[]⟩,false,⟨#[]⟩⟩
   · obtain ⟨rfl,rfl⟩:=h0
     exact ⟨.inf,rfl⟩
   · exact ⟨.odd x y h0,rfl⟩
theorem Pp.good {p:Pp} (h:p.B=true):∃ q:Pt,∃ hq:FitP q,p=ppt q hq:=by
 rcases p with _ | ⟨⟨x,hx⟩ | _,⟨y,hy⟩ | _⟩ | _
 · exact ⟨.inf,trivial,rfl⟩
 · exact ⟨.fin ⟨x,y⟩,⟨hx,hy⟩,rfl⟩
 all_goals cases h
theorem ppt_w (p:Pt) (h:FitP p):(ppt p h).w=p.w:=by cases p<;>rfl
theorem fR_inj {x y:Rat} (h:fR x=fR y):x=y:=by
 injection h with h1 h2 h3 h4
 have hn:x.num.natAbs=y.num.natAbs:=mag_inj h2
 have hd:x.den=y.den:=mag_inj h4
 have hb:(x.num<0)=(y.num<0):=by simpa using h1
 refine Rat.ext ?_ hd
 by_cases h0:x.num<0
 · have:y.num<0:=by rw [← hb]; exact h0
   omega
 · have:¬ y.num<0:=by rw [← hb]; exact h0
   omega
theorem Pt.w_inj {p q:Pt} (h:p.w=q.w):p=q:=by
 cases p<;>cases q
 · rfl
 · injection h with h1; cases h1
 · injection h with h1; cases h1
 · rename_i z w
   injection h with _ h2 h3
   exact congrArg Pt.fin (GQ.ext2 (fR_inj h2) (fR_inj h3))
def rwB (i i':Bool) (x y x' y':R4):Bool:=(i==i')&&((x.eq x'&&(y.eq y'&&true))&&true)
theorem rwB_iff {i i':Bool} {x y x' y':R4}:rwB i i' x y x' y'=true↔i=i'∧x=x'∧y=y':=by
 unfold rwB
 simp only [Bool.and_true,Bool.and_eq_true,R4.eq_iff,beq_iff_eq]
def ptB (p q:Pt):Bool:=rwB p.i q.i p.x p.y q.x q.y
theorem ptB_iff {p q:Pt}:ptB p q=true↔p=q:=by
 unfold ptB
 rw [rwB_iff]
 constructor
 · rintro ⟨h1,h2,h3⟩
   exact Pt.w_inj (by unfold Pt.w; rw [h1,h2,h3])
 · rintro rfl; exact ⟨rfl,rfl,rfl⟩
open Classical in
noncomputable def paI (p:Pt):Bool:=if FitP p then p.i else false
open Classical in
noncomputable def paX (p:Pt):R4:=if FitP p then p.x else r40
open Classical in
noncomputable def paY (p:Pt):R4:=if FitP p then p.y else r40
theorem pa_fit {p:Pt} (h:FitP p):paI p=p.i∧paX p=p.x∧paY p=p.y:=⟨if_pos h,if_pos h,if_pos h⟩
theorem pa_not {p:Pt} (h:¬ FitP p):paI p=false∧paX p=r40∧paY p=r40:=⟨if_neg h,if_neg h,if_neg h⟩
theorem paK_fit {p:Pt} (h:FitP p):paK p=0:=by
 cases p
 · rfl
 · exact (ga_fit h).2
theorem paK_not {p:Pt} (h:¬ FitP p):paK p=4:=by
 cases p
 · exact absurd trivial h
 · exact (ga_not h).2
theorem paC_raw (p:Pt):paC p=rawC (paI p) (paX p) (paY p):=by
 by_cases h:FitP p
 · rw [(pa_fit h).1,(pa_fit h).2.1,(pa_fit h).2.2]
   cases p
   · rfl
   · show _::gaC _=_
     rw [(ga_fit h).1]; rfl
 · rw [(pa_not h).1,(pa_not h).2.1,(pa_not h).2.2]
   cases p
   · exact absurd trivial h
   · show _::gaC _=_
     rw [(ga_not h).1]; rfl
noncomputable abbrev svA (p:Pt) (k:Int):SV:=.tup [.a (rawC (paI p) (paX p) (paY p)),.c (.b (.v (.int .i64 k)))]
theorem gz_true {z:GQ}:gzero z=true↔z=g0:=by
 rw [gzero_iff]
 exact ⟨fun h=>GQ.ext2 h.1 h.2,fun h=>by rw [h]; exact ⟨rfl,rfl⟩⟩
theorem gz_false {z:GQ}:gzero z=false↔z≠g0:=by
 cases h:gzero z with
 | true=>exact ⟨fun e=>Bool.noConfusion e,fun e=>absurd (gz_true.1 h) e⟩
 | false=>exact ⟨fun _ e=>by rw [gz_true.2 e] at h; exact Bool.noConfusion h,fun _=>rfl⟩
theorem gnorm_mul (z w:GQ):gnorm (gmul z w)=gnorm z*gnorm w:=by
 simp only [gnorm,gmul]; grind
theorem gnorm_zero {z:GQ} (h:gnorm z=0):z=g0:=by
 cases h1:gzero z with
 | true=>exact gz_true.1 h1
 | false=>exact absurd h (gnorm_ne h1)
theorem gmul_zero {z w:GQ} (h:gmul z w=g0):z=g0∨w=g0:=by
 have h1:gnorm z*gnorm w=0:=by rw [← gnorm_mul,h]; simp only [gnorm,g0]; grind
 rcases Rat.mul_eq_zero.1 h1 with h | h
 · exact .inl (gnorm_zero h)
 · exact .inr (gnorm_zero h)
theorem gnorm_inv {w:GQ} (h:w≠g0):gnorm w*(gnorm w)⁻¹=1:=Rat.mul_inv_cancel _ (gnorm_ne (gz_false.2 h))
theorem gdiv_mul {z w:GQ} (h:w≠g0):gmul (gdiv z w) w=z:=by
 have hn:=gnorm_inv h
 unfold gdiv
 generalize hi:(gnorm w)⁻¹=i at hn
 unfold gnorm at hn
 refine GQ.ext2 ?_ ?_
 · simp only [gmul,gscale,gconj]; grind
 · simp only [gmul,gscale,gconj]; grind
theorem gmul_cancel {z w u:GQ} (h:u≠g0) (e:gmul z u=gmul w u):z=w:=by
 have h1:gmul (gsub z w) u=g0:=by
  have e1:=congrArg GQ.re e
  have e2:=congrArg GQ.im e
  simp only [gmul] at e1 e2
  refine GQ.ext2 ?_ ?_
  · simp only [gmul,gsub,g0]; grind
  · simp only [gmul,gsub,g0]; grind
 rcases gmul_zero h1 with k | k
 · have e1:=congrArg GQ.re k
   have e2:=congrArg GQ.im k
   simp only [gsub,g0] at e1 e2
   exact GQ.ext2 (by grind) (by grind)
 · exact absurd k h
theorem gdiv_eq_iff {z w u:GQ} (h:w≠g0):gdiv z w=u↔z=gmul u w:=by
 constructor
 · intro e; rw [← e,gdiv_mul h]
 · intro e; exact gmul_cancel h (by rw [gdiv_mul h,e])
theorem gint10:gint 1 0=⟨1,0⟩:=rfl
structure BSpec (P:Program) where
 f:FuncId
 en:Enters P f
 args:List SV
 cs:List Lf
 t:TypeId
 r:Value
 ok:∀ β w,(Ob.box cs t).holds β w (β 0)→Calls P f (args.map (SV.den β)).toArray w fun e w'=>e=.returned r∧Below w.heap.size w w'
 cl:(cs.all (Lf.of fun _=>false)&&args.all (SV.of fun k=>Nat.beq k 0))=true
 hr:∀ β,(tag r).den β=r
def bkOf:List SV→Nat
 | []=>0
 | .one (.c (.b (.s k _ _ _)))::_=>k
 | _::r=>bkOf r
theorem cells_closed {β β':Env} {cs:List Lf} (h:cs.all (Lf.of fun _=>false)=true):cs.map (Lf.den β)=cs.map (Lf.den β') :=
 List.map_congr_left fun x hx=>Lf.den_congr (q:=fun _=>false) (fun k hk=>by cases hk) x (List.all_eq_true.1 h x hx)
def BSpec.e {P:Program} (S:BSpec P):Ev P:=.dyn (fun o _ _=>isCallB o) fun _ xs ob=>lit (bkOf xs) fun i =>
 .call S.f S.en (fun β=>(S.args.map (SV.den fun _=>β i)).toArray) [(i,.box S.cs S.t)] 0 (tag S.r) [] (fun β w h=>of_pure0 (by
  have hc:=S.cl
  rw [Bool.and_eq_true] at hc
  refine S.ok (fun _=>β i) w ?_
  have h1:(β i).one∧w.heap[(β i).b]?=some (.cells (S.cs.map (Lf.den β)).toArray S.t (0,0)):=h _ (List.mem_singleton.2 rfl)
  show (β i).one∧w.heap[(β i).b]?=some (.cells (S.cs.map (Lf.den fun _=>β i)).toArray S.t (0,0))
  rw [cells_closed (β':=β) hc.1]
  exact h1) S.hr)
theorem bspec_ok {P:Program} {f:FuncId} {fn:Func} {args:List SV} {cs:List Lf} {t:TypeId} {r:Value} (evs:List (Ev P)) (Ns:List (Nat × Nat)) (m:Nat) (hf:P.funcs[f]?=some fn) (hm:P.follows .mixedOrders=true)
  (h:∀ β,(allS P fn args [.box cs t] evs Ns m (tag r) [] β).map Prod.fst=(allS P fn args [.box cs t] evs Ns m (tag r) [] β).map Prod.snd)
  (hB:(args.all (SV.of fun k=>Nat.blt k 1)&&[Ob.box cs t].all fun x=>x.of (fun k=>Nat.blt k 1)&&x.own)=true) (hr:∀ β,(tag r).den β=r) (β:Env) (w:World) (hh:(Ob.box cs t).holds β w (β 0)) :
  Calls P f (args.map (SV.den β)).toArray w fun e w'=>e=.returned r∧Below w.heap.size w w':=by
 rw [Bool.and_eq_true] at hB
 refine (sx (P:=P) args [.box cs t] evs Ns m (tag r) [] hf hm (fun β=>ok_of_maps (h β)) hB.1 hB.2 β w (fun k o ho=>?_)).mono ?_
 · cases k with
   | zero=>simp only [List.getElem?_cons_zero] at ho; obtain rfl:=Option.some.inj ho; exact hh
   | succ k=>simp at ho
 · rintro e w' ⟨β',q,obj,e1,rfl,e2,e4,e5,g⟩
   exact ⟨by rw [hr],g.bel⟩
def big (k:Nat) (s:ByteArray):Bool:=decide ((k:Int)<(s.size:Int))
def smB (k:Nat) (x y:R4):Bool:=!(big k x.s||(big k x.t||(big k y.s||big k y.t)))
theorem big_lit {k:Nat} {s:ByteArray} {r:Bool} (h:big k s=r):Value.bool (decide ((k:Int)<(s.size:Int)))=.bool r:=by rw [← h]; rfl
def evBig (k:Nat) (s:ByteArray) (d:Nat) (r:Bool) (h:big k s=r):Ev Tryz.prog:=.eqv d (.bool (decide ((k:Int)<(s.size:Int)))) (.bool r) (big_lit h)
theorem small4_ok (k:Nat) (x y:R4) {b:Bool} (hb:smB k x y=b) (β:Env) (w:World) (hh:(Ob.box (x.L++y.L) 37).holds β w (β 0)) :
  Calls Tryz.prog 47 (([.one (.c (.b (.v (.int .i64 (k:Int))))),.one (.c (.b (.s 0 0 1 1)))]:List SV).map (SV.den β)).toArray w fun e w'=>e=.returned (.bool b)∧Below w.heap.size w w':=by
 unfold smB at hb
 cases h1:big k x.s with
 | true =>
  obtain rfl:b=false:=by rw [← hb,h1]; rfl
  exact bspec_ok [evBig k x.s 23 true h1] [] 800 Tryz.func47 hmA (fun β=>by kernel_rfl) (by kernel_rfl) (fun β=>rfl) β w hh
 | false=>cases h2:big k x.t with
 | true =>
  obtain rfl:b=false:=by rw [← hb,h1,h2]; rfl
  exact bspec_ok [evBig k x.s 23 false h1,evBig k x.t 31 true h2] [] 800 Tryz.func47 hmA (fun β=>by kernel_rfl) (by kernel_rfl) (fun β=>rfl) β w hh
 | false=>cases h3:big k y.s with
 | true =>
  obtain rfl:b=false:=by rw [← hb,h1,h2,h3]; rfl
  exact bspec_ok [evBig k x.s 23 false h1,evBig k x.t 31 false h2,evBig k y.s 40 true h3] [] 800 Tryz.func47 hmA (fun β=>by kernel_rfl) (by kernel_rfl) (fun β=>rfl) β w hh
 | false=>cases h4:big k y.t with
 | true =>
  obtain rfl:b=false:=by rw [← hb,h1,h2,h3,h4]; rfl
  exact bspec_ok [evBig k x.s 23 false h1,evBig k x.t 31 false h2,evBig k y.s 40 false h3,evBig k y.t 49 true h4] [] 800 Tryz.func47 hmA (fun β=>by kernel_rfl) (by kernel_rfl) (fun β=>rfl) β w hh
 | false =>
  obtain rfl:b=true:=by rw [← hb,h1,h2,h3,h4]; rfl
  exact bspec_ok [evBig k x.s 23 false h1,evBig k x.t 31 false h2,evBig k y.s 40 false h3,evBig k y.t 49 false h4] [] 800 Tryz.func47 hmA (fun β=>by kernel_rfl) (by kernel_rfl) (fun β=>rfl) β w hh
def sR4Small (k:Nat) (x y:R4) {b:Bool} (hb:smB k x y=b):BSpec Tryz.prog :=
 ⟨47,Tryz.call47,[.one (.c (.b (.v (.int .i64 (k:Int))))),.one (.c (.b (.s 0 0 1 1)))],x.L++y.L,37,.bool b,small4_ok k x y hb,by kernel_rfl,fun _=>rfl⟩
def Rw.C (r:Rw):List Lf:=rawC r.i r.x r.y
def Rw.sm (k:Nat) (r:Rw):Bool:=smB k r.x r.y
def Pp.may7E:Pp→List (Ev Tryz.prog)
 | .inf=>[]
 | .fin a b=>[(sR4May a b).e]
 | .odd x y h=>[eqEvP true true x y r40 r40 false (odd_ne h)]
def sR7May0 (p:Pp):Y.Spec Tryz.prog :=
 Y.Spec.auto Tryz.call29 [.one (.a p.C)] [] (.one (.c (.b (.v (.bool p.B))))) []
  p.may7E [] 400 Tryz.func29 hmA (by rcases p with _ | ⟨_ | _,_ | _⟩ | _<;>kernel_rfl) (fun β=>by rcases p with _ | ⟨_ | _,_ | _⟩ | _<;>kernel_rfl)
def sR7May (p:Pp) {b:Bool} (hb:p.B=b):Y.Spec Tryz.prog :=
 (sR7May0 p).as [svR p.rI p.rX p.rY] (.one (.c (.b (.v (.bool b))))) (congrArg (fun l=>[SV.one (.a l)]) (Pp.C_raw p)) (congrArg (fun b=>SV.one (.c (.b (.v (.bool b))))) hb)
def sR7Fits (p:Pt) {b:Bool} (hb:b=true↔FitP p):Y.Spec Tryz.prog :=
 ⟨294,Tryz.call294,[svP p],[],.one (.c (.b (.v (.bool b)))),[],fun β w hh=>by
  cases p
  · obtain rfl:b=true:=hb.2 trivial
    exact spec_auto (evs:=[]) (Ns:=[]) (m:=400) Tryz.func294 hmA (fun β=>by kernel_rfl) (by kernel_rfl) β w hh
  · cases b<;>exact spec_auto (evs:=[(sR4Fits _ hb).e]) (Ns:=[]) (m:=400) Tryz.func294 hmA (fun β=>by kernel_rfl) (by kernel_rfl) β w hh,by kernel_rfl⟩
noncomputable def sR7Told (p:Pt):Y.Spec Tryz.prog :=
 ⟨176,Tryz.call176,[svP p],[],svA p (paK p),[],fun β w hh=>by
  by_cases h:FitP p
  · unfold svA
    rw [(pa_fit h).1,(pa_fit h).2.1,(pa_fit h).2.2,paK_fit h]
    exact spec_auto (evs:=[(sR7Fits p (iff_true_of h)).e]) (Ns:=[]) (m:=400) Tryz.func176 hmA (fun β=>by kernel_rfl) (by kernel_rfl) β w hh
  · unfold svA
    rw [(pa_not h).1,(pa_not h).2.1,(pa_not h).2.2,paK_not h]
    exact spec_auto (evs:=[(sR7Fits p (iff_false_of h)).e]) (Ns:=[]) (m:=400) Tryz.func176 hmA (fun β=>by kernel_rfl) (by kernel_rfl) β w hh,by kernel_rfl⟩
def by7E:Pt→List (Ev Tryz.prog)
 | .inf=>[(sR4Int 1 0).e,(sR4Int 0 0).e]
 | .fin _=>[(sR4Int 1 0).e]
def sR7By (p:Pt):Y.Spec Tryz.prog :=
 Y.Spec.auto Tryz.call179 [svP p] [] (.tup [.a (gC (byA p)),.a (gC (byB p))]) [] (by7E p) [(3,3)] 400 Tryz.func179 hmA (by cases p<;>kernel_rfl) (fun β=>by cases p<;>kernel_rfl)
def sR7Inf:Y.Spec Tryz.prog:=Y.Spec.auto Tryz.call145 [] [] (svP .inf) [] [] [] 400 Tryz.func145 hmA (by kernel_rfl) (fun β=>by kernel_rfl)
def sR7Of (z:GQ):Y.Spec Tryz.prog:=Y.Spec.auto Tryz.call40 [svG z] [] (svP (.fin z)) [] [] [] 400 Tryz.func40 hmA (by kernel_rfl) (fun β=>by kernel_rfl)
def sR7Int (n m:Int) (hn : -9223372036854775808≤n∧n≤9223372036854775807:=by decide) (hm : -9223372036854775808≤m∧m≤9223372036854775807:=by decide):Y.Spec Tryz.prog :=
 Y.Spec.auto Tryz.call143 [.one (.c (.b (.v (.int .i64 n)))),.one (.c (.b (.v (.int .i64 m))))] [] (svP (.fin (gint n m))) [] [(sR4Int n m hn hm).e,(sR7Of (gint n m)).e] [] 400 Tryz.func143 hmA (by kernel_rfl) (fun β=>by kernel_rfl)
def pratio (x y:GQ) (b:Bool):Pt:=bif b then .inf else .fin (gdiv x y)
def sR7Ratio {x y:GQ} (hx:GSz KE x) (hy:GSz KE y) {b:Bool} (hb:gzero y=b):Y.Spec Tryz.prog :=
 ⟨180,Tryz.call180,[svG x,svG y],[],svP (pratio x y b),[],fun β w hh=>by
  cases b
  · exact spec_auto (evs:=[(sR4Zero y hb).e,(sR4Over hx hy hb).e,(sR7Of (gdiv x y)).e]) (Ns:=[]) (m:=400) Tryz.func180 hmA (fun β=>by kernel_rfl) (by kernel_rfl) β w hh
  · exact spec_auto (evs:=[(sR4Zero y hb).e,sR7Inf.e]) (Ns:=[]) (m:=400) Tryz.func180 hmA (fun β=>by kernel_rfl) (by kernel_rfl) β w hh,by kernel_rfl⟩
theorem gq_one_ne:(⟨1,0⟩:GQ)≠g0:=fun e=>by have:=congrArg GQ.re e; exact absurd this (by show (1:Rat)≠0; decide)
theorem gq_div_one (z:GQ):gdiv z ⟨1,0⟩=z:=by
 rw [gdiv_eq_iff gq_one_ne]
 refine GQ.ext2 ?_ ?_<;>(simp only [gmul]; grind)
end Go.Proofs.YtdiemgedlfnlmaaGreat
end
section
namespace Go.Proofs.YtdiemgedlfnlmaaGreat.Y
open Go Go.RowKit
set_option maxRecDepth 100000
theorem an_mem {w:World} {D1 D2:Thing} {xs:List Pl} (h:newHold w [D1,D2] xs):newHold w [anyT,anyT] xs:=by
 match xs,h with
 | [p,q],h=>exact ⟨an_of D1.st h.1,an_of D2.st h.2.1,trivial⟩
theorem spT_any {w:World} {p:Pp} {xs:List Pl} (h:newHold w (spT p) xs):newHold w [anyT,anyT] xs:=by
 rcases p with _ | ⟨_ | _,_ | _⟩ | _<;>exact an_mem h
def sSpotW (p:Pp) {r:Bool} (hr:p.B=r):Spec Tryz.prog :=
 ⟨150,Tryz.call150,[.one (.a (lsX p.w.C))],[],.tup [.a [.b (.v (.bool (spI p))),.b (.z 0 0),.b (.z 1 0)],.c (.b (.v (.bool r)))],[anyT,anyT],fun β w hh=>by
  rw [← hr]
  have h:=(sSpot p).ok β w hh
  rw [show (sSpot p).args=[.one (.a (lsX p.w.C))] from congrArg (fun l=>[SV.one (.a (lsX l))]) p.C_raw] at h
  exact h.mono fun e w' ⟨xs,h1,he,h2,h3⟩=>⟨xs,h1,he,spT_any h2,h3⟩,by kernel_rfl⟩
def sSpotP (p:Pt) (h:FitP p):Spec Tryz.prog :=
 ⟨150,Tryz.call150,[.one (.a (lsX p.w.C))],[],.tup [.a (pL 0 p),.c (.b (.v (.bool true)))],pM p,fun β w hh=>by
  cases p with
  | inf=>exact (sSpot .inf).ok β w hh
  | fin z =>
   refine ((sSpot (.fin (.ok z.re h.1) (.ok z.im h.2))).ok β w hh).mono fun e w' ⟨xs,h1,he,h2,h3⟩=>⟨xs,h1,he,?_,h3⟩
   have h4:newHold w' [ratT z.re,ratT z.im] xs:=h2
   match xs,h4 with
   | [a,b],h4=>exact ⟨(ratT z.re).imp _ _ h4.1,(ratT z.im).imp _ _ h4.2.1,trivial⟩,by kernel_rfl⟩
def eqEvPt {p q:Pt} {r:Bool} (h:ptB p q=r):Ev Tryz.prog:=eqEvP p.i q.i p.x p.y q.x q.y r h
def pt0:SC:=.a (.b (.v (.bool false))::lsX g0C)
structure Gp where
 a:Fr
 b:Fr
def Gp.C (g:Gp):SV:=.one (.a (rL g.a.r++rL g.b.r))
def Gp.B (g:Gp):Bool:=g.a.a.B&&g.b.a.B
abbrev tB' (t:Bool):SV:=.one (.c (.b (.v (.bool t))))
abbrev nI' (k:Int):SC:=.c (.b (.v (.int .i64 k)))
abbrev gS (z:GQ):SV:=.one (.a (lsX (gC z)))
end Go.Proofs.YtdiemgedlfnlmaaGreat.Y
end
section
namespace Go.Proofs.YtdiemgedlfnlmaaGreat
open Go.Proofs.YtdiemgedlfnlmaaGreat.Y
open Go Go.RowKit
set_option maxRecDepth 100000
abbrev svI (n:Int):SC:=.c (.b (.v (.int .i64 n)))
theorem sz_lit1 {n:Int} (h:n.natAbs<256):Fit (Rat.divInt n 1):=(Sz.small h).fit (by decide)
theorem fit_int {n m:Int} (h:n.natAbs<256) (k:m.natAbs<256):FitG (gint n m):=⟨sz_lit1 h,sz_lit1 k⟩
end Go.Proofs.YtdiemgedlfnlmaaGreat
end
section
namespace Go.Proofs.YtdiemgedlfnlmaaGreat.Y
open Go Go.RowKit
set_option maxRecDepth 100000
def frX (x:Rat) (h:Fit x):Fr:=⟨fR x,.ok x h,rfl⟩
def gpX (z:GQ) (h:FitG z):Gp:=⟨frX z.re h.1,frX z.im h.2⟩
inductive Gn where
 | ok (z:GQ) (h:FitG z)
 | no (g:Gp) (h:g.B=false)
def Gn.gp:Gn→Gp
 | .ok z h=>gpX z h
 | .no g _=>g
def Gn.x (g:Gn):R4:=g.gp.a.r
def Gn.y (g:Gn):R4:=g.gp.b.r
def Gn.B:Gn→Bool
 | .ok ..=>true
 | .no ..=>false
def Gn.z:Gn→GQ
 | .ok z _=>z
 | .no ..=>g0
noncomputable abbrev fA (x:Rat):List Lf:=[.b (.v (.bool (ansB x))),.b (.v (.string (ansS x))),.b (.v (.bool false)),.b (.v (.string (ansD x)))]
theorem fA_fit {x:Rat} (h:Fit x):fA x=fC x∧ansK x=0:=by
 unfold fA fC
 rw [(ansF_fit h).1,(ansF_fit h).2.1,(ansF_fit h).2.2.1]
 exact ⟨rfl,(ansF_fit h).2.2.2⟩
def sR4Real (z:GQ) {b:Bool} (hb:decide (z.im=0)=b):Spec Tryz.prog :=
 Spec.auto Tryz.call296 [gS z] [] (tB' b) [] [(sR3Sign (x:=z.im) rfl).e,.eqv 6 (.bool (z.im.num.sign==0)) (.bool b) (sign_num _ hb)] [] 400 Tryz.func296 hmA (by kernel_rfl) (fun β=>by kernel_rfl)
def sGM (g:Gp) {r:Bool} (h:g.B=r):Spec Tryz.prog :=
 (sGMay g.a.a g.b.a).as [g.C] (tB' r) (by
  show [SV.one (.a (g.a.a.C++g.b.a.C))]=[SV.one (.a (rL g.a.r++rL g.b.r))]
  rw [show g.a.a.C=rL g.a.r from g.a.e,show g.b.a.C=rL g.b.r from g.b.e]) (congrArg tB' h)
abbrev KC:Nat:=1000000
structure RQ where
 a:Rat
 b:GQ
 c:Rat
structure RSz (k:Nat) (r:RQ):Prop where
 a:Sz k r.a
 b:GSz k r.b
 c:Sz k r.c
def rpow (r:RQ):Rat:=gnorm r.b-r.a*r.c
def rbyQ (i j:Bool) (r:RQ):Rat:=bif i then (bif j then r.b.im else r.b.re) else r.a
def rnm (r:RQ) (x:Rat):RQ:=⟨r.a*x⁻¹,gscale r.b x⁻¹,r.c*x⁻¹⟩
def FitC (m:RQ):Prop:=Fit m.a∧FitG m.b∧Fit m.c
section
variable {r:RQ} (h:RSz KC r) {i j:Bool} (hi:decide (r.a=0)=i) (hj:decide (r.b.re=0)=j) (h0:rbyQ i j r≠0)
include h hi hj h0
end
def rby (r:RQ):Rat:=rbyQ (decide (r.a=0)) (decide (r.b.re=0)) r
def rone (r:RQ):RQ:=rnm r (rby r)
section
variable {a:Rat} {b:GQ} {c:Rat} (ha:Fit a) (hb:FitG b) (hc:Fit c)
theorem one_sz:Sz 8 (Rat.divInt 1 1):=sz_lit 1 1 (by decide) (by decide) (by decide)
end
inductive Fn where
 | ok (x:Rat) (h:Fit x)
 | no (f:Fr) (h:f.a.B=false)
def Fn.fr:Fn→Fr
 | .ok x h=>frX x h
 | .no f _=>f
def Fn.r (a:Fn):R4:=a.fr.r
def Fn.B:Fn→Bool
 | .ok ..=>true
 | .no ..=>false
def alOf (ob:List Ob) (j:Nat):Nat:=match ob[j]? with
 | some (.al i _)=>i
 | _=>0
def dynRf {P:Program} (f:Nat→Nat→Nat→Nat→Ev P):Ev P:=.dyn (fun o _ _=>isCallB o) fun _ xs ob=>lit ob.length fun n=>lit (ptOf (xs.getD 0 undefS)) fun j=>lit (alOf ob j) fun i=>lit (ptOf (xs.getD 2 undefS)) fun k=>f i j n k
theorem one_at {g:Pl} {b:Nat} (h:g.one) (k:At1 g b):b=g.b:=((k.2 g.b).1 ((h.1 _).2 rfl)).symm
def eRQuo {x y:Rat} (i j n k:Nat) (hx:Sz KB x) (hy:Sz KB y) (h0:y≠0):Ev Tryz.prog:=.refill 172 Tryz.call172 (fun β=>#[.pointer ((β j).v 0),.pointer ((β j).v 0),.pointer ((β k).v 0)]) [(j,(ratT x).ob),(k,(ratT y).ob)] i j 4 n (ratT (x/y))
 (fun β w h hji ho hs=>by
  obtain ⟨a,ha,ka⟩:=needP (x:=x) (k:=j) h (by simp)
  obtain ⟨b,hb,kb⟩:=needP (x:=y) (k:=k) h (by simp)
  have e:=one_at ho (hji▸ha)
  subst e
  simp only [ha.1,hb.1]
  exact fillP ho (rQuo_any hs ka kb (hx.okR2 (by decide)) (hy.okR2 (by decide)) h0))
def rQuo {x y:Rat} (hx:Sz KB x) (hy:Sz KB y) (h0:y≠0):Ev Tryz.prog:=dynRf fun i j n k=>eRQuo i j n k hx hy h0
end Go.Proofs.YtdiemgedlfnlmaaGreat.Y
end
section
namespace Go.Proofs.YtdiemgedlfnlmaaGreat
open Go.RowKit
def pv (g:Nat):Value:=.pointer (some ⟨g,0,none⟩)
theorem ptr_info:(Tryz.prog.info? 269).map (fun i=>(i.zero,i.size,i.bytes))=some (some (.pointer none),1,8):=by kernel_rfl
def PRow (w:World) (base:Nat) (v:Value) (zs:List Nat):Prop:=w.ownsRow base 269 1 v zs.length (zs.map pv)
theorem PRow.nil (w:World) (base:Nat):PRow w base (.slice none 0 0) []:=by simpa [PRow] using World.ownsRow_nil w base 269 1
theorem PRow.alloc {w:World} {base:Nat} {v:Value} {zs:List Nat} (h:PRow w base v zs) (o:Obj):PRow (w.alloc o) base v zs:=World.ownsRow.alloc h o
theorem PRow.open_ {w:World} {base:Nat} {v:Value} {zs:List Nat} (h:PRow w base v zs) (h0:0<zs.length) :
  ∃ g cap,v=.slice (some ⟨g,0,none⟩) zs.length cap∧base≤g∧g<w.heap.size∧∀ i,i<zs.length→w.cell? ⟨g,i,none⟩=some (pv (zs.getD i 0)):=by
 obtain ⟨hlen,h2⟩:=h
 rcases h2 with ⟨rfl,h1⟩ | ⟨g,cap,cur,rfl,hg,hh,hc,_,hcs,ht⟩
 · omega
 · refine ⟨g,cap,rfl,hg,heap_some_lt hh,fun i hi=>?_⟩
   have h3:(cur.toList.take (zs.length*1))[i]?=(zs.map pv)[i]?:=by rw [ht]
   rw [List.getElem?_take_of_lt (by omega),List.getElem?_map,List.getElem?_eq_getElem hi] at h3
   rw [cell_of_row _ _ _ _ _ _ hh,← Array.getElem?_toList,h3,getD_in hi]
   rfl
theorem wpList_append_ptr {ops:Array Oper} {rest:List Oper} {o:Oper} {a:Act} {w:World} {Q:Exit→Act→World→Prop} (hg:o.guard=none) (s x:Operand)
  (ho:o.op=.call { callee:=.builtin .append,args:=#[s,x],argTypes:=#[287,287] })
  (base:Nat) (v:Value) (zs:List Nat) (hs:a.eval s=v) (hown:PRow w base v zs) (ad:Addr) (c:Nat) (y:Nat) (hx:a.eval x=.slice (some ad) 1 c) (hcell:w.cell? ad=some (pv y))
  (hlen:zs.length≤17179869184) (hbase:base≤w.heap.size)
  (hK:∀ v' w',PRow w' base v' (zs++[y])→Below base w w'→w.grownBy w' v.ownBlock→wpList Tryz.prog ops Q rest (a.put o.dst v') w'):wpList Tryz.prog ops Q (o::rest) a w:=by
 obtain ⟨i0,hi,hz0,hz1,hz2⟩:=info_parts ptr_info
 refine wpList_append_own w hg s x 287 ho base 269 i0 (.pointer none) 1 8 Tryz.underlying287 hi hz0 hz1 hz2 rfl (by decide) v zs.length (zs.map pv) hs hown ad 1 c [pv y] hx rfl ?_ ?_ (by simp only [maxLen]; omega) (by omega) hbase ?_
 · intro j u hj
   cases j with
   | zero =>
    simp at hj
    subst hj
    simpa [Addr.add] using hcell
   | succ j=>simp at hj
 · intro u hu
   simp at hu
   subst hu
   rfl
 · intro v' w' h1 h2 _
   refine hK v' w' (by simpa [PRow] using h1) ((Below.refl _ _).grown h2 hbase fun k hk=>?_) h2
   · rcases hown.2 with ⟨rfl,_⟩ | ⟨g,cap,cur,rfl,hb,_⟩
     · simp [Value.ownBlock] at hk
     · simp [Value.ownBlock] at hk
       omega
def OfPost (b:Bool) (s:ByteArray) (w:World) (e:Ending) (w':World):Prop :=
 ((WholeOk b s∧∃ h cap p,e=.returned (.tuple #[.slice (some ⟨h,0,none⟩) 1 cap,.bool true])∧w'.cell? ⟨h,0,none⟩=some (.pointer (some ⟨p,0,none⟩))∧IntAt w' p 0 (numOf b s)) ∨
  (¬ WholeOk b s∧e=.returned (.tuple #[.slice none 0 0,.bool false])))∧Below w.heap.size w w'
def OfPost2 (b:Bool) (s:ByteArray) (w:World) (e:Ending) (w':World):Prop :=
 ((WholeOk b s∧∃ h cap p,e=.returned (.tuple #[.slice (some ⟨h,0,none⟩) 1 cap,.bool true])∧w'.cell? ⟨h,0,none⟩=some (.pointer (some ⟨p,0,none⟩))∧IntAt w' p 0 (numOf b s)∧Hid (w.heap.size≤h∧w.heap.size≤p)) ∨
  (¬ WholeOk b s∧e=.returned (.tuple #[.slice none 0 0,.bool false])))∧Below w.heap.size w w'
set_option maxHeartbeats 1600000 in
set_option maxRecDepth 100000 in
theorem of_one2 {w0:World} {a cap:Nat} (b:Bool) (s:ByteArray) (hs:s.size≤4294967296) {T:TypeId} (ha:BoxAt w0 a #[.bool b,.string s] T) :
  Calls Tryz.prog 338 #[.slice (some ⟨a,0,none⟩) 1 cap] w0 (OfPost2 b s w0):=by
 have hcv:=fun (w:World)=>run_bytes_of_string (P:=Tryz.prog) w 9 245 5 s Tryz.underlying9 Tryz.underlying245 Tryz.underlying5
 have HS:=Lib.hid hs
 have HS2:Hid (s.size≤maxLen):=by unfold Hid maxLen; omega
 have HX:=Lib.hid ha
 have hc0:=ha.cell 0 (.bool b) rfl
 have hc1:=ha.cell 1 (.string s) rfl
 clear hs ha
 go_enter Tryz.func338,Tryz.ntmps338
 go_wp2
 go_loopw [4,10] (fun v i wr=>Below w0.heap.size w0 wr∧((v=.slice none 0 0∧i=.int .i64 0)∨(WholeOk b s∧i=.int .i64 1∧∃ h cap p,v=.slice (some ⟨h,0,none⟩) 1 cap∧wr.cell? ⟨h,0,none⟩=some (.pointer (some ⟨p,0,none⟩))∧IntAt wr p 0 (numOf b s)∧Hid (w0.heap.size≤h∧w0.heap.size≤p)))) (fun _ i _=>1-(intOf i).toNat)
 case atStart=>exact ⟨Below.refl _ _,.inl ⟨rfl,rfl⟩⟩
 case round =>
  obtain ⟨hb,h | h⟩:=hrel
  · obtain ⟨rfl,rfl⟩:=h
    have HBR:=Lib.hid hb
    have hd0:=(HX.out.on hb).cell 0 (.bool b) rfl
    have hd1:=(HX.out.on hb).cell 1 (.string s) rfl
    have HN:=Lib.hid (BoxAt.new wr #[.bool b,.string s] 23)
    have HBN:=Lib.hid (below_new wr (.cells #[.bool b,.string s] 23))
    clear hb hc0 hc1
    go_wp2_with fail
    refine (Check_any b s HS2.out).mono ?_
    rintro e w1 ⟨k,rfl,hk,hb⟩
    have HB1:=Lib.hid ((HBR.out.trans (HBN.out.mono HBR.out.size)).trans (hb.mono (Nat.le_trans HBR.out.size HBN.out.size)))
    have HN1:=Lib.hid (HN.out.on hb)
    have hl1:wr.heap.size<w1.heap.size:=HN1.out.lt
    clear hb hd0 hd1
    by_cases ho:WholeOk b s
    · obtain rfl:k=0:=hk.elim (fun h=>h.1) (fun h=>absurd ho h.2)
      have HO:=Lib.hid ho
      have hn0:=HN1.out.cell 0 (.bool b) rfl
      have hn1:=HN1.out.cell 1 (.string s) rfl
      clear hk ho
      go_wp2_with fail
      generalize hW2:w1.alloc (.cells #[.bool false,.slice none 0 0] 186)=W2
      have hi:IntAt W2 w1.heap.size 0 0:=by rw [← hW2]; exact IntAt.new _
      have hx:BoxAt W2 wr.heap.size #[.bool b,.string s] 23:=by rw [← hW2]; exact HN1.out.on (below_new _ _)
      have hb:Below w1.heap.size w1 W2:=by rw [← hW2]; exact below_new _ _
      have hsz:w1.heap.size+1=W2.heap.size:=by rw [← hW2]; simp
      have hby:=byt_row (W:=W2) s (grownCap W2 s.size 0 5) (grownCap W2 s.size 0 5) (w1.heap.size+1) ((bytesRow s (grownCap W2 s.size 0 5)).size,(bytesRow s (grownCap W2 s.size 0 5)).size+1) hsz
      have hbl:=below_row W2 (bytesRow s (grownCap W2 s.size 0 5)) 5 ((bytesRow s (grownCap W2 s.size 0 5)).size,(bytesRow s (grownCap W2 s.size 0 5)).size+1)
      clear hW2
      generalize grownCap W2 s.size 0 5=c at hby hbl ⊢
      generalize (W2.alloc (.cells (bytesRow s c) 5 ((bytesRow s c).size,(bytesRow s c).size+1))).drew=W3 at hby hbl ⊢
      refine (SetBytes_any (hi.on hbl).slot hby HS.out).mono ?_
      rintro e w4 ⟨rfl,h1,h2⟩
      rw [List.reverse_reverse] at h1
      have HT:=Lib.hid (h2.below (B:=w1.heap.size) (Nat.le_refl _) (by have:=hbl.size; omega))
      have HB4:=Lib.hid ((hb.trans (hbl.mono hb.size)).trans HT.out)
      have hd0:w4.cell? ⟨wr.heap.size,0,none⟩=some (.bool b):=by rw [HB4.out.cell (by simp; omega)]; exact HN1.out.cell 0 _ rfl
      have HI:=Lib.hid h1
      have HBB:=Lib.hid (HB1.out.trans (HB4.out.mono HB1.out.size))
      clear h1 h2 hi hx hb hsz hby hbl hn0 hn1
      cases b
      · have HV:Hid (IntAt w4 w1.heap.size 0 (numOf false s)):=by
         have:=HI.out
         simpa [Hid,numOf,sg,num] using this
        go_wp2_with (at_builtin; refine wpList_append_ptr rfl (.tmp 32) (.tmp 34) rfl w0.heap.size _ [] rfl ((PRow.nil _ _).alloc _) ⟨w4.heap.size,0,none⟩ 1 w1.heap.size rfl (cell_new0 _ _ _) ?_ ?_ ?_)
        · exact Nat.zero_le _
        · have:=HBB.out.size; simp; omega
        intro v' w6 hrow hb6 hgr
        obtain ⟨h,cap2,rfl,hge,hlt,hcc⟩:=hrow.open_ (by simp)
        have HG:Hid (w0.heap.size≤h∧w0.heap.size≤w1.heap.size):=⟨hge,HB1.out.size⟩
        clear hge
        have HC:=Lib.hid (hcc 0 (by simp))
        have HB6:=Lib.hid ((HBB.out.trans ((below_new w4 (.cells #[.pointer (some ⟨w1.heap.size,0,none⟩)] 269)).mono HBB.out.size)).trans hb6)
        have HV6:=Lib.hid ((HV.out.on (below_new w4 (.cells #[.pointer (some ⟨w1.heap.size,0,none⟩)] 269))).on (Below.grown (Below.refl _ _) hgr (Nat.le_refl _) (fun k hk=>by simp [Value.ownBlock] at hk)))
        clear hrow hb6 hgr hcc
        go_wp2
        go_roundw
        case rel=>exact ⟨HB6.out,.inr ⟨HO.out,by go_num,h,cap2,_,rfl,HC.out,HV6.out,HG⟩⟩
        case measure=>simp [intOf]
      · go_wp2_with fail
        refine (neg_any HI.out.slot HI.out).mono ?_
        rintro e w5 ⟨rfl,h1,h2⟩
        have HV:Hid (IntAt w5 w1.heap.size 0 (numOf true s)):=by
         have:=h1
         simpa [Hid,numOf,sg,num] using this
        have HB5:=Lib.hid (HBB.out.trans (h2.below (B:=w0.heap.size) (by have:=HB1.out.size; omega) HBB.out.size))
        clear h1 h2 hd0
        go_wp2_with (at_builtin; refine wpList_append_ptr rfl (.tmp 32) (.tmp 34) rfl w0.heap.size _ [] rfl ((PRow.nil _ _).alloc _) ⟨w5.heap.size,0,none⟩ 1 w1.heap.size rfl (cell_new0 _ _ _) ?_ ?_ ?_)
        · exact Nat.zero_le _
        · have:=HB5.out.size; simp; omega
        intro v' w6 hrow hb6 hgr
        obtain ⟨h,cap2,rfl,hge,hlt,hcc⟩:=hrow.open_ (by simp)
        have HG:Hid (w0.heap.size≤h∧w0.heap.size≤w1.heap.size):=⟨hge,HB1.out.size⟩
        clear hge
        have HC:=Lib.hid (hcc 0 (by simp))
        have HB6:=Lib.hid ((HB5.out.trans ((below_new w5 (.cells #[.pointer (some ⟨w1.heap.size,0,none⟩)] 269)).mono HB5.out.size)).trans hb6)
        have HV6:=Lib.hid ((HV.out.on (below_new w5 (.cells #[.pointer (some ⟨w1.heap.size,0,none⟩)] 269))).on (Below.grown (Below.refl _ _) hgr (Nat.le_refl _) (fun k hk=>by simp [Value.ownBlock] at hk)))
        clear hrow hb6 hgr hcc
        go_wp2
        go_roundw
        case rel=>exact ⟨HB6.out,.inr ⟨HO.out,by go_num,h,cap2,_,rfl,HC.out,HV6.out,HG⟩⟩
        case measure=>simp [intOf]
    · obtain rfl:k=2:=hk.elim (fun h=>absurd h.2 ho) (fun h=>h.1)
      have HO:=Lib.hid ho
      clear hk ho
      go_wp2
      go_ret2
      exact ⟨.inr ⟨HO.out,rfl⟩,HB1.out⟩
  · obtain ⟨ho,rfl,h,cap2,p,rfl,hc,hi,HG⟩:=h
    have HO:=Lib.hid ho
    have HC:=Lib.hid hc
    have HI:=Lib.hid hi
    have HB:=Lib.hid hb
    clear ho hc hi hb hc0 hc1
    go_wp2
    go_ret2
    exact ⟨.inl ⟨HO.out,h,cap2,p,rfl,HC.out,HI.out,HG⟩,HB.out⟩
theorem of_one {w0:World} {a cap:Nat} (b:Bool) (s:ByteArray) (hs:s.size≤4294967296) {T:TypeId} (ha:BoxAt w0 a #[.bool b,.string s] T) :
  Calls Tryz.prog 338 #[.slice (some ⟨a,0,none⟩) 1 cap] w0 (OfPost b s w0) :=
 (of_one2 b s hs ha).mono fun e w' ⟨h,hb⟩=>⟨h.imp (fun ⟨ho,h,cap,p,h1,h2,h3,_⟩=>⟨ho,h,cap,p,h1,h2,h3⟩) id,hb⟩
theorem fracV_num {b c:Bool} {s t:ByteArray} {x:Rat} (h:FracParts b s c t x):WholeOk b s∧numOf b s=x.num:=by
 have h1:=(isFrac_parts h.isFrac).1
 obtain ⟨rfl,rfl,_,_⟩:=agg4 h.val
 exact ⟨h1,numOf_mag _⟩
theorem fracV_inj {x y:Rat} (h:fracV x=fracV y):x=y:=by
 obtain ⟨h1,h2,_,h4⟩:=agg4 h
 have e1:x.num=y.num:=sg_inj h1 (mag_inj h2)
 have e2:x.den=y.den:=mag_inj h4
 exact Rat.ext e1 e2
theorem sz_i64 {n:Int} (h : -9223372036854775808≤n∧n≤9223372036854775807):sz n≤8:=by
 rw [sz_le]
 have:n.natAbs≤9223372036854775808:=by omega
 exact Nat.lt_of_le_of_lt this (by decide)
theorem okn_i64 {n:Int} (h : -9223372036854775808≤n∧n≤9223372036854775807):Okn n:=okn_size (Nat.le_trans (sz_i64 h) (by decide))
set_option maxHeartbeats 1600000 in
set_option maxRecDepth 100000 in
theorem WText_any {w0:World} (b:Bool) (s:ByteArray) (hs:s.size≤4294967296) :
  Calls Tryz.prog 257 #[.agg #[.bool b,.string s]] w0 fun e w'=>∃ u k,e=.returned (.tuple #[.string u,.int .i64 k])∧(WholeOk b s∧u=textN (numOf b s)∧k=0∨¬ WholeOk b s∧u=⟨#[]⟩∧k=2)∧Below w0.heap.size w0 w':=by
 have HS:=Lib.hid hs
 have h1:=below_new w0 (.cells #[.bool b,.string s] 23)
 have h2:=below_new (w0.alloc (.cells #[.bool b,.string s] 23)) (.cells #[.bool b,.string s] 23)
 have HB:=Lib.hid (h1.trans (h2.mono h1.size))
 have HX:=Lib.hid (BoxAt.new_at (w:=w0.alloc (.cells #[.bool b,.string s] 23)) #[.bool b,.string s] 23 (size_alloc w0 _).symm)
 clear hs h1 h2
 go_enter Tryz.func257,Tryz.ntmps257
 go_wp2_with fail
 refine (of_one b s HS.out HX.out).mono ?_
 rintro e w1 ⟨h,hb⟩
 have HB1:=Lib.hid (HB.out.trans (hb.mono HB.out.size))
 clear hb
 rcases h with ⟨ho,g,cap,p,rfl,hc,hi⟩ | ⟨ho,rfl⟩
 · have HO:=Lib.hid ho
   have HI:=Lib.hid hi
   have KT:Hid (Okt (numOf b s)):=by
    have h3:(mag (numOf b s).natAbs).size≤16384:=by rw [(numOf_ok ho).2.1]; exact ho.2
    have:=wl_size h3
    unfold Hid Okt
    omega
   clear ho hi
   go_wp2_with fail
   refine (String_any HI.out KT.out).mono ?_
   rintro e w2 ⟨rfl,hb⟩
   have HB2:=Lib.hid (HB1.out.trans (hb.mono HB1.out.size))
   clear hb hc
   go_wp2
   go_ret2
   exact ⟨_,_,rfl,.inl ⟨HO.out,rfl,rfl⟩,HB2.out⟩
 · have HO:=Lib.hid ho
   clear ho
   go_wp2
   go_ret2
   exact ⟨_,_,rfl,.inr ⟨HO.out,rfl,rfl⟩,HB1.out⟩
theorem textN_len (n:Int):(textN n).size≤32*(dig n.natAbs).length+1:=by
 rw [textN_size]
 unfold txt
 have:=dd_len_words n.natAbs
 split
 · simp
 · rw [List.length_reverse,List.length_append]
   split<;>simp<;>omega
theorem textN_small {n:Int} (h:(mag n.natAbs).size≤16384):(textN n).size≤200000:=by
 have h1:=textN_len n
 have h2:=wl_size h
 omega
def textQ (x:Rat):ByteArray:=if x.den=1 then textN x.num else textN x.num++(⟨#[47]⟩++textN (x.den:Int))
def TextAns (va:Value) (u:ByteArray) (k:Int):Prop:=(∃ x,Fit x∧va=fracV x∧u=textQ x∧k=0)∨(¬ IsFrac va∧u=⟨#[]⟩∧k=2)
theorem parts_den {b c:Bool} {s t:ByteArray} {x:Rat} (h:FracParts b s c t x):c=false∧t=mag x.den∧WholeOk false t∧numOf false t=(x.den:Int):=by
 have h2:=(isFrac_parts h.isFrac).2.1
 obtain ⟨rfl,rfl,rfl,rfl⟩:=agg4 h.val
 refine ⟨rfl,rfl,h2,?_⟩
 have:=numOf_mag (x.den:Int)
 rwa [show decide ((x.den:Int)<0)=false by simp,Int.natAbs_natCast] at this
set_option maxHeartbeats 3200000 in
set_option maxRecDepth 100000 in
theorem FText_any {w0:World} (b c:Bool) (s t:ByteArray) (hs:s.size≤maxLen) (ht:t.size≤maxLen) :
  Calls Tryz.prog 123 #[.agg #[.bool b,.string s,.bool c,.string t]] w0 fun e w'=>∃ u k,e=.returned (.tuple #[.string u,.int .i64 k])∧TextAns (.agg #[.bool b,.string s,.bool c,.string t]) u k∧Below w0.heap.size w0 w':=by
 have HS:=Lib.hid hs
 have HT:=Lib.hid ht
 have HW0:=Lib.hid (below_new w0 (.cells #[.bool b,.string s,.bool c,.string t] 25))
 have HX0:=Lib.hid (BoxAt.new w0 #[.bool b,.string s,.bool c,.string t] 25)
 clear hs ht
 go_enter Tryz.func123,Tryz.ntmps123
 go_wp2_with fail
 refine (May_any b c s t HS.out HT.out).mono ?_
 rintro e w1 ⟨r,rfl,hr,hb⟩
 have HX1:=Lib.hid (HX0.out.on hb)
 have HW1:=Lib.hid (HW0.out.trans (hb.mono HW0.out.size))
 have HR:=Lib.hid hr
 clear hb hr
 cases r
 · go_wp2
   go_ret2
   exact ⟨_,_,rfl,.inr ⟨fun h=>Bool.noConfusion (HR.out.2 h),rfl,rfl⟩,HW1.out⟩
 obtain ⟨x,hx⟩:=parts_of (by first | exact HR.out.1 rfl | exact HR.out.1 trivial)
 have HX:=Lib.hid hx
 obtain ⟨rfl,ht2,ho2,hn2⟩:=parts_den hx
 have HT2:=Lib.hid ht2
 have HO2:=Lib.hid ho2
 have HN2:=Lib.hid hn2
 have hc0:=HX1.out.cell 0 (.bool b) rfl
 have hc1:=HX1.out.cell 1 (.string s) rfl
 clear hx HR ht2 ho2 hn2
 go_wp2_with fail
 refine (WText_any b s HX.out.hs).mono ?_
 rintro e w2 ⟨un,k,rfl,hu,hb⟩
 have HU:Hid (un=textN x.num):=by
  obtain ⟨h1,h2⟩:=fracV_num HX.out
  rcases hu with h | h
  · rw [← h2]; exact h.2.1
  · exact absurd h1 h.1
 have HX2:=Lib.hid (HX1.out.on hb)
 have HW2:=Lib.hid (HW1.out.trans (hb.mono HW1.out.size))
 clear hu hb hc0 hc1
 go_wp2
 refine wp_region_acts 4 (fun w'=>Below w0.heap.size w0 w'∧BoxAt w' w0.heap.size #[.bool b,.string s,.bool false,.string t] 25) (fun w w'=>Below w.heap.size w w') (fun i w v=>match i with
   | 0=>v=.pointer (some ⟨w0.heap.size,2,none⟩)
   | 1=>v=.agg #[.bool false,.string t]
   | 2=>∃ g,v=.pointer (some ⟨g,0,none⟩)∧IntAt w g 0 1
   | _=>∃ s',v=.agg #[.bool false,.string s']∧Hid (s'=mag 1)) (by kernel_rfl) (by kernel_rfl) (by kernel_rfl) ⟨HW2.out.drew,HX2.out⟩ (fun _ _=>(Below.refl _ _)) ?_ ⟨?_,?_,?_,?_,trivial⟩ ?_
 · intro i w1 w2 v hC hC2 hE hV
   match i with
   | 0=>exact hV
   | 1=>exact hV
   | 2=>obtain ⟨g,e,h⟩:=hV; exact ⟨g,e,h.on hE⟩
   | _+3=>exact hV
 · intro a' w' hag hC hd K hK
   have e1:a'.tmps.getD 1 undef=.pointer (some ⟨w0.heap.size,0,none⟩):=hag 1 rfl
   go_step
   exact hK _ _ hC ((Below.refl _ _)) rfl
 · intro a' w' hag hC hd K hK
   have e17:a'.tmps.getD 17 undef=.pointer (some ⟨w0.heap.size,2,none⟩):=hd.1
   have hc0:=hC.2.cell 2 (.bool false) rfl
   have hc1:=hC.2.cell 3 (.string t) rfl
   have HK:=Lib.hid (hK (.agg #[.bool false,.string t]) _ hC (Below.refl _ _) rfl)
   clear hK hC
   go_step
   exact HK.out
 · intro a' w' hag hC hd K hK
   go_step
   refine (NewInt_any (n:=1) (by decide)).mono ?_
   rintro e w2 ⟨g,rfl,hg,h1,h2⟩
   exact hK _ _ ⟨hC.1.trans (h2.mono hC.1.size),hC.2.on h2⟩ h2 ⟨_,rfl,h1⟩
 · intro a' w' hag hC hd K hK
   obtain ⟨g19,e19,h19⟩:=hd.1
   have e19:a'.tmps.getD 19 undef=.pointer (some ⟨g19,0,none⟩):=e19
   go_step
   refine (back_agg h19 (okn_i64 (by decide))).mono ?_
   rintro e w2 ⟨p,s',rfl,h1,h2,hb⟩
   have hp:p=false:=by rw [h1.out]; rfl
   subst hp
   exact hK _ _ ⟨hC.1.trans (hb.mono hC.1.size),hC.2.on hb⟩ hb ⟨s',rfl,h2⟩
 · intro u w' hC hall
   obtain ⟨u0,u1,u2,u3,_⟩:=hall
   have u0:u 0=.pointer (some ⟨w0.heap.size,2,none⟩):=u0
   have u1:u 1=.agg #[.bool false,.string t]:=u1
   obtain ⟨s20,eu3,hs20⟩:=u3
   have u3:u 3=.agg #[.bool false,.string s20]:=eu3
   simp only [fillR,List.take_succ_cons,List.take_zero,Act.put,List.setIfInBounds_toArray,List.set_cons_succ,List.set_cons_zero,Nat.zero_add,Nat.reduceAdd,u0,u1,u3]
   clear u0 u1 u3
   have HC:=Lib.hid hC.1
   have HX3:=Lib.hid hC.2
   clear hC
   by_cases hd:t.toList=s20.toList
   · have HD:Hid (x.den=1):=by
      have h1:=toList_inj.1 hd
      rw [HT2.out,hs20.out] at h1
      exact mag_inj h1
     go_wp2
     go_ret2
     exact ⟨_,_,rfl,.inl ⟨x,HX.out.fit,HX.out.val,by rw [textQ,if_pos HD.out]; exact HU.out,rfl⟩,HC.out⟩
   · have HD:Hid (¬ x.den=1):=fun e=>hd (by rw [HT2.out,hs20.out,e])
     have hc0:=HX3.out.cell 2 (.bool false) rfl
     have hc1:=HX3.out.cell 3 (.string t) rfl
     go_wp2_with fail
     refine (WText_any false t HX.out.ht).mono ?_
     rintro e w4 ⟨u2,k2,rfl,hu,hb⟩
     have HU2:Hid (u2=textN (x.den:Int)):=by
      rcases hu with h | h
      · rw [← HN2.out]; exact h.2.1
      · exact absurd HO2.out h.1
     have HB:=Lib.hid (HC.out.trans (hb.mono HC.out.size))
     have hu1:un.size≤200000:=by rw [HU.out]; exact textN_small (Nat.le_trans HX.out.fit.1 (by decide))
     have hu2:u2.size≤200000:=by rw [HU2.out]; exact textN_small (by rw [Int.natAbs_natCast]; exact Nat.le_trans HX.out.fit.2 (by decide))
     have hu3:((⟨#[47]⟩:ByteArray)++u2).size≤200001:=by rw [ByteArray.size_append]; show 1+u2.size≤_; omega
     clear hu hb hc0 hc1
     go_wp2
     go_ret2
     exact ⟨_,_,rfl,.inl ⟨x,HX.out.fit,HX.out.val,by rw [textQ,if_neg HD.out,← HU.out,← HU2.out],rfl⟩,HB.out⟩
end Go.Proofs.YtdiemgedlfnlmaaGreat
end
section
namespace Go.Proofs.YtdiemgedlfnlmaaGreat.Y
open Go Go.RowKit
set_option maxRecDepth 100000
def sFText {x:Rat} (h:Fit x) {u:ByteArray} (hu:textQ x=u):Spec Tryz.prog :=
 ⟨123,Tryz.call123,[.one (.a (fC x))],[],.tup [.c (.b (.v (.string u))),nI' 0],[],fun β w hh=>by
  refine (FText_any (decide (x.num<0)) false (mag x.num.natAbs) (mag x.den) (Nat.le_trans h.1 (by decide)) (Nat.le_trans h.2 (by decide))).mono ?_
  rintro e w' ⟨v,k,rfl,⟨y,_,hy,rfl,rfl⟩ | ⟨hn,_⟩,hb⟩
  · obtain rfl:x=y:=fracV_inj hy
    rw [hu]
    exact ⟨[],(fun _ h=>by cases h),rfl,trivial,hb⟩
  · exact absurd (fitF x h) hn,by kernel_rfl⟩
theorem no_frac:¬ IsFrac (rawV false false ⟨#[]⟩ ⟨#[]⟩):=fun h=>by
 unfold rawV at h
 rw [isFrac_doc] at h
 exact absurd h.2.2.2.1 (by decide)
def noFr:Fr:=⟨r40,.no false false ⟨#[]⟩ ⟨#[]⟩ no_frac (by decide) (by decide),rfl⟩
abbrev KD5:Nat:=5000
theorem sq_sum {x y:Rat} (h:x*x+y*y=0):x=0∧y=0:=by
 have hn:∀ z:Rat,0≤z*z:=fun z=>by
  rcases Rat.le_total (a:=0) (b:=z) with h | h
  · exact Rat.mul_nonneg h h
  · have:=Rat.mul_nonneg (a:=-z) (b:=-z) (by grind) (by grind)
    grind
 have h1:=hn x
 have h2:=hn y
 have e1:x*x=0:=by grind
 have e2:y*y=0:=by grind
 exact ⟨by rcases Rat.mul_eq_zero.1 e1 with h | h<;>exact h,by rcases Rat.mul_eq_zero.1 e2 with h | h<;>exact h⟩
def sR3Small (n m:Int) (hn : -9223372036854775808≤n∧n≤9223372036854775807) (hm : -9223372036854775808≤m∧m≤9223372036854775807) (h0:m≠0) (sn:sz n≤1000000000) (sm:sz m≤1000000000):Spec Tryz.prog :=
 Spec.auto Tryz.call146 [.one (svI n),.one (svI m)] [] (.one (.a (fC (Rat.divInt n m)))) [] [eWOf n hn,eWOf m hm,eFOf sn sm h0] [] 400 Tryz.func146 hmA (by kernel_rfl) (fun β=>by kernel_rfl)
structure MayC (r:RQ):Prop where
 fit:FitC r
 pow:decide ((rpow r).num.sign≤0)=false
 one:rone r=r
theorem div_sz {i j:Nat} {x y:Rat} (hx:Sz i x) (hy:Sz j y) (h0:y≠0):Sz (i+j) (x/y):=by
 rw [Rat.div_def]
 exact hx.mul (hy.inv h0)
theorem n2_sz:Sz 8 (Rat.divInt 2 1):=sz_lit 2 1 (by decide) (by decide) (by decide)
def wgQ (p:Pt):Rat:=gnorm (byA p)+gnorm (byB p)
section
variable {p q:Pt} (hp:PSz 1024 p) (hq:PSz 1024 q)
theorem byA1 {p:Pt} (hp:PSz 1024 p):GSz 1024 (byA p):=byA_sz hp (by decide)
theorem byB1 (p:Pt):GSz 1024 (byB p):=byB_sz (by decide)
include hp in
theorem wg_sz:Sz 10000 (wgQ p):=((byA1 hp).norm.add (byB1 p).norm).mono (by decide)
noncomputable def sWeigh:Spec Tryz.prog :=
 ⟨173,Tryz.call173,[pV 0 p],pM p,rV 2,[ratT (wgQ p)],fun β w hh=>by
  cases p with
  | inf=>exact spec_auto (args:=[pV 0 .inf]) (obs:=pM .inf) (res:=rV 2) (news:=[ratT (wgQ .inf)]) (evs:=[(sBy .inf).e,mkR,(sNorm ((byA1 hp).mono (by decide))).e,(sNorm ((byB1 .inf).mono (by decide))).e,fAdd ((byA1 hp).norm.mono (by decide)) ((byB1 .inf).norm.mono (by decide))]) (Ns:=[(2,7)]) (m:=800) Tryz.func173 hmA (fun β=>by kernel_rfl) (by kernel_rfl) β w hh
  | fin z=>exact spec_auto (args:=[pV 0 (.fin z)]) (obs:=pM (.fin z)) (res:=rV 2) (news:=[ratT (wgQ (.fin z))]) (evs:=[(sBy (.fin z)).e,mkR,(sNorm ((byA1 hp).mono (by decide))).e,(sNorm ((byB1 (.fin z)).mono (by decide))).e,fAdd ((byA1 hp).norm.mono (by decide)) ((byB1 (.fin z)).norm.mono (by decide))]) (Ns:=[(2,7)]) (m:=800) Tryz.func173 hmA (fun β=>by kernel_rfl) (by kernel_rfl) β w hh,by cases p<;>kernel_rfl⟩
abbrev r41:Rat:=Rat.divInt 4 1
theorem r41_sz:Sz 1 r41:=Sz.small (by decide)
include hp hq in
theorem gac_sz:GSz 9000 (gacross p q):=(gacross_sz hp hq (by decide)).mono (by decide)
include hp hq in
theorem gan_sz:Sz 37000 (gnorm (gacross p q)):=(gac_sz hp hq).norm.mono (by decide)
include hp hq in
theorem wgp_sz:Sz 20000 (wgQ p*wgQ q):=((wg_sz hp).mul (wg_sz hq)).mono (by decide)
def chQ (p q:Pt):Rat:=r41*gnorm (gacross p q)/(wgQ p*wgQ q)
theorem gn_nn (z:GQ):0≤gnorm z:=by
 have h:∀ x:Rat,0≤x*x:=fun x=>by
  rcases Rat.le_total (a:=0) (b:=x) with h | h
  · exact Rat.mul_nonneg h h
  · have:=Rat.mul_nonneg (a:=-x) (b:=-x) (by grind) (by grind)
    grind
 have h1:=h z.re
 have h2:=h z.im
 unfold gnorm
 grind
theorem wg_ne (p:Pt):wgQ p≠0:=by
 intro e
 have h1:=gn_nn (byA p)
 have h2:=gn_nn (byB p)
 unfold wgQ at e
 cases p with
 | inf =>
  have e1:gnorm (byA .inf)=1:=of_decide_eq_true (by kernel_rfl:decide (gnorm (byA .inf)=1)=true)
  rw [e1] at e h1
  grind
 | fin z =>
  have e1:gnorm (byB (.fin z))=1:=of_decide_eq_true (by kernel_rfl:decide (gnorm (byB (.fin ⟨0,0⟩))=1)=true)
  rw [e1] at e h2
  grind
theorem wgp_ne (p q:Pt):wgQ p*wgQ q≠0:=fun e=>(Rat.mul_eq_zero.1 e).elim (wg_ne p) (wg_ne q)
noncomputable def spChE:List (Ev Tryz.prog) :=
 [mkR,nNew 4 1 (by decide) (by decide) (by decide),(sAcross (hp.mono (by decide)) (hq.mono (by decide))).e,(sNorm ((gac_sz hp hq).mono (by decide))).e,fMul (r41_sz.mono (by decide)) ((gan_sz hp hq).mono (by decide)),
  mkR,(sWeigh hp).e,(sWeigh hq).e,fMul ((wg_sz hp).mono (by decide)) ((wg_sz hq).mono (by decide)),rQuo ((r41_sz.mul (gan_sz hp hq)).mono (by decide)) ((wgp_sz hp hq).mono (by decide)) (wgp_ne p q)]
noncomputable def sSpChord:Spec Tryz.prog :=
 ⟨152,Tryz.call152,[pV 0 p,pV 2 q],pM p++pM q,rV 4,[ratT (chQ p q)],fun β w hh=>by
  cases p<;>cases q<;>exact spec_auto (args:=[pV 0 _,pV 2 _]) (obs:=pM _++pM _) (res:=rV 4) (news:=[ratT (chQ _ _)]) (evs:=spChE hp hq) (Ns:=[(1,8),(2,8)]) (m:=800) Tryz.func152 hmA (fun β=>by kernel_rfl) (by kernel_rfl) β w hh,by cases p<;>cases q<;>kernel_rfl⟩
end
end Go.Proofs.YtdiemgedlfnlmaaGreat.Y
end
section
namespace Go.Proofs.YtdiemgedlfnlmaaGreat.Y
open Go Go.RowKit
theorem spec_yes {P:Program} (S:Spec P) (ho:S.obs=[]) (hr:S.res=.one (.c (.b (.v (.bool true))))) (w:World):Calls P S.f (S.args.map (SV.den idE)).toArray w fun e w'=>e=.returned (.bool true)∧Below w.heap.size w w':=by
 refine (S.ok idE w (by rw [ho]; intro k t h; simp at h)).mono ?_
 rintro e w' ⟨xs,_,rfl,_,hb⟩
 exact ⟨by rw [hr]; rfl,hb⟩
end Go.Proofs.YtdiemgedlfnlmaaGreat.Y
end
section
namespace Go.Proofs.YtdiemgedlfnlmaaGreat.Y
open Go Go.RowKit
set_option maxRecDepth 100000
structure CkNo (l:List Lf):Prop where
 cl:l.all (Lf.of fun _=>false)=true
 prog:∀ (β:Env) (w:World),Calls Tryz.prog 105 (([.one (.a l)]:List SV).map (SV.den β)).toArray w fun e w'=>e=.returned (.int .i64 2)∧Below w.heap.size w w'
 ref:∀ (β:Env) (w:World),Calls Tryz.prog 103 (([.one (.a l)]:List SV).map (SV.den β)).toArray w fun e w'=>e=.returned (.int .i64 2)∧Below w.heap.size w w'
inductive Cp where
 | ok (r:RQ) (h:MayC r)
 | no (a b b' c:R4) (h:CkNo (rL a++(rL b++rL b')++rL c))
def Cp.B:Cp→Bool
 | .ok ..=>true
 | .no ..=>false
def Cp.a:Cp→R4
 | .ok r _=>fR r.a
 | .no a _ _ _ _=>a
def Cp.b:Cp→R4
 | .ok r _=>fR r.b.re
 | .no _ b _ _ _=>b
def Cp.c:Cp→R4
 | .ok r _=>fR r.c
 | .no _ _ _ c _=>c
abbrev fcS (x:Rat):SV:=.one (.a (fC x))
abbrev fvV (f:Nat):SV:=.one (.c (.f (.func f) [] []))
abbrev PTT:TypeId:=39
abbrev pw (p:Pt):List Lf:=rawC p.i p.x p.y
abbrev pwS (p:Pp):SV:=.one (.a (lsX p.w.C))
section
variable {p q:Pt} (hp:FitP p) (hq:FitP q)
include hp hq in
theorem chQ_sz:Sz 60000 (chQ p q):=(div_sz (r41_sz.mul (gan_sz hp.sz hq.sz)) (wgp_sz hp.sz hq.sz) (wgp_ne p q)).mono (by decide)
noncomputable def sSChord:Spec Tryz.prog :=
 ⟨24,Tryz.call24,[svP p,svP q],[],.tup [.a (fA (chQ p q)),nI' (ansK (chQ p q))],[],fun β w hh=>by
  cases p<;>cases q<;>exact spec_auto (args:=[svP _,svP _]) (obs:=[]) (evs:=[(sSpotP _ hp).e,(sSpotP _ hq).e,(sSpChord hp.sz hq.sz).e,(sFrac ((chQ_sz hp hq).mono (by decide))).e]) (Ns:=[]) (m:=800) Tryz.func24 hmA (fun β=>by kernel_rfl) (by kernel_rfl) β w hh,by cases p<;>cases q<;>kernel_rfl⟩
end
noncomputable def sChkW (p:Pp) {b:Bool} (hb:p.B=b):Spec Tryz.prog :=
 ⟨282,Tryz.call282,[pwS p],[],.one (.c (.b (.v (.bool (!b))))),[],fun β w hh=>by
  have h:(sPMay p).args=[pwS p]:=congrArg (fun l=>[SV.one (.a l)]) p.C_raw
  subst hb
  cases e:p.B with
  | false=>exact spec_auto (args:=[pwS p]) (obs:=[]) (evs:=[((sPMay p).as [pwS p] (.one (.c (.b (.v (.bool false))))) h (by rw [← e]; rfl)).e]) (Ns:=[]) (m:=400) Tryz.func282 hmA (fun β=>by kernel_rfl) (by kernel_rfl) β w hh
  | true=>exact spec_auto (args:=[pwS p]) (obs:=[]) (evs:=[((sPMay p).as [pwS p] (.one (.c (.b (.v (.bool true))))) h (by rw [← e]; rfl)).e]) (Ns:=[]) (m:=400) Tryz.func282 hmA (fun β=>by kernel_rfl) (by kernel_rfl) β w hh,by kernel_rfl⟩
abbrev ck2F:SV:=fvV 282
abbrev rg (x:Rat):GQ:=⟨x,0⟩
def wy0 (f:RQ):GQ:=gadd (rg f.b.re) (gmul (rg f.b.im) (gint 0 1))
def wayQ (f:RQ):GQ:=gconj (wy0 f)
abbrev KI:Nat:=300
def cuN (l:RQ):Rat:=gnorm (wayQ l)
section
variable {l k:RQ} (hl:RSz KI l) (hk:RSz KI k) (h0:k.a≠0) (hn:cuN l≠0)
theorem mul_ne {x y:Rat} (hx:x≠0) (hy:y≠0):x*y≠0:=fun h=>(Rat.mul_eq_zero.1 h).elim hx hy
end
def rwQ (z:GQ):Rat:=gnorm z+Rat.divInt 1 1
theorem rw_ne (z:GQ):rwQ z≠0:=by
 have h:=gn_nn z
 have h1:(Rat.divInt 1 1:Rat)=1:=of_decide_eq_true (by kernel_rfl:decide ((Rat.divInt 1 1:Rat)=1)=true)
 unfold rwQ
 rw [h1]
 intro e
 grind
section
variable {z w:GQ} (hz:GSz 1024 z) (hw:GSz 1024 w)
include hz in
theorem rgn_sz:Sz 4200 (gnorm z):=hz.norm.mono (by decide)
include hz in
theorem rwQ_sz:Sz 4300 (rwQ z):=((rgn_sz hz).add one_sz).mono (by decide)
noncomputable def sR7Weight:Spec Tryz.prog :=
 Spec.auto Tryz.call154 [gS z] [] (fcS (rwQ z)) [] [(sR4Norm (hz.mono (by decide))).e,(sR3Int 1 (by decide)).e,(sR3Plus ((rgn_sz hz).mono (by decide)) (one_sz.mono (by decide))).e] [(1,4)] 400 Tryz.func154 hmA (by kernel_rfl) (fun β=>by kernel_rfl)
end
theorem i1v:(Rat.divInt 1 1:Rat)=1:=of_decide_eq_true (by kernel_rfl:decide ((Rat.divInt 1 1:Rat)=1)=true)
theorem i0v:(Rat.divInt 0 1:Rat)=0:=of_decide_eq_true (by kernel_rfl:decide ((Rat.divInt 0 1:Rat)=0)=true)
theorem wg_fin (z:GQ):wgQ (.fin z)=rwQ z:=by
 unfold wgQ rwQ byA byB gint gnorm
 dsimp only
 rw [i1v,i0v]
 grind
theorem pa_eq {p:Pt} (h:FitP p):SV.tup [.a (lsX (paC p)),.c (.b (.v (.int .i64 (paK p))))]=.tup [.a (pw p),nI' 0]:=by
 rw [paC_raw,(pa_fit h).1,(pa_fit h).2.1,(pa_fit h).2.2,paK_fit h]
def Iz (k:Nat) (x:Rat):Prop:=∃ u:Int,u.natAbs<256^k∧x=u
theorem Iz.mono {i k:Nat} {x:Rat} (h:Iz i x) (hk:i≤k):Iz k x:=by
 obtain ⟨u,h1,h2⟩:=h
 exact ⟨u,Nat.lt_of_lt_of_le h1 (Nat.pow_le_pow_right (by decide) hk),h2⟩
theorem Iz.mul {i j:Nat} {x y:Rat} (h:Iz i x) (k:Iz j y):Iz (i+j) (x*y):=by
 obtain ⟨u,h1,rfl⟩:=h
 obtain ⟨v,k1,rfl⟩:=k
 refine ⟨u*v,?_,(Rat.intCast_mul u v).symm⟩
 rw [Int.natAbs_mul,Nat.pow_add]
 exact Nat.mul_lt_mul'' h1 k1
theorem Iz.add {i:Nat} {x y:Rat} (h:Iz i x) (k:Iz i y):Iz (i+1) (x+y):=by
 obtain ⟨u,h1,rfl⟩:=h
 obtain ⟨v,k1,rfl⟩:=k
 refine ⟨u+v,?_,(Rat.intCast_add u v).symm⟩
 have:=Int.natAbs_add_le u v
 rw [Nat.pow_succ]
 omega
theorem Iz.neg {i:Nat} {x:Rat} (h:Iz i x):Iz i (-x):=by
 obtain ⟨u,h1,rfl⟩:=h
 exact ⟨-u,by rwa [Int.natAbs_neg],(Rat.intCast_neg u).symm⟩
theorem Iz.sub {i:Nat} {x y:Rat} (h:Iz i x) (k:Iz i y):Iz (i+1) (x-y):=by
 rw [Rat.sub_eq_add_neg]
 exact h.add k.neg
theorem iz_quo {k:Nat} {x y:Rat} (h:Iz k x) (k':Iz k y):Sz (k+1) (x*y⁻¹):=by
 obtain ⟨u,h1,rfl⟩:=h
 obtain ⟨v,k1,rfl⟩:=k'
 by_cases v0:v=0
 · subst v0
   rw [show ((0:Int):Rat)=0 from rfl,Rat.inv_zero,Rat.mul_zero]
   exact (sz_zero:Sz 1 0).mono (by omega)
 · have e:(u:Rat)*(v:Rat)⁻¹=Rat.divInt u v:=by rw [Rat.divInt_eq_div,Rat.div_def]
   rw [e]
   exact (sz_divInt v0 (sz_le.2 h1) (sz_le.2 k1)).mono (by omega)
theorem dn_iz {k:Nat} {x:Rat} (h:Sz k x):(Iz k (x.den:Rat)∧Iz k (x.num:Rat))∧(x.den:Rat)≠0∧x*(x.den:Rat)=x.num:=by
 have h1:x.num.natAbs<256^k:=sz_le.1 h.1
 have h2:((x.den:Int)).natAbs<256^k:=sz_le.1 h.2
 have h3:(x.den:Rat)≠0:=by
  intro e
  have:(x.den:Nat)=0:=by exact_mod_cast e
  exact x.den_nz this
 refine ⟨⟨⟨(x.den:Int),h2,rfl⟩,⟨x.num,h1,rfl⟩⟩,h3,?_⟩
 have e:=Rat.num_divInt_den x
 rw [Rat.divInt_eq_div] at e
 have e2:x=(x.num:Rat)/(x.den:Rat):=e.symm
 have e3:=Rat.div_mul_cancel (a:=(x.num:Rat)) h3
 rw [← e2] at e3
 exact e3
theorem gn_ne {w:GQ} (h:gzero w=false):gnorm w≠0:=by
 intro e
 have:=sq_sum (x:=w.re) (y:=w.im) e
 rw [gzero_iff.2 this] at h
 cases h
theorem iz2 {k:Nat} {z:GQ} (h:GSz k z):∃ D:Rat,D≠0∧Iz (k+k) D∧Iz (k+k) (z.re*D)∧Iz (k+k) (z.im*D):=by
 obtain ⟨⟨a1,b1⟩,c1,d1⟩:=dn_iz h.1
 obtain ⟨⟨a2,b2⟩,c2,d2⟩:=dn_iz h.2
 generalize (z.re.den:Rat)=p1 at *
 generalize (z.im.den:Rat)=p2 at *
 generalize (z.re.num:Rat)=q1 at *
 generalize (z.im.num:Rat)=q2 at *
 refine ⟨p1*p2,mul_ne c1 c2,a1.mul a2,?_,?_⟩
 · rw [show z.re*(p1*p2)=q1*p2 by rw [← d1]; grind]
   exact b1.mul a2
 · rw [show z.im*(p1*p2)=q2*p1 by rw [← d2]; grind]
   exact b2.mul a1
theorem quo_scale {x y s:Rat} (hy:y≠0) (hs:s≠0):x/y=(x*s)*(y*s)⁻¹:=by
 have h1:=Rat.mul_inv_cancel y hy
 have h2:=Rat.mul_inv_cancel s hs
 rw [Rat.inv_mul_rev,Rat.div_def]
 generalize y⁻¹=i at *
 generalize s⁻¹=j at *
 have:x*s*(j*i)=x*i*(s*j):=by grind
 rw [this,h2,Rat.mul_one]
theorem rw_iz {z:GQ} {D:Rat} {k:Nat} (hD:Iz k D) (h1:Iz k (z.re*D)) (h2:Iz k (z.im*D)):Iz (k+k+2) (rwQ z*(D*D)):=by
 have e:rwQ z*(D*D)=(z.re*D)*(z.re*D)+(z.im*D)*(z.im*D)+D*D:=by
  unfold rwQ gnorm
  rw [i1v]
  grind
 rw [e]
 exact ((h1.mul h1).add (h2.mul h2)).add ((hD.mul hD).mono (by omega))
def sInv1 (x y:GQ):Spec Tryz.prog :=
 Spec.auto Tryz.call163 [nV 0,nV 2] (gM x++gM y) (.tup [nA 2,nA 0]) [] [] [(1,7002003)] 400 Tryz.func163 hmA (by kernel_rfl) (fun β=>by kernel_rfl)
def sAcr1S (x y:GQ):Spec Tryz.prog :=
 Spec.auto Tryz.call164 [nV 0,nV 2] (gM x++gM y) (.tup [nA 4,nA 6]) (gT (gneg y)++gT (gconj x)) [(sNeg y).e,(sConj x).e] [(1,4)] 400 Tryz.func164 hmA (by kernel_rfl) (fun β=>by kernel_rfl)
abbrev infA:SV:=.tup [.a (.b (.v (.bool true))::g0C),nI' 0]
section
variable {p:Pt} (hp:FitP p)
include hp in
theorem gdv_sz (h0:gzero (byA p)=false):GSz 10000 (gdiv (byB p) (byA p)):=by
 have e:=(byB1 p).mul (byA1 hp.sz).conj
 exact (e.scale ((byA1 hp.sz).norm.inv (gn_ne h0))).mono (by decide)
noncomputable def mvI0 (h0:gzero (byA p)=true):List (Ev Tryz.prog):=[(sSpotP p hp).e,(sBy p).e,(sInv1 (byA p) (byB p)).e,(sZero h0).e,sInfinity.e]
noncomputable def mvI1 (h0:gzero (byA p)=false):List (Ev Tryz.prog):=[(sSpotP p hp).e,(sBy p).e,(sInv1 (byA p) (byB p)).e,(sZero h0).e,(sDiv ((byB1 p).mono (by decide)) ((byA1 hp.sz).mono (by decide)) h0).e,(sToldP (.fin (gdiv (byB p) (byA p))) ((gdv_sz hp h0).mono (by decide))).e]
noncomputable def sMovInv0 (h0:gzero (byA p)=true):Spec Tryz.prog :=
 ⟨158,Tryz.call158,[svP p,fvV 163],[],infA,[],fun β w hh=>by
  cases p<;>exact spec_auto (args:=[svP _,fvV 163]) (obs:=[]) (evs:=mvI0 hp h0) (Ns:=[]) (m:=800) Tryz.func158 hmA (fun β=>by kernel_rfl) (by kernel_rfl) β w hh,by cases p<;>kernel_rfl⟩
noncomputable def sMovInv (h0:gzero (byA p)=false):Spec Tryz.prog :=
 ⟨158,Tryz.call158,[svP p,fvV 163],[],.tup [.a (lsX (paC (.fin (gdiv (byB p) (byA p))))),.c (.b (.v (.int .i64 (paK (.fin (gdiv (byB p) (byA p)))))))],[],fun β w hh=>by
  cases p<;>exact spec_auto (args:=[svP _,fvV 163]) (obs:=[]) (evs:=mvI1 hp h0) (Ns:=[]) (m:=800) Tryz.func158 hmA (fun β=>by kernel_rfl) (by kernel_rfl) β w hh,by cases p<;>kernel_rfl⟩
end
def sNeg1S (x y:GQ):Spec Tryz.prog :=
 Spec.auto Tryz.call159 [nV 0,nV 2] (gM x++gM y) (.tup [nA 4,nA 2]) (gT (gneg x)) [(sNeg x).e] [(1,7003004)] 400 Tryz.func159 hmA (by kernel_rfl) (fun β=>by kernel_rfl)
def sConj1S (x y:GQ):Spec Tryz.prog :=
 Spec.auto Tryz.call161 [nV 0,nV 2] (gM x++gM y) (.tup [nA 4,nA 2]) (gT (gconj x)) [(sConj x).e] [(1,7003004)] 400 Tryz.func161 hmA (by kernel_rfl) (fun β=>by kernel_rfl)
section
variable {p:Pt} (hp:FitP p)
include hp in
theorem gdNeg_sz (h0:gzero (byB p)=false):GSz 10000 (gdiv (gneg (byA p)) (byB p)):=((((byA1 hp.sz).neg).mul (GSz.conj (byB1 p))).scale ((GSz.norm (byB1 p)).inv (gn_ne h0))).mono (by decide)
noncomputable def mvNeg0 (h0:gzero (byB p)=true):List (Ev Tryz.prog):=[(sSpotP p hp).e,(sBy p).e,(sNeg1S (byA p) (byB p)).e,(sZero h0).e,sInfinity.e]
noncomputable def mvNeg1 (h0:gzero (byB p)=false):List (Ev Tryz.prog):=[(sSpotP p hp).e,(sBy p).e,(sNeg1S (byA p) (byB p)).e,(sZero h0).e,(sDiv (((byA1 hp.sz).neg).mono (by decide)) ((byB1 p).mono (by decide)) h0).e,(sToldP (.fin (gdiv (gneg (byA p)) (byB p))) ((gdNeg_sz hp h0).mono (by decide))).e]
noncomputable def sMovNeg0 (h0:gzero (byB p)=true):Spec Tryz.prog :=
 ⟨158,Tryz.call158,[svP p,fvV 159],[],infA,[],fun β w hh=>by
  cases p<;>exact spec_auto (args:=[svP _,fvV 159]) (obs:=[]) (evs:=mvNeg0 hp h0) (Ns:=[]) (m:=800) Tryz.func158 hmA (fun β=>by kernel_rfl) (by kernel_rfl) β w hh,by cases p<;>kernel_rfl⟩
noncomputable def sMovNeg (h0:gzero (byB p)=false):Spec Tryz.prog :=
 ⟨158,Tryz.call158,[svP p,fvV 159],[],.tup [.a (lsX (paC (.fin (gdiv (gneg (byA p)) (byB p))))),.c (.b (.v (.int .i64 (paK (.fin (gdiv (gneg (byA p)) (byB p)))))))],[],fun β w hh=>by
  cases p<;>exact spec_auto (args:=[svP _,fvV 159]) (obs:=[]) (evs:=mvNeg1 hp h0) (Ns:=[]) (m:=800) Tryz.func158 hmA (fun β=>by kernel_rfl) (by kernel_rfl) β w hh,by cases p<;>kernel_rfl⟩
include hp in
theorem gdConj_sz (h0:gzero (byB p)=false):GSz 10000 (gdiv (gconj (byA p)) (byB p)):=((((byA1 hp.sz).conj).mul (GSz.conj (byB1 p))).scale ((GSz.norm (byB1 p)).inv (gn_ne h0))).mono (by decide)
noncomputable def mvConj0 (h0:gzero (byB p)=true):List (Ev Tryz.prog):=[(sSpotP p hp).e,(sBy p).e,(sConj1S (byA p) (byB p)).e,(sZero h0).e,sInfinity.e]
noncomputable def mvConj1 (h0:gzero (byB p)=false):List (Ev Tryz.prog):=[(sSpotP p hp).e,(sBy p).e,(sConj1S (byA p) (byB p)).e,(sZero h0).e,(sDiv (((byA1 hp.sz).conj).mono (by decide)) ((byB1 p).mono (by decide)) h0).e,(sToldP (.fin (gdiv (gconj (byA p)) (byB p))) ((gdConj_sz hp h0).mono (by decide))).e]
noncomputable def sMovConj0 (h0:gzero (byB p)=true):Spec Tryz.prog :=
 ⟨158,Tryz.call158,[svP p,fvV 161],[],infA,[],fun β w hh=>by
  cases p<;>exact spec_auto (args:=[svP _,fvV 161]) (obs:=[]) (evs:=mvConj0 hp h0) (Ns:=[]) (m:=800) Tryz.func158 hmA (fun β=>by kernel_rfl) (by kernel_rfl) β w hh,by cases p<;>kernel_rfl⟩
noncomputable def sMovConj (h0:gzero (byB p)=false):Spec Tryz.prog :=
 ⟨158,Tryz.call158,[svP p,fvV 161],[],.tup [.a (lsX (paC (.fin (gdiv (gconj (byA p)) (byB p))))),.c (.b (.v (.int .i64 (paK (.fin (gdiv (gconj (byA p)) (byB p)))))))],[],fun β w hh=>by
  cases p<;>exact spec_auto (args:=[svP _,fvV 161]) (obs:=[]) (evs:=mvConj1 hp h0) (Ns:=[]) (m:=800) Tryz.func158 hmA (fun β=>by kernel_rfl) (by kernel_rfl) β w hh,by cases p<;>kernel_rfl⟩
include hp in
theorem gdAcross_sz (h0:gzero (gconj (byA p))=false):GSz 10000 (gdiv (gneg (byB p)) (gconj (byA p))):=((((byB1 p).neg).mul (GSz.conj ((byA1 hp.sz).conj))).scale ((GSz.norm ((byA1 hp.sz).conj)).inv (gn_ne h0))).mono (by decide)
noncomputable def mvAcross0 (h0:gzero (gconj (byA p))=true):List (Ev Tryz.prog):=[(sSpotP p hp).e,(sBy p).e,(sAcr1S (byA p) (byB p)).e,(sZero h0).e,sInfinity.e]
noncomputable def mvAcross1 (h0:gzero (gconj (byA p))=false):List (Ev Tryz.prog):=[(sSpotP p hp).e,(sBy p).e,(sAcr1S (byA p) (byB p)).e,(sZero h0).e,(sDiv (((byB1 p).neg).mono (by decide)) (((byA1 hp.sz).conj).mono (by decide)) h0).e,(sToldP (.fin (gdiv (gneg (byB p)) (gconj (byA p)))) ((gdAcross_sz hp h0).mono (by decide))).e]
noncomputable def sMovAcross0 (h0:gzero (gconj (byA p))=true):Spec Tryz.prog :=
 ⟨158,Tryz.call158,[svP p,fvV 164],[],infA,[],fun β w hh=>by
  cases p<;>exact spec_auto (args:=[svP _,fvV 164]) (obs:=[]) (evs:=mvAcross0 hp h0) (Ns:=[]) (m:=800) Tryz.func158 hmA (fun β=>by kernel_rfl) (by kernel_rfl) β w hh,by cases p<;>kernel_rfl⟩
noncomputable def sMovAcross (h0:gzero (gconj (byA p))=false):Spec Tryz.prog :=
 ⟨158,Tryz.call158,[svP p,fvV 164],[],.tup [.a (lsX (paC (.fin (gdiv (gneg (byB p)) (gconj (byA p)))))),.c (.b (.v (.int .i64 (paK (.fin (gdiv (gneg (byB p)) (gconj (byA p))))))))],[],fun β w hh=>by
  cases p<;>exact spec_auto (args:=[svP _,fvV 164]) (obs:=[]) (evs:=mvAcross1 hp h0) (Ns:=[]) (m:=800) Tryz.func158 hmA (fun β=>by kernel_rfl) (by kernel_rfl) β w hh,by cases p<;>kernel_rfl⟩
end
section
variable {p:Pt} (hp:FitP p)
noncomputable def sSInverse0 (h0:gzero (byA p)=true):Spec Tryz.prog :=
 Spec.auto Tryz.call32 [svP p] [] infA [] [(sMovInv0 hp h0).e] [] 400 Tryz.func32 hmA (by kernel_rfl) (fun β=>by kernel_rfl)
noncomputable def sSInverse (h0:gzero (byA p)=false):Spec Tryz.prog :=
 Spec.auto Tryz.call32 [svP p] [] (.tup [.a (lsX (paC (.fin (gdiv (byB p) (byA p))))),.c (.b (.v (.int .i64 (paK (.fin (gdiv (byB p) (byA p)))))))]) [] [(sMovInv hp h0).e] [] 400 Tryz.func32 hmA (by kernel_rfl) (fun β=>by kernel_rfl)
noncomputable def sSNeg0 (h0:gzero (byB p)=true):Spec Tryz.prog :=
 Spec.auto Tryz.call30 [svP p] [] infA [] [(sMovNeg0 hp h0).e] [] 400 Tryz.func30 hmA (by kernel_rfl) (fun β=>by kernel_rfl)
noncomputable def sSNeg (h0:gzero (byB p)=false):Spec Tryz.prog :=
 Spec.auto Tryz.call30 [svP p] [] (.tup [.a (lsX (paC (.fin (gdiv (gneg (byA p)) (byB p))))),.c (.b (.v (.int .i64 (paK (.fin (gdiv (gneg (byA p)) (byB p)))))))]) [] [(sMovNeg hp h0).e] [] 400 Tryz.func30 hmA (by kernel_rfl) (fun β=>by kernel_rfl)
noncomputable def sSConj0 (h0:gzero (byB p)=true):Spec Tryz.prog :=
 Spec.auto Tryz.call31 [svP p] [] infA [] [(sMovConj0 hp h0).e] [] 400 Tryz.func31 hmA (by kernel_rfl) (fun β=>by kernel_rfl)
noncomputable def sSConj (h0:gzero (byB p)=false):Spec Tryz.prog :=
 Spec.auto Tryz.call31 [svP p] [] (.tup [.a (lsX (paC (.fin (gdiv (gconj (byA p)) (byB p))))),.c (.b (.v (.int .i64 (paK (.fin (gdiv (gconj (byA p)) (byB p)))))))]) [] [(sMovConj hp h0).e] [] 400 Tryz.func31 hmA (by kernel_rfl) (fun β=>by kernel_rfl)
noncomputable def sSAcross0 (h0:gzero (gconj (byA p))=true):Spec Tryz.prog :=
 Spec.auto Tryz.call33 [svP p] [] infA [] [(sMovAcross0 hp h0).e] [] 400 Tryz.func33 hmA (by kernel_rfl) (fun β=>by kernel_rfl)
noncomputable def sSAcross (h0:gzero (gconj (byA p))=false):Spec Tryz.prog :=
 Spec.auto Tryz.call33 [svP p] [] (.tup [.a (lsX (paC (.fin (gdiv (gneg (byB p)) (gconj (byA p)))))),.c (.b (.v (.int .i64 (paK (.fin (gdiv (gneg (byB p)) (gconj (byA p))))))))]) [] [(sMovAcross hp h0).e] [] 400 Tryz.func33 hmA (by kernel_rfl) (fun β=>by kernel_rfl)
end
abbrev lfM (p:Pt):GQ:=gmul (byA p) (gconj (byB p))
abbrev lf2:Rat:=Rat.divInt 2 1
def lf1Q (p:Pt):Rat:=(lfM p).re*lf2/wgQ p
def lf2Q (p:Pt):Rat:=(lfM p).im*lf2/wgQ p
def lf3Q (p:Pt):Rat:=(gnorm (byA p)-gnorm (byB p))/wgQ p
theorem lf_lit {x:Rat} (h:Fit x):SV.tup [.a (fA x),nI' (ansK x)]=.tup [.a (fC x),nI' 0]:=by rw [(fA_fit h).1,(fA_fit h).2]
section
variable {p:Pt} (hp:FitP p)
include hp in
theorem lfM_sz:GSz 5000 (lfM p):=((byA1 hp.sz).mul (byB1 p).conj).mono (by decide)
include hp in
theorem lfN_sz:Sz 9000 (gnorm (byA p)-gnorm (byB p)):=((byA1 hp.sz).norm.sub (byB1 p).norm).mono (by decide)
noncomputable def lfF {x:Rat} {k:Nat} (hx:Sz k x) (hk:k≤10000) (hq:Fit (x/wgQ p)):List (Ev Tryz.prog) :=
 [(sWeigh hp.sz).e,rQuo (hx.mono (Nat.le_trans hk (by decide))) ((wg_sz hp.sz).mono (by decide)) (wg_ne p),((sFrac (x:=x/wgQ p) ((div_sz hx (wg_sz hp.sz) (wg_ne p)).mono (Nat.le_trans (Nat.add_le_add_right hk _) (by decide)))).conv (.tup [.a (fC (x/wgQ p)),nI' 0]) (lf_lit hq)).e]
noncomputable def lfE (h1:Fit (lf1Q p)) (h2:Fit (lf2Q p)) (h3:Fit (lf3Q p)):List (Ev Tryz.prog) :=
 [(sSpotP p hp).e,(sBy p).e,(sConj (byB p)).e,(sMul ((byA1 hp.sz).mono (by decide)) ((byB1 p).conj.mono (by decide))).e,(sParts (lfM p)).e,mkR,(sNorm ((byA1 hp.sz).mono (by decide))).e,(sNorm ((byB1 p).mono (by decide))).e,fSub ((byA1 hp.sz).norm.mono (by decide)) ((byB1 p).norm.mono (by decide)),
  nNew 2 1 (by decide) (by decide) (by decide),mkR,fMul ((lfM_sz hp).1.mono (by decide)) (n2_sz.mono (by decide)),mkR,fMul ((lfM_sz hp).2.mono (by decide)) (n2_sz.mono (by decide))] ++
  lfF hp (((lfM_sz hp).1.mul n2_sz)) (by decide) h1++lfF hp (((lfM_sz hp).2.mul n2_sz)) (by decide) h2++lfF hp (lfN_sz hp) (by decide) h3
noncomputable def sSLift (h1:Fit (lf1Q p)) (h2:Fit (lf2Q p)) (h3:Fit (lf3Q p)):Spec Tryz.prog :=
 ⟨34,Tryz.call34,[svP p],[],.tup [.a (fC (lf1Q p)++fC (lf2Q p)++fC (lf3Q p)),nI' 0],[],fun β w hh=>by
  cases p<;>exact spec_auto (args:=[svP _]) (obs:=[]) (evs:=lfE hp h1 h2 h3) (Ns:=[(5,10),(6,7)]) (m:=1200) Tryz.func34 hmA (fun β=>by kernel_rfl) (by kernel_rfl) β w hh,by cases p<;>kernel_rfl⟩
end
end Go.Proofs.YtdiemgedlfnlmaaGreat.Y
end
section
namespace Go.Proofs.YtdiemgedlfnlmaaGreat
open Go.RowKit
set_option maxRecDepth 100000 in
set_option maxHeartbeats 1600000 in
theorem rText_any {w0:World} (p:Bool) (s:ByteArray) (n:Int) (hp:p=decide (n<0)) (hs:s=mag n.natAbs) (hm:s.size≤16384) :
  Calls Tryz.prog 356 #[.agg #[.bool p,.string s]] w0 fun e w'=>e=.returned (.string (textN n))∧Below w0.heap.size w0 w':=by
 have HB0:=Lib.hid (below_new w0 (.cells #[.bool p,.string s] 23))
 have HX0:=Lib.hid (BoxAt.new w0 #[.bool p,.string s] 23)
 have HP:=Lib.hid hp
 have HE:=Lib.hid (str_empty hs)
 by_cases h0:s.size=0
 · obtain rfl:=empty_data h0
   have HN:Hid (n=0):=by have:=HE.out.1 h0; unfold Hid; omega
   clear h0 hp hs hm
   go_enter Tryz.func356,Tryz.ntmps356
   go_wp2
   go_ret
   exact ⟨by rw [HN.out]; rfl,HB0.out⟩
 · obtain ⟨hE,hE2⟩:=toList_some h0
   obtain ⟨N,hN⟩:∃ N,N=n.natAbs:=⟨_,rfl⟩
   have hn:(dig N).length≤134217728:=by
    have:=wl_size (n:=N) (by rw [hN,← hs]; exact hm)
    omega
   have hNp:0<N:=by
    rcases Nat.eq_zero_or_pos N with h | h
    · exact absurd (HE.out.2 (by omega)) h0
    · exact h
   rw [← hN] at hs
   have HN:=Lib.hid hN
   have HO:=Lib.hid hn
   have HNP:=Lib.hid hNp
   have HS:=Lib.hid hs
   have HM:=Lib.hid hm
   clear hN hn hNp hs hm hp h0
   go_enter Tryz.func356,Tryz.ntmps356
   go_wp2_with fail
   refine (words_any s N HS.out (by have:=HM.out; omega)).mono ?_
   rintro e w ⟨A,c,rfl,hw,hb0⟩
   have HX:=Lib.hid (HX0.out.on hb0)
   have HB:=Lib.hid (HB0.out.trans (hb0.mono HB0.out.size))
   have HW:=Lib.hid hw
   clear hw hb0 hE hE2
   go_wp2
   go_loopg [3,4] N (fun k v x wr=>∃ (B:Option Addr) (lb cb R:Nat) (ds:List Nat),x=.slice B lb cb∧R≤k∧Hid (Words wr (.slice B lb cb) (dig R))∧Hid (BRow wr w.heap.size v ds)∧Hid (dd N=ds++dd R)∧Hid (Below w.heap.size w wr))
   case atStart=>exact ⟨A,_,c,N,[],rfl,Nat.le_refl _,HW.out,BRow.nil _ _,rfl,Below.refl _ _⟩
   case round =>
    obtain ⟨B,lb,cb,R,ds,rfl,hR,hRW,hrow,hdd,hb⟩:=hrel
    have hlb:=hRW.out.len.1
    have hlm:=hRW.out.2.1
    by_cases hlp:0<lb
    · have hRp:0<R:=by
       rcases Nat.eq_zero_or_pos R with h | h
       · rw [h,dig_zero] at hlb; simp at hlb; omega
       · exact h
      have HRP:=Lib.hid hRp
      have hlm2:lb≤17179869184:=by omega
      clear hlb hlm hRp
      go_wp2_with fail
      refine (small_dig hRW.out 1000000000 (by omega) (by omega)).mono ?_
      rintro e w1 ⟨v1,r0,rfl,hr,hrb,hq,hb1⟩
      obtain ⟨q,hqd⟩:∃ q,q=R/1000000000:=⟨_,rfl⟩
      rw [← hqd] at hq
      obtain ⟨A1,l1,c1,rfl⟩:=hq.form
      have HQ:=Lib.hid hq
      have HB1:=Lib.hid hb1
      have HQD:=Lib.hid hqd
      have hl1:=hq.len
      have hl1b:l1≤17179869184:=by have:=hq.2.1; omega
      have HL1:Hid (l1=0↔q=0):=by
       have:=dig_nil_iff q
       rw [Hid,hl1.1]
       exact List.length_eq_zero_iff.trans this
      clear hq hb1 hqd hl1
      go_wp2
      go_loopw [3,6,7] (fun v r k wr=>∃ (i R' r':Nat) (ds':List Nat),i≤9∧k=.int .i64 (i:Int)∧r=.int .u64 (r':Int)∧r'<1000000000∧Hid (r'<10^(9-i))∧Hid (R'=r'+10^(9-i)*q)∧Hid (dd N=ds'++dd R')∧Hid (BRow wr w.heap.size v ds')∧Hid (Words wr (.slice A1 l1 c1) (dig q))∧Hid (Below w.heap.size w wr)) (fun _ _ k _=>9-(intOf k).toNat)
      case atStart =>
       refine ⟨0,R,r0,ds,by omega,rfl,rfl,hrb,by rw [Hid,Nat.sub_zero]; exact hrb,?_,hdd,?_,HQ.out,?_⟩
       · rw [Hid,Nat.sub_zero,hr.out,HQD.out]; omega
       · exact hrow.out.on HB1.out
       · exact hb.out.trans (HB1.out.mono hb.out.size)
      case round =>
       obtain ⟨i,R',r',ds',hi,rfl,rfl,hr9,hrp,hRR,hdd',hrow',hQ',hb'⟩:=hrel
       have hdl:ds'.length≤4294967296:=by
        have h1:=dd_len_words N
        have h2:=HO.out
        have h3:=congrArg List.length hdd'.out
        rw [List.length_append] at h3
        omega
       by_cases hgo:i<9∧(0<r'∨0<l1)
       · obtain ⟨hi9,hor⟩:=hgo
         have hpq:0<r'∨0<q:=hor.imp id fun h=>by have:=HL1.out; omega
         obtain ⟨k1,k2⟩:=dd_step hdd'.out hRR.out hi9 hpq
         have K1:=Lib.hid k1
         have K2:=Lib.hid k2
         have K3:Hid (r'/10<10^(9-(i+1))):=by
          have h1:=hrp.out
          rw [show 9-i=(9-(i+1))+1 by omega,Nat.pow_succ] at h1
          exact Nat.div_lt_of_lt_mul (by rw [Nat.mul_comm]; exact h1)
         have hd0:(48:Int)+(r':Int) % 10=((48+r' % 10:Nat):Int):=by omega
         have hd1:48+r' % 10<256:=by omega
         obtain ⟨z,hz'⟩:∃ z,z=48+r' % 10:=⟨_,rfl⟩
         rw [← hz'] at hd0 hd1 K1
         have hbl:=Lib.hid hb'.out.size
         have hrowA:=Lib.hid hrow'
         clear k1 k2 hz' hpq
         have hstep:∀ (v':Value) (w':World),BRow w' w.heap.size v' (ds'++[z])→Below w.heap.size w w'→Words w' (.slice A1 l1 c1) (dig q)→True:=fun _ _ _ _ _=>trivial
         clear hstep
         rcases (by omega:0<l1∨(l1=0∧0<r')) with hor | ⟨rfl,hor⟩
         all_goals
          go_wp2_with (at_builtin; refine wpList_append_byte rfl (.tmp 39) (.tmp 44) rfl w.heap.size _ ds' rfl (hrow'.out.alloc _) ⟨wr.heap.size,0,none⟩ 1 z _ rfl (cell_new0 _ _ _) ?_ hd1 ?_ ?_ ?_)
          · omega
          · omega
          · have:=hbl.out; simp; omega
          · intro v' w' hrow2 hb2 hws
            have HR2:=Lib.hid hrow2
            have HB3:=Lib.hid ((hb'.out.alloc hb'.out.size _).trans hb2)
            have HW2:=Lib.hid (hws _ _ (hQ'.out.below ((Below.refl _ _).alloc (Nat.le_refl _) _)))
            clear hrow2 hb2 hws
            go_wp2
            go_roundw
            case rel=>first | exact ⟨i+1,R'/10,r'/10,ds'++[z],by omega,by go_num,rfl,by omega,K3,K2,K1,HR2,HW2,HB3⟩ | exact ⟨i+1,R'/10,0,ds'++[z],by omega,by go_num,rfl,by omega,K3,K2,K1,HR2,HW2,HB3⟩
            case measure=>simp [intOf]; omega
       · have hend:r'=0∧R'=q∧(i=9∨(i<9∧l1=0)):=by
          have h1:=hrp.out
          have h2:=hRR.out
          have h3:=HL1.out
          rcases Nat.lt_or_ge i 9 with h | h
          · have:r'=0:=by omega
            have h5:l1=0:=by omega
            have h4:=h3.1 h5
            subst h4
            refine ⟨this,by rw [h2,this]; simp,.inr ⟨h,h5⟩⟩
          · obtain rfl:i=9:=by omega
            simp at h1 h2
            exact ⟨by omega,by omega,.inl rfl⟩
         obtain ⟨rfl,e2,hcase⟩:=hend
         have HE2:=Lib.hid e2
         have HQR:Hid (q<R):=by have:=HQD.out; have:=HRP.out; unfold Hid; omega
         clear hgo e2
         rcases hcase with rfl | ⟨h9,rfl⟩
         all_goals
          go_wp2
          go_roundg q
          case measure=>exact Nat.lt_of_lt_of_le HQR.out hR
          case rel=>exact ⟨A1,_,c1,q,ds',rfl,Nat.le_refl _,hQ',hrow',by rw [← HE2.out]; exact hdd',hb'⟩
    · obtain rfl:lb=0:=by omega
      have hR0:=(dig_nil_iff R).1 (List.eq_nil_of_length_eq_zero hlb.symm)
      subst hR0
      have hdd2:=hdd.out
      rw [dd_zero,List.append_nil] at hdd2
      have hbl:=Lib.hid hb.out.size
      have hneg:=(HX.out.on hb.out).cell 0 (.bool p) rfl
      have hdl:ds.length≤4294967296:=by
       have h1:=dd_len_words N
       have h2:=HO.out
       rw [hdd2] at h1
       omega
      have hdp:0<ds.length:=by
       have:=HNP.out
       rw [← hdd2,dd_pos N this]
       simp
      have HDD:=Lib.hid hdd2
      clear hlb hlm hdd2
      cases p
      · obtain ⟨zs,hzs⟩:∃ zs,zs=ds:=⟨_,rfl⟩
        obtain ⟨len,hlen⟩:∃ len,len=ds.length:=⟨_,rfl⟩
        have HTXT:Hid (strN zs.reverse=textN n):=by
         have h1:¬ n<0:=by have:=HP.out; simpa using this
         have h2:n≠0:=by have:=HNP.out; have:=HN.out; omega
         rw [Hid,textN,txt,if_neg h2,if_neg h1,List.append_nil,← HN.out,HDD.out,hzs]
        have HLEN:Hid (zs.length=len):=by rw [hzs,hlen]; rfl
        have HROW:=hrow
        rw [← hzs] at HROW
        have hlenp:0<len:=by omega
        have hlenb:len≤4294967297:=by omega
        have HBB:=hb
        clear hzs hlen hdp hdl hrow hb
        obtain ⟨g,cap,cs,rfl,hg,hcap,hh,hcs⟩:=HROW.out.open_ (by rw [HLEN.out]; omega)
        rw [HLEN.out]
        have hbb:BBuf wr g (turned zs 0):=by rw [turned_zero]; exact ⟨HROW.out.1,cs,hh,by have:=HROW.out.size_le hh rfl; exact this,hcs⟩
        clear hh hcs hcap
        go_wp2
        go_loopw [8,9] (fun i k wr=>∃ (j:Nat),j≤len∧i=.int .i64 (j:Int)∧k=.int .i64 ((len:Int)-1-(j:Int))∧BBuf wr g (turned zs j)∧Below w.heap.size w wr) (fun i _ _=>len-(intOf i).toNat)
        case atStart=>exact ⟨0,by omega,rfl,by go_num,hbb,HBB.out⟩
        case round =>
         obtain ⟨j,hj,rfl,rfl,hb',hbl⟩:=hrel
         have hsz:=hbl.size
         have hgl:=hb'.lt
         clear hbb
         by_cases hlt:(j:Int)<(len:Int)-1-(j:Int)
         · obtain ⟨m,hm⟩:∃ m,m=len-1-j:=⟨_,rfl⟩
           have hmi:(len:Int)-1-(j:Int)=(m:Int):=by omega
           obtain ⟨x,hx⟩:∃ x,x=zs.getD j 0:=⟨_,rfl⟩
           obtain ⟨y,hy⟩:∃ y,y=zs.getD m 0:=⟨_,rfl⟩
           have hjm:j<m:=by omega
           have hml:m<len:=by omega
           have hc1:=hb'.cell j (by rw [turned_len,HLEN.out]; omega)
           have hc2:=hb'.cell m (by rw [turned_len,HLEN.out]; omega)
           rw [turned_getD zs j j (Nat.le_refl _) (by rw [HLEN.out]; omega),← hx] at hc1
           rw [turned_getD zs j m (by omega) (by rw [HLEN.out]; omega),← hy] at hc2
           have hx8:x<256:=by rw [hx]; exact HROW.out.1.getD _
           have hy8:y<256:=by rw [hy]; exact HROW.out.1.getD _
           have hf1:=hb'.frozen j
           have hf2:=hb'.frozen m
           have hset:=(hb'.set j y _ hy8 rfl).set m x _ hx8 rfl
           have hset2:=(hb'.set m x _ hx8 rfl).set j y _ hy8 rfl
           have hts:=turned_step zs j m (by rw [HLEN.out]; omega) hjm
           rw [← hx,← hy] at hts
           have hts2:((turned zs j).set m x).set j y=turned zs (j+1):=by rw [List.set_comm _ _ (by omega)]; exact hts
           rw [hts] at hset
           rw [hts2] at hset2
           have HS:=Lib.hid hset
           have HS2:=Lib.hid hset2
           have HBL:=Lib.hid hbl
           have HM:=Lib.hid hm
           have hgg:w.heap.size≤g:=hg
           rw [hmi]
           clear hset hset2 hts hts2 hx hy hb' hbl hm hmi hlt
           go_wp2
           go_roundw
           case rel =>
            have hm:=HM.out
            refine ⟨j+1,by omega,by go_num,by go_num,?_,?_⟩
            · first | exact HS.out | exact HS2.out
            · exact (HBL.out.setCell hgg _).setCell hgg _
           case measure=>simp [intOf]; omega
         · have ht:=turned_done zs j (by rw [HLEN.out]; omega)
           rw [ht] at hb'
           have hs:=fun cap=>string_of_byt (hb'.byt (n:=len) (cap:=cap) (by rw [List.length_reverse,HLEN.out]))
           rw [HTXT.out] at hs
           have HBL:=Lib.hid hbl
           clear ht hb' hbl
           go_wp2
           go_ret
           exact ⟨rfl,HB.out.trans (HBL.out.mono HB.out.size)⟩
      · go_wp2_with (at_builtin; refine wpList_append_byte rfl (.tmp 50) (.tmp 51) rfl w.heap.size _ ds rfl (hrow.out.alloc _) ⟨wr.heap.size,0,none⟩ 1 45 _ rfl (cell_new0 _ _ _) rfl (by omega) ?_ ?_ ?_)
        · omega
        · have:=hbl.out; simp; omega
        intro v' w' hrow2 hb2 hws
        obtain ⟨zs,hzs⟩:∃ zs,zs=ds++[45]:=⟨_,rfl⟩
        obtain ⟨len,hlen⟩:∃ len,len=ds.length+1:=⟨_,rfl⟩
        have HTXT:Hid (strN zs.reverse=textN n):=by
         have h1:n<0:=by have:=HP.out; simpa using this.symm
         have h2:n≠0:=by omega
         rw [Hid,textN,txt,if_neg h2,if_pos h1,← HN.out,HDD.out,hzs]
        have HLEN:Hid (zs.length=len):=by rw [hzs,hlen]; simp [Hid]
        have HROW:=Lib.hid hrow2
        rw [← hzs] at HROW
        have hlenp:0<len:=by omega
        have hlenb:len≤4294967297:=by omega
        have HBB:=Lib.hid ((hb.out.alloc hb.out.size _).trans hb2)
        clear hzs hlen hdp hdl hrow hb hrow2 hb2 hws
        obtain ⟨g,cap,cs,rfl,hg,hcap,hh,hcs⟩:=HROW.out.open_ (by rw [HLEN.out]; omega)
        rw [HLEN.out]
        have hbb:BBuf w' g (turned zs 0):=by rw [turned_zero]; exact ⟨HROW.out.1,cs,hh,by have:=HROW.out.size_le hh rfl; exact this,hcs⟩
        clear hh hcs hcap
        go_wp2
        go_loopw [8,9] (fun i k wr=>∃ (j:Nat),j≤len∧i=.int .i64 (j:Int)∧k=.int .i64 ((len:Int)-1-(j:Int))∧BBuf wr g (turned zs j)∧Below w.heap.size w wr) (fun i _ _=>len-(intOf i).toNat)
        case atStart=>exact ⟨0,by omega,rfl,by go_num,hbb,HBB.out⟩
        case round =>
         obtain ⟨j,hj,rfl,rfl,hb',hbl⟩:=hrel
         have hsz:=hbl.size
         have hgl:=hb'.lt
         clear hbb
         by_cases hlt:(j:Int)<(len:Int)-1-(j:Int)
         · obtain ⟨m,hm⟩:∃ m,m=len-1-j:=⟨_,rfl⟩
           have hmi:(len:Int)-1-(j:Int)=(m:Int):=by omega
           obtain ⟨x,hx⟩:∃ x,x=zs.getD j 0:=⟨_,rfl⟩
           obtain ⟨y,hy⟩:∃ y,y=zs.getD m 0:=⟨_,rfl⟩
           have hjm:j<m:=by omega
           have hml:m<len:=by omega
           have hc1:=hb'.cell j (by rw [turned_len,HLEN.out]; omega)
           have hc2:=hb'.cell m (by rw [turned_len,HLEN.out]; omega)
           rw [turned_getD zs j j (Nat.le_refl _) (by rw [HLEN.out]; omega),← hx] at hc1
           rw [turned_getD zs j m (by omega) (by rw [HLEN.out]; omega),← hy] at hc2
           have hx8:x<256:=by rw [hx]; exact HROW.out.1.getD _
           have hy8:y<256:=by rw [hy]; exact HROW.out.1.getD _
           have hf1:=hb'.frozen j
           have hf2:=hb'.frozen m
           have hset:=(hb'.set j y _ hy8 rfl).set m x _ hx8 rfl
           have hset2:=(hb'.set m x _ hx8 rfl).set j y _ hy8 rfl
           have hts:=turned_step zs j m (by rw [HLEN.out]; omega) hjm
           rw [← hx,← hy] at hts
           have hts2:((turned zs j).set m x).set j y=turned zs (j+1):=by rw [List.set_comm _ _ (by omega)]; exact hts
           rw [hts] at hset
           rw [hts2] at hset2
           have HS:=Lib.hid hset
           have HS2:=Lib.hid hset2
           have HBL:=Lib.hid hbl
           have HM:=Lib.hid hm
           have hgg:w.heap.size≤g:=hg
           rw [hmi]
           clear hset hset2 hts hts2 hx hy hb' hbl hm hmi hlt
           go_wp2
           go_roundw
           case rel =>
            have hm:=HM.out
            refine ⟨j+1,by omega,by go_num,by go_num,?_,?_⟩
            · first | exact HS.out | exact HS2.out
            · exact (HBL.out.setCell hgg _).setCell hgg _
           case measure=>simp [intOf]; omega
         · have ht:=turned_done zs j (by rw [HLEN.out]; omega)
           rw [ht] at hb'
           have hs:=fun cap=>string_of_byt (hb'.byt (n:=len) (cap:=cap) (by rw [List.length_reverse,HLEN.out]))
           rw [HTXT.out] at hs
           have HBL:=Lib.hid hbl
           clear ht hb' hbl
           go_wp2
           go_ret
           exact ⟨rfl,HB.out.trans (HBL.out.mono HB.out.size)⟩
end Go.Proofs.YtdiemgedlfnlmaaGreat
end
section
namespace Go.Proofs.YtdiemgedlfnlmaaGreat
theorem mag_1:mag 1=⟨#[1]⟩:=by unfold mag; rw [led_pos 1 (by decide),led_zero]; rfl
end Go.Proofs.YtdiemgedlfnlmaaGreat
namespace Go.Proofs.YtdiemgedlfnlmaaGreat.Y
open Go Go.RowKit
set_option maxRecDepth 100000
end Go.Proofs.YtdiemgedlfnlmaaGreat.Y
end
