/- EyC, EyD, EyE, MayP, Rs4, Pts, Alg, Rs7, Rs10, Nrm, EyF, Rs8, MoA, MoC, EqM, MkA, Row, Osp, GsB, L4, CiA, CiB, GsC, GsD, Wof, Ops, Near, Txt. -/
import Derived.Deep.MidRow
import Derived.Test.YtmfedaakeeiolaaGreatSk10
set_option linter.unnecessarySimpa false
set_option linter.unusedVariables false
set_option linter.unusedSimpArgs false
section
namespace Go.Proofs.YtmfedaakeeiolaaGreat.Y
open Go Go.RowKit
set_option maxRecDepth 100000
def pI:Pt→Bool
 | .inf=>true
 | .fin _=>false
def pG:Pt→GQ
 | .inf=>g0
 | .fin z=>z
def pL (k:Nat) (p:Pt):List Lf:=[.b (.v (.bool (pI p))),.b (.z k 0),.b (.z (k+1) 0)]
abbrev pV (k:Nat) (p:Pt):SV:=.one (.a (pL k p))
def pM (p:Pt):List Thing:=gM (pG p)
def mA (k:Nat) (m:MQ):SC:=.a [.b (.z k 0),.b (.z (k+1) 0),.b (.z (k+2) 0),.b (.z (k+3) 0),.b (.z (k+4) 0),.b (.z (k+5) 0),.b (.z (k+6) 0),.b (.z (k+7) 0),.b (.v (.bool m.t))]
abbrev mV (k:Nat) (m:MQ):SV:=.one (mA k m)
def mM (m:MQ):List Thing:=gM m.a++gM m.b++gM m.c++gM m.d
def mT (m:MQ):List Thing:=gT m.a++gT m.b++gT m.c++gT m.d
def sDet {m:MQ} (h:MSz KE m):Spec Tryz.prog :=
 Spec.auto Tryz.call185 [mV 0 m] (mM m) (nV 8) (gT (mdet m))
  [(sMul (h.a.mono (by decide)) (h.d.mono (by decide))).e,(sMul (h.b.mono (by decide)) (h.c.mono (by decide))).e,(sSub ((h.a.mul h.d).mono (by decide)) ((h.b.mul h.c).mono (by decide))).e]
  [(1,11)] 400 Tryz.func185 hmA (by kernel_rfl) (fun β=>by kernel_rfl)
def sNormal {m:MQ} (h:MSz KM m) {b:Bool} (hb:gzero m.c=b) (h0:gzero (bif b then m.d else m.c)=false):Spec Tryz.prog :=
 ⟨268,Tryz.call268,[mV 0 m],mM m,mV 8 (mnormB m b),mT (mnormB m b),fun β w hh=>by
  cases b
  · exact spec_auto (obs:=mM m) (evs:=[(sZero hb).e,(sDiv h.a h.c h0).e,(sDiv h.b h.c h0).e,(sDiv h.c h.c h0).e,(sDiv h.d h.c h0).e]) (Ns:=[(4,19)]) (m:=400) Tryz.func268 hmA (fun β=>by kernel_rfl) (by kernel_rfl) β w hh
  · exact spec_auto (obs:=mM m) (evs:=[(sZero hb).e,(sDiv h.a h.d h0).e,(sDiv h.b h.d h0).e,(sDiv h.c h.d h0).e,(sDiv h.d h.d h0).e]) (Ns:=[(4,19)]) (m:=400) Tryz.func268 hmA (fun β=>by kernel_rfl) (by kernel_rfl) β w hh,by kernel_rfl⟩
def sUndo {m:MQ} (h:MSz KM m) {b:Bool} (hb:gzero (mconj (mundo0 m) m.t).c=b) (h0:gzero (bif b then (mconj (mundo0 m) m.t).d else (mconj (mundo0 m) m.t).c)=false):Spec Tryz.prog :=
 ⟨135,Tryz.call135,[mV 0 m],mM m,mV 8 (mnormB (mconj (mundo0 m) m.t) b),mT (mnormB (mconj (mundo0 m) m.t) b),fun β w hh=>by
  obtain ⟨a,b',c,d,t⟩:=m
  cases t
  · exact spec_auto (obs:=mM ⟨a,b',c,d,false⟩) (evs:=[(sNeg b').e,(sNeg c).e,(sNormal (h.undo0.conj false) hb h0).e]) (Ns:=[(1,14),(3,13)]) (m:=400) Tryz.func135 hmA (fun β=>by kernel_rfl) (by kernel_rfl) β w hh
  · exact spec_auto (obs:=mM ⟨a,b',c,d,true⟩) (evs:=[(sNeg b').e,(sNeg c).e,(sConj d).e,(sConj (gneg b')).e,(sConj (gneg c)).e,(sConj a).e,(sNormal (h.undo0.conj true) hb h0).e]) (Ns:=[(1,14),(3,13)]) (m:=400) Tryz.func135 hmA (fun β=>by kernel_rfl) (by kernel_rfl) β w hh,by kernel_rfl⟩
theorem nilpair {P:Program} {f:FuncId} {args:Array Value} {w:World} {β:Env} {m:Nat} {r r':Env→Value}
  (h:Calls P f args w fun e w'=>∃ xs:List Pl,freshS β w m xs∧e=.returned (r (extE β m xs))∧newHold w' [] xs∧Below w.heap.size w w') (hr:r' (extE β m [nilPl,nilPl])=r (extE β m [])) :
  Calls P f args w fun e w'=>∃ xs:List Pl,freshS β w m xs∧e=.returned (r' (extE β m xs))∧newHold w' (gM g0) xs∧Below w.heap.size w w' :=
 h.mono fun e w' ⟨xs,h1,he,h2,h3⟩=>by
  match xs,h1,he,h2 with
  | [],h1,he,h2 =>
   have hn:OR0 0 w' nilPl:=nil_or (by decide) w'
   refine ⟨[nilPl,nilPl],fun x hx k hk=>?_,by rw [he,hr],⟨hn,hn,trivial⟩,h3⟩
   simp only [List.mem_cons,List.not_mem_nil,or_false] at hx
   rcases hx with rfl | rfl<;>exact hk.elim
def rL (x:R4):List Lf:=[.b (.v (.bool x.b)),.b (.v (.string x.s)),.b (.v (.bool x.c)),.b (.v (.string x.t))]
structure Fr where
 r:R4
 a:Fp
 e:fpC a=rL r
def sOfW (a b:Fr) {r:Bool} (hr:(a.a.B&&b.a.B)=r):Spec Tryz.prog :=
 ⟨213,Tryz.call213,[.one (.a (rL a.r++rL b.r))],[],.tup [nA 0,.c (.b (.v (.bool r)))],[anyT,anyT],fun β w hh=>by
  rw [← a.e,← b.e]
  refine (sOf_ok a.a b.a β w hh).mono fun e w' ⟨xs,h1,he,h2,h3⟩=>⟨xs,h1,by rw [he,hr]; rfl,?_,h3⟩
  obtain ⟨_,a,_⟩:=a
  obtain ⟨_,b,_⟩:=b
  cases a<;>cases b
  · match xs,h2 with
    | [p,q],h2=>exact ⟨an_of (pr_stable _) h2.1,an_of (pr_stable _) h2.2.1,trivial⟩
  · exact h2
  · exact h2
  · exact h2,by kernel_rfl⟩
structure Mp where
 a:Fr
 a':Fr
 b:Fr
 b':Fr
 c:Fr
 c':Fr
 d:Fr
 d':Fr
 t:Bool
def Mp.C (m:Mp):List Lf:=rL m.a.r++rL m.a'.r++rL m.b.r++rL m.b'.r++rL m.c.r++rL m.c'.r++rL m.d.r++rL m.d'.r++[.b (.v (.bool m.t))]
def any8:List Thing:=[anyT,anyT,anyT,anyT,anyT,anyT,anyT,anyT]
def eqEv (t:TypeId) (xs ys:Array Value) (r:Bool) (hg:Tryz.prog.eqGuardType Tryz.prog.depth t=false) (h:∀ w,(Op.equalIn 10000 t (.agg xs) (.agg ys)).run Tryz.prog w=.ok r w):Ev Tryz.prog :=
 .dyn (fun o _ _=>match o.op with
  | .binOp .eql t' _ _ _=>Nat.beq t' t
  | .binOp .neq t' _ _ _=>Nat.beq t' t
  | _=>false) fun o _ _=>match o.op with
  | .binOp .eql _ a b u=>.gen (o.dst.getD 0) (.binOp .eql t a b u) [.agg xs,.agg ys] (.bool r) (fun ρ o w ho hx=>by
    simp only [Op.operands,List.map_cons,List.map_nil,List.cons.injEq] at hx
    exact exec_eql hg (h w) a b ρ o ho hx.1 hx.2.1)
  | .binOp .neq _ a b u=>.gen (o.dst.getD 0) (.binOp .neq t a b u) [.agg xs,.agg ys] (.bool (!r)) (fun ρ o w ho hx=>by
    simp only [Op.operands,List.map_cons,List.map_nil,List.cons.injEq] at hx
    exact exec_neq hg (h w) a b ρ o ho hx.1 hx.2.1)
  | _=>.eqv 0 undef undef rfl
def eqEvP (i i':Bool) (x y x' y':R4) (r:Bool) (h:((i==i')&&((x.eq x'&&(y.eq y'&&true))&&true))=r):Ev Tryz.prog :=
 eqEv 52 #[.bool i,.bool x.b,.string x.s,.bool x.c,.string x.t,.bool y.b,.string y.s,.bool y.c,.string y.t] #[.bool i',.bool x'.b,.string x'.s,.bool x'.c,.string x'.t,.bool y'.b,.string y'.s,.bool y'.c,.string y'.t] r (by kernel_rfl) (fun w=>by rw [← h]; exact eqP 9995 i i' x y x' y')
def eqEvG (x y x' y':R4) (r:Bool) (h:(x.eq x'&&(y.eq y'&&true))=r):Ev Tryz.prog :=
 eqEv 37 #[.bool x.b,.string x.s,.bool x.c,.string x.t,.bool y.b,.string y.s,.bool y.c,.string y.t] #[.bool x'.b,.string x'.s,.bool x'.c,.string x'.t,.bool y'.b,.string y'.s,.bool y'.c,.string y'.t] r (by kernel_rfl) (fun w=>by rw [← h]; exact eqG 9996 ..)
def spI:Pp→Bool
 | .fin ..=>false
 | _=>true
def spT:Pp→List Thing
 | .fin a b=>ofT a b
 | _=>gM g0
def sSpot (p:Pp):Spec Tryz.prog :=
 ⟨146,Tryz.call146,[.one (.a (lsX p.C))],[],.tup [.a [.b (.v (.bool (spI p))),.b (.z 0 0),.b (.z 1 0)],.c (.b (.v (.bool p.B)))],spT p,fun β w hh=>by
  rcases p with _ | ⟨a,b⟩ | ⟨x,y,h⟩
  · exact nilpair (r:=(SV.tup [.a [.b (.v (.bool true)),.b (.v (.pointer none)),.b (.v (.pointer none))],.c (.b (.v (.bool true)))]).den) (r':=(SV.tup [.a [.b (.v (.bool true)),.b (.z 0 0),.b (.z 1 0)],.c (.b (.v (.bool true)))]).den) (spec_auto (args:=[.one (.a (lsX Pp.inf.C))]) (obs:=[]) (res:=.tup [.a [.b (.v (.bool true)),.b (.v (.pointer none)),.b (.v (.pointer none))],.c (.b (.v (.bool true)))]) (news:=[]) (evs:=[]) (Ns:=[(2,2004005)]) (m:=400) Tryz.func146 hmA (fun β=>by kernel_rfl) (by kernel_rfl) β w hh) (by kernel_rfl)
  · cases a with
    | ok x hx=>cases b with
     | ok y hy=>exact spec_auto (obs:=[]) (evs:=[(sOf (.ok x hx) (.ok y hy)).e]) (Ns:=[(2,2004005)]) (m:=400) Tryz.func146 hmA (fun β=>by kernel_rfl) (by kernel_rfl) β w hh
     | no b2 c2 s2 t2 h2 u2 v2=>exact spec_auto (obs:=[]) (evs:=[(sOf (.ok x hx) (.no b2 c2 s2 t2 h2 u2 v2)).e]) (Ns:=[(2,2004005)]) (m:=400) Tryz.func146 hmA (fun β=>by kernel_rfl) (by kernel_rfl) β w hh
    | no b1 c1 s1 t1 h1 u1 v1=>cases b with
     | ok y hy=>exact spec_auto (obs:=[]) (evs:=[(sOf (.no b1 c1 s1 t1 h1 u1 v1) (.ok y hy)).e]) (Ns:=[(2,2004005)]) (m:=400) Tryz.func146 hmA (fun β=>by kernel_rfl) (by kernel_rfl) β w hh
     | no b2 c2 s2 t2 h2 u2 v2=>exact spec_auto (obs:=[]) (evs:=[(sOf (.no b1 c1 s1 t1 h1 u1 v1) (.no b2 c2 s2 t2 h2 u2 v2)).e]) (Ns:=[(2,2004005)]) (m:=400) Tryz.func146 hmA (fun β=>by kernel_rfl) (by kernel_rfl) β w hh
  · exact nilpair (r:=(SV.tup [.a [.b (.v (.bool true)),.b (.v (.pointer none)),.b (.v (.pointer none))],.c (.b (.v (.bool false)))]).den) (r':=(SV.tup [.a [.b (.v (.bool true)),.b (.z 0 0),.b (.z 1 0)],.c (.b (.v (.bool false)))]).den) (spec_auto (args:=[.one (.a (lsX (Pp.odd x y h).C))]) (obs:=[]) (res:=.tup [.a [.b (.v (.bool true)),.b (.v (.pointer none)),.b (.v (.pointer none))],.c (.b (.v (.bool false)))]) (news:=[]) (evs:=[eqEvP true true x y r40 r40 false (odd_ne h)]) (Ns:=[(2,2004005)]) (m:=400) Tryz.func146 hmA (fun β=>by kernel_rfl) (by kernel_rfl) β w hh) (by kernel_rfl),by
  rcases p with _ | ⟨_ | _,_ | _⟩ | _<;>kernel_rfl⟩
theorem fitG_sz {z:GQ} (h:FitG z):GSz 1024 z:=⟨h.1.sz,h.2.sz⟩
theorem fitM_sz {m:MQ} (h:FitM m):MSz 1024 m:=⟨fitG_sz h.1,fitG_sz h.2.1,fitG_sz h.2.2.1,fitG_sz h.2.2.2⟩
def mCl (m:MQ):List Lf:=lsX (gC m.a)++lsX (gC m.b)++lsX (gC m.c)++lsX (gC m.d)++[.b (.v (.bool m.t))]
def ofE {z:GQ} (h:FitG z):Ev Tryz.prog:=(sOf (.ok z.re h.1) (.ok z.im h.2)).e
def of4E {m:MQ} (h:FitM m):List (Ev Tryz.prog):=[ofE h.1,ofE h.2.1,ofE h.2.2.1,ofE h.2.2.2]
def mB (k:Nat) (t:Bool):SC:=.a [.b (.z k 0),.b (.z (k+1) 0),.b (.z (k+2) 0),.b (.z (k+3) 0),.b (.z (k+4) 0),.b (.z (k+5) 0),.b (.z (k+6) 0),.b (.z (k+7) 0),.b (.v (.bool t))]
def mx0:SC:=.a [.b (.v (.pointer none)),.b (.v (.pointer none)),.b (.v (.pointer none)),.b (.v (.pointer none)),.b (.v (.pointer none)),.b (.v (.pointer none)),.b (.v (.pointer none)),.b (.v (.pointer none)),.b (.v (.bool false))]
theorem nil8 {P:Program} {f:FuncId} {args:Array Value} {w:World} {β:Env}
  (h:Calls P f args w fun e w'=>∃ xs:List Pl,freshS β w 0 xs∧e=.returned ((SV.tup [mx0,.c (.b (.v (.bool false)))]).den (extE β 0 xs))∧newHold w' [] xs∧Below w.heap.size w w') :
  Calls P f args w fun e w'=>∃ xs:List Pl,freshS β w 0 xs∧e=.returned ((SV.tup [mB 0 false,.c (.b (.v (.bool false)))]).den (extE β 0 xs))∧newHold w' any8 xs∧Below w.heap.size w w' :=
 h.mono fun e w' ⟨xs,h1,he,h2,h3⟩=>by
  have hn:AN w' nilPl:=fun _ h=>h.elim
  exact ⟨[nilPl,nilPl,nilPl,nilPl,nilPl,nilPl,nilPl,nilPl],fun x hx c hc=>by
   simp only [List.mem_cons,List.not_mem_nil,or_false,or_self] at hx
   subst hx
   exact hc.elim,by rw [he]; kernel_rfl,⟨hn,hn,hn,hn,hn,hn,hn,hn,trivial⟩,h3⟩
theorem openNum_ok (m:Mp) {r1 r2 r3 r4:Bool} (ha:(m.a.a.B&&m.a'.a.B)=r1) (hb:(m.b.a.B&&m.b'.a.B)=r2) (hc:(m.c.a.B&&m.c'.a.B)=r3) (hd:(m.d.a.B&&m.d'.a.B)=r4) (hf:(r1&&r2&&r3&&r4)=false) (β:Env) (w:World) (hh:∀ (k:Nat) (t:Thing),([]:List Thing)[k]?=some t→t.D w (β k)) :
  Calls Tryz.prog 134 (([.one (.a m.C)]:List SV).map (SV.den β)).toArray w fun e w'=>∃ xs:List Pl,freshS β w 0 xs∧e=.returned ((SV.tup [mx0,.c (.b (.v (.bool false)))]).den (extE β 0 xs))∧newHold w' [] xs∧Below w.heap.size w w':=by
 cases r1 with
 | false=>exact spec_auto (evs:=[(sOfW m.a m.a' ha).e,(sOfW m.b m.b' hb).e,(sOfW m.c m.c' hc).e,(sOfW m.d m.d' hd).e]) (Ns:=[(12,2016017)]) (m:=1200) Tryz.func134 hmA (fun β=>by kernel_rfl) (by kernel_rfl) β w hh
 | true=>cases r2 with
  | false=>exact spec_auto (evs:=[(sOfW m.a m.a' ha).e,(sOfW m.b m.b' hb).e,(sOfW m.c m.c' hc).e,(sOfW m.d m.d' hd).e]) (Ns:=[(12,2016017)]) (m:=1200) Tryz.func134 hmA (fun β=>by kernel_rfl) (by kernel_rfl) β w hh
  | true=>cases r3 with
   | false=>exact spec_auto (evs:=[(sOfW m.a m.a' ha).e,(sOfW m.b m.b' hb).e,(sOfW m.c m.c' hc).e,(sOfW m.d m.d' hd).e]) (Ns:=[(12,2016017)]) (m:=1200) Tryz.func134 hmA (fun β=>by kernel_rfl) (by kernel_rfl) β w hh
   | true=>cases r4 with
    | false=>exact spec_auto (evs:=[(sOfW m.a m.a' ha).e,(sOfW m.b m.b' hb).e,(sOfW m.c m.c' hc).e,(sOfW m.d m.d' hd).e]) (Ns:=[(12,2016017)]) (m:=1200) Tryz.func134 hmA (fun β=>by kernel_rfl) (by kernel_rfl) β w hh
    | true=>cases hf
def sOpenNum (m:Mp) {r1 r2 r3 r4:Bool} (ha:(m.a.a.B&&m.a'.a.B)=r1) (hb:(m.b.a.B&&m.b'.a.B)=r2) (hc:(m.c.a.B&&m.c'.a.B)=r3) (hd:(m.d.a.B&&m.d'.a.B)=r4) (hf:(r1&&r2&&r3&&r4)=false):Spec Tryz.prog :=
 ⟨134,Tryz.call134,[.one (.a m.C)],[],.tup [mB 0 false,.c (.b (.v (.bool false)))],any8,fun β w hh=>nil8 (openNum_ok m ha hb hc hd hf β w hh),by
  kernel_rfl⟩
def sOpenDet {m:MQ} (h:FitM m) (hd:gzero (mdet m)=true):Spec Tryz.prog :=
 ⟨134,Tryz.call134,[.one (.a (mCl m))],[],.tup [mB 0 false,.c (.b (.v (.bool false)))],any8,fun β w hh=>nil8 (spec_auto (obs:=[]) (args:=[.one (.a (mCl m))]) (res:=.tup [mx0,.c (.b (.v (.bool false)))]) (news:=[]) (evs:=of4E h++[(sDet ((fitM_sz h).mono (by decide))).e,(sZero hd).e]) (Ns:=[(12,2016017)]) (m:=1200) Tryz.func134 hmA (fun β=>by kernel_rfl) (by kernel_rfl) β w hh),by kernel_rfl⟩
def mayR (r1 r2 r3:Bool):Bool:=bif r1 then true else bif r2 then r3 else false
def sOpenM {m:MQ} (h:FitM m) {r1 r2 r3:Bool} (hd:gzero (mdet m)=false) (h1:gzero (gsub m.c (gint 1 0))=r1) (h2:gzero m.c=r2) (h3:gzero (gsub m.d (gint 1 0))=r3):Spec Tryz.prog :=
 ⟨134,Tryz.call134,[.one (.a (mCl m))],[],.tup [mA 0 m,.c (.b (.v (.bool (mayR r1 r2 r3))))],mT m,fun β w hh=>by
  have k1:GSz KE (gint 1 0):=(GSz.int (by decide) (by decide)).mono (by decide)
  cases r1
  · cases r2
    · exact spec_auto (obs:=[]) (evs:=of4E h++[(sDet ((fitM_sz h).mono (by decide))).e,(sZero hd).e,(sInt 1 0 (by decide) (by decide)).e,(sSame ((fitM_sz h).c.mono (by decide)) k1 h1).e,(sZero h2).e]) (Ns:=[(12,2016017)]) (m:=1200) Tryz.func134 hmA (fun β=>by kernel_rfl) (by kernel_rfl) β w hh
    · exact spec_auto (obs:=[]) (evs:=of4E h++[(sDet ((fitM_sz h).mono (by decide))).e,(sZero hd).e,(sInt 1 0 (by decide) (by decide)).e,(sSame ((fitM_sz h).c.mono (by decide)) k1 h1).e,(sZero h2).e,(sSame ((fitM_sz h).d.mono (by decide)) k1 h3).e]) (Ns:=[(12,2016017)]) (m:=1200) Tryz.func134 hmA (fun β=>by kernel_rfl) (by kernel_rfl) β w hh
  · exact spec_auto (obs:=[]) (evs:=of4E h++[(sDet ((fitM_sz h).mono (by decide))).e,(sZero hd).e,(sInt 1 0 (by decide) (by decide)).e,(sSame ((fitM_sz h).c.mono (by decide)) k1 h1).e]) (Ns:=[(12,2016017)]) (m:=1200) Tryz.func134 hmA (fun β=>by kernel_rfl) (by kernel_rfl) β w hh,by kernel_rfl⟩
end Go.Proofs.YtmfedaakeeiolaaGreat.Y
end
section
namespace Go.Proofs.YtmfedaakeeiolaaGreat
open Go.Proofs.YtmfedaakeeiolaaGreat.Y
open Go Go.RowKit
set_option maxRecDepth 100000
def Fp.mayE:Fp→Ev Tryz.prog
 | .ok x h=>eMayF x h
 | .no b c s t h hs ht=>eMay b c s t hs ht false ⟨fun e=>Bool.noConfusion e,fun e=>absurd e h⟩
def gMayE (a b:Fp):List (Ev Tryz.prog):=match a with
 | .ok ..=>[a.mayE,b.mayE]
 | .no ..=>[a.mayE]
def sGMay (a b:Fp):Y.Spec Tryz.prog :=
 Y.Spec.auto Tryz.call231 [.one (.a (a.C++b.C))] [] (.one (.c (.b (.v (.bool (a.B&&b.B)))))) []
  (gMayE a b) [] 400 Tryz.func231 hmA (by cases a<;>cases b<;>kernel_rfl) (fun β=>by cases a<;>cases b<;>kernel_rfl)
theorem gres {z w:GQ} (h:z=w):SV.one (.a (gC z))=.one (.a (gC w)):=by rw [h]
theorem Sz.le {i k:Nat} {x:Rat} (h:Sz i x) (hk:Nat.ble i k=true:=by decide):Sz k x:=h.mono (Nat.le_of_ble_eq_true hk)
theorem GSz.le {i k:Nat} {z:GQ} (h:GSz i z) (hk:Nat.ble i k=true:=by decide):GSz k z:=h.mono (Nat.le_of_ble_eq_true hk)
theorem gsub_eq (z w:GQ):gadd z (gneg w)=gsub z w:=by
 unfold gadd gneg gsub
 simp only [Rat.sub_eq_add_neg]
theorem gdiv_eq (z w:GQ):gscale (gmul z (gconj w)) (Rat.divInt 1 1/gnorm w)=gdiv z w:=by
 unfold gdiv
 congr 1
 rw [Rat.div_def,show (Rat.divInt 1 1)=1 by rfl,Rat.one_mul]
abbrev svG (z:GQ):SV:=.one (.a (gC z))
abbrev svF (x:Rat):SV:=.one (.a (fC x))
section
variable {z w:GQ} {x:Rat}
def sR4Neg (z:GQ):Y.Spec Tryz.prog:=Y.Spec.auto Tryz.call156 [svG z] [] (svG (gneg z)) [] [(sR3Neg z.re).e,(sR3Neg z.im).e] [(1,7)] 400 Tryz.func156 hmA (by kernel_rfl) (fun β=>by kernel_rfl)
def sR4Conj (z:GQ):Y.Spec Tryz.prog:=Y.Spec.auto Tryz.call192 [svG z] [] (svG (gconj z)) [] [(sR3Neg z.im).e] [(1,6)] 400 Tryz.func192 hmA (by kernel_rfl) (fun β=>by kernel_rfl)
def sR4Plus (hz:GSz KE z) (hw:GSz KE w):Y.Spec Tryz.prog:=Y.Spec.auto Tryz.call53 [svG z,svG w] [] (svG (gadd z w)) [] [(sR3Plus hz.1.le hw.1.le).e,(sR3Plus hz.2.le hw.2.le).e] [(1,11)] 400 Tryz.func53 hmA (by kernel_rfl) (fun β=>by kernel_rfl)
def sR4Minus (hz:GSz KE z) (hw:GSz KE w):Y.Spec Tryz.prog:=(Y.Spec.auto Tryz.call191 [svG z,svG w] [] (svG (gadd z (gneg w))) [] [(sR4Neg w).e,(sR4Plus hz hw.neg).e] [(1,4)] 400 Tryz.func191 hmA (by kernel_rfl) (fun β=>by kernel_rfl)).conv (svG (gsub z w)) (gres (gsub_eq z w))
def sR4Times (hz:GSz KE z) (hw:GSz KE w):Y.Spec Tryz.prog:=Y.Spec.auto Tryz.call54 [svG z,svG w] [] (svG (gmul z w)) []
 [(sR3Times hz.1.le hw.1.le).e,(sR3Times hz.2.le hw.2.le).e,(sR3Minus (hz.1.mul hw.1).le (hz.2.mul hw.2).le).e,(sR3Times hz.1.le hw.2.le).e,(sR3Times hz.2.le hw.1.le).e,(sR3Plus (hz.1.mul hw.2).le (hz.2.mul hw.1).le).e] [(1,12),(2,12)] 400 Tryz.func54 hmA (by kernel_rfl) (fun β=>by kernel_rfl)
def sR4Dot (hz:GSz KE z) (hw:GSz KE w):Y.Spec Tryz.prog:=Y.Spec.auto Tryz.call289 [svG z,svG w] [] (svF (z.re*w.re+z.im*w.im)) []
 [(sR3Times hz.1.le hw.1.le).e,(sR3Times hz.2.le hw.2.le).e,(sR3Plus (hz.1.mul hw.1).le (hz.2.mul hw.2).le).e] [(1,11)] 400 Tryz.func289 hmA (by kernel_rfl) (fun β=>by kernel_rfl)
def sR4Norm (hz:GSz KE z):Y.Spec Tryz.prog:=Y.Spec.auto Tryz.call181 [svG z] [] (svF (gnorm z)) [] [(sR4Dot hz hz).e] [] 400 Tryz.func181 hmA (by kernel_rfl) (fun β=>by kernel_rfl)
def sR4Scale (hz:GSz K3 z) (hx:Sz K3 x):Y.Spec Tryz.prog:=Y.Spec.auto Tryz.call194 [svG z,svF x] [] (svG (gscale z x)) [] [(sR3Times hz.1 hx).e,(sR3Times hz.2 hx).e] [(1,9)] 400 Tryz.func194 hmA (by kernel_rfl) (fun β=>by kernel_rfl)
theorem sz_one:Sz 1 (Rat.divInt 1 1):=Sz.small (by decide)
def sR4Over (hz:GSz KE z) (hw:GSz KE w) (h0:gzero w=false):Y.Spec Tryz.prog:=(Y.Spec.auto Tryz.call71 [svG z,svG w] [] (svG (gscale (gmul z (gconj w)) (Rat.divInt 1 1/gnorm w))) []
 [(sR4Conj w).e,(sR4Times hz hw.conj).e,(sR3Int 1 (by decide)).e,(sR4Norm hw).e,(sR3Over sz_one.le hw.norm.le (gnorm_ne h0)).e,(sR4Scale (hz.mul hw.conj).le (sz_one.div hw.norm (gnorm_ne h0)).le).e] [(1,9)] 400 Tryz.func71 hmA (by kernel_rfl) (fun β=>by kernel_rfl)).conv (svG (gdiv z w)) (gres (gdiv_eq z w))
end
def sR4Int (n m:Int) (hn : -9223372036854775808≤n∧n≤9223372036854775807:=by decide) (hm : -9223372036854775808≤m∧m≤9223372036854775807:=by decide):Y.Spec Tryz.prog :=
 Y.Spec.auto Tryz.call50 [.one (.c (.b (.v (.int .i64 n)))),.one (.c (.b (.v (.int .i64 m))))] [] (svG (gint n m)) [] [(sR3Int n hn).e,(sR3Int m hm).e] [] 400 Tryz.func50 hmA (by kernel_rfl) (fun β=>by kernel_rfl)
theorem sign_num (x:Rat) {b:Bool} (h:decide (x=0)=b):Value.bool (x.num.sign==0)=.bool b:=sign_lit h
def sR4Zero (z:GQ) {b:Bool} (hb:gzero z=b):Y.Spec Tryz.prog :=
 ⟨48,Tryz.call48,[svG z],[],.one (.c (.b (.v (.bool b)))),[],fun β w hh=>by
  cases h1:decide (z.re=0) with
  | false =>
   obtain rfl:b=false:=by rw [← hb]; unfold gzero; rw [h1]; rfl
   exact spec_auto (evs:=[(sR3Sign (x:=z.re) rfl).e,.eqv 6 (.bool (z.re.num.sign==0)) (.bool false) (sign_num _ h1)]) (Ns:=[]) (m:=400) Tryz.func48 hmA (fun β=>by kernel_rfl) (by kernel_rfl) β w hh
  | true =>
   obtain rfl:b=decide (z.im=0):=by rw [← hb]; unfold gzero; rw [h1]; rfl
   cases h2:decide (z.im=0) with
   | false=>exact spec_auto (evs:=[(sR3Sign (x:=z.re) rfl).e,.eqv 6 (.bool (z.re.num.sign==0)) (.bool true) (sign_num _ h1),(sR3Sign (x:=z.im) rfl).e,.eqv 11 (.bool (z.im.num.sign==0)) (.bool false) (sign_num _ h2)]) (Ns:=[]) (m:=400) Tryz.func48 hmA (fun β=>by kernel_rfl) (by kernel_rfl) β w hh
   | true=>exact spec_auto (evs:=[(sR3Sign (x:=z.re) rfl).e,.eqv 6 (.bool (z.re.num.sign==0)) (.bool true) (sign_num _ h1),(sR3Sign (x:=z.im) rfl).e,.eqv 11 (.bool (z.im.num.sign==0)) (.bool true) (sign_num _ h2)]) (Ns:=[]) (m:=400) Tryz.func48 hmA (fun β=>by kernel_rfl) (by kernel_rfl) β w hh,by kernel_rfl⟩
def sR4Fits (z:GQ) {b:Bool} (hb:b=true↔FitG z):Y.Spec Tryz.prog :=
 ⟨190,Tryz.call190,[svG z],[],.one (.c (.b (.v (.bool b)))),[],fun β w hh=>by
  by_cases h1:Fit z.re
  · have h2:b=true↔Fit z.im:=hb.trans ⟨fun h=>h.2,fun h=>⟨h1,h⟩⟩
    cases b<;>exact spec_auto (evs:=[eFFit (iff_true_of h1),eFFit h2]) (Ns:=[]) (m:=400) Tryz.func190 hmA (fun β=>by kernel_rfl) (by kernel_rfl) β w hh
  · obtain rfl:=eq_false_of hb fun h=>h1 h.1
    exact spec_auto (evs:=[eFFit (iff_false_of h1)]) (Ns:=[]) (m:=400) Tryz.func190 hmA (fun β=>by kernel_rfl) (by kernel_rfl) β w hh,by kernel_rfl⟩
def Fp.may3:Fp→Y.Spec Tryz.prog
 | .ok x h=>sR3May _ _ _ _ true (iff_true_of (fitF x h))
 | .no b c s t h hs ht=>sR3May b c s t false (iff_false_of h)
def may4E (a b:Fp):List (Ev Tryz.prog):=match a with
 | .ok ..=>[a.may3.e,b.may3.e]
 | .no ..=>[a.may3.e]
def sR4May (a b:Fp):Y.Spec Tryz.prog :=
 Y.Spec.auto Tryz.call45 [.one (.a (a.C++b.C))] [] (.one (.c (.b (.v (.bool (a.B&&b.B)))))) [] (may4E a b) [] 400 Tryz.func45 hmA (by cases a<;>cases b<;>kernel_rfl) (fun β=>by cases a<;>cases b<;>kernel_rfl)
def Fp.raw:Fp→R4
 | .ok x _=>⟨decide (x.num<0),mag x.num.natAbs,false,mag x.den⟩
 | .no b c s t _ _ _=>⟨b,s,c,t⟩
def Pp.rI:Pp→Bool
 | .fin ..=>false
 | _=>true
def Pp.rX:Pp→R4
 | .inf=>r40
 | .fin a _=>a.raw
 | .odd x _ _=>x
def Pp.rY:Pp→R4
 | .inf=>r40
 | .fin _ b=>b.raw
 | .odd _ y _=>y
def rawC (i:Bool) (x y:R4):List Lf:=.b (.v (.bool i))::(x.L++y.L)
def Y.Spec.as {P:Program} (S:Y.Spec P) (args:List SV) (res:SV) (ha:S.args=args) (hr:S.res=res):Y.Spec P :=
 ⟨S.f,S.en,args,S.obs,res,S.news,fun β w hh=>by subst ha; subst hr; exact S.ok β w hh,by subst ha; subst hr; exact S.closed⟩
def fR (x:Rat):R4:=⟨decide (x.num<0),mag x.num.natAbs,false,mag x.den⟩
def Pt.i:Pt→Bool
 | .inf=>true
 | .fin _=>false
def Pt.x:Pt→R4
 | .inf=>r40
 | .fin z=>fR z.re
def Pt.y:Pt→R4
 | .inf=>r40
 | .fin z=>fR z.im
abbrev svR (i:Bool) (x y:R4):SV:=.one (.a (rawC i x y))
abbrev svP (p:Pt):SV:=svR p.i p.x p.y
def FitP:Pt→Prop
 | .inf=>True
 | .fin z=>FitG z
structure Rw where
 i:Bool
 x:R4
 y:R4
def Pt.w (p:Pt):Rw:=⟨p.i,p.x,p.y⟩
def Pp.w (p:Pp):Rw:=⟨p.rI,p.rX,p.rY⟩
theorem fp_of (x:R4) (h1:x.s.size≤maxLen) (h2:x.t.size≤maxLen):∃ a:Fp,a.raw=x:=by
 obtain ⟨b,s,c,t⟩:=x
 rcases fp_all b c s t with ⟨q,h,rfl,rfl,rfl,rfl⟩ | h
 · exact ⟨.ok q h,rfl⟩
 · exact ⟨.no b c s t h h1 h2,rfl⟩
theorem fR_inj {x y:Rat} (h:fR x=fR y):x=y:=by
 injection h with h1 h2 h3 h4
 have hn:x.num.natAbs=y.num.natAbs:=mag_inj h2
 have hd:x.den=y.den:=mag_inj h4
 have hb:(x.num<0)=(y.num<0):=by simpa using h1
 refine Rat.ext ?_ hd
 by_cases h0:x.num<0
 · have:y.num<0:=by rw [← hb]; exact h0
   omega
 · have:¬ y.num<0:=by rw [← hb]; exact h0
   omega
theorem Pt.w_inj {p q:Pt} (h:p.w=q.w):p=q:=by
 cases p<;>cases q
 · rfl
 · injection h with h1; cases h1
 · injection h with h1; cases h1
 · rename_i z w
   injection h with _ h2 h3
   exact congrArg Pt.fin (GQ.ext2 (fR_inj h2) (fR_inj h3))
def rwB (i i':Bool) (x y x' y':R4):Bool:=(i==i')&&((x.eq x'&&(y.eq y'&&true))&&true)
theorem rwB_iff {i i':Bool} {x y x' y':R4}:rwB i i' x y x' y'=true↔i=i'∧x=x'∧y=y':=by
 unfold rwB
 simp only [Bool.and_true,Bool.and_eq_true,R4.eq_iff,beq_iff_eq]
def ptB (p q:Pt):Bool:=rwB p.i q.i p.x p.y q.x q.y
theorem ptB_iff {p q:Pt}:ptB p q=true↔p=q:=by
 unfold ptB
 rw [rwB_iff]
 constructor
 · rintro ⟨h1,h2,h3⟩
   exact Pt.w_inj (by unfold Pt.w; rw [h1,h2,h3])
 · rintro rfl; exact ⟨rfl,rfl,rfl⟩
def mC (m:MQ):List Lf:=gC m.a++gC m.b++gC m.c++gC m.d++[.b (.v (.bool m.t))]
abbrev svM (m:MQ):SV:=.one (.a (mC m))
theorem gz_true {z:GQ}:gzero z=true↔z=g0:=by
 rw [gzero_iff]
 exact ⟨fun h=>GQ.ext2 h.1 h.2,fun h=>by rw [h]; exact ⟨rfl,rfl⟩⟩
theorem gz_false {z:GQ}:gzero z=false↔z≠g0:=by
 cases h:gzero z with
 | true=>exact ⟨fun e=>Bool.noConfusion e,fun e=>absurd (gz_true.1 h) e⟩
 | false=>exact ⟨fun _ e=>by rw [gz_true.2 e] at h; exact Bool.noConfusion h,fun _=>rfl⟩
theorem gnorm_inv {w:GQ} (h:w≠g0):gnorm w*(gnorm w)⁻¹=1:=Rat.mul_inv_cancel _ (gnorm_ne (gz_false.2 h))
theorem gdiv_mul {z w:GQ} (h:w≠g0):gmul (gdiv z w) w=z:=by
 have hn:=gnorm_inv h
 unfold gdiv
 generalize hi:(gnorm w)⁻¹=i at hn
 unfold gnorm at hn
 refine GQ.ext2 ?_ ?_
 · simp only [gmul,gscale,gconj]; grind
 · simp only [gmul,gscale,gconj]; grind
def Reg (m:MQ):Prop:=mdet m≠g0
theorem Reg.by_ {m:MQ} (h:Reg m) {b:Bool} (hb:gzero m.c=b):(bif b then m.d else m.c)≠g0:=by
 cases b
 · exact gz_false.1 hb
 · intro e
   refine h ?_
   have hc:=gz_true.1 hb
   unfold mdet
   rw [hc,show m.d=g0 from e]
   refine GQ.ext2 ?_ ?_<;>(simp only [gsub,gmul,g0]; grind)
theorem Reg.by0 {m:MQ} (h:Reg m) {b:Bool} (hb:gzero m.c=b):gzero (bif b then m.d else m.c)=false:=gz_false.2 (h.by_ hb)
theorem Reg.undo0 {m:MQ} (h:Reg m):Reg (mundo0 m):=fun e=>h (by
 have e1:=congrArg GQ.re e
 have e2:=congrArg GQ.im e
 simp only [mdet,mundo0,gsub,gmul,gneg,g0] at e1 e2
 refine GQ.ext2 ?_ ?_<;>(simp only [mdet,gsub,gmul,g0]; grind))
theorem Reg.conj {m:MQ} (h:Reg m) (t:Bool):Reg (mconj m t):=by
 cases t
 · exact h
 · intro e
   refine h ?_
   have e1:=congrArg GQ.re e
   have e2:=congrArg GQ.im e
   simp only [mdet,mconj,cond_true,gsub,gmul,gconj,g0] at e1 e2
   refine GQ.ext2 ?_ ?_<;>(simp only [mdet,gsub,gmul,g0]; grind)
structure BSpec (P:Program) where
 f:FuncId
 en:Enters P f
 args:List SV
 cs:List Lf
 t:TypeId
 r:Value
 ok:∀ β w,(Ob.box cs t).holds β w (β 0)→Calls P f (args.map (SV.den β)).toArray w fun e w'=>e=.returned r∧Below w.heap.size w w'
 cl:(cs.all (Lf.of fun _=>false)&&args.all (SV.of fun k=>Nat.beq k 0))=true
 hr:∀ β,(tag r).den β=r
def bkOf:List SV→Nat
 | []=>0
 | .one (.c (.b (.s k _ _ _)))::_=>k
 | _::r=>bkOf r
theorem cells_closed {β β':Env} {cs:List Lf} (h:cs.all (Lf.of fun _=>false)=true):cs.map (Lf.den β)=cs.map (Lf.den β') :=
 List.map_congr_left fun x hx=>Lf.den_congr (q:=fun _=>false) (fun k hk=>by cases hk) x (List.all_eq_true.1 h x hx)
def BSpec.e {P:Program} (S:BSpec P):Ev P:=.dyn (fun o _ _=>isCallB o) fun _ xs ob=>lit (bkOf xs) fun i =>
 .call S.f S.en (fun β=>(S.args.map (SV.den fun _=>β i)).toArray) [(i,.box S.cs S.t)] 0 (tag S.r) [] (fun β w h=>of_pure0 (by
  have hc:=S.cl
  rw [Bool.and_eq_true] at hc
  refine S.ok (fun _=>β i) w ?_
  have h1:(β i).one∧w.heap[(β i).b]?=some (.cells (S.cs.map (Lf.den β)).toArray S.t (0,0)):=h _ (List.mem_singleton.2 rfl)
  show (β i).one∧w.heap[(β i).b]?=some (.cells (S.cs.map (Lf.den fun _=>β i)).toArray S.t (0,0))
  rw [cells_closed (β':=β) hc.1]
  exact h1) S.hr)
theorem bspec_ok {P:Program} {f:FuncId} {fn:Func} {args:List SV} {cs:List Lf} {t:TypeId} {r:Value} (evs:List (Ev P)) (Ns:List (Nat × Nat)) (m:Nat) (hf:P.funcs[f]?=some fn) (hm:P.follows .mixedOrders=true)
  (h:∀ β,(allS P fn args [.box cs t] evs Ns m (tag r) [] β).map Prod.fst=(allS P fn args [.box cs t] evs Ns m (tag r) [] β).map Prod.snd)
  (hB:(args.all (SV.of fun k=>Nat.blt k 1)&&[Ob.box cs t].all fun x=>x.of (fun k=>Nat.blt k 1)&&x.own)=true) (hr:∀ β,(tag r).den β=r) (β:Env) (w:World) (hh:(Ob.box cs t).holds β w (β 0)) :
  Calls P f (args.map (SV.den β)).toArray w fun e w'=>e=.returned r∧Below w.heap.size w w':=by
 rw [Bool.and_eq_true] at hB
 refine (sx (P:=P) args [.box cs t] evs Ns m (tag r) [] hf hm (fun β=>ok_of_maps (h β)) hB.1 hB.2 β w (fun k o ho=>?_)).mono ?_
 · cases k with
   | zero=>simp only [List.getElem?_cons_zero] at ho; obtain rfl:=Option.some.inj ho; exact hh
   | succ k=>simp at ho
 · rintro e w' ⟨β',q,obj,e1,rfl,e2,e4,e5,g⟩
   exact ⟨by rw [hr],g.bel⟩
def big (k:Nat) (s:ByteArray):Bool:=decide ((k:Int)<(s.size:Int))
def smB (k:Nat) (x y:R4):Bool:=!(big k x.s||(big k x.t||(big k y.s||big k y.t)))
def Rw.C (r:Rw):List Lf:=rawC r.i r.x r.y
def Rw.sm (k:Nat) (r:Rw):Bool:=smB k r.x r.y
def sR8Normal {a b c d:GQ} (t:Bool) (h:MSz KE ⟨a,b,c,d,t⟩) {f:Bool} (hf:gzero c=f) (h0:gzero (bif f then d else c)=false):Y.Spec Tryz.prog :=
 ⟨154,Tryz.call154,[svG a,svG b,svG c,svG d,.one (.c (.b (.v (.bool t))))],[],svM (mnormB ⟨a,b,c,d,t⟩ f),[],fun β w hh=>by
  cases f
  · exact spec_auto (evs:=[(sR4Zero c hf).e,(sR4Over h.a h.c h0).e,(sR4Over h.b h.c h0).e,(sR4Over h.c h.c h0).e,(sR4Over h.d h.c h0).e]) (Ns:=[(4,14)]) (m:=400) Tryz.func154 hmA (fun β=>by kernel_rfl) (by kernel_rfl) β w hh
  · exact spec_auto (evs:=[(sR4Zero c hf).e,(sR4Over h.a h.d h0).e,(sR4Over h.b h.d h0).e,(sR4Over h.c h.d h0).e,(sR4Over h.d h.d h0).e]) (Ns:=[(4,14)]) (m:=400) Tryz.func154 hmA (fun β=>by kernel_rfl) (by kernel_rfl) β w hh,by kernel_rfl⟩
def sR8turned (z:GQ) (t:Bool):Y.Spec Tryz.prog :=
 ⟨155,Tryz.call155,[svG z,.one (.c (.b (.v (.bool t))))],[],svG (mcj t z),[],fun β w hh=>by
  cases t
  · exact spec_auto (evs:=[]) (Ns:=[]) (m:=400) Tryz.func155 hmA (fun β=>by kernel_rfl) (by kernel_rfl) β w hh
  · exact spec_auto (evs:=[(sR4Conj z).e]) (Ns:=[]) (m:=400) Tryz.func155 hmA (fun β=>by kernel_rfl) (by kernel_rfl) β w hh,by kernel_rfl⟩
def minv0 (m:MQ):MQ:=mconj (mundo0 m) m.t
theorem minv0_sz {k:Nat} {m:MQ} (h:MSz k m):MSz k (minv0 m):=h.undo0.conj _
def sR8Inverse {m:MQ} (h:MSz KE m) {f:Bool} (hf:gzero (minv0 m).c=f) (h0:gzero (bif f then (minv0 m).d else (minv0 m).c)=false):Y.Spec Tryz.prog :=
 Y.Spec.auto Tryz.call39 [svM m] [] (svM (mnormB (minv0 m) f)) []
  [(sR8turned m.d m.t).e,(sR4Neg m.b).e,(sR8turned (gneg m.b) m.t).e,(sR4Neg m.c).e,(sR8turned (gneg m.c) m.t).e,(sR8turned m.a m.t).e,(sR8Normal (a:=(minv0 m).a) (b:=(minv0 m).b) (c:=(minv0 m).c) (d:=(minv0 m).d) m.t (minv0_sz h) hf h0).e]
  [(1,25)] 400 Tryz.func39 hmA (by kernel_rfl) (fun β=>by kernel_rfl)
abbrev KQ:Nat:=250
theorem minv_reg {m:MQ} (h:Reg m):Reg (minv0 m):=h.undo0.conj _
theorem ptB_ne' {p q:Pt} (h:p≠q):ptB p q=false:=by
 cases k:ptB p q
 · rfl
 · exact absurd (ptB_iff.1 k) h
def mnorm (m:MQ):MQ:=mnormB m (gzero m.c)
theorem Reg.b0 {m:MQ} (h:Reg m):gzero (bif gzero m.c then m.d else m.c)=false:=h.by0 rfl
def minv (m:MQ):MQ:=mnorm (minv0 m)
def mid (t:Bool):MQ:=⟨gint 1 0,g0,g0,gint 1 0,t⟩
end Go.Proofs.YtmfedaakeeiolaaGreat
end
section
namespace Go.Proofs.YtmfedaakeeiolaaGreat.Y
open Go Go.RowKit
set_option maxRecDepth 100000
def sSpotP (p:Pt) (h:FitP p):Spec Tryz.prog :=
 ⟨146,Tryz.call146,[.one (.a (lsX p.w.C))],[],.tup [.a (pL 0 p),.c (.b (.v (.bool true)))],pM p,fun β w hh=>by
  cases p with
  | inf=>exact (sSpot .inf).ok β w hh
  | fin z =>
   refine ((sSpot (.fin (.ok z.re h.1) (.ok z.im h.2))).ok β w hh).mono fun e w' ⟨xs,h1,he,h2,h3⟩=>⟨xs,h1,he,?_,h3⟩
   have h4:newHold w' [ratT z.re,ratT z.im] xs:=h2
   match xs,h4 with
   | [a,b],h4=>exact ⟨(ratT z.re).imp _ _ h4.1,(ratT z.im).imp _ _ h4.2.1,trivial⟩,by kernel_rfl⟩
def OpenNo (m:Mp) (t:Bool):Prop:=∀ (β:Env) (w:World),Calls Tryz.prog 134 (([.one (.a m.C)]:List SV).map (SV.den β)).toArray w fun e w'=>∃ xs:List Pl,freshS β w 0 xs∧e=.returned ((SV.tup [mB 0 t,.c (.b (.v (.bool false)))]).den (extE β 0 xs))∧newHold w' any8 xs∧Below w.heap.size w w'
def sOpenNo {m:Mp} {t:Bool} (h:OpenNo m t):Spec Tryz.prog :=
 ⟨134,Tryz.call134,[.one (.a m.C)],[],.tup [mB 0 t,.c (.b (.v (.bool false)))],any8,fun β w _=>h β w,by kernel_rfl⟩
theorem newHold8 {w:World} {t1 t2 t3 t4 t5 t6 t7 t8:Thing} {xs:List Pl} (h:newHold w [t1,t2,t3,t4,t5,t6,t7,t8] xs):newHold w any8 xs:=by
 match xs,h with
 | [a,b,c,d,e,f,g,i],h=>exact ⟨an_of t1.st h.1,an_of t2.st h.2.1,an_of t3.st h.2.2.1,an_of t4.st h.2.2.2.1,an_of t5.st h.2.2.2.2.1,an_of t6.st h.2.2.2.2.2.1,an_of t7.st h.2.2.2.2.2.2.1,an_of t8.st h.2.2.2.2.2.2.2.1,trivial⟩
def MayQ (q:MQ):Prop:=FitM q∧gzero (mdet q)=false∧(gzero (gsub q.c (gint 1 0))=true∨gzero q.c=true∧gzero (gsub q.d (gint 1 0))=true)
theorem fp_fit {a:Fr} (h:a.a.B=true):∃ x,∃ k:Fit x,rL a.r=lsX (Fp.C (.ok x k)):=by
 obtain ⟨r,a,e⟩:=a
 cases a with
 | ok x hx=>exact ⟨x,hx,e.symm⟩
 | no=>cases h
theorem open_all (m:Mp):(∃ q,MayQ q∧m.C=mCl q)∨∃ t,OpenNo m t:=by
 by_cases hn:((m.a.a.B&&m.a'.a.B)&&(m.b.a.B&&m.b'.a.B)&&(m.c.a.B&&m.c'.a.B)&&(m.d.a.B&&m.d'.a.B))=true
 · simp only [Bool.and_eq_true] at hn
   obtain ⟨⟨⟨⟨p1,p2⟩,p3,p4⟩,p5,p6⟩,p7,p8⟩:=hn
   obtain ⟨x1,h1,e1⟩:=fp_fit p1
   obtain ⟨x2,h2,e2⟩:=fp_fit p2
   obtain ⟨x3,h3,e3⟩:=fp_fit p3
   obtain ⟨x4,h4,e4⟩:=fp_fit p4
   obtain ⟨x5,h5,e5⟩:=fp_fit p5
   obtain ⟨x6,h6,e6⟩:=fp_fit p6
   obtain ⟨x7,h7,e7⟩:=fp_fit p7
   obtain ⟨x8,h8,e8⟩:=fp_fit p8
   obtain ⟨q,hq⟩:∃ q:MQ,q=⟨⟨x1,x2⟩,⟨x3,x4⟩,⟨x5,x6⟩,⟨x7,x8⟩,m.t⟩:=⟨_,rfl⟩
   have hf:FitM q:=by rw [hq]; exact ⟨⟨h1,h2⟩,⟨h3,h4⟩,⟨h5,h6⟩,h7,h8⟩
   have hC:m.C=mCl q:=by
    unfold Mp.C
    rw [e1,e2,e3,e4,e5,e6,e7,e8,hq]
    rfl
   cases hd:gzero (mdet q) with
   | true =>
    refine .inr ⟨false,fun β w=>?_⟩
    rw [hC]
    exact (sOpenDet hf hd).ok β w (fun k t h=>by simp [sOpenDet] at h)
   | false =>
    obtain ⟨r1,k1⟩:∃ r,gzero (gsub q.c (gint 1 0))=r:=⟨_,rfl⟩
    obtain ⟨r2,k2⟩:∃ r,gzero q.c=r:=⟨_,rfl⟩
    obtain ⟨r3,k3⟩:∃ r,gzero (gsub q.d (gint 1 0))=r:=⟨_,rfl⟩
    cases hr:mayR r1 r2 r3 with
    | true =>
     refine .inl ⟨q,⟨hf,hd,?_⟩,hC⟩
     rw [k1,k2,k3]
     cases r1<;>cases r2<;>cases r3<;>first | exact .inl rfl | exact .inr ⟨rfl,rfl⟩ | cases hr
    | false =>
     refine .inr ⟨q.t,fun β w=>?_⟩
     rw [hC]
     refine ((sOpenM hf hd k1 k2 k3).ok β w (fun k t h=>by simp [sOpenM] at h)).mono fun e w' ⟨xs,h1,he,h2,h3⟩=>⟨xs,h1,?_,newHold8 h2,h3⟩
     rw [he]
     show Ending.returned ((SV.tup [mA 0 q,.c (.b (.v (.bool (mayR r1 r2 r3))))]).den (extE β 0 xs))=_
     rw [hr]
     rfl
 · refine .inr ⟨false,fun β w=>?_⟩
   exact (sOpenNum m rfl rfl rfl rfl (Bool.eq_false_iff.2 hn)).ok β w (fun k t h=>by simp [sOpenNum] at h)
def sOpenYes {q:MQ} (h:MayQ q):Spec Tryz.prog :=
 ⟨134,Tryz.call134,[.one (.a (mCl q))],[],.tup [mA 0 q,.c (.b (.v (.bool true)))],mT q,fun β w hh=>by
  obtain ⟨hf,hd,hr⟩:=h
  have hk:mayR (gzero (gsub q.c (gint 1 0))) (gzero q.c) (gzero (gsub q.d (gint 1 0)))=true:=by
   unfold mayR
   rcases hr with h | ⟨h,k⟩
   · rw [h]; rfl
   · rw [h,k]; cases gzero (gsub q.c (gint 1 0))<;>rfl
  refine ((sOpenM hf hd rfl rfl rfl).ok β w hh).mono fun e w' ⟨xs,h1,he,h2,h3⟩=>⟨xs,h1,?_,h2,h3⟩
  rw [he]
  show Ending.returned ((SV.tup [mA 0 q,.c (.b (.v (.bool (mayR (gzero (gsub q.c (gint 1 0))) (gzero q.c) (gzero (gsub q.d (gint 1 0)))))))]).den (extE β 0 xs))=_
  rw [hk]
  rfl,by kernel_rfl⟩
end Go.Proofs.YtmfedaakeeiolaaGreat.Y
end
section
namespace Go.Proofs.YtmfedaakeeiolaaGreat
open Go.Proofs.YtmfedaakeeiolaaGreat.Y
open Go Go.RowKit
set_option maxRecDepth 100000
def sR8unit:Y.Spec Tryz.prog:=Y.Spec.auto Tryz.call140 [] [] (svG (gint 1 0)) [] [(sR4Int 1 0).e] [] 400 Tryz.func140 hmA (by kernel_rfl) (fun β=>by kernel_rfl)
def sR8zero:Y.Spec Tryz.prog:=Y.Spec.auto Tryz.call141 [] [] (svG (gint 0 0)) [] [(sR4Int 0 0).e] [] 400 Tryz.func141 hmA (by kernel_rfl) (fun β=>by kernel_rfl)
abbrev KD:Nat:=1000000
abbrev KT:Nat:=125
abbrev P6 (p q r s u v:Pt) (k:Pt→Prop):Prop:=k p∧k q∧k r∧k s∧k u∧k v
end Go.Proofs.YtmfedaakeeiolaaGreat
end
section
namespace Go.Proofs.YtmfedaakeeiolaaGreat.Y
open Go Go.RowKit
set_option maxRecDepth 100000
def eqEvPt {p q:Pt} {r:Bool} (h:ptB p q=r):Ev Tryz.prog:=eqEvP p.i q.i p.x p.y q.x q.y r h
theorem MayQ.reg {q:MQ} (h:MayQ q):Reg q:=gz_false.1 h.2.1
structure Gp where
 a:Fr
 b:Fr
def Gp.C (g:Gp):SV:=.one (.a (rL g.a.r++rL g.b.r))
def Gp.B (g:Gp):Bool:=g.a.a.B&&g.b.a.B
abbrev tB' (t:Bool):SV:=.one (.c (.b (.v (.bool t))))
abbrev nI' (k:Int):SC:=.c (.b (.v (.int .i64 k)))
abbrev gS (z:GQ):SV:=.one (.a (lsX (gC z)))
end Go.Proofs.YtmfedaakeeiolaaGreat.Y
end
section
namespace Go.Proofs.YtmfedaakeeiolaaGreat
open Go.Proofs.YtmfedaakeeiolaaGreat.Y
open Go Go.RowKit
set_option maxRecDepth 100000
abbrev svI (n:Int):SC:=.c (.b (.v (.int .i64 n)))
theorem sz_lit1 {n:Int} (h:n.natAbs<256):Fit (Rat.divInt n 1):=(Sz.small h).fit (by decide)
theorem fit_int {n m:Int} (h:n.natAbs<256) (k:m.natAbs<256):FitG (gint n m):=⟨sz_lit1 h,sz_lit1 k⟩
def gV (a a':R4):Array Value:=#[.bool a.b,.string a.s,.bool a.c,.string a.t,.bool a'.b,.string a'.s,.bool a'.c,.string a'.t]
def geq (x y x' y':R4):Bool:=x.eq x'&&(y.eq y'&&true)
theorem geq_self (x y:R4):geq x y x y=true:=by
 unfold geq
 rw [R4.eq_iff.2 rfl,R4.eq_iff.2 rfl]; rfl
abbrev pI (n m:Int):Pt:=.fin (gint n m)
theorem pI_ne {n m n' m':Int} (h:¬ (n=n'∧m=m')):pI n m≠pI n' m':=fun e=>h (by
 injection e with e
 injection e with e1 e2
 have k1:=congrArg Rat.num e1
 have k2:=congrArg Rat.num e2
 rw [(divInt_one n).1,(divInt_one n').1] at k1
 rw [(divInt_one m).1,(divInt_one m').1] at k2
 exact ⟨k1,k2⟩)
end Go.Proofs.YtmfedaakeeiolaaGreat
end
section
namespace Go.Proofs.YtmfedaakeeiolaaGreat.Y
open Go Go.RowKit
set_option maxRecDepth 100000
theorem fit00:FitG (gint 0 0):=fit_int (by decide) (by decide)
def frX (x:Rat) (h:Fit x):Fr:=⟨fR x,.ok x h,rfl⟩
def gpX (z:GQ) (h:FitG z):Gp:=⟨frX z.re h.1,frX z.im h.2⟩
def sR8Det {m:MQ} (h:MSz KD m):Spec Tryz.prog :=
 Spec.auto Tryz.call61 [svM m] [] (svG (mdet m)) []
  [(sR4Times (GSz.le h.a) (GSz.le h.d)).e,(sR4Times (GSz.le h.b) (GSz.le h.c)).e,(sR4Minus (h.a.mul h.d).le (h.b.mul h.c).le).e] [(1,11)] 400 Tryz.func61 hmA (by kernel_rfl) (fun β=>by kernel_rfl)
theorem rL_inj {x y:R4} (h:rL x=rL y):x=y:=by
 obtain ⟨b,s,c,t⟩:=x
 obtain ⟨b',s',c',t'⟩:=y
 simp only [rL,List.cons.injEq,Lf.b.injEq,Lf0.v.injEq,Value.bool.injEq,Value.string.injEq,and_true] at h
 obtain ⟨rfl,rfl,rfl,rfl⟩:=h
 rfl
inductive Gn where
 | ok (z:GQ) (h:FitG z)
 | no (g:Gp) (h:g.B=false)
def Gn.gp:Gn→Gp
 | .ok z h=>gpX z h
 | .no g _=>g
def Gn.x (g:Gn):R4:=g.gp.a.r
def Gn.y (g:Gn):R4:=g.gp.b.r
def Gn.B:Gn→Bool
 | .ok ..=>true
 | .no ..=>false
theorem Gn.gpB:∀ g:Gn,g.gp.B=g.B
 | .ok ..=>rfl
 | .no _ h=>h
def Gn.z:Gn→GQ
 | .ok z _=>z
 | .no ..=>g0
theorem fr_of (r:R4) (h:r.s.size≤maxLen∧r.t.size≤maxLen):∃ a:Fr,a.r=r:=by
 obtain ⟨a,ha⟩:=fp_of r h.1 h.2
 exact ⟨⟨r,a,by rw [← ha]; cases a<;>rfl⟩,rfl⟩
theorem gn_of (x y:R4) (hx:x.s.size≤maxLen∧x.t.size≤maxLen) (hy:y.s.size≤maxLen∧y.t.size≤maxLen):∃ g:Gn,g.x=x∧g.y=y:=by
 obtain ⟨a,rfl⟩:=fr_of x hx
 obtain ⟨b,rfl⟩:=fr_of y hy
 cases h:(Gp.mk a b).B with
 | false=>exact ⟨.no ⟨a,b⟩ h,rfl,rfl⟩
 | true =>
  have h':=Bool.and_eq_true_iff.1 h
  obtain ⟨ra,fa,ea⟩:=a
  obtain ⟨rb,fb,eb⟩:=b
  cases fa with
  | no=>cases h'.1
  | ok x hx2=>cases fb with
   | no=>cases h'.2
   | ok y hy2 =>
    refine ⟨.ok ⟨x,y⟩ ⟨hx2,hy2⟩,rL_inj ?_,rL_inj ?_⟩
    · exact ea
    · exact eb
inductive Cd where
 | v (x:Value)
 | r (x:Rat)
 | t (x:Rat)
def cd1 (g:Pl) (i:Nat):Cd→Value
 | .v x=>x
 | .r _=>.pointer (g.v i)
 | .t _=>.pointer (g.v i)
def cdV (g:Pl):Nat→List Cd→List Value
 | _,[]=>[]
 | i,c::l=>cd1 g i c::cdV g (i+1) l
def cdP (w:World) (g:Pl) (i:Nat):Cd→Prop
 | .v _=>True
 | .r x=>(g.v i=none∧x=0)∨∃ b,g.v i=some ⟨b,0,none⟩∧g.F b∧RatAt w b 0 x
 | .t x=>∃ b,g.v i=some ⟨b,0,none⟩∧g.F b∧RatAt w b 0 x
def cdOk (w:World) (g:Pl):Nat→List Cd→Prop
 | _,[]=>True
 | i,c::l=>cdP w g i c∧cdOk w g (i+1) l
theorem cdV_at {g:Pl}:∀ {l:List Cd} {i j:Nat} {c:Cd},l[j]?=some c→(cdV g i l)[j]?=some (cd1 g (i+j) c)
 | _::_,i,0,c,h=>by
  simp only [List.getElem?_cons_zero] at h
  obtain rfl:=Option.some.inj h
  rfl
 | _::l,i,j+1,c,h=>by
  have:=cdV_at (g:=g) (l:=l) (i:=i+1) (j:=j) (c:=c) (by simpa using h)
  rw [show i+(j+1)=i+1+j by omega]
  simpa [cdV] using this
theorem cdOk_at {w:World} {g:Pl}:∀ {l:List Cd} {i j:Nat} {c:Cd},cdOk w g i l→l[j]?=some c→cdP w g (i+j) c
 | _::_,i,0,c,h,hl=>by
  simp only [List.getElem?_cons_zero] at hl
  obtain rfl:=Option.some.inj hl
  exact h.1
 | _::l,i,j+1,c,h,hl=>by
  rw [show i+(j+1)=i+1+j by omega]
  exact cdOk_at (l:=l) h.2 (by simpa using hl)
theorem cdP_below {w w':World} {g:Pl} {i:Nat} (hb:Below w.heap.size w w'):∀ c:Cd,cdP w g i c→cdP w' g i c
 | .v _,_=>trivial
 | .r x,h=>h.imp id fun ⟨b,h1,h2,h3⟩=>⟨b,h1,h2,h3.on hb⟩
 | .t x,⟨b,h1,h2,h3⟩=>⟨b,h1,h2,h3.on hb⟩
theorem cdP_touch {w w':World} {g:Pl} {i b o n:Nat} (hs:NW w b) (ht:Touch w w' b o n) (hne:¬ g.F b):∀ c:Cd,cdP w g i c→cdP w' g i c
 | .v _,_=>trivial
 | .r x,h=>h.imp id fun ⟨d,h1,h2,h3⟩=>⟨d,h1,h2,RatAt.touchN h3 hs ht fun e=>hne (e▸h2)⟩
 | .t x,⟨d,h1,h2,h3⟩=>⟨d,h1,h2,RatAt.touchN h3 hs ht fun e=>hne (e▸h2)⟩
theorem cdOk_map {w w':World} {g:Pl} (h:∀ i c,cdP w g i c→cdP w' g i c):∀ {l:List Cd} {i:Nat},cdOk w g i l→cdOk w' g i l
 | [],_,_=>trivial
 | c::l,i,k=>⟨h i c k.1,cdOk_map h k.2⟩
def RW (e:TypeId) (cs:List Cd) (w:World) (g:Pl):Prop :=
 (g.F g.b∧∃ cur:Array Value,w.heap[g.b]?=some (.cells cur e (0,0))∧cur.toList.take cs.length=cdV g 0 cs)∧(cdOk w g 0 cs∧g.v cs.length=some ⟨g.b,0,none⟩)∧∀ c,g.F c→c<w.heap.size
theorem rw_stable (e:TypeId) (cs:List Cd):Stable (RW e cs) :=
 ⟨fun w g h=>h.2.2,
  fun w w' g ⟨⟨hf,cur,h1,h2⟩,⟨h3,h5⟩,h4⟩ hb=>⟨⟨hf,cur,by rw [hb.block g.b (heap_lt h1)]; exact h1,h2⟩,⟨cdOk_map (fun i c=>cdP_below hb c) h3,h5⟩,fun c hc=>Nat.lt_of_lt_of_le (h4 c hc) hb.size⟩,
  fun w w' g b o n m ⟨⟨hf,cur,h1,h2⟩,⟨h3,h5⟩,h4⟩ hs ht hne=>⟨⟨hf,cur,by rw [ht.block g.b (heap_lt h1) fun e=>hne (e▸hf)]; exact h1,h2⟩,⟨cdOk_map (fun i c=>cdP_touch hs ht hne c) h3,h5⟩,
   fun c hc=>Nat.lt_of_lt_of_le (h4 c hc) (ht.below (B:=0) (Nat.zero_le _) (Nat.zero_le _)).size⟩⟩
def rowT (e:TypeId) (cs:List Cd):Thing:=thing (RW e cs) (rw_stable e cs)
def cellPl (g:Pl) (i:Nat):Pl:=⟨(match g.v i with | some a=>a.block | none=>0),fun _=>g.v i,fun _=>0,fun c=>∃ a,g.v i=some a∧c=a.block,fun _=>undef⟩
theorem cellPl_or {w:World} {g:Pl} {i:Nat} {x:Rat} (h:cdP w g i (.r x)):OR0 x w (cellPl g i):=by
 rcases h with ⟨h1,h2⟩ | ⟨b,h1,h2,h3⟩
 · exact .inl ⟨h1,(fun c hc=>by obtain ⟨a,ha,_⟩:=hc; rw [h1] at ha; cases ha),h2⟩
 · exact .inr ⟨b,⟨h1,fun c=>⟨fun ⟨a,ha,hc⟩=>by rw [h1] at ha; cases ha; exact hc,fun hc=>⟨_,h1,hc⟩⟩⟩,h3⟩
theorem cellPl_F {w:World} {g:Pl} {i:Nat} {x:Rat} (h:cdP w g i (.r x)) {c:Nat} (hc:(cellPl g i).F c):g.F c:=by
 obtain ⟨a,ha,rfl⟩:=hc
 rcases h with ⟨h1,h2⟩ | ⟨b,h1,h2,h3⟩
 · rw [h1] at ha; cases ha
 · rw [h1] at ha; cases ha; exact h2
theorem rw_cell {e:TypeId} {cs:List Cd} {w:World} {g:Pl} (h:RW e cs w g) {j:Nat} {c:Cd} (hj:cs[j]?=some c):w.cell? ⟨g.b,j,none⟩=some (cd1 g j c):=by
 obtain ⟨⟨_,cur,h1,h2⟩,_⟩:=h
 have h3:=cdV_at (g:=g) (i:=0) hj
 rw [← h2,Nat.zero_add] at h3
 rw [List.getElem?_take] at h3
 split at h3
 · rw [Array.getElem?_toList] at h3
   exact cell_lay h1 h3
 · cases h3
def adOf:SV→Nat × Nat
 | .one (.c (.b (.p k o)))=>(k,o)
 | _=>(0,0)
def isAd:SV→Bool
 | .one (.c (.b (.p _ _)))=>true
 | _=>false
def yOf:SV→Nat × Nat
 | .one (.c (.b (.y k _ n)))=>(k,n)
 | _=>(0,0)
def isY:SV→Bool
 | .one (.c (.b (.y _ _ _)))=>true
 | _=>false
def intS:SV→Nat
 | .one (.c (.b (.v (.int _ i))))=>i.toNat
 | _=>0
structure CSpec (P:Program) where
 f:FuncId
 en:Enters P f
 args:List SV
 cs:List Lf
 t:TypeId
 res:SV
 news:List Thing
 ok:∀ β w,(Ob.box cs t).holds β w (β 0)→Calls P f (args.map (SV.den β)).toArray w fun e w'=>∃ xs:List Pl,(∀ x∈xs,∀ c,x.F c→w.heap.size≤c)∧e=.returned (res.den (extE β 1 xs))∧newHold w' news xs∧Below w.heap.size w w'
 cl:(cs.all (Lf.of fun _=>false)&&args.all (SV.of fun k=>Nat.beq k 0)&&res.of fun k=>Nat.ble 1 k&&Nat.blt k (1+news.length))=true
def bkOfY:List SV→Nat
 | []=>0
 | .one (.c (.b (.s k _ _ _)))::_=>k
 | _::r=>bkOfY r
def CSpec.e {P:Program} (S:CSpec P):Ev P:=.dyn (fun o _ _=>isCallB o) fun _ xs ob=>lit (bkOfY xs) fun i=>lit ob.length fun n =>
 .call S.f S.en (fun β=>(S.args.map (SV.den fun _=>β i)).toArray) [(i,.box S.cs S.t)] n (S.res.ren fun k=>n+(k-1)) S.news (fun β w h=>by
  have hc:=S.cl
  simp only [Bool.and_eq_true] at hc
  have h1:(β i).one∧w.heap[(β i).b]?=some (.cells (S.cs.map (Lf.den β)).toArray S.t (0,0)):=h _ (List.mem_singleton.2 rfl)
  refine (S.ok (fun _=>β i) w ?_).mono fun e w' ⟨xs,k1,k2,k3,k4⟩=>⟨xs,fun x hx c hc=>.inl (k1 x hx c hc),?_,k3,k4⟩
  · show (β i).one∧w.heap[(β i).b]?=some (.cells (S.cs.map (Lf.den fun _=>β i)).toArray S.t (0,0))
    rw [show S.cs.map (Lf.den fun _=>β i)=S.cs.map (Lf.den β) from List.map_congr_left fun x hx=>Lf.den_congr (q:=fun _=>false) (fun k hk=>by cases hk) x (List.all_eq_true.1 hc.1.1 x hx)]
    exact h1
  · rw [k2,SV.den_ren]
    congr 1
    refine SV.den_congr (fun k hk=>?_) _ hc.2
    have hlen:=(newHold_get k3).1
    rw [Bool.and_eq_true,Nat.ble_eq,Nat.blt_eq] at hk
    have h5:k-1<xs.length:=by omega
    rw [extE_in (List.getElem?_eq_getElem h5)]
    have:=extE_in (β:=fun _=>β i) (n:=1) (List.getElem?_eq_getElem h5)
    rw [show 1+(k-1)=k by omega] at this
    exact this)
def Ob.ren (ρ:Nat→Nat):Ob→Ob
 | .box cs t=>.box (cs.map (Lf.ren ρ)) t
 | x=>x
def ptrB:Option Lf→Bool
 | some (.b (.z _ _))=>true
 | some (.b (.p _ _))=>true
 | some (.b (.v (.string _)))=>true
 | _=>false
def Ob.plainB:Ob→Bool
 | .box cs _=>Nat.blt cs.length 4||ptrB cs[1]?
 | .th _=>true
 | _=>false
theorem Ob.holds_ren {β:Env} {w:World} {g:Pl} {ρ:Nat→Nat}:∀ {o:Ob},o.plainB=true→(o.ren ρ).holds β w g→o.holds (fun k=>β (ρ k)) w g
 | .box cs t,_,h=>⟨h.1,by
  rw [h.2,List.map_map]
  rw [show (Lf.den β ∘ Lf.ren ρ)=Lf.den (fun k=>β (ρ k)) from funext fun x=>Lf.den_ren β ρ x]⟩
 | .th _,_,h=>h
theorem Ob.holds_cg {q:Nat→Bool} {β β':Env} {w:World} {g:Pl} (hq:∀ k,q k=true→β k=β' k):∀ {o:Ob},o.plainB=true→o.of q=true→o.holds β w g→o.holds β' w g
 | .box cs t,_,h,k=>⟨k.1,by rw [k.2,all_congr h (Lf.den_congr hq)]⟩
 | .th _,_,_,k=>k
structure OSpec (P:Program) where
 f:FuncId
 en:Enters P f
 args:List SV
 obs:List Ob
 res:SV
 news:List Rat
 ok:∀ β w,(∀ (k:Nat) (o:Ob),obs[k]?=some o→o.holds β w (β k))→Calls P f (args.map (SV.den β)).toArray w fun e w'=>∃ xs:List Pl,(∀ x∈xs,∀ c,x.F c→w.heap.size≤c∨∃ i o,obs[i]?=some o∧o.isTh=true∧(β i).F c)∧e=.returned (res.den (extE β obs.length xs))∧newHold w' (news.map ratT) xs∧Below w.heap.size w w'
 closed:(args.all (SV.of fun k=>Nat.blt k obs.length)&&obs.all (fun x=>x.of (fun k=>Nat.blt k obs.length)&&x.plainB)&&res.of fun k=>Nat.blt k (obs.length+news.length))=true
def mtBox (o c:Ob):List (Nat × Nat):=match o,c with
 | .box xs _,.box ys _=>mtLs xs ys
 | _,_=>[]
def mtObs (obs ob:List Ob):List (Nat × Nat)→List (Nat × Nat)
 | []=>[]
 | (k,j)::r=>(match obs[k]?,ob[j]? with | some o,some c=>mtBox o c | _,_=>[])++mtObs obs ob r
def sigO {P:Program} (S:OSpec P) (xs:List SV) (ob:List Ob):List Nat:=sigL (mtVs S.args xs++mtObs S.obs ob (mtVs S.args xs)) 0 S.obs.length
def needsO (σ:List Nat) (ρ:Nat→Nat):List Ob→Nat→List (Nat × Ob)
 | [],_=>[]
 | o::r,k=>(lit (σ.getD k 0) fun j=>j,o.ren ρ)::needsO σ ρ r (k+1)
theorem needsO_at {σ:List Nat} {ρ:Nat→Nat}:∀ {l:List Ob} {i k:Nat} {o:Ob},l[k]?=some o→(σ.getD (i+k) 0,o.ren ρ)∈needsO σ ρ l i
 | x::r,i,0,o,h=>by
  simp only [List.getElem?_cons_zero] at h
  obtain rfl:=Option.some.inj h
  unfold needsO
  rw [lit_eq]
  exact List.mem_cons_self ..
 | x::r,i,k+1,o,h=>by
  have:=needsO_at (σ:=σ) (ρ:=ρ) (l:=r) (i:=i+1) (k:=k) (o:=o) (by simpa using h)
  rw [show i+(k+1)=i+1+k by omega]
  exact List.mem_cons_of_mem _ this
def OSpec.ev {P:Program} (S:OSpec P) (σ:List Nat) (n:Nat) (hσ:(Nat.ble S.obs.length σ.length&&σ.all fun k=>Nat.blt k n)=true):Ev P :=
 .call S.f S.en (fun β=>(S.args.map (SV.den fun k=>β (atS σ S.obs.length n k))).toArray) (needsO σ (atS σ S.obs.length n) S.obs 0) n (S.res.ren (atS σ S.obs.length n)) (S.news.map ratT) fun β w h=>by
  have hc:=S.closed
  simp only [Bool.and_eq_true] at hc
  have hat:∀ k,k<S.obs.length→atS σ S.obs.length n k=σ.getD k 0:=fun k hk=>by
   unfold atS
   rw [lit_eq,show Nat.blt k S.obs.length=true by rw [Nat.blt_eq]; exact hk,cond_true]
  have hat2:∀ k,¬ k<S.obs.length→atS σ S.obs.length n k=n+(k-S.obs.length):=fun k hk=>by
   unfold atS
   rw [lit_eq,show Nat.blt k S.obs.length=false by rw [Bool.eq_false_iff,ne_eq,Nat.blt_eq]; exact hk,cond_false]
  rw [Bool.and_eq_true,Nat.ble_eq] at hσ
  have hsn:∀ k,k<S.obs.length→σ.getD k 0<n:=fun k hk=>by
   rw [List.getD_eq_getElem?_getD]
   cases hx:σ[k]? with
   | none=>rw [List.getElem?_eq_none_iff] at hx; omega
   | some y=>have:=List.all_eq_true.1 hσ.2 y (List.mem_of_getElem? hx); rw [Nat.blt_eq] at this; exact this
  have hq:∀ k,Nat.blt k S.obs.length=true→β (atS σ S.obs.length n k)=β (σ.getD k 0):=fun k hk=>by rw [hat k (by simpa [Nat.blt_eq] using hk)]
  have hargs:S.args.map (SV.den fun k=>β (atS σ S.obs.length n k))=S.args.map (SV.den fun k=>β (σ.getD k 0)):=List.map_congr_left fun x hx=>SV.den_congr hq _ (List.all_eq_true.1 hc.1.1 x hx)
  rw [hargs]
  refine (S.ok (fun k=>β (σ.getD k 0)) w fun k o hk=>?_).mono ?_
  · have ho:=List.all_eq_true.1 hc.1.2 o (List.mem_of_getElem? hk)
    rw [Bool.and_eq_true] at ho
    have hlt:k<S.obs.length:=(List.getElem?_eq_some_iff.1 hk).1
    have h1:(o.ren (atS σ S.obs.length n)).holds β w (β (σ.getD k 0)):=by
     have:=h _ (needsO_at (i:=0) hk)
     rwa [Nat.zero_add] at this
    exact Ob.holds_cg hq ho.2 ho.1 (Ob.holds_ren ho.2 h1)
  · rintro e w' ⟨xs,h1,rfl,h3,h4⟩
    refine ⟨xs,fun x hx c hc2=>?_,?_,h3,h4⟩
    · rcases h1 x hx c hc2 with h5 | ⟨i,o,h5,h6,h7⟩
      · exact .inl h5
      · refine .inr ⟨_,needsO_at (i:=0) h5,?_,?_⟩
        · cases o<;>first | exact h6 | cases h6
        · rw [Nat.zero_add]; exact h7
    · rw [SV.den_ren]
      congr 1
      refine SV.den_congr (fun k hk=>?_) _ hc.2
      have hlen:=(newHold_get h3).1
      rw [List.length_map] at hlen
      rw [Nat.blt_eq] at hk
      by_cases hk2:k<S.obs.length
      · rw [hat k hk2,extE_out (β:=β) (n:=n) (k:=σ.getD k 0) (xs:=xs) (by have:=hsn k hk2; omega),extE_out (n:=S.obs.length) (k:=k) (xs:=xs) (by omega)]
      · rw [hat2 k hk2]
        have h5:k-S.obs.length<xs.length:=by omega
        rw [extE_in (List.getElem?_eq_getElem h5)]
        have:=extE_in (β:=fun k=>β (σ.getD k 0)) (n:=S.obs.length) (List.getElem?_eq_getElem h5)
        rw [show S.obs.length+(k-S.obs.length)=k by omega] at this
        exact this
def OSpec.e {P:Program} (S:OSpec P):Ev P:=.dyn (fun o _ _=>isCallB o) fun _ xs ob =>
 lits (sigO S xs ob) fun σ=>lit ob.length fun n=>if h:(Nat.ble S.obs.length σ.length&&σ.all fun k=>Nat.blt k n)=true then S.ev σ n h else .eqv 0 undef undef rfl
theorem ptr_no_rat {w:World} {b:Nat} {cs:Array Value} {t:TypeId} {x:Rat} {q:Option Addr} (h:w.heap[b]?=some (.cells cs t (0,0))) (hq:cs[1]?=some (.pointer q)) (k:RatAt w b 0 x):False:=by
 obtain ⟨A,m,cap,_,h1,_⟩:=k.2.1.open_
 have h2:=cell_lay (o:=1) h hq
 rw [Nat.zero_add,h2] at h1
 cases h1
theorem str1_no_rat {w:World} {b:Nat} {cs:Array Value} {t:TypeId} {x:Rat} {q:ByteArray} (h:w.heap[b]?=some (.cells cs t (0,0))) (hq:cs[1]?=some (.string q)) (k:RatAt w b 0 x):False:=by
 obtain ⟨A,m,cap,_,h1,_⟩:=k.2.1.open_
 have h2:=cell_lay (o:=1) h hq
 rw [Nat.zero_add,h2] at h1
 cases h1
theorem small_no_rat {w:World} {b:Nat} {cs:Array Value} {t:TypeId} {x:Rat} (h:w.heap[b]?=some (.cells cs t (0,0))) (hs:cs.size<4) (k:RatAt w b 0 x):False:=by
 obtain ⟨cs',t',h1,_,h2⟩:=k.1
 rw [h] at h1
 obtain ⟨rfl,_,_⟩:=Obj.cells.inj (Option.some.inj h1)
 omega
def idxO (P:Program) (fn:Func) (args:List SV) (obs:List Ob) (evs:List (Ev P)) (Ns:List (Nat × Nat)) (m:Nat) (res:SV):List (Nat × Nat) :=
 match fn.body with
 | some c=>match fullS P fn args obs evs Ns m c with
  | some f=>match run1 P obs.length false (results fn (tmpsS idE f.sl (sizeS fn args))) f.q f.ob [] with
   | some ⟨v,_,_,_⟩=>mtR res (tag v)
   | none=>[]
  | none=>[]
 | none=>[]
def specO (P:Program) (fn:Func) (args:List SV) (obs:List Ob) (evs:List (Ev P)) (Ns:List (Nat × Nat)) (m:Nat) (res:SV) (news:List Rat) (idx:List Nat) (β:Env):Eqs :=
 allS P fn args obs evs Ns m (res.ren (backS obs.length idx)) (idx.zip (news.map fun x=>(ratT x).ob)) β
def specOA (P:Program) (fn:Func) (args:List SV) (obs:List Ob) (evs:List (Ev P)) (Ns:List (Nat × Nat)) (m:Nat) (res:SV) (news:List Rat) (β:Env):Eqs :=
 lits (sigL (idxO P fn args obs evs Ns m res) obs.length news.length) fun idx=>specO P fn args obs evs Ns m res news idx β
theorem newHold_rats {β:Env} {w:World}:∀ {idx:List Nat} {l:List Rat},idx.length=l.length→holdsAll β w (idx.zip (l.map fun x=>(ratT x).ob))→newHold w (l.map ratT) (idx.map β)
 | [],[],_,_=>trivial
 | [],_::_,h,_=>by simp at h
 | _::_,[],h,_=>by simp at h
 | i::r,t::l,h,k=>⟨k (i,(ratT t).ob) (by simp),newHold_rats (by simpa using h) fun p hp=>k p (by simp only [List.map_cons,List.zip_cons_cons]; exact List.mem_cons_of_mem _ hp)⟩
theorem ospec_ok {P:Program} {f:FuncId} {fn:Func} {args:List SV} {obs:List Ob} {evs:List (Ev P)} {Ns:List (Nat × Nat)} {m:Nat} {res:SV} {news:List Rat} (hf:P.funcs[f]?=some fn) (hm:P.follows .mixedOrders=true)
  (h0:∀ β,(specOA P fn args obs evs Ns m res news β).map Prod.fst=(specOA P fn args obs evs Ns m res news β).map Prod.snd)
  (hB:(args.all (SV.of fun k=>Nat.blt k obs.length)&&obs.all (fun x=>x.of (fun k=>Nat.blt k obs.length)&&x.plainB)&&res.of fun k=>Nat.blt k (obs.length+news.length))=true)
  (β:Env) (w:World) (hh:∀ (k:Nat) (o:Ob),obs[k]?=some o→o.holds β w (β k)) :
  Calls P f (args.map (SV.den β)).toArray w fun e w'=>∃ xs:List Pl,(∀ x∈xs,∀ c,x.F c→w.heap.size≤c∨∃ i o,obs[i]?=some o∧o.isTh=true∧(β i).F c)∧e=.returned (res.den (extE β obs.length xs))∧newHold w' (news.map ratT) xs∧Below w.heap.size w w':=by
 obtain ⟨idx,hidx⟩:∃ idx,idx=sigL (idxO P fn args obs evs Ns m res) obs.length news.length:=⟨_,rfl⟩
 have hlen:idx.length=news.length:=by rw [hidx,sigL_len]
 have h:∀ β,(specO P fn args obs evs Ns m res news idx β).map Prod.fst=(specO P fn args obs evs Ns m res news idx β).map Prod.snd:=fun β=>by
  have:=h0 β
  unfold specOA at this
  rw [lits_eq,← hidx] at this
  exact this
 simp only [Bool.and_eq_true] at hB
 obtain ⟨⟨h1,h2⟩,h3⟩:=hB
 refine (sx (P:=P) args obs evs Ns m (res.ren (backS obs.length idx)) (idx.zip (news.map fun x=>(ratT x).ob)) hf hm (fun β=>ok_of_maps (h β)) h1
  (List.all_eq_true.2 fun x hx=>by
   have:=List.all_eq_true.1 h2 x hx
   rw [Bool.and_eq_true] at this ⊢
   refine ⟨this.1,?_⟩
   have h4:=this.2
   cases x<;>first | rfl | cases h4) β w hh).mono ?_
 rintro e w' ⟨β',q,obj,e1,rfl,e2,e4,e5,g⟩
 have hz:(idx.zip (news.map fun x=>(ratT x).ob)).map (fun p=>β' p.1)=idx.map β':=by
  rw [show (fun p:Nat × Ob=>β' p.1)=β' ∘ Prod.fst from rfl,← List.map_map,List.map_fst_zip (by rw [List.length_map]; omega)]
 refine ⟨idx.map β',fun x hx c hcF=>?_,?_,newHold_rats hlen e5,g.bel⟩
 · rw [← hz] at hx
   obtain ⟨p,hp,rfl⟩:=List.mem_map.1 hx
   rcases e4 p hp c hcF with h5 | ⟨i,h5,h6⟩
   · exact .inl h5
   · have ho:=List.getElem?_eq_getElem h5
     have hpl:=List.all_eq_true.1 h2 obs[i] (List.getElem_mem h5)
     rw [Bool.and_eq_true] at hpl
     have hho:=hh i _ ho
     generalize obs[i]=o at ho hpl hho
     cases o with
     | th D=>exact .inr ⟨i,_,ho,rfl,h6⟩
     | box cs t =>
      exfalso
      obtain ⟨hone,hheap⟩:=hho
      have hcb:=(hone.1 c).1 h6
      subst hcb
      obtain ⟨r,hr⟩:∃ r,p.2=(ratT r).ob:=by
       have:=(List.of_mem_zip hp).2
       obtain ⟨r,_,hr⟩:=List.mem_map.1 this
       exact ⟨r,hr.symm⟩
      have hD:=e5 p hp
      rw [hr] at hD
      obtain ⟨b,hb1,hb2⟩:PR r w' (β' p.1):=hD
      have hcb:=(hb1.2 _).1 hcF
      subst hcb
      have hw:w'.heap[(β i).b]?=some (.cells (cs.map (Lf.den β)).toArray t (0,0)):=by rw [g.bel.block _ (heap_lt hheap)]; exact hheap
      have:=hpl.2
      unfold Ob.plainB at this
      rw [Bool.or_eq_true,Nat.blt_eq] at this
      rcases this with this | this
      · exact small_no_rat hw (by simpa using this) hb2
      · have hq:(∃ q,(cs.map (Lf.den β))[1]?=some (.pointer q))∨∃ q,(cs.map (Lf.den β))[1]?=some (.string q):=by
         rw [List.getElem?_map]
         unfold ptrB at this
         split at this
         · rename_i k j e; rw [e]; exact .inl ⟨_,rfl⟩
         · rename_i k j e; rw [e]; exact .inl ⟨_,rfl⟩
         · rename_i k e; rw [e]; exact .inr ⟨_,rfl⟩
         · cases this
        rcases hq with ⟨q,hq⟩ | ⟨q,hq⟩
        · exact ptr_no_rat hw (by simpa using hq) hb2
        · exact str1_no_rat hw (by simpa using hq) hb2
     | al r D=>cases hpl.2
     | pl n=>cases hpl.2
     | row cs t n sz=>cases hpl.2
     | ow D t=>cases hpl.2
     | dead=>cases hpl.2
 · rw [SV.den_ren]
   congr 1
   refine SV.den_congr (fun k hk=>?_) _ h3
   rw [Nat.blt_eq] at hk
   unfold backS
   rw [lit_eq]
   by_cases hk2:k<obs.length
   · rw [show Nat.blt k obs.length=true by rw [Nat.blt_eq]; exact hk2,cond_true,extE_out (by omega)]
     exact e1 k hk2
   · rw [show Nat.blt k obs.length=false by rw [Bool.eq_false_iff,ne_eq,Nat.blt_eq]; exact hk2,cond_false]
     have h5:k-obs.length<idx.length:=by omega
     have:=extE_in (β:=β) (n:=obs.length) (xs:=idx.map β') (i:=k-obs.length) (x:=β' idx[k-obs.length]) (by simp [h5])
     rw [show obs.length+(k-obs.length)=k by omega] at this
     rw [this,List.getD_eq_getElem?_getD,List.getElem?_eq_getElem h5,Option.getD_some]
def OSpec.auto {P:Program} {f:FuncId} {fn:Func} (en:Enters P f) (args:List SV) (obs:List Ob) (res:SV) (news:List Rat) (evs:List (Ev P)) (Ns:List (Nat × Nat)) (m:Nat) (hf:P.funcs[f]?=some fn) (hm:P.follows .mixedOrders=true)
  (hB:(args.all (SV.of fun k=>Nat.blt k obs.length)&&obs.all (fun x=>x.of (fun k=>Nat.blt k obs.length)&&x.plainB)&&res.of fun k=>Nat.blt k (obs.length+news.length))=true)
  (h:∀ β,(specOA P fn args obs evs Ns m res news β).map Prod.fst=(specOA P fn args obs evs Ns m res news β).map Prod.snd):OSpec P :=
 ⟨f,en,args,obs,res,news,ospec_ok hf hm h hB,hB⟩
abbrev gnS (a:Gn):SV:=.one (.a (rL a.x++rL a.y))
theorem _root_.Go.Proofs.YtmfedaakeeiolaaGreat.FitG.gsz {z:GQ} (h:FitG z):GSz 1024 z:=⟨h.1.sz,h.2.sz⟩
noncomputable abbrev fA (x:Rat):List Lf:=[.b (.v (.bool (ansB x))),.b (.v (.string (ansS x))),.b (.v (.bool false)),.b (.v (.string (ansD x)))]
theorem fA_fit {x:Rat} (h:Fit x):fA x=fC x∧ansK x=0:=by
 unfold fA fC
 rw [(ansF_fit h).1,(ansF_fit h).2.1,(ansF_fit h).2.2.1]
 exact ⟨rfl,(ansF_fit h).2.2.2⟩
def sGM (g:Gp) {r:Bool} (h:g.B=r):Spec Tryz.prog :=
 (sGMay g.a.a g.b.a).as [g.C] (tB' r) (by
  show [SV.one (.a (g.a.a.C++g.b.a.C))]=[SV.one (.a (rL g.a.r++rL g.b.r))]
  rw [show g.a.a.C=rL g.a.r from g.a.e,show g.b.a.C=rL g.b.r from g.b.e]) (congrArg tB' h)
def rdEq (d t:Nat) (x:Rat) (k:Nat):Ev Tryz.prog:=.rd d (.binOp .eql 153 (.tmp t) (.const (.pointer none)) 153) (fun β=>[.pointer ((β k).v 0),.pointer none]) [(k,(ratT x).ob)] 0 (.one (.c (.b (.v (.bool false))))) [] (fun β w h ρ o ho hx=>by
 obtain ⟨a,ha,ka⟩:=needP (x:=x) (k:=k) h (by simp)
 have h2:ρ (.tmp t)=.pointer (some ⟨a,0,none⟩)∧ρ (.const (.pointer none))=.pointer none:=by
  rw [ha.1] at hx
  simpa [Op.operands] using hx
 refine ⟨[],w,(fun _ h=>by cases h),?_,trivial,Below.refl _ _⟩
 unfold execOp
 rw [ho]
 simp only [h2.1,h2.2]
 kernel_rfl)
def dEq (x:Rat):Ev Tryz.prog:=.dyn (fun o _ _=>match o.op with
 | .binOp .eql a (.tmp _) (.const (.pointer none)) _=>Nat.beq a 153
 | _=>false) fun o xs _=>match o.op with
 | .binOp _ _ (.tmp t) _ _=>lit (ptOf (xs.getD 0 undefS)) fun k=>rdEq (o.dst.getD 0) t x k
 | _=>.eqv 0 undef undef rfl
theorem zero_div:(Rat.divInt 0 1:Rat)=0:=of_decide_eq_true (by kernel_rfl:decide ((Rat.divInt 0 1:Rat)=0)=true)
def rdNew0 (d n:Nat):Ev Tryz.prog:=.rd d (.alloc 213) (fun _=>[]) [] n (.one (.c (.b (.z n 0)))) [ratT (Rat.divInt 0 1)] (fun β w h ρ o ho hx=>by
 refine ⟨[newPl w.heap.size],w.alloc (.cells #[.bool false,.slice none 0 0,.bool false,.slice none 0 0] 213),fun x hx c hc=>?_,?_,⟨⟨_,(newPl_one _).at1,?_⟩,trivial⟩,below_new w _⟩
 · obtain rfl:=List.mem_singleton.1 hx
   rw [((newPl_one _).1 c).1 hc]
   exact .inl (Nat.le_refl _)
 · rw [extE_z]
   unfold execOp
   rw [ho]
   kernel_rfl
 · rw [zero_div]
   exact RatAt.new w)
def nZero:Ev Tryz.prog:=.dyn (fun o _ _=>match o.op with
 | .alloc t'=>Nat.beq t' 213
 | _=>false) fun o _ ob=>lit ob.length fun n=>rdNew0 (o.dst.getD 0) n
abbrev KC:Nat:=1000000
structure RQ where
 a:Rat
 b:GQ
 c:Rat
structure RSz (k:Nat) (r:RQ):Prop where
 a:Sz k r.a
 b:GSz k r.b
 c:Sz k r.c
theorem RSz.mono {i k:Nat} {r:RQ} (h:RSz i r) (hk:i≤k):RSz k r:=⟨h.a.mono hk,h.b.mono hk,h.c.mono hk⟩
abbrev rgV (k:Nat):SV:=.one (.a [.b (.z k 0),.b (.z (k+1) 0),.b (.z (k+2) 0),.b (.z (k+3) 0)])
abbrev rgM (r:RQ):List Thing:=[ratT r.a,ratM r.b.re,ratM r.b.im,ratM r.c]
abbrev rgT (r:RQ):List Thing:=[ratT r.a,ratT r.b.re,ratT r.b.im,ratT r.c]
def rpow (r:RQ):Rat:=gnorm r.b-r.a*r.c
def sPower {r:RQ} (h:RSz KC r):Spec Tryz.prog :=
 Spec.auto Tryz.call212 [rgV 0] (rgM r) (rV 4) [ratT (rpow r)] [mkR,(sNorm (h.b.mono (by decide))).e,(sMulR (h.a.mono (by decide)) (h.c.mono (by decide))).e,fSub (h.b.norm.mono (by decide)) ((h.a.mul h.c).mono (by decide))] [(1,11)] 400 Tryz.func212 hmA (by kernel_rfl) (fun β=>by kernel_rfl)
def rbyQ (i j:Bool) (r:RQ):Rat:=bif i then (bif j then r.b.im else r.b.re) else r.a
def rnm (r:RQ) (x:Rat):RQ:=⟨r.a*x⁻¹,gscale r.b x⁻¹,r.c*x⁻¹⟩
theorem rby_sz {k:Nat} {r:RQ} (h:RSz k r) (i j:Bool):Sz k (rbyQ i j r):=by
 cases i
 · exact h.a
 · cases j
   · exact h.b.1
   · exact h.b.2
theorem rnm_sz {k:Nat} {r:RQ} (h:RSz k r) {x:Rat} (hx:Sz k x) (h0:x≠0):RSz (k+k) (rnm r x) :=
 ⟨h.a.mul (hx.inv h0),⟨h.b.1.mul (hx.inv h0),h.b.2.mul (hx.inv h0)⟩,h.c.mul (hx.inv h0)⟩
def rnE {r:RQ} (h:RSz KC r) {x:Rat} (hx:Sz KC x) (h0:x≠0):List (Ev Tryz.prog) :=
 [mkR,fInv (hx.mono (by decide)) h0,(sMulR (h.a.mono (by decide)) ((hx.inv h0).mono (by decide))).e,(sScale (h.b.mono (by decide)) ((hx.inv h0).mono (by decide))).e,(sMulR (h.c.mono (by decide)) ((hx.inv h0).mono (by decide))).e]
def sRNormal {r:RQ} (h:RSz KC r) {i j:Bool} (hi:decide (r.a=0)=i) (hj:decide (r.b.re=0)=j) (h0:rbyQ i j r≠0):Spec Tryz.prog :=
 ⟨299,Tryz.call299,[rgV 0],rgM r,rgV 4,rgT (rnm r (rbyQ i j r)),fun β w hh=>by
  cases i
  · exact spec_auto (args:=[rgV 0]) (obs:=rgM r) (res:=rgV 4) (news:=rgT (rnm r (rbyQ false j r))) (evs:=[(sParts r.b).e,nSign (x:=r.a) rfl,.eqv 27 (.bool (r.a.num.sign==0)) (.bool false) (sign_lit hi),nSign (x:=r.a) rfl,.eqv 27 (.bool (r.a.num.sign==0)) (.bool false) (sign_lit hi)]++rnE h (rby_sz h false j) h0) (Ns:=[(10,13)]) (m:=800) Tryz.func299 hmA (fun β=>by kernel_rfl) (by kernel_rfl) β w hh
  · cases j
    · exact spec_auto (args:=[rgV 0]) (obs:=rgM r) (res:=rgV 4) (news:=rgT (rnm r (rbyQ true false r))) (evs:=[(sParts r.b).e,nSign (x:=r.a) rfl,.eqv 27 (.bool (r.a.num.sign==0)) (.bool true) (sign_lit hi),nSign (x:=r.b.re) rfl,.eqv 27 (.bool (r.b.re.num.sign==0)) (.bool false) (sign_lit hj)]++rnE h (rby_sz h true false) h0) (Ns:=[(10,13)]) (m:=800) Tryz.func299 hmA (fun β=>by kernel_rfl) (by kernel_rfl) β w hh
    · exact spec_auto (args:=[rgV 0]) (obs:=rgM r) (res:=rgV 4) (news:=rgT (rnm r (rbyQ true true r))) (evs:=[(sParts r.b).e,nSign (x:=r.a) rfl,.eqv 27 (.bool (r.a.num.sign==0)) (.bool true) (sign_lit hi),nSign (x:=r.b.re) rfl,.eqv 27 (.bool (r.b.re.num.sign==0)) (.bool true) (sign_lit hj)]++rnE h (rby_sz h true true) h0) (Ns:=[(10,13)]) (m:=800) Tryz.func299 hmA (fun β=>by kernel_rfl) (by kernel_rfl) β w hh,by kernel_rfl⟩
def FitC (m:RQ):Prop:=Fit m.a∧FitG m.b∧Fit m.c
open Classical in
noncomputable def ciR (m:RQ) (x:Rat):R4:=if FitC m then fR x else r40
open Classical in
noncomputable def ciK (m:RQ):Int:=if FitC m then 0 else 4
noncomputable abbrev ciC (m:RQ):List Lf:=rL (ciR m m.a)++rL (ciR m m.b.re)++rL (ciR m m.b.im)++rL (ciR m m.c)
abbrev cC (m:RQ):List Lf:=rL (fR m.a)++rL (fR m.b.re)++rL (fR m.b.im)++rL (fR m.c)
abbrev c0C:List Lf:=rL r40++rL r40++rL r40++rL r40
theorem ci_fit {m:RQ} (h:FitC m):ciC m=cC m∧ciK m=0:=by
 have e:∀ x,ciR m x=fR x:=fun x=>if_pos h
 exact ⟨by rw [ciC,e,e,e,e],if_pos h⟩
theorem ci_not {m:RQ} (h:¬ FitC m):ciC m=c0C∧ciK m=4:=by
 have e:∀ x,ciR m x=r40:=fun x=>if_neg h
 exact ⟨by rw [ciC,e,e,e,e],if_neg h⟩
noncomputable abbrev ciA (m:RQ):SV:=.tup [.a (ciC m),nI' (ciK m)]
theorem ansK_fit {x:Rat} (h:Fit x):(ansK x != 0)=false:=by rw [(ansF_fit h).2.2.2]; rfl
theorem ansK_not {x:Rat} (h:¬ Fit x):(ansK x != 0)=true:=by rw [show ansK x=4 from if_neg h]; rfl
section
variable {r:RQ} (h:RSz KC r) {i j:Bool} (hi:decide (r.a=0)=i) (hj:decide (r.b.re=0)=j) (h0:rbyQ i j r≠0)
include h hi hj h0
noncomputable def rtE:List (Ev Tryz.prog) :=
 have hn:=rnm_sz h (rby_sz h i j) h0
 [(sRNormal h hi hj h0).e,(sFrac (hn.a.mono (by decide))).e,(sTold (z:=gscale r.b (rbyQ i j r)⁻¹) (hn.b.mono (by decide))).e,(sFrac (hn.c.mono (by decide))).e]
theorem rtold_ok (β:Env) (w:World) (hh:∀ (k:Nat) (t:Thing),(rgM r)[k]?=some t→t.D w (β k)) :
  Calls Tryz.prog 202 (([rgV 0]:List SV).map (SV.den β)).toArray w fun e w'=>∃ xs:List Pl,freshS β w 4 xs∧e=.returned ((ciA (rnm r (rbyQ i j r))).den (extE β 4 xs))∧newHold w' [] xs∧Below w.heap.size w w':=by
 by_cases h1:Fit (rnm r (rbyQ i j r)).a
 · by_cases h2:FitG (rnm r (rbyQ i j r)).b
   · by_cases h3:Fit (rnm r (rbyQ i j r)).c
     · have e:ciA (rnm r (rbyQ i j r))=.tup [.a (fA (rnm r (rbyQ i j r)).a++gaC (rnm r (rbyQ i j r)).b++fA (rnm r (rbyQ i j r)).c),nI' 0]:=by
        rw [ciA,(ci_fit ⟨h1,h2,h3⟩).1,(ci_fit ⟨h1,h2,h3⟩).2,(fA_fit h1).1,(ga_fit h2).1,(fA_fit h3).1]
        rfl
       rw [e]
       exact spec_auto (args:=[rgV 0]) (obs:=rgM r) (news:=[]) (evs:=rtE h hi hj h0++[.eqv 31 (.bool (ansK (rnm r (rbyQ i j r)).a != 0)) (.bool false) (ansK_ne (ansK_fit h1)),.eqv 34 (.bool (gaK (rnm r (rbyQ i j r)).b != 0)) (.bool false) (gaK_ne (gaK_fit h2)),.eqv 38 (.bool (ansK (rnm r (rbyQ i j r)).c != 0)) (.bool false) (ansK_ne (ansK_fit h3))]) (Ns:=[]) (m:=800) Tryz.func202 hmA (fun β=>by kernel_rfl) (by kernel_rfl) β w hh
     · rw [ciA,(ci_not (m:=rnm r (rbyQ i j r)) fun e=>h3 e.2.2).1,(ci_not (m:=rnm r (rbyQ i j r)) fun e=>h3 e.2.2).2]
       exact spec_auto (args:=[rgV 0]) (obs:=rgM r) (news:=[]) (evs:=rtE h hi hj h0++[.eqv 31 (.bool (ansK (rnm r (rbyQ i j r)).a != 0)) (.bool false) (ansK_ne (ansK_fit h1)),.eqv 34 (.bool (gaK (rnm r (rbyQ i j r)).b != 0)) (.bool false) (gaK_ne (gaK_fit h2)),.eqv 38 (.bool (ansK (rnm r (rbyQ i j r)).c != 0)) (.bool true) (ansK_ne (ansK_not h3))]) (Ns:=[]) (m:=800) Tryz.func202 hmA (fun β=>by kernel_rfl) (by kernel_rfl) β w hh
   · rw [ciA,(ci_not (m:=rnm r (rbyQ i j r)) fun e=>h2 e.2.1).1,(ci_not (m:=rnm r (rbyQ i j r)) fun e=>h2 e.2.1).2]
     exact spec_auto (args:=[rgV 0]) (obs:=rgM r) (news:=[]) (evs:=rtE h hi hj h0++[.eqv 31 (.bool (ansK (rnm r (rbyQ i j r)).a != 0)) (.bool false) (ansK_ne (ansK_fit h1)),.eqv 34 (.bool (gaK (rnm r (rbyQ i j r)).b != 0)) (.bool true) (gaK_ne (gaK_not h2))]) (Ns:=[]) (m:=800) Tryz.func202 hmA (fun β=>by kernel_rfl) (by kernel_rfl) β w hh
 · rw [ciA,(ci_not (m:=rnm r (rbyQ i j r)) fun e=>h1 e.1).1,(ci_not (m:=rnm r (rbyQ i j r)) fun e=>h1 e.1).2]
   exact spec_auto (args:=[rgV 0]) (obs:=rgM r) (news:=[]) (evs:=rtE h hi hj h0++[.eqv 31 (.bool (ansK (rnm r (rbyQ i j r)).a != 0)) (.bool true) (ansK_ne (ansK_not h1))]) (Ns:=[]) (m:=800) Tryz.func202 hmA (fun β=>by kernel_rfl) (by kernel_rfl) β w hh
noncomputable def sRTold:Spec Tryz.prog :=
 ⟨202,Tryz.call202,[rgV 0],rgM r,ciA (rnm r (rbyQ i j r)),[],rtold_ok h hi hj h0,by kernel_rfl⟩
end
theorem sgn_le {n:Int} {t:Bool} (h:decide (n≤0)=t):Value.bool (decide (n≤0))=.bool t:=by rw [h]
noncomputable def sMade1 {r:RQ} (h:RSz KC r) (hp:decide ((rpow r).num.sign≤0)=false) {i j:Bool} (hi:decide (r.a=0)=i) (hj:decide (r.b.re=0)=j) (h0:rbyQ i j r≠0):Spec Tryz.prog :=
 Spec.auto Tryz.call295 [rgV 0] (rgM r) (ciA (rnm r (rbyQ i j r))) [] [(sPower h).e,nSign (x:=rpow r) rfl,.eqv 7 (.bool (decide ((rpow r).num.sign≤0))) (.bool false) (sgn_le hp),(sRTold h hi hj h0).e] [] 400 Tryz.func295 hmA (by kernel_rfl) (fun β=>by kernel_rfl)
def rby (r:RQ):Rat:=rbyQ (decide (r.a=0)) (decide (r.b.re=0)) r
def rone (r:RQ):RQ:=rnm r (rby r)
theorem rby_ne {r:RQ} (hp:decide ((rpow r).num.sign≤0)=false):rby r≠0:=by
 intro e
 unfold rby rbyQ at e
 have hs:=of_decide_eq_false hp
 cases h1:decide (r.a=0) with
 | false=>rw [h1] at e; exact of_decide_eq_false h1 e
 | true=>cases h2:decide (r.b.re=0) with
  | false=>rw [h1,h2] at e; exact of_decide_eq_false h2 e
  | true =>
   rw [h1,h2] at e
   have ha:=of_decide_eq_true h1
   have hr:=of_decide_eq_true h2
   have hi:r.b.im=0:=e
   apply hs
   have:rpow r=0:=by
    unfold rpow gnorm
    rw [ha,hr,hi]
    grind
   rw [this]
   decide
noncomputable def sMade2 {r:RQ} (h:RSz KC r) (hp:decide ((rpow r).num.sign≤0)=false):Spec Tryz.prog:=sMade1 h hp rfl rfl (rby_ne hp)
def ofG {z:GQ} (h:FitG z):Spec Tryz.prog:=sOf (.ok z.re h.1) (.ok z.im h.2)
section
variable {a:Rat} {b:GQ} {c:Rat} (ha:Fit a) (hb:FitG b) (hc:Fit c)
abbrev mkA (a:Rat) (b:GQ) (c:Rat):List SV:=[.one (.a (fC a)),gS b,.one (.a (fC c))]
include ha hb hc in
theorem mk_sz:RSz KC ⟨a,b,c⟩:=⟨ha.sz.mono (by decide),hb.gsz.mono (by decide),hc.sz.mono (by decide)⟩
noncomputable def sCMake (hp:decide ((rpow ⟨a,b,c⟩).num.sign≤0)=false):Spec Tryz.prog :=
 Spec.auto Tryz.call197 (mkA a b c) [] (ciA (rone ⟨a,b,c⟩)) [] [(ofG hb).e,(sRatIn ha).e,(sRatIn hc).e,dEq a,dEq c,(sMade2 (mk_sz ha hb hc) hp).e] [(2,6)] 400 Tryz.func197 hmA (by kernel_rfl) (fun β=>by kernel_rfl)
theorem one_sz:Sz 8 (Rat.divInt 1 1):=sz_lit 1 1 (by decide) (by decide) (by decide)
end
section
variable {n z:GQ} (hn:FitG n) (hz:FitG z)
theorem zero_sz:Sz 8 (Rat.divInt 0 1):=sz_lit 0 1 (by decide) (by decide) (by decide)
end
def cirV (a b b' c:R4):Array Value:=#[.bool a.b,.string a.s,.bool a.c,.string a.t,.bool b.b,.string b.s,.bool b.c,.string b.t,.bool b'.b,.string b'.s,.bool b'.c,.string b'.t,.bool c.b,.string c.s,.bool c.c,.string c.t]
def frV (a:R4):Array Value:=#[.bool a.b,.string a.s,.bool a.c,.string a.t]
theorem eqCi {w:World} (n:Nat) (a b b' c p q q' s:R4):(Op.equalIn (n+5) 105 (.agg (cirV a b b' c)) (.agg (cirV p q q' s))).run Tryz.prog w=.ok (a.eq p&&(geq b b' q q'&&(c.eq s&&true))) w:=by
 unfold cirV
 rw [run_equalIn_agg _ _ _ _ _ (by kernel_rfl) (by kernel_rfl)]
 refine run_eqF_cons (a:=.agg (frV a)) (b:=.agg (frV p)) (by kernel_rfl) (by kernel_rfl) (by kernel_rfl) (eqF (n+1) _ _ _ _ _ _ _ _) ?_
 refine run_eqF_cons (a:=.agg (gV b b')) (b:=.agg (gV q q')) (by kernel_rfl) (by kernel_rfl) (by kernel_rfl) (eqG n _ _ _ _) ?_
 refine run_eqF_cons (a:=.agg (frV c)) (b:=.agg (frV s)) (by kernel_rfl) (by kernel_rfl) (by kernel_rfl) (eqF (n+1) _ _ _ _ _ _ _ _) ?_
 kernel_rfl
def eqEvC (a b b' c p q q' s:R4) (r:Bool) (h:(a.eq p&&(geq b b' q q'&&(c.eq s&&true)))=r):Ev Tryz.prog :=
 eqEv 105 (cirV a b b' c) (cirV p q q' s) r (by kernel_rfl) (fun w=>by rw [← h]; exact eqCi 9995 ..)
theorem ceq_self (a b b' c:R4):(a.eq a&&(geq b b' b b'&&(c.eq c&&true)))=true:=by
 rw [R4.eq_iff.2 rfl,R4.eq_iff.2 rfl,geq_self]; rfl
def eqC1 (a b b' c:R4):Ev Tryz.prog:=eqEvC a b b' c a b b' c true (ceq_self ..)
def sCPower {r:RQ} (h:RSz KC r):Spec Tryz.prog :=
 Spec.auto Tryz.call90 [.one (.a (cC r))] [] (.one (.a (fC (rpow r)))) [] [(sR4Norm (h.b.mono (by decide))).e,(sR3Times (h.a.mono (by decide)) (h.c.mono (by decide))).e,(sR3Minus (h.b.norm.mono (by decide)) ((h.a.mul h.c).mono (by decide))).e] [(1,9)] 400 Tryz.func90 hmA (by kernel_rfl) (fun β=>by kernel_rfl)
def sCOver {z:GQ} {x:Rat} (hz:GSz KC z) (hx:Sz KC x) (h0:x≠0):Spec Tryz.prog :=
 Spec.auto Tryz.call307 [gS z,.one (.a (fC x))] [] (gS ⟨z.re/x,z.im/x⟩) [] [(sR3Over (hz.1.mono (by decide)) (hx.mono (by decide)) h0).e,(sR3Over (hz.2.mono (by decide)) (hx.mono (by decide)) h0).e] [(1,9)] 400 Tryz.func307 hmA (by kernel_rfl) (fun β=>by kernel_rfl)
def rqd (r:RQ) (x:Rat):RQ:=⟨r.a/x,⟨r.b.re/x,r.b.im/x⟩,r.c/x⟩
theorem rqd_eq (r:RQ) (x:Rat):rqd r x=rnm r x:=by
 unfold rqd rnm gscale
 rw [Rat.div_def,Rat.div_def,Rat.div_def,Rat.div_def]
def cnE {r:RQ} (h:RSz KC r) {x:Rat} (hx:Sz KC x) (h0:x≠0):List (Ev Tryz.prog) :=
 [(sR3Over (h.a.mono (by decide)) (hx.mono (by decide)) h0).e,(sCOver h.b hx h0).e,(sR3Over (h.c.mono (by decide)) (hx.mono (by decide)) h0).e]
def rS (r:RQ):SV:=.one (.a (cC r))
def sCNormal {r:RQ} (h:RSz KC r) {i j:Bool} (hi:decide (r.a=0)=i) (hj:decide (r.b.re=0)=j) (h0:rbyQ i j r≠0):Spec Tryz.prog :=
 ⟨216,Tryz.call216,[.one (.a (fC r.a)),gS r.b,.one (.a (fC r.c))],[],.one (.a (cC (rqd r (rbyQ i j r)))),[],fun β w hh=>by
  cases i
  · exact spec_auto (evs:=[(sR3Sign (x:=r.a) rfl).e,.eqv 11 (.bool (r.a.num.sign==0)) (.bool false) (sign_lit hi),(sR3Sign (x:=r.a) rfl).e,.eqv 16 (.bool (r.a.num.sign==0)) (.bool false) (sign_lit hi)]++cnE h (rby_sz h false j) h0) (Ns:=[(6,10)]) (m:=800) Tryz.func216 hmA (fun β=>by kernel_rfl) (by kernel_rfl) β w hh
  · cases j
    · exact spec_auto (evs:=[(sR3Sign (x:=r.a) rfl).e,.eqv 11 (.bool (r.a.num.sign==0)) (.bool true) (sign_lit hi),(sR3Sign (x:=r.b.re) rfl).e,.eqv 16 (.bool (r.b.re.num.sign==0)) (.bool false) (sign_lit hj)]++cnE h (rby_sz h true false) h0) (Ns:=[(6,10)]) (m:=800) Tryz.func216 hmA (fun β=>by kernel_rfl) (by kernel_rfl) β w hh
    · exact spec_auto (evs:=[(sR3Sign (x:=r.a) rfl).e,.eqv 11 (.bool (r.a.num.sign==0)) (.bool true) (sign_lit hi),(sR3Sign (x:=r.b.re) rfl).e,.eqv 16 (.bool (r.b.re.num.sign==0)) (.bool true) (sign_lit hj)]++cnE h (rby_sz h true true) h0) (Ns:=[(6,10)]) (m:=800) Tryz.func216 hmA (fun β=>by kernel_rfl) (by kernel_rfl) β w hh,by kernel_rfl⟩
def sCNorm1 {r:RQ} (h:RSz KC r) (hp:decide ((rpow r).num.sign≤0)=false):Spec Tryz.prog :=
 (sCNormal h rfl rfl (rby_ne hp)).conv (.one (.a (cC (rone r)))) (congrArg rS (rqd_eq r (rby r)))
def wtB (r:RQ):Bool:=decide ((rpow r).num.sign≤0)
def sCTwice {x:Rat} (hx:Sz K3 x):Spec Tryz.prog :=
 Spec.auto Tryz.call217 [.one (.a (fC x))] [] (.one (.a (fC (x+x)))) [] [(sR3Plus hx hx).e] [] 400 Tryz.func217 hmA (by kernel_rfl) (fun β=>by kernel_rfl)
def sCFits (m:RQ) {b:Bool} (hb:b=true↔FitC m):Spec Tryz.prog :=
 ⟨99,Tryz.call99,[.one (.a (cC m))],[],tB' b,[],fun β w hh=>by
  by_cases h1:Fit m.a
  · by_cases h2:FitG m.b
    · have h3:b=true↔Fit m.c:=hb.trans ⟨fun h=>h.2.2,fun h=>⟨h1,h2,h⟩⟩
      cases b<;>exact spec_auto (evs:=[eFFit (iff_true_of h1),(sR4Fits m.b (iff_true_of h2)).e,eFFit h3]) (Ns:=[]) (m:=400) Tryz.func99 hmA (fun β=>by kernel_rfl) (by kernel_rfl) β w hh
    · obtain rfl:=eq_false_of hb fun h=>h2 h.2.1
      exact spec_auto (evs:=[eFFit (iff_true_of h1),(sR4Fits m.b (iff_false_of h2)).e]) (Ns:=[]) (m:=400) Tryz.func99 hmA (fun β=>by kernel_rfl) (by kernel_rfl) β w hh
  · obtain rfl:=eq_false_of hb fun h=>h1 h.1
    exact spec_auto (evs:=[eFFit (iff_false_of h1)]) (Ns:=[]) (m:=400) Tryz.func99 hmA (fun β=>by kernel_rfl) (by kernel_rfl) β w hh,by kernel_rfl⟩
noncomputable def sCTold (m:RQ):Spec Tryz.prog :=
 ⟨221,Tryz.call221,[.one (.a (cC m))],[],ciA m,[],fun β w hh=>by
  by_cases h:FitC m
  · rw [ciA,(ci_fit h).1,(ci_fit h).2]
    exact spec_auto (evs:=[(sCFits m (iff_true_of h)).e]) (Ns:=[]) (m:=400) Tryz.func221 hmA (fun β=>by kernel_rfl) (by kernel_rfl) β w hh
  · rw [ciA,(ci_not h).1,(ci_not h).2]
    exact spec_auto (evs:=[(sCFits m (iff_false_of h)).e]) (Ns:=[]) (m:=400) Tryz.func221 hmA (fun β=>by kernel_rfl) (by kernel_rfl) β w hh,by kernel_rfl⟩
def sNum11 (k:Int):Spec Tryz.prog:=Spec.auto Tryz.call76 [.one (nI' k)] [] (.one (nI' k)) [] [] [] 400 Tryz.func76 hmA (by kernel_rfl) (fun β=>by kernel_rfl)
inductive Fn where
 | ok (x:Rat) (h:Fit x)
 | no (f:Fr) (h:f.a.B=false)
def Fn.fr:Fn→Fr
 | .ok x h=>frX x h
 | .no f _=>f
def Fn.r (a:Fn):R4:=a.fr.r
def Fn.B:Fn→Bool
 | .ok ..=>true
 | .no ..=>false
theorem fn_of (x:R4) (h:x.s.size≤maxLen∧x.t.size≤maxLen):∃ a:Fn,a.r=x:=by
 obtain ⟨⟨r,f,e⟩,rfl⟩:=fr_of x h
 cases f with
 | ok x hx=>exact ⟨.ok x hx,rL_inj e⟩
 | no b c s t hn hs ht=>exact ⟨.no ⟨r,.no b c s t hn hs ht,e⟩ rfl,rfl⟩
def sRatFn (f:Fr) (h:f.a.B=false):Spec Tryz.prog :=
 ⟨294,Tryz.call294,[.one (.a (rL f.r))],[],.one (.c (.b (.v (.pointer none)))),[],fun β w hh=>by
  obtain ⟨r,a,e⟩:=f
  cases a with
  | ok=>cases h
  | no b c s t hn hs ht =>
   dsimp only
   rw [← e]
   exact (sRatNo hn).ok β w hh,by kernel_rfl⟩
def ratFn:Fn→Spec Tryz.prog
 | .ok _ h=>sRatIn h
 | .no f h=>sRatFn f h
abbrev z20:GQ:=gint 2 0
def alOf (ob:List Ob) (j:Nat):Nat:=match ob[j]? with
 | some (.al i _)=>i
 | _=>0
theorem one_at {g:Pl} {b:Nat} (h:g.one) (k:At1 g b):b=g.b:=((k.2 g.b).1 ((h.1 _).2 rfl)).symm
end Go.Proofs.YtmfedaakeeiolaaGreat.Y
end
section
namespace Go.Proofs.YtmfedaakeeiolaaGreat
open Go.RowKit
def pv (g:Nat):Value:=.pointer (some ⟨g,0,none⟩)
theorem ptr_info:(Tryz.prog.info? 272).map (fun i=>(i.zero,i.size,i.bytes))=some (some (.pointer none),1,8):=by kernel_rfl
def PRow (w:World) (base:Nat) (v:Value) (zs:List Nat):Prop:=w.ownsRow base 272 1 v zs.length (zs.map pv)
theorem PRow.nil (w:World) (base:Nat):PRow w base (.slice none 0 0) []:=by simpa [PRow] using World.ownsRow_nil w base 272 1
theorem PRow.alloc {w:World} {base:Nat} {v:Value} {zs:List Nat} (h:PRow w base v zs) (o:Obj):PRow (w.alloc o) base v zs:=World.ownsRow.alloc h o
theorem PRow.open_ {w:World} {base:Nat} {v:Value} {zs:List Nat} (h:PRow w base v zs) (h0:0<zs.length) :
  ∃ g cap,v=.slice (some ⟨g,0,none⟩) zs.length cap∧base≤g∧g<w.heap.size∧∀ i,i<zs.length→w.cell? ⟨g,i,none⟩=some (pv (zs.getD i 0)):=by
 obtain ⟨hlen,h2⟩:=h
 rcases h2 with ⟨rfl,h1⟩ | ⟨g,cap,cur,rfl,hg,hh,hc,_,hcs,ht⟩
 · omega
 · refine ⟨g,cap,rfl,hg,heap_some_lt hh,fun i hi=>?_⟩
   have h3:(cur.toList.take (zs.length*1))[i]?=(zs.map pv)[i]?:=by rw [ht]
   rw [List.getElem?_take_of_lt (by omega),List.getElem?_map,List.getElem?_eq_getElem hi] at h3
   rw [cell_of_row _ _ _ _ _ _ hh,← Array.getElem?_toList,h3,getD_in hi]
   rfl
theorem wpList_append_ptr {ops:Array Oper} {rest:List Oper} {o:Oper} {a:Act} {w:World} {Q:Exit→Act→World→Prop} (hg:o.guard=none) (s x:Operand)
  (ho:o.op=.call { callee:=.builtin .append,args:=#[s,x],argTypes:=#[288,288] })
  (base:Nat) (v:Value) (zs:List Nat) (hs:a.eval s=v) (hown:PRow w base v zs) (ad:Addr) (c:Nat) (y:Nat) (hx:a.eval x=.slice (some ad) 1 c) (hcell:w.cell? ad=some (pv y))
  (hlen:zs.length≤17179869184) (hbase:base≤w.heap.size)
  (hK:∀ v' w',PRow w' base v' (zs++[y])→Below base w w'→w.grownBy w' v.ownBlock→wpList Tryz.prog ops Q rest (a.put o.dst v') w'):wpList Tryz.prog ops Q (o::rest) a w:=by
 obtain ⟨i0,hi,hz0,hz1,hz2⟩:=info_parts ptr_info
 refine wpList_append_own w hg s x 288 ho base 272 i0 (.pointer none) 1 8 Tryz.underlying288 hi hz0 hz1 hz2 rfl (by decide) v zs.length (zs.map pv) hs hown ad 1 c [pv y] hx rfl ?_ ?_ (by simp only [maxLen]; omega) (by omega) hbase ?_
 · intro j u hj
   cases j with
   | zero =>
    simp at hj
    subst hj
    simpa [Addr.add] using hcell
   | succ j=>simp at hj
 · intro u hu
   simp at hu
   subst hu
   rfl
 · intro v' w' h1 h2 _
   refine hK v' w' (by simpa [PRow] using h1) ((Below.refl _ _).grown h2 hbase fun k hk=>?_) h2
   · rcases hown.2 with ⟨rfl,_⟩ | ⟨g,cap,cur,rfl,hb,_⟩
     · simp [Value.ownBlock] at hk
     · simp [Value.ownBlock] at hk
       omega
def OfPost (b:Bool) (s:ByteArray) (w:World) (e:Ending) (w':World):Prop :=
 ((WholeOk b s∧∃ h cap p,e=.returned (.tuple #[.slice (some ⟨h,0,none⟩) 1 cap,.bool true])∧w'.cell? ⟨h,0,none⟩=some (.pointer (some ⟨p,0,none⟩))∧IntAt w' p 0 (numOf b s)) ∨
  (¬ WholeOk b s∧e=.returned (.tuple #[.slice none 0 0,.bool false])))∧Below w.heap.size w w'
def OfPost2 (b:Bool) (s:ByteArray) (w:World) (e:Ending) (w':World):Prop :=
 ((WholeOk b s∧∃ h cap p,e=.returned (.tuple #[.slice (some ⟨h,0,none⟩) 1 cap,.bool true])∧w'.cell? ⟨h,0,none⟩=some (.pointer (some ⟨p,0,none⟩))∧IntAt w' p 0 (numOf b s)∧Hid (w.heap.size≤h∧w.heap.size≤p)) ∨
  (¬ WholeOk b s∧e=.returned (.tuple #[.slice none 0 0,.bool false])))∧Below w.heap.size w w'
set_option maxHeartbeats 1600000 in
set_option maxRecDepth 100000 in
theorem of_one2 {w0:World} {a cap:Nat} (b:Bool) (s:ByteArray) (hs:s.size≤4294967296) {T:TypeId} (ha:BoxAt w0 a #[.bool b,.string s] T) :
  Calls Tryz.prog 325 #[.slice (some ⟨a,0,none⟩) 1 cap] w0 (OfPost2 b s w0):=by
 have hcv:=fun (w:World)=>run_bytes_of_string (P:=Tryz.prog) w 9 343 5 s Tryz.underlying9 Tryz.underlying343 Tryz.underlying5
 have HS:=Lib.hid hs
 have HS2:Hid (s.size≤maxLen):=by unfold Hid maxLen; omega
 have HX:=Lib.hid ha
 have hc0:=ha.cell 0 (.bool b) rfl
 have hc1:=ha.cell 1 (.string s) rfl
 clear hs ha
 go_enter Tryz.func325,Tryz.ntmps325
 go_wp2
 go_loopw [4,10] (fun v i wr=>Below w0.heap.size w0 wr∧((v=.slice none 0 0∧i=.int .i64 0)∨(WholeOk b s∧i=.int .i64 1∧∃ h cap p,v=.slice (some ⟨h,0,none⟩) 1 cap∧wr.cell? ⟨h,0,none⟩=some (.pointer (some ⟨p,0,none⟩))∧IntAt wr p 0 (numOf b s)∧Hid (w0.heap.size≤h∧w0.heap.size≤p)))) (fun _ i _=>1-(intOf i).toNat)
 case atStart=>exact ⟨Below.refl _ _,.inl ⟨rfl,rfl⟩⟩
 case round =>
  obtain ⟨hb,h | h⟩:=hrel
  · obtain ⟨rfl,rfl⟩:=h
    have HBR:=Lib.hid hb
    have hd0:=(HX.out.on hb).cell 0 (.bool b) rfl
    have hd1:=(HX.out.on hb).cell 1 (.string s) rfl
    have HN:=Lib.hid (BoxAt.new wr #[.bool b,.string s] 23)
    have HBN:=Lib.hid (below_new wr (.cells #[.bool b,.string s] 23))
    clear hb hc0 hc1
    go_wp2_with fail
    refine (Check_any b s HS2.out).mono ?_
    rintro e w1 ⟨k,rfl,hk,hb⟩
    have HB1:=Lib.hid ((HBR.out.trans (HBN.out.mono HBR.out.size)).trans (hb.mono (Nat.le_trans HBR.out.size HBN.out.size)))
    have HN1:=Lib.hid (HN.out.on hb)
    have hl1:wr.heap.size<w1.heap.size:=HN1.out.lt
    clear hb hd0 hd1
    by_cases ho:WholeOk b s
    · obtain rfl:k=0:=hk.elim (fun h=>h.1) (fun h=>absurd ho h.2)
      have HO:=Lib.hid ho
      have hn0:=HN1.out.cell 0 (.bool b) rfl
      have hn1:=HN1.out.cell 1 (.string s) rfl
      clear hk ho
      go_wp2_with fail
      generalize hW2:w1.alloc (.cells #[.bool false,.slice none 0 0] 211)=W2
      have hi:IntAt W2 w1.heap.size 0 0:=by rw [← hW2]; exact IntAt.new _
      have hx:BoxAt W2 wr.heap.size #[.bool b,.string s] 23:=by rw [← hW2]; exact HN1.out.on (below_new _ _)
      have hb:Below w1.heap.size w1 W2:=by rw [← hW2]; exact below_new _ _
      have hsz:w1.heap.size+1=W2.heap.size:=by rw [← hW2]; simp
      have hby:=byt_row (W:=W2) s (grownCap W2 s.size 0 5) (grownCap W2 s.size 0 5) (w1.heap.size+1) ((bytesRow s (grownCap W2 s.size 0 5)).size,(bytesRow s (grownCap W2 s.size 0 5)).size+1) hsz
      have hbl:=below_row W2 (bytesRow s (grownCap W2 s.size 0 5)) 5 ((bytesRow s (grownCap W2 s.size 0 5)).size,(bytesRow s (grownCap W2 s.size 0 5)).size+1)
      clear hW2
      generalize grownCap W2 s.size 0 5=c at hby hbl ⊢
      generalize (W2.alloc (.cells (bytesRow s c) 5 ((bytesRow s c).size,(bytesRow s c).size+1))).drew=W3 at hby hbl ⊢
      refine (SetBytes_any (hi.on hbl).slot hby HS.out).mono ?_
      rintro e w4 ⟨rfl,h1,h2⟩
      rw [List.reverse_reverse] at h1
      have HT:=Lib.hid (h2.below (B:=w1.heap.size) (Nat.le_refl _) (by have:=hbl.size; omega))
      have HB4:=Lib.hid ((hb.trans (hbl.mono hb.size)).trans HT.out)
      have hd0:w4.cell? ⟨wr.heap.size,0,none⟩=some (.bool b):=by rw [HB4.out.cell (by simp; omega)]; exact HN1.out.cell 0 _ rfl
      have HI:=Lib.hid h1
      have HBB:=Lib.hid (HB1.out.trans (HB4.out.mono HB1.out.size))
      clear h1 h2 hi hx hb hsz hby hbl hn0 hn1
      cases b
      · have HV:Hid (IntAt w4 w1.heap.size 0 (numOf false s)):=by
         have:=HI.out
         simpa [Hid,numOf,sg,num] using this
        go_wp2_with (at_builtin; refine wpList_append_ptr rfl (.tmp 32) (.tmp 34) rfl w0.heap.size _ [] rfl ((PRow.nil _ _).alloc _) ⟨w4.heap.size,0,none⟩ 1 w1.heap.size rfl (cell_new0 _ _ _) ?_ ?_ ?_)
        · exact Nat.zero_le _
        · have:=HBB.out.size; simp; omega
        intro v' w6 hrow hb6 hgr
        obtain ⟨h,cap2,rfl,hge,hlt,hcc⟩:=hrow.open_ (by simp)
        have HG:Hid (w0.heap.size≤h∧w0.heap.size≤w1.heap.size):=⟨hge,HB1.out.size⟩
        clear hge
        have HC:=Lib.hid (hcc 0 (by simp))
        have HB6:=Lib.hid ((HBB.out.trans ((below_new w4 (.cells #[.pointer (some ⟨w1.heap.size,0,none⟩)] 272)).mono HBB.out.size)).trans hb6)
        have HV6:=Lib.hid ((HV.out.on (below_new w4 (.cells #[.pointer (some ⟨w1.heap.size,0,none⟩)] 272))).on (Below.grown (Below.refl _ _) hgr (Nat.le_refl _) (fun k hk=>by simp [Value.ownBlock] at hk)))
        clear hrow hb6 hgr hcc
        go_wp2
        go_roundw
        case rel=>exact ⟨HB6.out,.inr ⟨HO.out,by go_num,h,cap2,_,rfl,HC.out,HV6.out,HG⟩⟩
        case measure=>simp [intOf]
      · go_wp2_with fail
        refine (neg_any HI.out.slot HI.out).mono ?_
        rintro e w5 ⟨rfl,h1,h2⟩
        have HV:Hid (IntAt w5 w1.heap.size 0 (numOf true s)):=by
         have:=h1
         simpa [Hid,numOf,sg,num] using this
        have HB5:=Lib.hid (HBB.out.trans (h2.below (B:=w0.heap.size) (by have:=HB1.out.size; omega) HBB.out.size))
        clear h1 h2 hd0
        go_wp2_with (at_builtin; refine wpList_append_ptr rfl (.tmp 32) (.tmp 34) rfl w0.heap.size _ [] rfl ((PRow.nil _ _).alloc _) ⟨w5.heap.size,0,none⟩ 1 w1.heap.size rfl (cell_new0 _ _ _) ?_ ?_ ?_)
        · exact Nat.zero_le _
        · have:=HB5.out.size; simp; omega
        intro v' w6 hrow hb6 hgr
        obtain ⟨h,cap2,rfl,hge,hlt,hcc⟩:=hrow.open_ (by simp)
        have HG:Hid (w0.heap.size≤h∧w0.heap.size≤w1.heap.size):=⟨hge,HB1.out.size⟩
        clear hge
        have HC:=Lib.hid (hcc 0 (by simp))
        have HB6:=Lib.hid ((HB5.out.trans ((below_new w5 (.cells #[.pointer (some ⟨w1.heap.size,0,none⟩)] 272)).mono HB5.out.size)).trans hb6)
        have HV6:=Lib.hid ((HV.out.on (below_new w5 (.cells #[.pointer (some ⟨w1.heap.size,0,none⟩)] 272))).on (Below.grown (Below.refl _ _) hgr (Nat.le_refl _) (fun k hk=>by simp [Value.ownBlock] at hk)))
        clear hrow hb6 hgr hcc
        go_wp2
        go_roundw
        case rel=>exact ⟨HB6.out,.inr ⟨HO.out,by go_num,h,cap2,_,rfl,HC.out,HV6.out,HG⟩⟩
        case measure=>simp [intOf]
    · obtain rfl:k=2:=hk.elim (fun h=>absurd h.2 ho) (fun h=>h.1)
      have HO:=Lib.hid ho
      clear hk ho
      go_wp2
      go_ret2
      exact ⟨.inr ⟨HO.out,rfl⟩,HB1.out⟩
  · obtain ⟨ho,rfl,h,cap2,p,rfl,hc,hi,HG⟩:=h
    have HO:=Lib.hid ho
    have HC:=Lib.hid hc
    have HI:=Lib.hid hi
    have HB:=Lib.hid hb
    clear ho hc hi hb hc0 hc1
    go_wp2
    go_ret2
    exact ⟨.inl ⟨HO.out,h,cap2,p,rfl,HC.out,HI.out,HG⟩,HB.out⟩
theorem of_one {w0:World} {a cap:Nat} (b:Bool) (s:ByteArray) (hs:s.size≤4294967296) {T:TypeId} (ha:BoxAt w0 a #[.bool b,.string s] T) :
  Calls Tryz.prog 325 #[.slice (some ⟨a,0,none⟩) 1 cap] w0 (OfPost b s w0) :=
 (of_one2 b s hs ha).mono fun e w' ⟨h,hb⟩=>⟨h.imp (fun ⟨ho,h,cap,p,h1,h2,h3,_⟩=>⟨ho,h,cap,p,h1,h2,h3⟩) id,hb⟩
theorem fracV_num {b c:Bool} {s t:ByteArray} {x:Rat} (h:FracParts b s c t x):WholeOk b s∧numOf b s=x.num:=by
 have h1:=(isFrac_parts h.isFrac).1
 obtain ⟨rfl,rfl,_,_⟩:=agg4 h.val
 exact ⟨h1,numOf_mag _⟩
theorem fracV_inj {x y:Rat} (h:fracV x=fracV y):x=y:=by
 obtain ⟨h1,h2,_,h4⟩:=agg4 h
 have e1:x.num=y.num:=sg_inj h1 (mag_inj h2)
 have e2:x.den=y.den:=mag_inj h4
 exact Rat.ext e1 e2
theorem sz_i64 {n:Int} (h : -9223372036854775808≤n∧n≤9223372036854775807):sz n≤8:=by
 rw [sz_le]
 have:n.natAbs≤9223372036854775808:=by omega
 exact Nat.lt_of_le_of_lt this (by decide)
theorem okn_i64 {n:Int} (h : -9223372036854775808≤n∧n≤9223372036854775807):Okn n:=okn_size (Nat.le_trans (sz_i64 h) (by decide))
set_option maxHeartbeats 1600000 in
set_option maxRecDepth 100000 in
theorem WText_any {w0:World} (b:Bool) (s:ByteArray) (hs:s.size≤4294967296) :
  Calls Tryz.prog 240 #[.agg #[.bool b,.string s]] w0 fun e w'=>∃ u k,e=.returned (.tuple #[.string u,.int .i64 k])∧(WholeOk b s∧u=textN (numOf b s)∧k=0∨¬ WholeOk b s∧u=⟨#[]⟩∧k=2)∧Below w0.heap.size w0 w':=by
 have HS:=Lib.hid hs
 have h1:=below_new w0 (.cells #[.bool b,.string s] 23)
 have h2:=below_new (w0.alloc (.cells #[.bool b,.string s] 23)) (.cells #[.bool b,.string s] 23)
 have HB:=Lib.hid (h1.trans (h2.mono h1.size))
 have HX:=Lib.hid (BoxAt.new_at (w:=w0.alloc (.cells #[.bool b,.string s] 23)) #[.bool b,.string s] 23 (size_alloc w0 _).symm)
 clear hs h1 h2
 go_enter Tryz.func240,Tryz.ntmps240
 go_wp2_with fail
 refine (of_one b s HS.out HX.out).mono ?_
 rintro e w1 ⟨h,hb⟩
 have HB1:=Lib.hid (HB.out.trans (hb.mono HB.out.size))
 clear hb
 rcases h with ⟨ho,g,cap,p,rfl,hc,hi⟩ | ⟨ho,rfl⟩
 · have HO:=Lib.hid ho
   have HI:=Lib.hid hi
   have KT:Hid (Okt (numOf b s)):=by
    have h3:(mag (numOf b s).natAbs).size≤16384:=by rw [(numOf_ok ho).2.1]; exact ho.2
    have:=wl_size h3
    unfold Hid Okt
    omega
   clear ho hi
   go_wp2_with fail
   refine (String_any HI.out KT.out).mono ?_
   rintro e w2 ⟨rfl,hb⟩
   have HB2:=Lib.hid (HB1.out.trans (hb.mono HB1.out.size))
   clear hb hc
   go_wp2
   go_ret2
   exact ⟨_,_,rfl,.inl ⟨HO.out,rfl,rfl⟩,HB2.out⟩
 · have HO:=Lib.hid ho
   clear ho
   go_wp2
   go_ret2
   exact ⟨_,_,rfl,.inr ⟨HO.out,rfl,rfl⟩,HB1.out⟩
theorem textN_len (n:Int):(textN n).size≤32*(dig n.natAbs).length+1:=by
 rw [textN_size]
 unfold txt
 have:=dd_len_words n.natAbs
 split
 · simp
 · rw [List.length_reverse,List.length_append]
   split<;>simp<;>omega
theorem textN_small {n:Int} (h:(mag n.natAbs).size≤16384):(textN n).size≤200000:=by
 have h1:=textN_len n
 have h2:=wl_size h
 omega
def textQ (x:Rat):ByteArray:=if x.den=1 then textN x.num else textN x.num++(⟨#[47]⟩++textN (x.den:Int))
def TextAns (va:Value) (u:ByteArray) (k:Int):Prop:=(∃ x,Fit x∧va=fracV x∧u=textQ x∧k=0)∨(¬ IsFrac va∧u=⟨#[]⟩∧k=2)
theorem parts_den {b c:Bool} {s t:ByteArray} {x:Rat} (h:FracParts b s c t x):c=false∧t=mag x.den∧WholeOk false t∧numOf false t=(x.den:Int):=by
 have h2:=(isFrac_parts h.isFrac).2.1
 obtain ⟨rfl,rfl,rfl,rfl⟩:=agg4 h.val
 refine ⟨rfl,rfl,h2,?_⟩
 have:=numOf_mag (x.den:Int)
 rwa [show decide ((x.den:Int)<0)=false by simp,Int.natAbs_natCast] at this
set_option maxHeartbeats 3200000 in
set_option maxRecDepth 100000 in
theorem FText_any {w0:World} (b c:Bool) (s t:ByteArray) (hs:s.size≤maxLen) (ht:t.size≤maxLen) :
  Calls Tryz.prog 110 #[.agg #[.bool b,.string s,.bool c,.string t]] w0 fun e w'=>∃ u k,e=.returned (.tuple #[.string u,.int .i64 k])∧TextAns (.agg #[.bool b,.string s,.bool c,.string t]) u k∧Below w0.heap.size w0 w':=by
 have HS:=Lib.hid hs
 have HT:=Lib.hid ht
 have HW0:=Lib.hid (below_new w0 (.cells #[.bool b,.string s,.bool c,.string t] 25))
 have HX0:=Lib.hid (BoxAt.new w0 #[.bool b,.string s,.bool c,.string t] 25)
 clear hs ht
 go_enter Tryz.func110,Tryz.ntmps110
 go_wp2_with fail
 refine (May_any b c s t HS.out HT.out).mono ?_
 rintro e w1 ⟨r,rfl,hr,hb⟩
 have HX1:=Lib.hid (HX0.out.on hb)
 have HW1:=Lib.hid (HW0.out.trans (hb.mono HW0.out.size))
 have HR:=Lib.hid hr
 clear hb hr
 cases r
 · go_wp2
   go_ret2
   exact ⟨_,_,rfl,.inr ⟨fun h=>Bool.noConfusion (HR.out.2 h),rfl,rfl⟩,HW1.out⟩
 obtain ⟨x,hx⟩:=parts_of (by first | exact HR.out.1 rfl | exact HR.out.1 trivial)
 have HX:=Lib.hid hx
 obtain ⟨rfl,ht2,ho2,hn2⟩:=parts_den hx
 have HT2:=Lib.hid ht2
 have HO2:=Lib.hid ho2
 have HN2:=Lib.hid hn2
 have hc0:=HX1.out.cell 0 (.bool b) rfl
 have hc1:=HX1.out.cell 1 (.string s) rfl
 clear hx HR ht2 ho2 hn2
 go_wp2_with fail
 refine (WText_any b s HX.out.hs).mono ?_
 rintro e w2 ⟨un,k,rfl,hu,hb⟩
 have HU:Hid (un=textN x.num):=by
  obtain ⟨h1,h2⟩:=fracV_num HX.out
  rcases hu with h | h
  · rw [← h2]; exact h.2.1
  · exact absurd h1 h.1
 have HX2:=Lib.hid (HX1.out.on hb)
 have HW2:=Lib.hid (HW1.out.trans (hb.mono HW1.out.size))
 clear hu hb hc0 hc1
 go_wp2
 refine wp_region_acts 4 (fun w'=>Below w0.heap.size w0 w'∧BoxAt w' w0.heap.size #[.bool b,.string s,.bool false,.string t] 25) (fun w w'=>Below w.heap.size w w') (fun i w v=>match i with
   | 0=>v=.pointer (some ⟨w0.heap.size,2,none⟩)
   | 1=>v=.agg #[.bool false,.string t]
   | 2=>∃ g,v=.pointer (some ⟨g,0,none⟩)∧IntAt w g 0 1
   | _=>∃ s',v=.agg #[.bool false,.string s']∧Hid (s'=mag 1)) (by kernel_rfl) (by kernel_rfl) (by kernel_rfl) ⟨HW2.out.drew,HX2.out⟩ (fun _ _=>(Below.refl _ _)) ?_ ⟨?_,?_,?_,?_,trivial⟩ ?_
 · intro i w1 w2 v hC hC2 hE hV
   match i with
   | 0=>exact hV
   | 1=>exact hV
   | 2=>obtain ⟨g,e,h⟩:=hV; exact ⟨g,e,h.on hE⟩
   | _+3=>exact hV
 · intro a' w' hag hC hd K hK
   have e1:a'.tmps.getD 1 undef=.pointer (some ⟨w0.heap.size,0,none⟩):=hag 1 rfl
   go_step
   exact hK _ _ hC ((Below.refl _ _)) rfl
 · intro a' w' hag hC hd K hK
   have e17:a'.tmps.getD 17 undef=.pointer (some ⟨w0.heap.size,2,none⟩):=hd.1
   have hc0:=hC.2.cell 2 (.bool false) rfl
   have hc1:=hC.2.cell 3 (.string t) rfl
   have HK:=Lib.hid (hK (.agg #[.bool false,.string t]) _ hC (Below.refl _ _) rfl)
   clear hK hC
   go_step
   exact HK.out
 · intro a' w' hag hC hd K hK
   go_step
   refine (NewInt_any (n:=1) (by decide)).mono ?_
   rintro e w2 ⟨g,rfl,hg,h1,h2⟩
   exact hK _ _ ⟨hC.1.trans (h2.mono hC.1.size),hC.2.on h2⟩ h2 ⟨_,rfl,h1⟩
 · intro a' w' hag hC hd K hK
   obtain ⟨g19,e19,h19⟩:=hd.1
   have e19:a'.tmps.getD 19 undef=.pointer (some ⟨g19,0,none⟩):=e19
   go_step
   refine (back_agg h19 (okn_i64 (by decide))).mono ?_
   rintro e w2 ⟨p,s',rfl,h1,h2,hb⟩
   have hp:p=false:=by rw [h1.out]; rfl
   subst hp
   exact hK _ _ ⟨hC.1.trans (hb.mono hC.1.size),hC.2.on hb⟩ hb ⟨s',rfl,h2⟩
 · intro u w' hC hall
   obtain ⟨u0,u1,u2,u3,_⟩:=hall
   have u0:u 0=.pointer (some ⟨w0.heap.size,2,none⟩):=u0
   have u1:u 1=.agg #[.bool false,.string t]:=u1
   obtain ⟨s20,eu3,hs20⟩:=u3
   have u3:u 3=.agg #[.bool false,.string s20]:=eu3
   simp only [fillR,List.take_succ_cons,List.take_zero,Act.put,List.setIfInBounds_toArray,List.set_cons_succ,List.set_cons_zero,Nat.zero_add,Nat.reduceAdd,u0,u1,u3]
   clear u0 u1 u3
   have HC:=Lib.hid hC.1
   have HX3:=Lib.hid hC.2
   clear hC
   by_cases hd:t.toList=s20.toList
   · have HD:Hid (x.den=1):=by
      have h1:=toList_inj.1 hd
      rw [HT2.out,hs20.out] at h1
      exact mag_inj h1
     go_wp2
     go_ret2
     exact ⟨_,_,rfl,.inl ⟨x,HX.out.fit,HX.out.val,by rw [textQ,if_pos HD.out]; exact HU.out,rfl⟩,HC.out⟩
   · have HD:Hid (¬ x.den=1):=fun e=>hd (by rw [HT2.out,hs20.out,e])
     have hc0:=HX3.out.cell 2 (.bool false) rfl
     have hc1:=HX3.out.cell 3 (.string t) rfl
     go_wp2_with fail
     refine (WText_any false t HX.out.ht).mono ?_
     rintro e w4 ⟨u2,k2,rfl,hu,hb⟩
     have HU2:Hid (u2=textN (x.den:Int)):=by
      rcases hu with h | h
      · rw [← HN2.out]; exact h.2.1
      · exact absurd HO2.out h.1
     have HB:=Lib.hid (HC.out.trans (hb.mono HC.out.size))
     have hu1:un.size≤200000:=by rw [HU.out]; exact textN_small (Nat.le_trans HX.out.fit.1 (by decide))
     have hu2:u2.size≤200000:=by rw [HU2.out]; exact textN_small (by rw [Int.natAbs_natCast]; exact Nat.le_trans HX.out.fit.2 (by decide))
     have hu3:((⟨#[47]⟩:ByteArray)++u2).size≤200001:=by rw [ByteArray.size_append]; show 1+u2.size≤_; omega
     clear hu hb hc0 hc1
     go_wp2
     go_ret2
     exact ⟨_,_,rfl,.inl ⟨x,HX.out.fit,HX.out.val,by rw [textQ,if_neg HD.out,← HU.out,← HU2.out],rfl⟩,HB.out⟩
end Go.Proofs.YtmfedaakeeiolaaGreat
end
