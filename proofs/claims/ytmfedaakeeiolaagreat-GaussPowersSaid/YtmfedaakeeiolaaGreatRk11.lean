/- Rs4, Pts, Alg, Rs7, MoC, EqM, MkA, Row, Osp, GsA, GsB, IntG, GsC, CkM, CkN. -/
import Derived.Deep.MidRow
import Derived.Test.YtmfedaakeeiolaaGreatRk10
set_option linter.unnecessarySimpa false
set_option linter.unusedVariables false
set_option linter.unusedSimpArgs false
section
namespace Go.Proofs.YtmfedaakeeiolaaGreat
open Go.Proofs.YtmfedaakeeiolaaGreat.Y
open Go Go.RowKit
set_option maxRecDepth 100000
theorem gres {z w:GQ} (h:z=w):SV.one (.a (gC z))=.one (.a (gC w)):=by rw [h]
theorem Sz.le {i k:Nat} {x:Rat} (h:Sz i x) (hk:Nat.ble i k=true:=by decide):Sz k x:=h.mono (Nat.le_of_ble_eq_true hk)
theorem GSz.le {i k:Nat} {z:GQ} (h:GSz i z) (hk:Nat.ble i k=true:=by decide):GSz k z:=h.mono (Nat.le_of_ble_eq_true hk)
theorem gdiv_eq (z w:GQ):gscale (gmul z (gconj w)) (Rat.divInt 1 1/gnorm w)=gdiv z w:=by
 unfold gdiv
 congr 1
 rw [Rat.div_def,show (Rat.divInt 1 1)=1 by rfl,Rat.one_mul]
abbrev svG (z:GQ):SV:=.one (.a (gC z))
abbrev svF (x:Rat):SV:=.one (.a (fC x))
section
variable {z w:GQ} {x:Rat}
def sR4Conj (z:GQ):Y.Spec Tryz.prog:=Y.Spec.auto Tryz.call192 [svG z] [] (svG (gconj z)) [] [(sR3Neg z.im).e] [(1,6)] 400 Tryz.func192 hmA (by kernel_rfl) (fun β=>by kernel_rfl)
def sR4Times (hz:GSz KE z) (hw:GSz KE w):Y.Spec Tryz.prog:=Y.Spec.auto Tryz.call54 [svG z,svG w] [] (svG (gmul z w)) []
 [(sR3Times hz.1.le hw.1.le).e,(sR3Times hz.2.le hw.2.le).e,(sR3Minus (hz.1.mul hw.1).le (hz.2.mul hw.2).le).e,(sR3Times hz.1.le hw.2.le).e,(sR3Times hz.2.le hw.1.le).e,(sR3Plus (hz.1.mul hw.2).le (hz.2.mul hw.1).le).e] [(1,12),(2,12)] 400 Tryz.func54 hmA (by kernel_rfl) (fun β=>by kernel_rfl)
def sR4Dot (hz:GSz KE z) (hw:GSz KE w):Y.Spec Tryz.prog:=Y.Spec.auto Tryz.call289 [svG z,svG w] [] (svF (z.re*w.re+z.im*w.im)) []
 [(sR3Times hz.1.le hw.1.le).e,(sR3Times hz.2.le hw.2.le).e,(sR3Plus (hz.1.mul hw.1).le (hz.2.mul hw.2).le).e] [(1,11)] 400 Tryz.func289 hmA (by kernel_rfl) (fun β=>by kernel_rfl)
def sR4Norm (hz:GSz KE z):Y.Spec Tryz.prog:=Y.Spec.auto Tryz.call181 [svG z] [] (svF (gnorm z)) [] [(sR4Dot hz hz).e] [] 400 Tryz.func181 hmA (by kernel_rfl) (fun β=>by kernel_rfl)
def sR4Scale (hz:GSz K3 z) (hx:Sz K3 x):Y.Spec Tryz.prog:=Y.Spec.auto Tryz.call194 [svG z,svF x] [] (svG (gscale z x)) [] [(sR3Times hz.1 hx).e,(sR3Times hz.2 hx).e] [(1,9)] 400 Tryz.func194 hmA (by kernel_rfl) (fun β=>by kernel_rfl)
theorem sz_one:Sz 1 (Rat.divInt 1 1):=Sz.small (by decide)
def sR4Over (hz:GSz KE z) (hw:GSz KE w) (h0:gzero w=false):Y.Spec Tryz.prog:=(Y.Spec.auto Tryz.call71 [svG z,svG w] [] (svG (gscale (gmul z (gconj w)) (Rat.divInt 1 1/gnorm w))) []
 [(sR4Conj w).e,(sR4Times hz hw.conj).e,(sR3Int 1 (by decide)).e,(sR4Norm hw).e,(sR3Over sz_one.le hw.norm.le (gnorm_ne h0)).e,(sR4Scale (hz.mul hw.conj).le (sz_one.div hw.norm (gnorm_ne h0)).le).e] [(1,9)] 400 Tryz.func71 hmA (by kernel_rfl) (fun β=>by kernel_rfl)).conv (svG (gdiv z w)) (gres (gdiv_eq z w))
end
def sR4Int (n m:Int) (hn : -9223372036854775808≤n∧n≤9223372036854775807:=by decide) (hm : -9223372036854775808≤m∧m≤9223372036854775807:=by decide):Y.Spec Tryz.prog :=
 Y.Spec.auto Tryz.call50 [.one (.c (.b (.v (.int .i64 n)))),.one (.c (.b (.v (.int .i64 m))))] [] (svG (gint n m)) [] [(sR3Int n hn).e,(sR3Int m hm).e] [] 400 Tryz.func50 hmA (by kernel_rfl) (fun β=>by kernel_rfl)
theorem sign_num (x:Rat) {b:Bool} (h:decide (x=0)=b):Value.bool (x.num.sign==0)=.bool b:=sign_lit h
def sR4Zero (z:GQ) {b:Bool} (hb:gzero z=b):Y.Spec Tryz.prog :=
 ⟨48,Tryz.call48,[svG z],[],.one (.c (.b (.v (.bool b)))),[],fun β w hh=>by
  cases h1:decide (z.re=0) with
  | false =>
   obtain rfl:b=false:=by rw [← hb]; unfold gzero; rw [h1]; rfl
   exact spec_auto (evs:=[(sR3Sign (x:=z.re) rfl).e,.eqv 6 (.bool (z.re.num.sign==0)) (.bool false) (sign_num _ h1)]) (Ns:=[]) (m:=400) Tryz.func48 hmA (fun β=>by kernel_rfl) (by kernel_rfl) β w hh
  | true =>
   obtain rfl:b=decide (z.im=0):=by rw [← hb]; unfold gzero; rw [h1]; rfl
   cases h2:decide (z.im=0) with
   | false=>exact spec_auto (evs:=[(sR3Sign (x:=z.re) rfl).e,.eqv 6 (.bool (z.re.num.sign==0)) (.bool true) (sign_num _ h1),(sR3Sign (x:=z.im) rfl).e,.eqv 11 (.bool (z.im.num.sign==0)) (.bool false) (sign_num _ h2)]) (Ns:=[]) (m:=400) Tryz.func48 hmA (fun β=>by kernel_rfl) (by kernel_rfl) β w hh
   | true=>exact spec_auto (evs:=[(sR3Sign (x:=z.re) rfl).e,.eqv 6 (.bool (z.re.num.sign==0)) (.bool true) (sign_num _ h1),(sR3Sign (x:=z.im) rfl).e,.eqv 11 (.bool (z.im.num.sign==0)) (.bool true) (sign_num _ h2)]) (Ns:=[]) (m:=400) Tryz.func48 hmA (fun β=>by kernel_rfl) (by kernel_rfl) β w hh,by kernel_rfl⟩
def sR4Fits (z:GQ) {b:Bool} (hb:b=true↔FitG z):Y.Spec Tryz.prog :=
 ⟨190,Tryz.call190,[svG z],[],.one (.c (.b (.v (.bool b)))),[],fun β w hh=>by
  by_cases h1:Fit z.re
  · have h2:b=true↔Fit z.im:=hb.trans ⟨fun h=>h.2,fun h=>⟨h1,h⟩⟩
    cases b<;>exact spec_auto (evs:=[eFFit (iff_true_of h1),eFFit h2]) (Ns:=[]) (m:=400) Tryz.func190 hmA (fun β=>by kernel_rfl) (by kernel_rfl) β w hh
  · obtain rfl:=eq_false_of hb fun h=>h1 h.1
    exact spec_auto (evs:=[eFFit (iff_false_of h1)]) (Ns:=[]) (m:=400) Tryz.func190 hmA (fun β=>by kernel_rfl) (by kernel_rfl) β w hh,by kernel_rfl⟩
def Fp.may3:Fp→Y.Spec Tryz.prog
 | .ok x h=>sR3May _ _ _ _ true (iff_true_of (fitF x h))
 | .no b c s t h hs ht=>sR3May b c s t false (iff_false_of h)
def may4E (a b:Fp):List (Ev Tryz.prog):=match a with
 | .ok ..=>[a.may3.e,b.may3.e]
 | .no ..=>[a.may3.e]
def sR4May (a b:Fp):Y.Spec Tryz.prog :=
 Y.Spec.auto Tryz.call45 [.one (.a (a.C++b.C))] [] (.one (.c (.b (.v (.bool (a.B&&b.B)))))) [] (may4E a b) [] 400 Tryz.func45 hmA (by cases a<;>cases b<;>kernel_rfl) (fun β=>by cases a<;>cases b<;>kernel_rfl)
def Fp.raw:Fp→R4
 | .ok x _=>⟨decide (x.num<0),mag x.num.natAbs,false,mag x.den⟩
 | .no b c s t _ _ _=>⟨b,s,c,t⟩
def Pp.rI:Pp→Bool
 | .fin ..=>false
 | _=>true
def Pp.rX:Pp→R4
 | .inf=>r40
 | .fin a _=>a.raw
 | .odd x _ _=>x
def Pp.rY:Pp→R4
 | .inf=>r40
 | .fin _ b=>b.raw
 | .odd _ y _=>y
def Y.Spec.as {P:Program} (S:Y.Spec P) (args:List SV) (res:SV) (ha:S.args=args) (hr:S.res=res):Y.Spec P :=
 ⟨S.f,S.en,args,S.obs,res,S.news,fun β w hh=>by subst ha; subst hr; exact S.ok β w hh,by subst ha; subst hr; exact S.closed⟩
def fR (x:Rat):R4:=⟨decide (x.num<0),mag x.num.natAbs,false,mag x.den⟩
def Pt.i:Pt→Bool
 | .inf=>true
 | .fin _=>false
def Pt.x:Pt→R4
 | .inf=>r40
 | .fin z=>fR z.re
def Pt.y:Pt→R4
 | .inf=>r40
 | .fin z=>fR z.im
def FitP:Pt→Prop
 | .inf=>True
 | .fin z=>FitG z
structure Rw where
 i:Bool
 x:R4
 y:R4
def Pt.w (p:Pt):Rw:=⟨p.i,p.x,p.y⟩
def Pp.w (p:Pp):Rw:=⟨p.rI,p.rX,p.rY⟩
theorem fp_of (x:R4) (h1:x.s.size≤maxLen) (h2:x.t.size≤maxLen):∃ a:Fp,a.raw=x:=by
 obtain ⟨b,s,c,t⟩:=x
 rcases fp_all b c s t with ⟨q,h,rfl,rfl,rfl,rfl⟩ | h
 · exact ⟨.ok q h,rfl⟩
 · exact ⟨.no b c s t h h1 h2,rfl⟩
theorem gz_true {z:GQ}:gzero z=true↔z=g0:=by
 rw [gzero_iff]
 exact ⟨fun h=>GQ.ext2 h.1 h.2,fun h=>by rw [h]; exact ⟨rfl,rfl⟩⟩
theorem gz_false {z:GQ}:gzero z=false↔z≠g0:=by
 cases h:gzero z with
 | true=>exact ⟨fun e=>Bool.noConfusion e,fun e=>absurd (gz_true.1 h) e⟩
 | false=>exact ⟨fun _ e=>by rw [gz_true.2 e] at h; exact Bool.noConfusion h,fun _=>rfl⟩
theorem gnorm_mul (z w:GQ):gnorm (gmul z w)=gnorm z*gnorm w:=by
 simp only [gnorm,gmul]; grind
theorem gnorm_zero {z:GQ} (h:gnorm z=0):z=g0:=by
 cases h1:gzero z with
 | true=>exact gz_true.1 h1
 | false=>exact absurd h (gnorm_ne h1)
theorem gmul_zero {z w:GQ} (h:gmul z w=g0):z=g0∨w=g0:=by
 have h1:gnorm z*gnorm w=0:=by rw [← gnorm_mul,h]; simp only [gnorm,g0]; grind
 rcases Rat.mul_eq_zero.1 h1 with h | h
 · exact .inl (gnorm_zero h)
 · exact .inr (gnorm_zero h)
theorem gmul_ne {z w:GQ} (h:z≠g0) (k:w≠g0):gmul z w≠g0:=fun e=>(gmul_zero e).elim h k
theorem gnorm_inv {w:GQ} (h:w≠g0):gnorm w*(gnorm w)⁻¹=1:=Rat.mul_inv_cancel _ (gnorm_ne (gz_false.2 h))
theorem gdiv_mul {z w:GQ} (h:w≠g0):gmul (gdiv z w) w=z:=by
 have hn:=gnorm_inv h
 unfold gdiv
 generalize hi:(gnorm w)⁻¹=i at hn
 unfold gnorm at hn
 refine GQ.ext2 ?_ ?_
 · simp only [gmul,gscale,gconj]; grind
 · simp only [gmul,gscale,gconj]; grind
theorem gmul_cancel {z w u:GQ} (h:u≠g0) (e:gmul z u=gmul w u):z=w:=by
 have h1:gmul (gsub z w) u=g0:=by
  have e1:=congrArg GQ.re e
  have e2:=congrArg GQ.im e
  simp only [gmul] at e1 e2
  refine GQ.ext2 ?_ ?_
  · simp only [gmul,gsub,g0]; grind
  · simp only [gmul,gsub,g0]; grind
 rcases gmul_zero h1 with k | k
 · have e1:=congrArg GQ.re k
   have e2:=congrArg GQ.im k
   simp only [gsub,g0] at e1 e2
   exact GQ.ext2 (by grind) (by grind)
 · exact absurd k h
theorem gdiv_eq_iff {z w u:GQ} (h:w≠g0):gdiv z w=u↔z=gmul u w:=by
 constructor
 · intro e; rw [← e,gdiv_mul h]
 · intro e; exact gmul_cancel h (by rw [gdiv_mul h,e])
theorem gint10:gint 1 0=⟨1,0⟩:=rfl
structure BSpec (P:Program) where
 f:FuncId
 en:Enters P f
 args:List SV
 cs:List Lf
 t:TypeId
 r:Value
 ok:∀ β w,(Ob.box cs t).holds β w (β 0)→Calls P f (args.map (SV.den β)).toArray w fun e w'=>e=.returned r∧Below w.heap.size w w'
 cl:(cs.all (Lf.of fun _=>false)&&args.all (SV.of fun k=>Nat.beq k 0))=true
 hr:∀ β,(tag r).den β=r
def bkOf:List SV→Nat
 | []=>0
 | .one (.c (.b (.s k _ _ _)))::_=>k
 | _::r=>bkOf r
theorem cells_closed {β β':Env} {cs:List Lf} (h:cs.all (Lf.of fun _=>false)=true):cs.map (Lf.den β)=cs.map (Lf.den β') :=
 List.map_congr_left fun x hx=>Lf.den_congr (q:=fun _=>false) (fun k hk=>by cases hk) x (List.all_eq_true.1 h x hx)
def BSpec.e {P:Program} (S:BSpec P):Ev P:=.dyn (fun o _ _=>isCallB o) fun _ xs ob=>lit (bkOf xs) fun i =>
 .call S.f S.en (fun β=>(S.args.map (SV.den fun _=>β i)).toArray) [(i,.box S.cs S.t)] 0 (tag S.r) [] (fun β w h=>of_pure0 (by
  have hc:=S.cl
  rw [Bool.and_eq_true] at hc
  refine S.ok (fun _=>β i) w ?_
  have h1:(β i).one∧w.heap[(β i).b]?=some (.cells (S.cs.map (Lf.den β)).toArray S.t (0,0)):=h _ (List.mem_singleton.2 rfl)
  show (β i).one∧w.heap[(β i).b]?=some (.cells (S.cs.map (Lf.den fun _=>β i)).toArray S.t (0,0))
  rw [cells_closed (β':=β) hc.1]
  exact h1) S.hr)
theorem bspec_ok {P:Program} {f:FuncId} {fn:Func} {args:List SV} {cs:List Lf} {t:TypeId} {r:Value} (evs:List (Ev P)) (Ns:List (Nat × Nat)) (m:Nat) (hf:P.funcs[f]?=some fn) (hm:P.follows .mixedOrders=true)
  (h:∀ β,(allS P fn args [.box cs t] evs Ns m (tag r) [] β).map Prod.fst=(allS P fn args [.box cs t] evs Ns m (tag r) [] β).map Prod.snd)
  (hB:(args.all (SV.of fun k=>Nat.blt k 1)&&[Ob.box cs t].all fun x=>x.of (fun k=>Nat.blt k 1)&&x.own)=true) (hr:∀ β,(tag r).den β=r) (β:Env) (w:World) (hh:(Ob.box cs t).holds β w (β 0)) :
  Calls P f (args.map (SV.den β)).toArray w fun e w'=>e=.returned r∧Below w.heap.size w w':=by
 rw [Bool.and_eq_true] at hB
 refine (sx (P:=P) args [.box cs t] evs Ns m (tag r) [] hf hm (fun β=>ok_of_maps (h β)) hB.1 hB.2 β w (fun k o ho=>?_)).mono ?_
 · cases k with
   | zero=>simp only [List.getElem?_cons_zero] at ho; obtain rfl:=Option.some.inj ho; exact hh
   | succ k=>simp at ho
 · rintro e w' ⟨β',q,obj,e1,rfl,e2,e4,e5,g⟩
   exact ⟨by rw [hr],g.bel⟩
def big (k:Nat) (s:ByteArray):Bool:=decide ((k:Int)<(s.size:Int))
def smB (k:Nat) (x y:R4):Bool:=!(big k x.s||(big k x.t||(big k y.s||big k y.t)))
theorem big_lit {k:Nat} {s:ByteArray} {r:Bool} (h:big k s=r):Value.bool (decide ((k:Int)<(s.size:Int)))=.bool r:=by rw [← h]; rfl
def evBig (k:Nat) (s:ByteArray) (d:Nat) (r:Bool) (h:big k s=r):Ev Tryz.prog:=.eqv d (.bool (decide ((k:Int)<(s.size:Int)))) (.bool r) (big_lit h)
theorem small4_ok (k:Nat) (x y:R4) {b:Bool} (hb:smB k x y=b) (β:Env) (w:World) (hh:(Ob.box (x.L++y.L) 37).holds β w (β 0)) :
  Calls Tryz.prog 41 (([.one (.c (.b (.v (.int .i64 (k:Int))))),.one (.c (.b (.s 0 0 1 1)))]:List SV).map (SV.den β)).toArray w fun e w'=>e=.returned (.bool b)∧Below w.heap.size w w':=by
 unfold smB at hb
 cases h1:big k x.s with
 | true =>
  obtain rfl:b=false:=by rw [← hb,h1]; rfl
  exact bspec_ok [evBig k x.s 23 true h1] [] 800 Tryz.func41 hmA (fun β=>by kernel_rfl) (by kernel_rfl) (fun β=>rfl) β w hh
 | false=>cases h2:big k x.t with
 | true =>
  obtain rfl:b=false:=by rw [← hb,h1,h2]; rfl
  exact bspec_ok [evBig k x.s 23 false h1,evBig k x.t 31 true h2] [] 800 Tryz.func41 hmA (fun β=>by kernel_rfl) (by kernel_rfl) (fun β=>rfl) β w hh
 | false=>cases h3:big k y.s with
 | true =>
  obtain rfl:b=false:=by rw [← hb,h1,h2,h3]; rfl
  exact bspec_ok [evBig k x.s 23 false h1,evBig k x.t 31 false h2,evBig k y.s 40 true h3] [] 800 Tryz.func41 hmA (fun β=>by kernel_rfl) (by kernel_rfl) (fun β=>rfl) β w hh
 | false=>cases h4:big k y.t with
 | true =>
  obtain rfl:b=false:=by rw [← hb,h1,h2,h3,h4]; rfl
  exact bspec_ok [evBig k x.s 23 false h1,evBig k x.t 31 false h2,evBig k y.s 40 false h3,evBig k y.t 49 true h4] [] 800 Tryz.func41 hmA (fun β=>by kernel_rfl) (by kernel_rfl) (fun β=>rfl) β w hh
 | false =>
  obtain rfl:b=true:=by rw [← hb,h1,h2,h3,h4]; rfl
  exact bspec_ok [evBig k x.s 23 false h1,evBig k x.t 31 false h2,evBig k y.s 40 false h3,evBig k y.t 49 false h4] [] 800 Tryz.func41 hmA (fun β=>by kernel_rfl) (by kernel_rfl) (fun β=>rfl) β w hh
def sR4Small (k:Nat) (x y:R4) {b:Bool} (hb:smB k x y=b):BSpec Tryz.prog :=
 ⟨41,Tryz.call41,[.one (.c (.b (.v (.int .i64 (k:Int))))),.one (.c (.b (.s 0 0 1 1)))],x.L++y.L,37,.bool b,small4_ok k x y hb,by kernel_rfl,fun _=>rfl⟩
abbrev KP:Nat:=1000000
end Go.Proofs.YtmfedaakeeiolaaGreat
end
section
namespace Go.Proofs.YtmfedaakeeiolaaGreat.Y
open Go Go.RowKit
set_option maxRecDepth 100000
theorem num_some:(Tryz.prog.info? 168).isSome=true:=by kernel_rfl
noncomputable def appN:AppT Tryz.prog :=
 ⟨302,168,(Tryz.prog.info? 168).get num_some,.agg #[.pointer none,.pointer none],2,16,Tryz.underlying302,(Option.some_get num_some).symm,by kernel_rfl,by kernel_rfl,by kernel_rfl,rfl,by decide,by decide⟩
structure Gp where
 a:Fr
 b:Fr
def Gp.C (g:Gp):SV:=.one (.a (rL g.a.r++rL g.b.r))
def Gp.B (g:Gp):Bool:=g.a.a.B&&g.b.a.B
abbrev tB' (t:Bool):SV:=.one (.c (.b (.v (.bool t))))
abbrev nI' (k:Int):SC:=.c (.b (.v (.int .i64 k)))
abbrev gS (z:GQ):SV:=.one (.a (lsX (gC z)))
end Go.Proofs.YtmfedaakeeiolaaGreat.Y
end
section
namespace Go.Proofs.YtmfedaakeeiolaaGreat
open Go.Proofs.YtmfedaakeeiolaaGreat.Y
open Go Go.RowKit
set_option maxRecDepth 100000
abbrev svI (n:Int):SC:=.c (.b (.v (.int .i64 n)))
theorem sz_lit1 {n:Int} (h:n.natAbs<256):Fit (Rat.divInt n 1):=(Sz.small h).fit (by decide)
theorem fit_int {n m:Int} (h:n.natAbs<256) (k:m.natAbs<256):FitG (gint n m):=⟨sz_lit1 h,sz_lit1 k⟩
def geq (x y x' y':R4):Bool:=x.eq x'&&(y.eq y'&&true)
theorem geq_self (x y:R4):geq x y x y=true:=by
 unfold geq
 rw [R4.eq_iff.2 rfl,R4.eq_iff.2 rfl]; rfl
theorem fit_small {z:GQ} (h1:z.re.num.natAbs<256) (h2:z.re.den<256) (h3:z.im.num.natAbs<256) (h4:z.im.den<256):FitP (.fin z) :=
 ⟨Sz.fit (k:=1) ⟨sz_small h1,sz_small (n:=(z.re.den:Int)) (by simpa using h2)⟩ (by decide),Sz.fit (k:=1) ⟨sz_small h3,sz_small (n:=(z.im.den:Int)) (by simpa using h4)⟩ (by decide)⟩
end Go.Proofs.YtmfedaakeeiolaaGreat
end
section
namespace Go.Proofs.YtmfedaakeeiolaaGreat.Y
open Go Go.RowKit
set_option maxRecDepth 100000
theorem fit10:FitG (gint 1 0):=fit_int (by decide) (by decide)
theorem fit00:FitG (gint 0 0):=fit_int (by decide) (by decide)
def frX (x:Rat) (h:Fit x):Fr:=⟨fR x,.ok x h,rfl⟩
def gpX (z:GQ) (h:FitG z):Gp:=⟨frX z.re h.1,frX z.im h.2⟩
theorem rL_inj {x y:R4} (h:rL x=rL y):x=y:=by
 obtain ⟨b,s,c,t⟩:=x
 obtain ⟨b',s',c',t'⟩:=y
 simp only [rL,List.cons.injEq,Lf.b.injEq,Lf0.v.injEq,Value.bool.injEq,Value.string.injEq,and_true] at h
 obtain ⟨rfl,rfl,rfl,rfl⟩:=h
 rfl
inductive Gn where
 | ok (z:GQ) (h:FitG z)
 | no (g:Gp) (h:g.B=false)
def Gn.gp:Gn→Gp
 | .ok z h=>gpX z h
 | .no g _=>g
def Gn.x (g:Gn):R4:=g.gp.a.r
def Gn.y (g:Gn):R4:=g.gp.b.r
def Gn.B:Gn→Bool
 | .ok ..=>true
 | .no ..=>false
theorem Gn.gpB:∀ g:Gn,g.gp.B=g.B
 | .ok ..=>rfl
 | .no _ h=>h
def Gn.z:Gn→GQ
 | .ok z _=>z
 | .no ..=>g0
theorem fr_of (r:R4) (h:r.s.size≤maxLen∧r.t.size≤maxLen):∃ a:Fr,a.r=r:=by
 obtain ⟨a,ha⟩:=fp_of r h.1 h.2
 exact ⟨⟨r,a,by rw [← ha]; cases a<;>rfl⟩,rfl⟩
theorem gn_of (x y:R4) (hx:x.s.size≤maxLen∧x.t.size≤maxLen) (hy:y.s.size≤maxLen∧y.t.size≤maxLen):∃ g:Gn,g.x=x∧g.y=y:=by
 obtain ⟨a,rfl⟩:=fr_of x hx
 obtain ⟨b,rfl⟩:=fr_of y hy
 cases h:(Gp.mk a b).B with
 | false=>exact ⟨.no ⟨a,b⟩ h,rfl,rfl⟩
 | true =>
  have h':=Bool.and_eq_true_iff.1 h
  obtain ⟨ra,fa,ea⟩:=a
  obtain ⟨rb,fb,eb⟩:=b
  cases fa with
  | no=>cases h'.1
  | ok x hx2=>cases fb with
   | no=>cases h'.2
   | ok y hy2 =>
    refine ⟨.ok ⟨x,y⟩ ⟨hx2,hy2⟩,rL_inj ?_,rL_inj ?_⟩
    · exact ea
    · exact eb
inductive Cd where
 | v (x:Value)
 | r (x:Rat)
 | t (x:Rat)
def cd1 (g:Pl) (i:Nat):Cd→Value
 | .v x=>x
 | .r _=>.pointer (g.v i)
 | .t _=>.pointer (g.v i)
def cdV (g:Pl):Nat→List Cd→List Value
 | _,[]=>[]
 | i,c::l=>cd1 g i c::cdV g (i+1) l
def cdP (w:World) (g:Pl) (i:Nat):Cd→Prop
 | .v _=>True
 | .r x=>(g.v i=none∧x=0)∨∃ b,g.v i=some ⟨b,0,none⟩∧g.F b∧RatAt w b 0 x
 | .t x=>∃ b,g.v i=some ⟨b,0,none⟩∧g.F b∧RatAt w b 0 x
def cdOk (w:World) (g:Pl):Nat→List Cd→Prop
 | _,[]=>True
 | i,c::l=>cdP w g i c∧cdOk w g (i+1) l
theorem cdV_at {g:Pl}:∀ {l:List Cd} {i j:Nat} {c:Cd},l[j]?=some c→(cdV g i l)[j]?=some (cd1 g (i+j) c)
 | _::_,i,0,c,h=>by
  simp only [List.getElem?_cons_zero] at h
  obtain rfl:=Option.some.inj h
  rfl
 | _::l,i,j+1,c,h=>by
  have:=cdV_at (g:=g) (l:=l) (i:=i+1) (j:=j) (c:=c) (by simpa using h)
  rw [show i+(j+1)=i+1+j by omega]
  simpa [cdV] using this
theorem cdOk_at {w:World} {g:Pl}:∀ {l:List Cd} {i j:Nat} {c:Cd},cdOk w g i l→l[j]?=some c→cdP w g (i+j) c
 | _::_,i,0,c,h,hl=>by
  simp only [List.getElem?_cons_zero] at hl
  obtain rfl:=Option.some.inj hl
  exact h.1
 | _::l,i,j+1,c,h,hl=>by
  rw [show i+(j+1)=i+1+j by omega]
  exact cdOk_at (l:=l) h.2 (by simpa using hl)
theorem cdP_below {w w':World} {g:Pl} {i:Nat} (hb:Below w.heap.size w w'):∀ c:Cd,cdP w g i c→cdP w' g i c
 | .v _,_=>trivial
 | .r x,h=>h.imp id fun ⟨b,h1,h2,h3⟩=>⟨b,h1,h2,h3.on hb⟩
 | .t x,⟨b,h1,h2,h3⟩=>⟨b,h1,h2,h3.on hb⟩
theorem cdP_touch {w w':World} {g:Pl} {i b o n:Nat} (hs:NW w b) (ht:Touch w w' b o n) (hne:¬ g.F b):∀ c:Cd,cdP w g i c→cdP w' g i c
 | .v _,_=>trivial
 | .r x,h=>h.imp id fun ⟨d,h1,h2,h3⟩=>⟨d,h1,h2,RatAt.touchN h3 hs ht fun e=>hne (e▸h2)⟩
 | .t x,⟨d,h1,h2,h3⟩=>⟨d,h1,h2,RatAt.touchN h3 hs ht fun e=>hne (e▸h2)⟩
theorem cdOk_map {w w':World} {g:Pl} (h:∀ i c,cdP w g i c→cdP w' g i c):∀ {l:List Cd} {i:Nat},cdOk w g i l→cdOk w' g i l
 | [],_,_=>trivial
 | c::l,i,k=>⟨h i c k.1,cdOk_map h k.2⟩
def RW (e:TypeId) (cs:List Cd) (w:World) (g:Pl):Prop :=
 (g.F g.b∧∃ cur:Array Value,w.heap[g.b]?=some (.cells cur e (0,0))∧cur.toList.take cs.length=cdV g 0 cs)∧(cdOk w g 0 cs∧g.v cs.length=some ⟨g.b,0,none⟩)∧∀ c,g.F c→c<w.heap.size
theorem rw_stable (e:TypeId) (cs:List Cd):Stable (RW e cs) :=
 ⟨fun w g h=>h.2.2,
  fun w w' g ⟨⟨hf,cur,h1,h2⟩,⟨h3,h5⟩,h4⟩ hb=>⟨⟨hf,cur,by rw [hb.block g.b (heap_lt h1)]; exact h1,h2⟩,⟨cdOk_map (fun i c=>cdP_below hb c) h3,h5⟩,fun c hc=>Nat.lt_of_lt_of_le (h4 c hc) hb.size⟩,
  fun w w' g b o n m ⟨⟨hf,cur,h1,h2⟩,⟨h3,h5⟩,h4⟩ hs ht hne=>⟨⟨hf,cur,by rw [ht.block g.b (heap_lt h1) fun e=>hne (e▸hf)]; exact h1,h2⟩,⟨cdOk_map (fun i c=>cdP_touch hs ht hne c) h3,h5⟩,
   fun c hc=>Nat.lt_of_lt_of_le (h4 c hc) (ht.below (B:=0) (Nat.zero_le _) (Nat.zero_le _)).size⟩⟩
def rowT (e:TypeId) (cs:List Cd):Thing:=thing (RW e cs) (rw_stable e cs)
def cellPl (g:Pl) (i:Nat):Pl:=⟨(match g.v i with | some a=>a.block | none=>0),fun _=>g.v i,fun _=>0,fun c=>∃ a,g.v i=some a∧c=a.block,fun _=>undef⟩
theorem cellPl_or {w:World} {g:Pl} {i:Nat} {x:Rat} (h:cdP w g i (.r x)):OR0 x w (cellPl g i):=by
 rcases h with ⟨h1,h2⟩ | ⟨b,h1,h2,h3⟩
 · exact .inl ⟨h1,(fun c hc=>by obtain ⟨a,ha,_⟩:=hc; rw [h1] at ha; cases ha),h2⟩
 · exact .inr ⟨b,⟨h1,fun c=>⟨fun ⟨a,ha,hc⟩=>by rw [h1] at ha; cases ha; exact hc,fun hc=>⟨_,h1,hc⟩⟩⟩,h3⟩
theorem cellPl_F {w:World} {g:Pl} {i:Nat} {x:Rat} (h:cdP w g i (.r x)) {c:Nat} (hc:(cellPl g i).F c):g.F c:=by
 obtain ⟨a,ha,rfl⟩:=hc
 rcases h with ⟨h1,h2⟩ | ⟨b,h1,h2,h3⟩
 · rw [h1] at ha; cases ha
 · rw [h1] at ha; cases ha; exact h2
theorem rw_cell {e:TypeId} {cs:List Cd} {w:World} {g:Pl} (h:RW e cs w g) {j:Nat} {c:Cd} (hj:cs[j]?=some c):w.cell? ⟨g.b,j,none⟩=some (cd1 g j c):=by
 obtain ⟨⟨_,cur,h1,h2⟩,_⟩:=h
 have h3:=cdV_at (g:=g) (i:=0) hj
 rw [← h2,Nat.zero_add] at h3
 rw [List.getElem?_take] at h3
 split at h3
 · rw [Array.getElem?_toList] at h3
   exact cell_lay h1 h3
 · cases h3
theorem den_two (β:Env) (n:Nat) (p q:Pl):(SV.one (.a [.b (.z n 0),.b (.z (n+1) 0)])).den (extE β n [p,q])=.agg #[.pointer (p.v 0),.pointer (q.v 0)]:=by
 have h1:=extE_in (β:=β) (n:=n) (i:=0) (xs:=[p,q]) rfl
 have h2:=extE_in (β:=β) (n:=n) (i:=1) (xs:=[p,q]) rfl
 rw [Nat.add_zero] at h1
 simp [SV.den,SC.den,Lf.den,Lf0.den,h1,h2]
def rdNum (d t:Nat) (e:TypeId) (cs:List Cd) (o:Nat) (x y:Rat) (hx:cs[o]?=some (.r x)) (hy:cs[o+1]?=some (.r y)) (k n:Nat):Ev Tryz.prog :=
 .rd d (.load 168 (.tmp t)) (fun β=>[.pointer (some ⟨(β k).b,o,none⟩)]) [(k,(rowT e cs).ob)] n (.one (.a [.b (.z n 0),.b (.z (n+1) 0)])) [ratM x,ratM y] (fun β w h ρ op ho hx'=>by
  have h1:RW e cs w (β k):=h (k,(rowT e cs).ob) (by simp)
  have h2:ρ (.tmp t)=.pointer (some ⟨(β k).b,o,none⟩):=by simpa [Op.operands] using hx'
  have p1:=cdOk_at h1.2.1.1 hx
  have p2:=cdOk_at h1.2.1.1 hy
  rw [Nat.zero_add] at p1 p2
  refine ⟨[cellPl (β k) o,cellPl (β k) (o+1)],w,fun g hg c hc=>.inr ⟨(k,(rowT e cs).ob),by simp,rfl,?_⟩,?_,⟨cellPl_or p1,cellPl_or p2,trivial⟩,Below.refl _ _⟩
  · rcases List.mem_cons.1 hg with rfl | hg
    · exact cellPl_F p1 hc
    · obtain rfl:=List.mem_singleton.1 hg
      exact cellPl_F p2 hc
  · have hr:w.rangeAt (β k).b o [.pointer ((β k).v o),.pointer ((β k).v (o+1))]:=fun j v hv=>by
     match j,hv with
     | 0,hv=>simp only [List.getElem?_cons_zero] at hv; obtain rfl:=Option.some.inj hv; exact rw_cell h1 hx
     | 1,hv=>simp only [List.getElem?_cons_succ,List.getElem?_cons_zero] at hv; obtain rfl:=Option.some.inj hv; exact rw_cell h1 hy
     | j+2,hv=>simp at hv
    have hl:=run_loadAt_mid (P:=Tryz.prog) w (β k).b o 168 _ _ hr Tryz.underlying168 (by kernel_rfl) (by kernel_rfl)
    rw [den_two]
    unfold execOp
    rw [ho]
    simp only [h2]
    simp [hl,Result.andThen]
    exact ⟨rfl,rfl⟩)
def adOf:SV→Nat × Nat
 | .one (.c (.b (.p k o)))=>(k,o)
 | _=>(0,0)
def isAd:SV→Bool
 | .one (.c (.b (.p _ _)))=>true
 | _=>false
def dNum (e:TypeId) (cs:List Cd):Ev Tryz.prog:=.dyn (fun o xs ob=>match o.op with
 | .load T (.tmp _)=>Nat.beq T 168&&isAd (xs.getD 0 undefS)&&(match ob[(adOf (xs.getD 0 undefS)).1]? with | some (.th _)=>true | _=>false)
 | _=>false) fun o xs ob=>match o.op with
 | .load _ (.tmp t)=>lit (adOf (xs.getD 0 undefS)).1 fun k=>lit (adOf (xs.getD 0 undefS)).2 fun off=>lit ob.length fun n=>match hx:cs[off]?,hy:cs[off+1]? with
  | some (.r x),some (.r y)=>rdNum (o.dst.getD 0) t e cs off x y hx hy k n
  | _,_=>.eqv 0 undef undef rfl
 | _=>.eqv 0 undef undef rfl
def rdIdx (d t:Nat) (e:TypeId) (cs:List Cd) (ix:Operand) (n j:Nat) (hj:Nat.blt j n=true) (k:Nat):Ev Tryz.prog :=
 .rd d (.indexAddr 302 (.tmp t) ix) (fun β=>[.slice ((β k).v cs.length) n ((β k).c cs.length),.int .i64 (j:Int)]) [(k,(rowT e cs).ob)] 0 (.one (.c (.b (.p k (j*2))))) [] (fun β w h ρ op ho hx'=>by
  have h1:RW e cs w (β k):=h (k,(rowT e cs).ob) (by simp)
  have h2:ρ (.tmp t)=.slice (some ⟨(β k).b,0,none⟩) n ((β k).c cs.length)∧ρ ix=.int .i64 (j:Int):=by
   rw [h1.2.1.2] at hx'
   simpa [Op.operands] using hx'
  rw [Nat.blt_eq] at hj
  refine ⟨[],w,(fun _ h=>by cases h),?_,trivial,Below.refl _ _⟩
  rw [extE_nil]
  unfold execOp
  rw [ho]
  simp only [h2.1,h2.2]
  have hi:=run_indexAt_slice (P:=Tryz.prog) w 302 ⟨(β k).b,0,none⟩ n ((β k).c cs.length) .i64 (j:Int) (by kernel_rfl)
  have hsz:(sizeOf (Tryz.prog.elem 302)).run Tryz.prog w=.ok 2 w:=by kernel_rfl
  rw [if_pos ⟨by omega,by omega⟩,hsz,Result.andThen_ok,Int.toNat_natCast] at hi
  have ha:(⟨(β k).b,0,none⟩:Addr).add (j*2)=⟨(β k).b,j*2,none⟩:=by
   simp [Addr.add]
   exact fun h=>h.symm
  rw [ha] at hi
  simp only [Sem.run_bind,hi,Result.andThen_ok]
  rfl)
def yOf:SV→Nat × Nat
 | .one (.c (.b (.y k _ n)))=>(k,n)
 | _=>(0,0)
def isY:SV→Bool
 | .one (.c (.b (.y _ _ _)))=>true
 | _=>false
def intS:SV→Nat
 | .one (.c (.b (.v (.int _ i))))=>i.toNat
 | _=>0
def dIdx (e:TypeId) (cs:List Cd):Ev Tryz.prog:=.dyn (fun o xs ob=>match o.op with
 | .indexAddr _ (.tmp _) _=>isY (xs.getD 0 undefS)
 | _=>false) fun o xs ob=>match o.op with
 | .indexAddr _ (.tmp t) ix=>lit (yOf (xs.getD 0 undefS)).1 fun k=>lit (yOf (xs.getD 0 undefS)).2 fun n=>lit (intS (xs.getD 1 undefS)) fun j=>if h:Nat.blt j n=true then rdIdx (o.dst.getD 0) t e cs ix n j h k else .eqv 0 undef undef rfl
 | _=>.eqv 0 undef undef rfl
structure CSpec (P:Program) where
 f:FuncId
 en:Enters P f
 args:List SV
 cs:List Lf
 t:TypeId
 res:SV
 news:List Thing
 ok:∀ β w,(Ob.box cs t).holds β w (β 0)→Calls P f (args.map (SV.den β)).toArray w fun e w'=>∃ xs:List Pl,(∀ x∈xs,∀ c,x.F c→w.heap.size≤c)∧e=.returned (res.den (extE β 1 xs))∧newHold w' news xs∧Below w.heap.size w w'
 cl:(cs.all (Lf.of fun _=>false)&&args.all (SV.of fun k=>Nat.beq k 0)&&res.of fun k=>Nat.ble 1 k&&Nat.blt k (1+news.length))=true
def bkOfY:List SV→Nat
 | []=>0
 | .one (.c (.b (.s k _ _ _)))::_=>k
 | _::r=>bkOfY r
def CSpec.e {P:Program} (S:CSpec P):Ev P:=.dyn (fun o _ _=>isCallB o) fun _ xs ob=>lit (bkOfY xs) fun i=>lit ob.length fun n =>
 .call S.f S.en (fun β=>(S.args.map (SV.den fun _=>β i)).toArray) [(i,.box S.cs S.t)] n (S.res.ren fun k=>n+(k-1)) S.news (fun β w h=>by
  have hc:=S.cl
  simp only [Bool.and_eq_true] at hc
  have h1:(β i).one∧w.heap[(β i).b]?=some (.cells (S.cs.map (Lf.den β)).toArray S.t (0,0)):=h _ (List.mem_singleton.2 rfl)
  refine (S.ok (fun _=>β i) w ?_).mono fun e w' ⟨xs,k1,k2,k3,k4⟩=>⟨xs,fun x hx c hc=>.inl (k1 x hx c hc),?_,k3,k4⟩
  · show (β i).one∧w.heap[(β i).b]?=some (.cells (S.cs.map (Lf.den fun _=>β i)).toArray S.t (0,0))
    rw [show S.cs.map (Lf.den fun _=>β i)=S.cs.map (Lf.den β) from List.map_congr_left fun x hx=>Lf.den_congr (q:=fun _=>false) (fun k hk=>by cases hk) x (List.all_eq_true.1 hc.1.1 x hx)]
    exact h1
  · rw [k2,SV.den_ren]
    congr 1
    refine SV.den_congr (fun k hk=>?_) _ hc.2
    have hlen:=(newHold_get k3).1
    rw [Bool.and_eq_true,Nat.ble_eq,Nat.blt_eq] at hk
    have h5:k-1<xs.length:=by omega
    rw [extE_in (List.getElem?_eq_getElem h5)]
    have:=extE_in (β:=fun _=>β i) (n:=1) (List.getElem?_eq_getElem h5)
    rw [show 1+(k-1)=k by omega] at this
    exact this)
def Ob.ren (ρ:Nat→Nat):Ob→Ob
 | .box cs t=>.box (cs.map (Lf.ren ρ)) t
 | x=>x
def ptrB:Option Lf→Bool
 | some (.b (.z _ _))=>true
 | some (.b (.p _ _))=>true
 | some (.b (.v (.string _)))=>true
 | _=>false
def Ob.plainB:Ob→Bool
 | .box cs _=>Nat.blt cs.length 4||ptrB cs[1]?
 | .th _=>true
 | _=>false
theorem Ob.holds_ren {β:Env} {w:World} {g:Pl} {ρ:Nat→Nat}:∀ {o:Ob},o.plainB=true→(o.ren ρ).holds β w g→o.holds (fun k=>β (ρ k)) w g
 | .box cs t,_,h=>⟨h.1,by
  rw [h.2,List.map_map]
  rw [show (Lf.den β ∘ Lf.ren ρ)=Lf.den (fun k=>β (ρ k)) from funext fun x=>Lf.den_ren β ρ x]⟩
 | .th _,_,h=>h
theorem Ob.holds_cg {q:Nat→Bool} {β β':Env} {w:World} {g:Pl} (hq:∀ k,q k=true→β k=β' k):∀ {o:Ob},o.plainB=true→o.of q=true→o.holds β w g→o.holds β' w g
 | .box cs t,_,h,k=>⟨k.1,by rw [k.2,all_congr h (Lf.den_congr hq)]⟩
 | .th _,_,_,k=>k
structure OSpec (P:Program) where
 f:FuncId
 en:Enters P f
 args:List SV
 obs:List Ob
 res:SV
 news:List Rat
 ok:∀ β w,(∀ (k:Nat) (o:Ob),obs[k]?=some o→o.holds β w (β k))→Calls P f (args.map (SV.den β)).toArray w fun e w'=>∃ xs:List Pl,(∀ x∈xs,∀ c,x.F c→w.heap.size≤c∨∃ i o,obs[i]?=some o∧o.isTh=true∧(β i).F c)∧e=.returned (res.den (extE β obs.length xs))∧newHold w' (news.map ratT) xs∧Below w.heap.size w w'
 closed:(args.all (SV.of fun k=>Nat.blt k obs.length)&&obs.all (fun x=>x.of (fun k=>Nat.blt k obs.length)&&x.plainB)&&res.of fun k=>Nat.blt k (obs.length+news.length))=true
def mtBox (o c:Ob):List (Nat × Nat):=match o,c with
 | .box xs _,.box ys _=>mtLs xs ys
 | _,_=>[]
def mtObs (obs ob:List Ob):List (Nat × Nat)→List (Nat × Nat)
 | []=>[]
 | (k,j)::r=>(match obs[k]?,ob[j]? with | some o,some c=>mtBox o c | _,_=>[])++mtObs obs ob r
def sigO {P:Program} (S:OSpec P) (xs:List SV) (ob:List Ob):List Nat:=sigL (mtVs S.args xs++mtObs S.obs ob (mtVs S.args xs)) 0 S.obs.length
def needsO (σ:List Nat) (ρ:Nat→Nat):List Ob→Nat→List (Nat × Ob)
 | [],_=>[]
 | o::r,k=>(lit (σ.getD k 0) fun j=>j,o.ren ρ)::needsO σ ρ r (k+1)
theorem needsO_at {σ:List Nat} {ρ:Nat→Nat}:∀ {l:List Ob} {i k:Nat} {o:Ob},l[k]?=some o→(σ.getD (i+k) 0,o.ren ρ)∈needsO σ ρ l i
 | x::r,i,0,o,h=>by
  simp only [List.getElem?_cons_zero] at h
  obtain rfl:=Option.some.inj h
  unfold needsO
  rw [lit_eq]
  exact List.mem_cons_self ..
 | x::r,i,k+1,o,h=>by
  have:=needsO_at (σ:=σ) (ρ:=ρ) (l:=r) (i:=i+1) (k:=k) (o:=o) (by simpa using h)
  rw [show i+(k+1)=i+1+k by omega]
  exact List.mem_cons_of_mem _ this
def OSpec.ev {P:Program} (S:OSpec P) (σ:List Nat) (n:Nat) (hσ:(Nat.ble S.obs.length σ.length&&σ.all fun k=>Nat.blt k n)=true):Ev P :=
 .call S.f S.en (fun β=>(S.args.map (SV.den fun k=>β (atS σ S.obs.length n k))).toArray) (needsO σ (atS σ S.obs.length n) S.obs 0) n (S.res.ren (atS σ S.obs.length n)) (S.news.map ratT) fun β w h=>by
  have hc:=S.closed
  simp only [Bool.and_eq_true] at hc
  have hat:∀ k,k<S.obs.length→atS σ S.obs.length n k=σ.getD k 0:=fun k hk=>by
   unfold atS
   rw [lit_eq,show Nat.blt k S.obs.length=true by rw [Nat.blt_eq]; exact hk,cond_true]
  have hat2:∀ k,¬ k<S.obs.length→atS σ S.obs.length n k=n+(k-S.obs.length):=fun k hk=>by
   unfold atS
   rw [lit_eq,show Nat.blt k S.obs.length=false by rw [Bool.eq_false_iff,ne_eq,Nat.blt_eq]; exact hk,cond_false]
  rw [Bool.and_eq_true,Nat.ble_eq] at hσ
  have hsn:∀ k,k<S.obs.length→σ.getD k 0<n:=fun k hk=>by
   rw [List.getD_eq_getElem?_getD]
   cases hx:σ[k]? with
   | none=>rw [List.getElem?_eq_none_iff] at hx; omega
   | some y=>have:=List.all_eq_true.1 hσ.2 y (List.mem_of_getElem? hx); rw [Nat.blt_eq] at this; exact this
  have hq:∀ k,Nat.blt k S.obs.length=true→β (atS σ S.obs.length n k)=β (σ.getD k 0):=fun k hk=>by rw [hat k (by simpa [Nat.blt_eq] using hk)]
  have hargs:S.args.map (SV.den fun k=>β (atS σ S.obs.length n k))=S.args.map (SV.den fun k=>β (σ.getD k 0)):=List.map_congr_left fun x hx=>SV.den_congr hq _ (List.all_eq_true.1 hc.1.1 x hx)
  rw [hargs]
  refine (S.ok (fun k=>β (σ.getD k 0)) w fun k o hk=>?_).mono ?_
  · have ho:=List.all_eq_true.1 hc.1.2 o (List.mem_of_getElem? hk)
    rw [Bool.and_eq_true] at ho
    have hlt:k<S.obs.length:=(List.getElem?_eq_some_iff.1 hk).1
    have h1:(o.ren (atS σ S.obs.length n)).holds β w (β (σ.getD k 0)):=by
     have:=h _ (needsO_at (i:=0) hk)
     rwa [Nat.zero_add] at this
    exact Ob.holds_cg hq ho.2 ho.1 (Ob.holds_ren ho.2 h1)
  · rintro e w' ⟨xs,h1,rfl,h3,h4⟩
    refine ⟨xs,fun x hx c hc2=>?_,?_,h3,h4⟩
    · rcases h1 x hx c hc2 with h5 | ⟨i,o,h5,h6,h7⟩
      · exact .inl h5
      · refine .inr ⟨_,needsO_at (i:=0) h5,?_,?_⟩
        · cases o<;>first | exact h6 | cases h6
        · rw [Nat.zero_add]; exact h7
    · rw [SV.den_ren]
      congr 1
      refine SV.den_congr (fun k hk=>?_) _ hc.2
      have hlen:=(newHold_get h3).1
      rw [List.length_map] at hlen
      rw [Nat.blt_eq] at hk
      by_cases hk2:k<S.obs.length
      · rw [hat k hk2,extE_out (β:=β) (n:=n) (k:=σ.getD k 0) (xs:=xs) (by have:=hsn k hk2; omega),extE_out (n:=S.obs.length) (k:=k) (xs:=xs) (by omega)]
      · rw [hat2 k hk2]
        have h5:k-S.obs.length<xs.length:=by omega
        rw [extE_in (List.getElem?_eq_getElem h5)]
        have:=extE_in (β:=fun k=>β (σ.getD k 0)) (n:=S.obs.length) (List.getElem?_eq_getElem h5)
        rw [show S.obs.length+(k-S.obs.length)=k by omega] at this
        exact this
def OSpec.e {P:Program} (S:OSpec P):Ev P:=.dyn (fun o _ _=>isCallB o) fun _ xs ob =>
 lits (sigO S xs ob) fun σ=>lit ob.length fun n=>if h:(Nat.ble S.obs.length σ.length&&σ.all fun k=>Nat.blt k n)=true then S.ev σ n h else .eqv 0 undef undef rfl
theorem ptr_no_rat {w:World} {b:Nat} {cs:Array Value} {t:TypeId} {x:Rat} {q:Option Addr} (h:w.heap[b]?=some (.cells cs t (0,0))) (hq:cs[1]?=some (.pointer q)) (k:RatAt w b 0 x):False:=by
 obtain ⟨A,m,cap,_,h1,_⟩:=k.2.1.open_
 have h2:=cell_lay (o:=1) h hq
 rw [Nat.zero_add,h2] at h1
 cases h1
theorem str1_no_rat {w:World} {b:Nat} {cs:Array Value} {t:TypeId} {x:Rat} {q:ByteArray} (h:w.heap[b]?=some (.cells cs t (0,0))) (hq:cs[1]?=some (.string q)) (k:RatAt w b 0 x):False:=by
 obtain ⟨A,m,cap,_,h1,_⟩:=k.2.1.open_
 have h2:=cell_lay (o:=1) h hq
 rw [Nat.zero_add,h2] at h1
 cases h1
theorem small_no_rat {w:World} {b:Nat} {cs:Array Value} {t:TypeId} {x:Rat} (h:w.heap[b]?=some (.cells cs t (0,0))) (hs:cs.size<4) (k:RatAt w b 0 x):False:=by
 obtain ⟨cs',t',h1,_,h2⟩:=k.1
 rw [h] at h1
 obtain ⟨rfl,_,_⟩:=Obj.cells.inj (Option.some.inj h1)
 omega
def idxO (P:Program) (fn:Func) (args:List SV) (obs:List Ob) (evs:List (Ev P)) (Ns:List (Nat × Nat)) (m:Nat) (res:SV):List (Nat × Nat) :=
 match fn.body with
 | some c=>match fullS P fn args obs evs Ns m c with
  | some f=>match run1 P obs.length false (results fn (tmpsS idE f.sl (sizeS fn args))) f.q f.ob [] with
   | some ⟨v,_,_,_⟩=>mtR res (tag v)
   | none=>[]
  | none=>[]
 | none=>[]
def specO (P:Program) (fn:Func) (args:List SV) (obs:List Ob) (evs:List (Ev P)) (Ns:List (Nat × Nat)) (m:Nat) (res:SV) (news:List Rat) (idx:List Nat) (β:Env):Eqs :=
 allS P fn args obs evs Ns m (res.ren (backS obs.length idx)) (idx.zip (news.map fun x=>(ratT x).ob)) β
def specOA (P:Program) (fn:Func) (args:List SV) (obs:List Ob) (evs:List (Ev P)) (Ns:List (Nat × Nat)) (m:Nat) (res:SV) (news:List Rat) (β:Env):Eqs :=
 lits (sigL (idxO P fn args obs evs Ns m res) obs.length news.length) fun idx=>specO P fn args obs evs Ns m res news idx β
theorem newHold_rats {β:Env} {w:World}:∀ {idx:List Nat} {l:List Rat},idx.length=l.length→holdsAll β w (idx.zip (l.map fun x=>(ratT x).ob))→newHold w (l.map ratT) (idx.map β)
 | [],[],_,_=>trivial
 | [],_::_,h,_=>by simp at h
 | _::_,[],h,_=>by simp at h
 | i::r,t::l,h,k=>⟨k (i,(ratT t).ob) (by simp),newHold_rats (by simpa using h) fun p hp=>k p (by simp only [List.map_cons,List.zip_cons_cons]; exact List.mem_cons_of_mem _ hp)⟩
theorem ospec_ok {P:Program} {f:FuncId} {fn:Func} {args:List SV} {obs:List Ob} {evs:List (Ev P)} {Ns:List (Nat × Nat)} {m:Nat} {res:SV} {news:List Rat} (hf:P.funcs[f]?=some fn) (hm:P.follows .mixedOrders=true)
  (h0:∀ β,(specOA P fn args obs evs Ns m res news β).map Prod.fst=(specOA P fn args obs evs Ns m res news β).map Prod.snd)
  (hB:(args.all (SV.of fun k=>Nat.blt k obs.length)&&obs.all (fun x=>x.of (fun k=>Nat.blt k obs.length)&&x.plainB)&&res.of fun k=>Nat.blt k (obs.length+news.length))=true)
  (β:Env) (w:World) (hh:∀ (k:Nat) (o:Ob),obs[k]?=some o→o.holds β w (β k)) :
  Calls P f (args.map (SV.den β)).toArray w fun e w'=>∃ xs:List Pl,(∀ x∈xs,∀ c,x.F c→w.heap.size≤c∨∃ i o,obs[i]?=some o∧o.isTh=true∧(β i).F c)∧e=.returned (res.den (extE β obs.length xs))∧newHold w' (news.map ratT) xs∧Below w.heap.size w w':=by
 obtain ⟨idx,hidx⟩:∃ idx,idx=sigL (idxO P fn args obs evs Ns m res) obs.length news.length:=⟨_,rfl⟩
 have hlen:idx.length=news.length:=by rw [hidx,sigL_len]
 have h:∀ β,(specO P fn args obs evs Ns m res news idx β).map Prod.fst=(specO P fn args obs evs Ns m res news idx β).map Prod.snd:=fun β=>by
  have:=h0 β
  unfold specOA at this
  rw [lits_eq,← hidx] at this
  exact this
 simp only [Bool.and_eq_true] at hB
 obtain ⟨⟨h1,h2⟩,h3⟩:=hB
 refine (sx (P:=P) args obs evs Ns m (res.ren (backS obs.length idx)) (idx.zip (news.map fun x=>(ratT x).ob)) hf hm (fun β=>ok_of_maps (h β)) h1
  (List.all_eq_true.2 fun x hx=>by
   have:=List.all_eq_true.1 h2 x hx
   rw [Bool.and_eq_true] at this ⊢
   refine ⟨this.1,?_⟩
   have h4:=this.2
   cases x<;>first | rfl | cases h4) β w hh).mono ?_
 rintro e w' ⟨β',q,obj,e1,rfl,e2,e4,e5,g⟩
 have hz:(idx.zip (news.map fun x=>(ratT x).ob)).map (fun p=>β' p.1)=idx.map β':=by
  rw [show (fun p:Nat × Ob=>β' p.1)=β' ∘ Prod.fst from rfl,← List.map_map,List.map_fst_zip (by rw [List.length_map]; omega)]
 refine ⟨idx.map β',fun x hx c hcF=>?_,?_,newHold_rats hlen e5,g.bel⟩
 · rw [← hz] at hx
   obtain ⟨p,hp,rfl⟩:=List.mem_map.1 hx
   rcases e4 p hp c hcF with h5 | ⟨i,h5,h6⟩
   · exact .inl h5
   · have ho:=List.getElem?_eq_getElem h5
     have hpl:=List.all_eq_true.1 h2 obs[i] (List.getElem_mem h5)
     rw [Bool.and_eq_true] at hpl
     have hho:=hh i _ ho
     generalize obs[i]=o at ho hpl hho
     cases o with
     | th D=>exact .inr ⟨i,_,ho,rfl,h6⟩
     | box cs t =>
      exfalso
      obtain ⟨hone,hheap⟩:=hho
      have hcb:=(hone.1 c).1 h6
      subst hcb
      obtain ⟨r,hr⟩:∃ r,p.2=(ratT r).ob:=by
       have:=(List.of_mem_zip hp).2
       obtain ⟨r,_,hr⟩:=List.mem_map.1 this
       exact ⟨r,hr.symm⟩
      have hD:=e5 p hp
      rw [hr] at hD
      obtain ⟨b,hb1,hb2⟩:PR r w' (β' p.1):=hD
      have hcb:=(hb1.2 _).1 hcF
      subst hcb
      have hw:w'.heap[(β i).b]?=some (.cells (cs.map (Lf.den β)).toArray t (0,0)):=by rw [g.bel.block _ (heap_lt hheap)]; exact hheap
      have:=hpl.2
      unfold Ob.plainB at this
      rw [Bool.or_eq_true,Nat.blt_eq] at this
      rcases this with this | this
      · exact small_no_rat hw (by simpa using this) hb2
      · have hq:(∃ q,(cs.map (Lf.den β))[1]?=some (.pointer q))∨∃ q,(cs.map (Lf.den β))[1]?=some (.string q):=by
         rw [List.getElem?_map]
         unfold ptrB at this
         split at this
         · rename_i k j e; rw [e]; exact .inl ⟨_,rfl⟩
         · rename_i k j e; rw [e]; exact .inl ⟨_,rfl⟩
         · rename_i k e; rw [e]; exact .inr ⟨_,rfl⟩
         · cases this
        rcases hq with ⟨q,hq⟩ | ⟨q,hq⟩
        · exact ptr_no_rat hw (by simpa using hq) hb2
        · exact str1_no_rat hw (by simpa using hq) hb2
     | al r D=>cases hpl.2
     | pl n=>cases hpl.2
     | row cs t n sz=>cases hpl.2
     | ow D t=>cases hpl.2
     | dead=>cases hpl.2
 · rw [SV.den_ren]
   congr 1
   refine SV.den_congr (fun k hk=>?_) _ h3
   rw [Nat.blt_eq] at hk
   unfold backS
   rw [lit_eq]
   by_cases hk2:k<obs.length
   · rw [show Nat.blt k obs.length=true by rw [Nat.blt_eq]; exact hk2,cond_true,extE_out (by omega)]
     exact e1 k hk2
   · rw [show Nat.blt k obs.length=false by rw [Bool.eq_false_iff,ne_eq,Nat.blt_eq]; exact hk2,cond_false]
     have h5:k-obs.length<idx.length:=by omega
     have:=extE_in (β:=β) (n:=obs.length) (xs:=idx.map β') (i:=k-obs.length) (x:=β' idx[k-obs.length]) (by simp [h5])
     rw [show obs.length+(k-obs.length)=k by omega] at this
     rw [this,List.getD_eq_getElem?_getD,List.getElem?_eq_getElem h5,Option.getD_some]
def OSpec.auto {P:Program} {f:FuncId} {fn:Func} (en:Enters P f) (args:List SV) (obs:List Ob) (res:SV) (news:List Rat) (evs:List (Ev P)) (Ns:List (Nat × Nat)) (m:Nat) (hf:P.funcs[f]?=some fn) (hm:P.follows .mixedOrders=true)
  (hB:(args.all (SV.of fun k=>Nat.blt k obs.length)&&obs.all (fun x=>x.of (fun k=>Nat.blt k obs.length)&&x.plainB)&&res.of fun k=>Nat.blt k (obs.length+news.length))=true)
  (h:∀ β,(specOA P fn args obs evs Ns m res news β).map Prod.fst=(specOA P fn args obs evs Ns m res news β).map Prod.snd):OSpec P :=
 ⟨f,en,args,obs,res,news,ospec_ok hf hm h hB,hB⟩
theorem text_no_rat {w:World} {b:Nat} {c0:Value} {s:ByteArray} {l:List Value} {t:TypeId} {x:Rat} (h:w.heap[b]?=some (.cells (c0::.string s::l).toArray t (0,0))) (k:RatAt w b 0 x):False:=by
 obtain ⟨A,m,cap,_,h1,_⟩:=k.2.1.open_
 have h2:=cell_lay (o:=1) h rfl
 rw [Nat.zero_add,h2] at h1
 cases h1
abbrev opA:List SV:=[.one (.c (.b (.s 0 0 2 2)))]
def op2L (a b:Gn):List Lf:=rL a.x++rL a.y++rL b.x++rL b.y
def numR (z w:GQ):List Cd:=[.r z.re,.r z.im,.r w.re,.r w.im]
def five (z w:GQ):List (Nat × Ob):=[(13,.row [.b (.z 3 0),.b (.z 4 0),.b (.z 9 0),.b (.z 10 0)] 168 2 2),(3,(ratT z.re).ob),(4,(ratT z.im).ob),(9,(ratT w.re).ob),(10,(ratT w.im).ob)]
noncomputable def opE {z w:GQ} (hz:FitG z) (hw:FitG w):List (Ev Tryz.prog):=[.app appN,ofE hz,.app appN,ofE hw,.app appN]
theorem open2_eqs {z w:GQ} (hz:FitG z) (hw:FitG w) (β:Env) :
  (allS Tryz.prog Tryz.f290 opA [.box (op2L (.ok z hz) (.ok w hw)) 37] (opE hz hw) [] 800 (.tup [.c (.b (.r 13 2)),.c (.b (.v (.int .i64 0)))]) (five z w) β).map Prod.fst =
  (allS Tryz.prog Tryz.f290 opA [.box (op2L (.ok z hz) (.ok w hw)) 37] (opE hz hw) [] 800 (.tup [.c (.b (.r 13 2)),.c (.b (.v (.int .i64 0)))]) (five z w) β).map Prod.snd:=by kernel_rfl
theorem opened_ok {z w':GQ} (hz:FitG z) (hw:FitG w') (β:Env) (w:World) (hh:(Ob.box (op2L (.ok z hz) (.ok w' hw)) 37).holds β w (β 0)) :
  Calls Tryz.prog 290 (opA.map (SV.den β)).toArray w fun e u=>∃ xs:List Pl,(∀ x∈xs,∀ c,x.F c→w.heap.size≤c)∧e=.returned ((SV.tup [.c (.b (.y 1 4 2)),.c (.b (.v (.int .i64 0)))]).den (extE β 1 xs))∧newHold u [rowT 168 (numR z w')] xs∧Below w.heap.size w u:=by
 refine (sx (P:=Tryz.prog) opA [.box (op2L (.ok z hz) (.ok w' hw)) 37] (opE hz hw) [] 800 (.tup [.c (.b (.r 13 2)),.c (.b (.v (.int .i64 0)))]) (five z w') Tryz.func290 hmA (fun β=>ok_of_maps (open2_eqs hz hw β)) (by kernel_rfl) (by kernel_rfl) β w (fun k o ho=>?_)).mono ?_
 · cases k with
   | zero=>simp only [List.getElem?_cons_zero] at ho; obtain rfl:=Option.some.inj ho; exact hh
   | succ k=>simp at ho
 · rintro e u ⟨β',q,obj,e1,rfl,e2,e4,e5,g⟩
   have hnew:∀ p∈five z w',∀ c,(β' p.1).F c→c≠(β 0).b→w.heap.size≤c:=fun p hp c hc hne=>by
    rcases e4 p hp c hc with h | ⟨i,hi,h⟩
    · exact h
    · obtain rfl:i=0:=by simp only [List.length_singleton] at hi; omega
      exact absurd ((hh.1.1 c).1 h) hne
   have hu:u.heap[(β 0).b]?=some (.cells ((op2L (.ok z hz) (.ok w' hw)).map (Lf.den β)).toArray 37 (0,0)):=by rw [g.bel.block _ (heap_lt hh.2)]; exact hh.2
   have hrat:∀ (k:Nat) (x:Rat),(k,(ratT x).ob)∈five z w'→∃ b,(β' k).v 0=some ⟨b,0,none⟩∧w.heap.size≤b∧RatAt u b 0 x:=fun k x hk=>by
    obtain ⟨b,hb,hx⟩:PR x u (β' k):=e5 _ hk
    refine ⟨b,hb.1,hnew _ hk b ((hb.2 b).2 rfl) fun e=>?_,hx⟩
    rw [e] at hx
    exact text_no_rat hu hx
   obtain ⟨b1,p1,n1,k1⟩:=hrat 3 z.re (by simp [five])
   obtain ⟨b2,p2,n2,k2⟩:=hrat 4 z.im (by simp [five])
   obtain ⟨b3,p3,n3,k3⟩:=hrat 9 w'.re (by simp [five])
   obtain ⟨b4,p4,n4,k4⟩:=hrat 10 w'.im (by simp [five])
   obtain ⟨hone,cur,hcur,hcl,hn,hcm,hsz,htake⟩:=e5 (13,.row [.b (.z 3 0),.b (.z 4 0),.b (.z 9 0),.b (.z 10 0)] 168 2 2) (by simp [five])
   have hr:w.heap.size≤(β' 13).b:=hnew _ (by simp [five]) _ ((hone.1 _).2 rfl) fun e=>by
    rw [e,hu] at hcur
    have:=(Obj.cells.inj (Option.some.inj hcur)).2.1
    exact absurd this (by decide)
   refine ⟨[⟨(β' 13).b,fun i=>match i with | 0=>some ⟨b1,0,none⟩ | 1=>some ⟨b2,0,none⟩ | 2=>some ⟨b3,0,none⟩ | 3=>some ⟨b4,0,none⟩ | _=>some ⟨(β' 13).b,0,none⟩,fun _=>(β' 13).c 0,fun c=>c=(β' 13).b∨c=b1∨c=b2∨c=b3∨c=b4,fun _=>undef⟩],fun x hx c hc=>?_,?_,⟨⟨⟨.inl rfl,cur,hcur,?_⟩,⟨⟨.inr ⟨b1,rfl,.inr (.inl rfl),k1⟩,.inr ⟨b2,rfl,.inr (.inr (.inl rfl)),k2⟩,.inr ⟨b3,rfl,.inr (.inr (.inr (.inl rfl))),k3⟩,.inr ⟨b4,rfl,.inr (.inr (.inr (.inr rfl))),k4⟩,trivial⟩,rfl⟩,fun c hc=>?_⟩,trivial⟩,g.bel⟩
   · obtain rfl:=List.mem_singleton.1 hx
     rcases hc with rfl | rfl | rfl | rfl | rfl<;>assumption
   · rfl
   · have:(numR z w').length=2*2:=rfl
     rw [this,htake]
     show [Value.pointer _,.pointer _,.pointer _,.pointer _]=[Value.pointer _,.pointer _,.pointer _,.pointer _]
     show [Value.pointer ((β' 3).v 0),.pointer ((β' 4).v 0),.pointer ((β' 9).v 0),.pointer ((β' 10).v 0)]=_
     rw [p1,p2,p3,p4]
     rfl
   · rcases hc with rfl | rfl | rfl | rfl | rfl
     · exact heap_lt hcur
     · exact k1.lt
     · exact k2.lt
     · exact k3.lt
     · exact k4.lt
noncomputable def sOpened {z w:GQ} (hz:FitG z) (hw:FitG w):CSpec Tryz.prog :=
 ⟨290,Tryz.call290,opA,op2L (.ok z hz) (.ok w hw),37,.tup [.c (.b (.y 1 4 2)),.c (.b (.v (.int .i64 0)))],[rowT 168 (numR z w)],opened_ok hz hw,by kernel_rfl⟩
noncomputable def opNoE (a b:Gn):List (Ev Tryz.prog):=.app appN::(sOfW a.gp.a a.gp.b a.gpB).e::(bif a.B then [.app appN,(sOfW b.gp.a b.gp.b b.gpB).e] else [])
theorem openedNo_ok (a b:Gn) (h:(a.B&&b.B)=false) (β:Env) (w:World) (hh:(Ob.box (op2L a b) 37).holds β w (β 0)) :
  Calls Tryz.prog 290 (opA.map (SV.den β)).toArray w fun e w'=>e=.returned (.tuple #[.slice none 0 0,.int .i64 2])∧Below w.heap.size w w':=by
 cases a with
 | no g n=>exact bspec_ok (opNoE (.no g n) b) [] 800 Tryz.func290 hmA (fun β=>by kernel_rfl) (by kernel_rfl) (fun β=>rfl) β w hh
 | ok z hz=>cases b with
  | no g n=>exact bspec_ok (opNoE (.ok z hz) (.no g n)) [] 800 Tryz.func290 hmA (fun β=>by kernel_rfl) (by kernel_rfl) (fun β=>rfl) β w hh
  | ok y hy=>cases h
noncomputable def sOpenedNo (a b:Gn) (h:(a.B&&b.B)=false):BSpec Tryz.prog :=
 ⟨290,Tryz.call290,opA,op2L a b,37,.tuple #[.slice none 0 0,.int .i64 2],openedNo_ok a b h,by kernel_rfl,fun _=>rfl⟩
abbrev FT2:TypeId:=223
abbrev FT1:TypeId:=202
def FN (v:Value) (T:TypeId) (w:World) (g:Pl):Prop:=∃ b,At1 g b∧w.heap[b]?=some (.cells #[v] T (0,0))
theorem fn_stable (v:Value) (T:TypeId):Stable (FN v T) :=
 ⟨fun w g ⟨b,h,k⟩ c hc=>by rw [(h.2 c).1 hc]; exact heap_lt k,fun w w' g ⟨b,h,k⟩ hb=>⟨b,h,by rw [hb.block b (heap_lt k)]; exact k⟩,
  fun w w' g b o n m ⟨d,h,k⟩ hs ht hne=>⟨d,h,by rw [ht.block d (heap_lt k) fun e=>hne ((h.2 b).2 e.symm)]; exact k⟩⟩
def funT (v:Value) (T:TypeId):Thing:=thing (FN v T) (fn_stable v T)
abbrev fnV (g:FuncId):Value:=.func (.func g) #[] #[]
abbrev fnL (g:FuncId):Lf:=.f (.func g) [] []
def rdFun (d t:Nat) (g:FuncId) (k:Nat):Ev Tryz.prog:=.rd d (.load FT2 (.tmp t)) (fun β=>[.pointer ((β k).v 0)]) [(k,(funT (fnV g) FT2).ob)] 0 (.one (.c (fnL g))) [] (fun β w h ρ o ho hx=>by
 obtain ⟨b,hb,hk⟩:FN (fnV g) FT2 w (β k):=h (k,(funT (fnV g) FT2).ob) (by simp)
 have h2:ρ (.tmp t)=.pointer (some ⟨b,0,none⟩):=by
  rw [hb.1] at hx
  simpa [Op.operands] using hx
 have hc:=cell_lay (o:=0) (u:=fnV g) hk rfl
 have hagg:(isAgg FT2).run Tryz.prog w=.ok false w:=by
  unfold isAgg
  simp [run_underlying Tryz.underlying223]
 have hl:(loadVar FT2 ⟨b,0,none⟩).run Tryz.prog w=.ok (fnV g) w:=by
  unfold loadVar
  simp [hagg,hc]
 refine ⟨[],w,(fun _ h=>by cases h),?_,trivial,Below.refl _ _⟩
 unfold execOp
 rw [ho]
 simp only [h2]
 simp [Instr.loadAt,Instr.sureAddr,hl,Result.andThen]
 rfl)
def dFun (g:FuncId):Ev Tryz.prog:=.dyn (fun o xs ob=>match o.op with
 | .load T (.tmp _)=>Nat.beq T FT2
 | _=>false) fun o xs _=>match o.op with
 | .load _ (.tmp t)=>lit (ptOf (xs.getD 0 undefS)) fun k=>rdFun (o.dst.getD 0) t g k
 | _=>.eqv 0 undef undef rfl
abbrev sureL:Lf:=.f (.func 340) [] [.z 0 0]
abbrev madeL:Lf:=.f (.func 277) [] [.p 0 0]
theorem sure_ok (g:FuncId) (β:Env) (w:World):Calls Tryz.prog 274 (([.one (.c (fnL g))]:List SV).map (SV.den β)).toArray w fun e u=>∃ xs:List Pl,freshS β w 0 xs∧e=.returned ((SV.one (.c sureL)).den (extE β 0 xs))∧newHold u [funT (fnV g) FT2] xs∧Below w.heap.size w u:=by
 refine (sx (P:=Tryz.prog) [.one (.c (fnL g))] [] [] [] 400 (.one (.c (.f (.func 340) [] [.p 0 0]))) [(0,.box [fnL g] FT2)] Tryz.func274 hmA (fun β=>ok_of_maps (by kernel_rfl)) (by kernel_rfl) (by kernel_rfl) β w (fun k o ho=>by simp at ho)).mono ?_
 rintro e u ⟨β',q,obj,e1,rfl,e2,e4,e5,gd⟩
 obtain ⟨hone,hheap⟩:=e5 (0,.box [fnL g] FT2) (by simp)
 refine ⟨[newPl (β' 0).b],fun x hx c hc=>?_,rfl,⟨⟨_,(newPl_one _).at1,hheap⟩,trivial⟩,gd.bel⟩
 obtain rfl:=List.mem_singleton.1 hx
 rw [((newPl_one _).1 c).1 hc]
 exact e4 (0,.box [fnL g] FT2) (by simp) _ ((hone.1 _).2 rfl)
def sSure (g:FuncId):Spec Tryz.prog :=
 ⟨274,Tryz.call274,[.one (.c (fnL g))],[],.one (.c sureL),[funT (fnV g) FT2],fun β w _=>sure_ok g β w,by kernel_rfl⟩
noncomputable abbrev gA2 (z:GQ):SV:=.tup [.a (lsX (gaC z)),nI' (gaK z)]
abbrev ga0 (k:Int):SV:=.tup [.a (lsX g0C),nI' k]
abbrev gnS (a:Gn):SV:=.one (.a (rL a.x++rL a.y))
theorem _root_.Go.Proofs.YtmfedaakeeiolaaGreat.FitG.gsz {z:GQ} (h:FitG z):GSz 1024 z:=⟨h.1.sz,h.2.sz⟩
noncomputable def sTwoNoM (g:FuncId) (a b:Gn) (h:(a.B&&b.B)=false):OSpec Tryz.prog :=
 OSpec.auto Tryz.call273 [gnS a,gnS b,.one (.c madeL)] [.box [fnL g] FT1] (ga0 2) [] [(sOpenedNo a b h).e] [(4,13012013)] 800 Tryz.func273 hmA (by kernel_rfl) (fun β=>by kernel_rfl)
noncomputable def sMadeNo (g:FuncId) (a:Gn) (h:a.B=false):Spec Tryz.prog :=
 Spec.auto Tryz.call162 [gnS a,.one (.c (fnL g))] [] (ga0 2) [] [(sTwoNoM g a a (by rw [h]; rfl)).e] [] 800 Tryz.func162 hmA (by kernel_rfl) (fun β=>by kernel_rfl)
noncomputable def sSureMul {z w:GQ} (hz:FitG z) (hw:FitG w):Spec Tryz.prog :=
 Spec.auto Tryz.call340 [nV 0,nV 2,.one (.c (.b (.z 4 0)))] (gM z++gM w++[funT (fnV 167) FT2]) (.tup [nA 5,nI' 0]) (gT (gmul z w)) [dFun 167,(sMul (hz.gsz.mono (by decide)) (hw.gsz.mono (by decide))).e] [] 400 Tryz.func340 hmA (by kernel_rfl) (fun β=>by kernel_rfl)
noncomputable def sTwoMul {z w:GQ} (hz:FitG z) (hw:FitG w):Spec Tryz.prog :=
 Spec.auto Tryz.call273 [gS z,gS w,.one (.c sureL)] [funT (fnV 167) FT2] (gA2 (gmul z w)) [] [(sOpened hz hw).e,dIdx 168 (numR z w),dNum 168 (numR z w),dIdx 168 (numR z w),dNum 168 (numR z w),(sSureMul hz hw).e,(sTold ((hz.gsz.mul hw.gsz).mono (by decide))).e] [(4,13012013)] 800 Tryz.func273 hmA (by kernel_rfl) (fun β=>by kernel_rfl)
noncomputable def sGMul {z w:GQ} (hz:FitG z) (hw:FitG w):Spec Tryz.prog :=
 Spec.auto Tryz.call157 [gS z,gS w] [] (gA2 (gmul z w)) [] [(sSure 167).e,(sTwoMul hz hw).e] [(1,6)] 400 Tryz.func157 hmA (by kernel_rfl) (fun β=>by kernel_rfl)
end Go.Proofs.YtmfedaakeeiolaaGreat.Y
end
section
namespace Go.Proofs.YtmfedaakeeiolaaGreat
open Go.RowKit
set_option maxRecDepth 100000 in
theorem Lsh_any {w:World} {b o c p n k:Nat} (hz:Slot w b o 2) (hx:IntAt w c p (n:Int)) (hn:(dig n).length≤8589934592) (hk:k≤137438953472) :
  Calls Tryz.prog 343 #[.pointer (some ⟨b,o,none⟩),.pointer (some ⟨c,p,none⟩),.int .u64 (k:Int)] w fun e w'=>e=.returned (.pointer (some ⟨b,o,none⟩))∧IntAt w' b o ((n*2^k:Nat):Int)∧Touch w w' b o 2:=by
 obtain ⟨A,m,cap,hc0,hc1,hv,hlt⟩:=hx.open_
 rw [show decide ((n:Int)<0)=false by simp] at hc0
 rw [Int.natAbs_natCast] at hv
 have hm:=hv.len.1
 rw [← hm] at hn
 have HZ:=Lib.hid hz
 have HV:=Lib.hid hv
 have HC0:=Lib.hid hc0
 have HC1:=Lib.hid hc1
 clear hx hz hv hc0 hc1 hm
 go_enter Tryz.func343,Tryz.ntmps343
 go_wp2
 refine wp_region_acts 12 (fun w'=>Below w.heap.size w w') (fun w w'=>Below w.heap.size w w') (fun i w v=>match i with
   | 0=>v=.pointer (some ⟨b,o,none⟩)
   | 1=>v=.pointer (some ⟨c,p,none⟩)
   | 2=>v=.pointer (some ⟨c,p,none⟩)
   | 3=>v=.pointer (some ⟨c,p,none⟩)
   | 4=>v=.bool false
   | 5=>v=.pointer (some ⟨c,p,none⟩)
   | 6=>v=.pointer (some ⟨c,p,none⟩)
   | 7=>v=.pointer (some ⟨c,p+1,none⟩)
   | 8=>v=.slice A m cap
   | 9=>v=.int .u64 (k:Int)
   | 10=>v=.int .i64 (k:Int)
   | _=>∃ A' m' c',v=.slice A' m' c'∧Words w (.slice A' m' c') (dig (n*2^k))) (by kernel_rfl) (by kernel_rfl) (by kernel_rfl) ((Below.refl _ _).drew) (fun _ _=>Below.refl _ _) ?_ ⟨?_,?_,?_,?_,?_,?_,?_,?_,?_,?_,?_,?_,trivial⟩ ?_
 · intro i w1 w2 v hC hC2 hE hV
   match i with
   | 0=>exact hV
   | 1=>exact hV
   | 2=>exact hV
   | 3=>exact hV
   | 4=>exact hV
   | 5=>exact hV
   | 6=>exact hV
   | 7=>exact hV
   | 8=>exact hV
   | 9=>exact hV
   | 10=>exact hV
   | _+11=>obtain ⟨A',m',c',e,h⟩:=hV; exact ⟨A',m',c',e,h.below hE⟩
 · intro a' w' hag hC hd K hK
   have e0:a'.tmps.getD 0 undef=.pointer (some ⟨b,o,none⟩):=hag 0 rfl
   go_step
   exact hK _ _ hC (Below.refl _ _) rfl
 · intro a' w' hag hC hd K hK
   have e1:a'.tmps.getD 1 undef=.pointer (some ⟨c,p,none⟩):=hag 1 rfl
   go_step
   exact hK _ _ hC (Below.refl _ _) rfl
 · intro a' w' hag hC hd K hK
   have e8:a'.tmps.getD 8 undef=.pointer (some ⟨c,p,none⟩):=hd.1
   go_step
   exact hK _ _ hC (Below.refl _ _) rfl
 · intro a' w' hag hC hd K hK
   have e9:a'.tmps.getD 9 undef=.pointer (some ⟨c,p,none⟩):=hd.1
   go_step
   exact hK _ _ hC (Below.refl _ _) rfl
 · intro a' w' hag hC hd K hK
   have e10:a'.tmps.getD 10 undef=.pointer (some ⟨c,p,none⟩):=hd.1
   have hcell:w'.cell? ⟨c,p,none⟩=some (.bool false):=by rw [hC.cell (p:=⟨c,p,none⟩) hlt]; exact HC0.out
   have HC:=Lib.hid hC
   clear hC
   go_step
   exact hK _ _ HC.out (Below.refl _ _) rfl
 · intro a' w' hag hC hd K hK
   have e1:a'.tmps.getD 1 undef=.pointer (some ⟨c,p,none⟩):=hag 1 rfl
   go_step
   exact hK _ _ hC (Below.refl _ _) rfl
 · intro a' w' hag hC hd K hK
   have e12:a'.tmps.getD 12 undef=.pointer (some ⟨c,p,none⟩):=hd.1
   go_step
   exact hK _ _ hC (Below.refl _ _) rfl
 · intro a' w' hag hC hd K hK
   have e13:a'.tmps.getD 13 undef=.pointer (some ⟨c,p,none⟩):=hd.1
   go_step
   exact hK _ _ hC (Below.refl _ _) rfl
 · intro a' w' hag hC hd K hK
   have e14:a'.tmps.getD 14 undef=.pointer (some ⟨c,p+1,none⟩):=hd.1
   have hcell:w'.cell? ⟨c,p+1,none⟩=some (.slice A m cap):=by rw [hC.cell (p:=⟨c,p+1,none⟩) hlt]; exact HC1.out
   have HC:=Lib.hid hC
   clear hC
   go_step
   exact hK _ _ HC.out (Below.refl _ _) rfl
 · intro a' w' hag hC hd K hK
   have e2:a'.tmps.getD 2 undef=.int .u64 (k:Int):=hag 2 rfl
   go_step
   exact hK _ _ hC (Below.refl _ _) rfl
 · intro a' w' hag hC hd K hK
   have e16:a'.tmps.getD 16 undef=.int .u64 (k:Int):=hd.1
   go_step
   exact hK _ _ hC (Below.refl _ _) rfl
 · intro a' w' hag hC hd K hK
   have e15:a'.tmps.getD 15 undef=.slice A m cap:=hd.1
   have e17:a'.tmps.getD 17 undef=.int .i64 (k:Int):=hd.2.1
   go_step
   refine (left_any (HV.out.below hC) hn k hk).mono ?_
   rintro e w2 ⟨v,rfl,h1,h2⟩
   obtain ⟨A',m',c',rfl⟩:=h1.form
   rw [val_dig] at h1
   exact hK _ _ (hC.trans (h2.mono hC.size)) h2 ⟨_,_,_,rfl,h1⟩
 · intro u w' hC hall
   obtain ⟨u0,u1,u2,u3,u4,u5,u6,u7,u8,u9,u10,u11,_⟩:=hall
   have u0:u 0=.pointer (some ⟨b,o,none⟩):=u0
   have u1:u 1=.pointer (some ⟨c,p,none⟩):=u1
   have u2:u 2=.pointer (some ⟨c,p,none⟩):=u2
   have u3:u 3=.pointer (some ⟨c,p,none⟩):=u3
   have u4:u 4=.bool false:=u4
   have u5:u 5=.pointer (some ⟨c,p,none⟩):=u5
   have u6:u 6=.pointer (some ⟨c,p,none⟩):=u6
   have u7:u 7=.pointer (some ⟨c,p+1,none⟩):=u7
   have u8:u 8=.slice A m cap:=u8
   have u9:u 9=.int .u64 (k:Int):=u9
   have u10:u 10=.int .i64 (k:Int):=u10
   obtain ⟨A',m',c',eu11,hw'⟩:=u11
   have u11:u 11=.slice A' m' c':=eu11
   simp only [fillR,List.take_succ_cons,List.take_zero,Act.put,List.setIfInBounds_toArray,List.set_cons_succ,List.set_cons_zero,Nat.zero_add,Nat.reduceAdd,u0,u1,u2,u3,u4,u5,u6,u7,u8,u9,u10,u11]
   clear u0 u1 u2 u3 u4 u5 u6 u7 u8 u9 u10 u11
   have HW:=Lib.hid hw'
   have HC:=Lib.hid hC
   have hsl:=HZ.out.on hC
   clear hw' hC
   go_wp2_with (go_at_call 342; refine (is_any false hsl HW.out).mono ?_; rintro e w2 ⟨rfl,h1,h2⟩)
   go_ret
   rw [val_dig] at h1
   exact ⟨rfl,h1,(Touch.of_below HC.out _ _ _).trans h2⟩
set_option maxRecDepth 100000 in
theorem Rsh_any {w:World} {b o c p n k:Nat} (hz:Slot w b o 2) (hx:IntAt w c p (n:Int)) (hk:k≤1099511627776) :
  Calls Tryz.prog 345 #[.pointer (some ⟨b,o,none⟩),.pointer (some ⟨c,p,none⟩),.int .u64 (k:Int)] w fun e w'=>e=.returned (.pointer (some ⟨b,o,none⟩))∧IntAt w' b o ((n/2^k:Nat):Int)∧Touch w w' b o 2:=by
 obtain ⟨A,m,cap,hc0,hc1,hv,hlt⟩:=hx.open_
 rw [show decide ((n:Int)<0)=false by simp] at hc0
 rw [Int.natAbs_natCast] at hv
 have hm:m≤17179869184:=by have:=hv.len.1; have:=hv.2.1; omega
 have HZ:=Lib.hid hz
 have HV:=Lib.hid hv
 have HC0:=Lib.hid hc0
 clear hx hz hv
 go_enter Tryz.func345,Tryz.ntmps345
 go_wp2_with fail
 refine (right_any HV.out hm k hk).mono ?_
 rintro e w1 ⟨v,rfl,h1,h2⟩
 obtain ⟨A1,m1,c1,rfl⟩:=h1.form
 rw [val_dig] at h1
 have hd0:w1.cell? ⟨c,p,none⟩=some (.bool false):=by rw [h2.cell (p:=⟨c,p,none⟩) hlt]; exact HC0.out
 have hlt1:c<w1.heap.size:=Nat.lt_of_lt_of_le hlt h2.size
 have HD0:=Lib.hid hd0
 have HW:=Lib.hid h1
 have HB:=Lib.hid h2
 clear h1 h2 hc0 hc1 hd0
 go_wp2
 refine wp_region_acts 16 (fun w'=>Below w1.heap.size w1 w') (fun w w'=>Below w.heap.size w w') (fun i w v=>match i with
   | 0=>v=.pointer (some ⟨c,p,none⟩)
   | 1=>v=.pointer (some ⟨c,p,none⟩)
   | 2=>v=.pointer (some ⟨c,p,none⟩)
   | 3=>v=.bool false
   | 4=>v=.bool false
   | 5=>v=undef
   | 6=>v=undef
   | 7=>v=undef
   | 8=>v=undef
   | 9=>v=undef
   | 10=>v=undef
   | 11=>v=undef
   | 12=>v=undef
   | 13=>v=undef
   | 14=>v=undef
   | _=>v=.bool false) (by kernel_rfl) (by kernel_rfl) (by kernel_rfl) ((Below.refl _ _).drew) (fun _ _=>Below.refl _ _) ?_ ⟨?_,?_,?_,?_,?_,?_,?_,?_,?_,?_,?_,?_,?_,?_,?_,?_,trivial⟩ ?_
 · intro i w1 w2 v hC hC2 hE hV
   match i with
   | 0=>exact hV
   | 1=>exact hV
   | 2=>exact hV
   | 3=>exact hV
   | 4=>exact hV
   | 5=>exact hV
   | 6=>exact hV
   | 7=>exact hV
   | 8=>exact hV
   | 9=>exact hV
   | 10=>exact hV
   | 11=>exact hV
   | 12=>exact hV
   | 13=>exact hV
   | 14=>exact hV
   | _+15=>exact hV
 · intro a' w' hag hC hd K hK
   have e1:a'.tmps.getD 1 undef=.pointer (some ⟨c,p,none⟩):=hag 1 rfl
   go_step
   exact hK _ _ hC (Below.refl _ _) rfl
 · intro a' w' hag hC hd K hK
   have e15:a'.tmps.getD 15 undef=.pointer (some ⟨c,p,none⟩):=hd.1
   go_step
   exact hK _ _ hC (Below.refl _ _) rfl
 · intro a' w' hag hC hd K hK
   have e16:a'.tmps.getD 16 undef=.pointer (some ⟨c,p,none⟩):=hd.1
   go_step
   exact hK _ _ hC (Below.refl _ _) rfl
 · intro a' w' hag hC hd K hK
   have e17:a'.tmps.getD 17 undef=.pointer (some ⟨c,p,none⟩):=hd.1
   have hcell:w'.cell? ⟨c,p,none⟩=some (.bool false):=by rw [hC.cell (p:=⟨c,p,none⟩) hlt1]; exact HD0.out
   have HC:=Lib.hid hC
   clear hC
   go_step
   exact hK _ _ HC.out (Below.refl _ _) rfl
 · intro a' w' hag hC hd K hK
   have e18:a'.tmps.getD 18 undef=.bool false:=hd.1
   go_step
   exact hK _ _ hC (Below.refl _ _) rfl
 · intro a' w' hag hC hd
   exact ⟨fun hw=>Bool.noConfusion (hw.symm.trans (unwanted_of (j:=4) (d:=19) (b':=false) rfl rfl rfl hd.1 (by decide))),fun _=>rfl⟩
 · intro a' w' hag hC hd
   exact ⟨fun hw=>Bool.noConfusion (hw.symm.trans (unwanted_of (j:=4) (d:=19) (b':=false) rfl rfl rfl hd.1 (by decide))),fun _=>rfl⟩
 · intro a' w' hag hC hd
   exact ⟨fun hw=>Bool.noConfusion (hw.symm.trans (unwanted_of (j:=4) (d:=19) (b':=false) rfl rfl rfl hd.2.1 (by decide))),fun _=>rfl⟩
 · intro a' w' hag hC hd
   exact ⟨fun hw=>Bool.noConfusion (hw.symm.trans (unwanted_of (j:=4) (d:=19) (b':=false) rfl rfl rfl hd.2.2.1 (by decide))),fun _=>rfl⟩
 · intro a' w' hag hC hd
   exact ⟨fun hw=>Bool.noConfusion (hw.symm.trans (unwanted_of (j:=4) (d:=19) (b':=false) rfl rfl rfl hd.1 (by decide))),fun _=>rfl⟩
 · intro a' w' hag hC hd
   exact ⟨fun hw=>Bool.noConfusion (hw.symm.trans (unwanted_of (j:=4) (d:=19) (b':=false) rfl rfl rfl hd.2.1 (by decide))),fun _=>rfl⟩
 · intro a' w' hag hC hd
   exact ⟨fun hw=>Bool.noConfusion (hw.symm.trans (unwanted_of (j:=4) (d:=19) (b':=false) rfl rfl rfl hd.2.1 (by decide))),fun _=>rfl⟩
 · intro a' w' hag hC hd
   exact ⟨fun hw=>Bool.noConfusion (hw.symm.trans (unwanted_of (j:=4) (d:=19) (b':=false) rfl rfl rfl hd.2.1 (by decide))),fun _=>rfl⟩
 · intro a' w' hag hC hd
   exact ⟨fun hw=>Bool.noConfusion (hw.symm.trans (unwanted_of (j:=4) (d:=19) (b':=false) rfl rfl rfl hd.2.2.2.1 (by decide))),fun _=>rfl⟩
 · intro a' w' hag hC hd
   exact ⟨fun hw=>Bool.noConfusion (hw.symm.trans (unwanted_of (j:=4) (d:=19) (b':=false) rfl rfl rfl hd.2.1 (by decide))),fun _=>rfl⟩
 · intro a' w' hag hC hd K hK
   have e19:a'.tmps.getD 19 undef=.bool false:=hd.1
   have e29:a'.tmps.getD 29 undef=undef:=hd.2.1
   go_step
   exact hK _ _ hC (Below.refl _ _) rfl
 · intro u w' hC hall
   obtain ⟨u0,u1,u2,u3,u4,u5,u6,u7,u8,u9,u10,u11,u12,u13,u14,u15,_⟩:=hall
   have u0:u 0=.pointer (some ⟨c,p,none⟩):=u0
   have u1:u 1=.pointer (some ⟨c,p,none⟩):=u1
   have u2:u 2=.pointer (some ⟨c,p,none⟩):=u2
   have u3:u 3=.bool false:=u3
   have u4:u 4=.bool false:=u4
   have u5:u 5=undef:=u5
   have u6:u 6=undef:=u6
   have u7:u 7=undef:=u7
   have u8:u 8=undef:=u8
   have u9:u 9=undef:=u9
   have u10:u 10=undef:=u10
   have u11:u 11=undef:=u11
   have u12:u 12=undef:=u12
   have u13:u 13=undef:=u13
   have u14:u 14=undef:=u14
   have u15:u 15=.bool false:=u15
   simp only [fillR,List.take_succ_cons,List.take_zero,Act.put,List.setIfInBounds_toArray,List.set_cons_succ,List.set_cons_zero,Nat.zero_add,Nat.reduceAdd,u0,u1,u2,u3,u4,u5,u6,u7,u8,u9,u10,u11,u12,u13,u14,u15]
   clear u0 u1 u2 u3 u4 u5 u6 u7 u8 u9 u10 u11 u12 u13 u14 u15
   have HC:=Lib.hid hC
   have hc1:w'.cell? ⟨c,p,none⟩=some (.bool false):=by rw [hC.cell (p:=⟨c,p,none⟩) hlt1]; exact HD0.out
   have hsl:=(HZ.out.on HB.out).on hC
   have hw2:=HW.out.below hC
   clear hC
   go_wp2_with (go_at_call 342; refine (is_any false hsl hw2).mono ?_; rintro e w2 ⟨rfl,h1,h2⟩)
   go_ret
   rw [val_dig] at h1
   exact ⟨rfl,h1,((Touch.of_below HB.out _ _ _).trans (Touch.of_below HC.out _ _ _)).trans h2⟩
theorem newton_up (n R:Nat) (hR:0<R):n<((n/R+R)/2+1)*((n/R+R)/2+1):=by
 have h1:n<R*(n/R+1):=by have:=Nat.lt_mul_div_succ n hR; simpa [Nat.mul_add] using this
 generalize n/R=q at h1
 generalize hs:(q+R)/2=s
 have h2:q+1+R≤2*(s+1):=by omega
 refine Nat.lt_of_lt_of_le h1 ?_
 rcases Nat.le_total R (s+1) with h | h
 · obtain ⟨d,hd⟩:=Nat.exists_eq_add_of_le h
   rw [hd] at h2 ⊢
   have h3:q+1≤R+2*d:=by omega
   calc R*(q+1)≤R*(R+2*d):=Nat.mul_le_mul_left _ h3
    _≤(R+d)*(R+d):=by rw [Nat.mul_add,Nat.add_mul,Nat.mul_add,Nat.mul_add,Nat.mul_comm d R,Nat.mul_left_comm,Nat.two_mul]; omega
 · obtain ⟨d,hd⟩:=Nat.exists_eq_add_of_le h
   have h3:q+1+2*d≤R:=by omega
   rw [hd] at h2 ⊢
   have h4:q+1+d≤s+1:=by omega
   calc (s+1+d)*(q+1)=(s+1)*(q+1)+d*(q+1):=by rw [Nat.add_mul]
    _≤(s+1)*(q+1)+d*(s+1):=Nat.add_le_add_left (Nat.mul_le_mul_left _ (by omega)) _
    _=(s+1)*(q+1+d):=by rw [Nat.mul_add (s+1) (q+1) d,Nat.mul_comm d]
    _≤(s+1)*(s+1):=Nat.mul_le_mul_left _ h4
theorem newton_end (n R:Nat) (hR:0<R) (h:R≤(n/R+R)/2):R*R≤n:=by
 have h1:R≤n/R:=by omega
 exact Nat.le_trans (Nat.mul_le_mul_left _ h1) (Nat.mul_div_le n R)
theorem newton_pos (n R:Nat) (hn:0<n) (hR:0<R) (h:(n/R+R)/2<R):0<(n/R+R)/2:=by
 rcases Nat.lt_or_ge R 2 with h2 | h2
 · obtain rfl:R=1:=by omega
   rw [Nat.div_one] at h ⊢
   omega
 · generalize n/R=q at h ⊢
   omega
theorem okn_nat {m k:Nat} (h:m≤k) (hk:(dig k).length≤4294967296):Okn (m:Int):=by
 unfold Okn
 rw [Int.natAbs_natCast]
 exact Nat.le_trans (dig_len_mono _ _ h) hk
theorem cmpI_lt {a b:Nat} (h:a<b):cmpI (a:Int) (b:Int) = -1:=by
 unfold cmpI
 rw [if_pos (by omega)]
theorem cmpI_ge {a b:Nat} (h:b≤a):cmpI (a:Int) (b:Int)=0∨cmpI (a:Int) (b:Int)=1:=by
 unfold cmpI
 rw [if_neg (by omega)]
 by_cases k:(b:Int)<(a:Int)
 · rw [if_pos k]; exact .inr rfl
 · rw [if_neg k]; exact .inl rfl
theorem root_start {n L:Nat} (hn:0<n) (h:Bits n L):2^(L/2+1)≤4*n∧n<(2^(L/2+1)+1)*(2^(L/2+1)+1):=by
 have hL:0<L:=by
  rcases Nat.eq_zero_or_pos L with h0 | h0
  · subst h0; have:=h.1; simp at this; omega
  · exact h0
 have h1:=h.2 hL
 have h2:=h.1
 constructor
 · have h3:2^(L/2+1)≤2^(L-1+2):=Nat.pow_le_pow_right (by decide) (by omega)
   rw [show 2^(L-1+2)=2^(L-1)*4 from by rw [Nat.pow_add]] at h3
   exact Nat.le_trans h3 (by rw [Nat.mul_comm]; exact Nat.mul_le_mul_left _ h1)
 · have h3:2^L≤2^(L/2+1)*2^(L/2+1):=by
    rw [← Nat.pow_add]
    exact Nat.pow_le_pow_right (by decide) (by omega)
   have h4:2^(L/2+1)*2^(L/2+1)≤(2^(L/2+1)+1)*(2^(L/2+1)+1):=Nat.mul_le_mul (Nat.le_succ _) (Nat.le_succ _)
   omega
set_option maxHeartbeats 1600000 in
set_option maxRecDepth 100000 in
theorem Sqrt_any {w:World} {b o c p n:Nat} (hz:Slot w b o 2) (hx:IntAt w c p (n:Int)) (hn:(dig (5*n)).length≤4294967296) :
  Calls Tryz.prog 282 #[.pointer (some ⟨b,o,none⟩),.pointer (some ⟨c,p,none⟩)] w fun e w'=>e=.returned (.pointer (some ⟨b,o,none⟩))∧(∃ r:Nat,r*r≤n∧n<(r+1)*(r+1)∧IntAt w' b o (r:Int))∧Touch w w' b o 2:=by
 have HZ:=Lib.hid hz
 have HN:=Lib.hid hn
 rcases Nat.eq_zero_or_pos n with h0 | h0
 · subst h0
   have HX:Hid (IntAt w c p 0):=Lib.hid hx
   clear hz hx hn
   go_enter Tryz.func282,Tryz.ntmps282
   go_wp2_with fail
   refine (sign_any HX.out).mono ?_
   rw [Int.sign_zero]
   rintro e w1 ⟨rfl,rfl⟩
   go_wp2_with fail
   refine (is_any false HZ.out (Words.nil w)).mono ?_
   rintro e w2 ⟨rfl,h1,h2⟩
   have H1:=Lib.hid h1
   have H2:=Lib.hid h2
   clear h1 h2
   go_wp2
   go_ret
   exact ⟨rfl,⟨0,Nat.le_refl _,by decide,H1.out⟩,H2.out⟩
 · have HX:=Lib.hid hx
   have H0:=Lib.hid h0
   have hs:((n:Nat):Int).sign=1:=Int.sign_eq_one_of_pos (by omega)
   clear hz hx hn
   go_enter Tryz.func282,Tryz.ntmps282
   go_wp2_with fail
   refine (sign_any HX.out).mono ?_
   rw [hs]
   rintro e w1 ⟨rfl,rfl⟩
   clear hs h0
   go_wp2_with fail
   have HA:=Lib.hid ((Below.refl w.heap.size w).alloc (Nat.le_refl _) (.cells #[.bool false,.slice none 0 0] 211))
   have HS:=Lib.hid (IntAt.new w).slot
   refine (NewInt_any (n:=1) (by decide)).mono ?_
   rintro e w2 ⟨g1,rfl,hg1,h1,hb1⟩
   have H1:=Lib.hid h1
   have HS2:=Lib.hid (HS.out.on hb1)
   have HB2:=Lib.hid (HA.out.trans (hb1.mono HA.out.size))
   clear h1 hb1 hg1
   go_wp2_with fail
   refine (BitLen_any (HX.out.on HB2.out)).mono ?_
   rintro e w3 ⟨L,rfl,hL,hLb,hb2⟩
   rw [Int.natAbs_natCast] at hL
   obtain ⟨q,hq⟩:∃ q,q=L/2:=⟨_,rfl⟩
   have hqi:(L:Int)/2=(q:Int):=by omega
   have hqi2:(L:Int).tdiv 2=(q:Int):=by rw [Int.tdiv_eq_ediv_of_nonneg (by omega)]; exact hqi
   obtain ⟨k,hk⟩:∃ k,k=q+1:=⟨_,rfl⟩
   have hki:(q:Int)+1=(k:Int):=by omega
   have hkb:k≤274877906945:=by omega
   have hrs:=root_start H0.out hL
   rw [← hq,← hk] at hrs
   have HR:=Lib.hid hrs
   have H1b:=Lib.hid (H1.out.on hb2)
   have HS3:=Lib.hid (HS2.out.on hb2)
   have HB3:=Lib.hid (HB2.out.trans (hb2.mono HB2.out.size))
   have HKL:Hid (k≤137438953472):=by
    have h5:(dig n).length≤4294967296:=Nat.le_trans (dig_len_mono n (5*n) (by omega)) HN.out
    have h6:=dig_lt n
    rw [p32] at h6
    obtain ⟨E,hE⟩:∃ E:Nat,E=137438953472:=⟨_,rfl⟩
    have h7:n<2^E:=Nat.lt_of_lt_of_le h6 (Nat.pow_le_pow_right (by decide) (by omega))
    have h8:L≤E:=by
     rcases Nat.lt_or_ge E L with h9 | h9
     · have h10:=hL.2 (by omega)
       have h11:2^E≤2^(L-1):=Nat.pow_le_pow_right (by decide) (by omega)
       exact absurd (Nat.lt_of_lt_of_le h7 (Nat.le_trans h11 h10)) (Nat.lt_irrefl _)
     · exact h9
    clear h6 h7 hrs
    show k≤137438953472
    omega
   clear hb2 hL hrs hq hk
   go_wp2_with fail
   refine (Lsh_any (n:=1) (k:=k) HS3.out H1b.out (Nat.le_trans (dig_len_mono 1 (5*n) (by have:=H0.out; omega)) (Nat.le_trans HN.out (by decide))) HKL.out).mono ?_
   rintro e w4 ⟨rfl,h2,h3⟩
   rw [Nat.one_mul] at h2
   have H2:=Lib.hid h2
   have HB4:=Lib.hid (HB3.out.trans (h3.below (B:=w.heap.size) (Nat.le_refl _) HB3.out.size))
   clear h2 h3
   go_wp2
   go_loopg [5,6] (2^k) (fun m rv sv wr=>∃ (g R:Nat),rv=.pointer (some ⟨g,0,none⟩)∧R≤m∧Hid (w.heap.size≤g)∧Hid (0<R)∧Hid (R≤4*n)∧Hid (n<(R+1)*(R+1))∧Hid (IntAt wr g 0 (R:Int))∧Hid (Below w.heap.size w wr))
   case atStart=>exact ⟨w.heap.size,2^k,rfl,Nat.le_refl _,Nat.le_refl _,Nat.pow_pos (by decide),HR.out.1,HR.out.2,H2.out,HB4.out⟩
   case round =>
    obtain ⟨g,R,rfl,hRm,hg,hR0,hR4,hRn,hr,hb⟩:=hrel
    clear H1 HS HS2 HB2 HS3 HB3 H1b H2 HB4 HA
    go_wp2_with fail
    have hA:Below wr.heap.size wr (wr.alloc (.cells #[.bool false,.slice none 0 0] 211)):=(Below.refl _ _).alloc (Nat.le_refl _) _
    have hS:=(IntAt.new wr).slot
    have hxr:=HX.out.on hb.out
    refine (Quo_any hS (hxr.on hA) (hr.out.on hA) (by have:=hR0.out; omega) (okn_nat (k:=5*n) (by omega) HN.out)).mono ?_
    rintro e w5 ⟨rfl,h1,h2⟩
    have hq:((n:Nat):Int).tdiv ((R:Nat):Int)=((n/R:Nat):Int):=rfl
    rw [hq] at h1
    have B5:=hA.trans (h2.below (B:=wr.heap.size) (Nat.le_refl _) hA.size)
    have HB5:=Lib.hid B5
    have H5:=Lib.hid h1
    clear hA hS hxr h1 h2 B5 hq
    go_wp2_with fail
    have hdn:n/R≤n:=Nat.div_le_self _ _
    refine (Add_any H5.out.slot H5.out (hr.out.on HB5.out) (okn_nat (k:=5*n) (by omega) HN.out) (okn_nat (k:=5*n) (by have:=hR4.out; omega) HN.out)).mono ?_
    rintro e w6 ⟨rfl,h1,h2⟩
    rw [show ((n/R:Nat):Int)+((R:Nat):Int)=((n/R+R:Nat):Int) by omega] at h1
    have HB6:=Lib.hid (HB5.out.trans (h2.below (B:=wr.heap.size) (Nat.le_refl _) HB5.out.size))
    have H6:=Lib.hid h1
    clear h1 h2 hdn
    go_wp2_with fail
    refine (Rsh_any (k:=1) H6.out.slot H6.out (by decide)).mono ?_
    rintro e w7 ⟨rfl,h1,h2⟩
    rw [Nat.pow_one] at h1
    obtain ⟨S,hS⟩:∃ S,S=(n/R+R)/2:=⟨_,rfl⟩
    rw [← hS] at h1
    have HB7:=Lib.hid (HB6.out.trans (h2.below (B:=wr.heap.size) (Nat.le_refl _) HB6.out.size))
    have H7:=Lib.hid h1
    have HSS:=Lib.hid hS
    clear h1 h2 hS
    go_wp2_with fail
    refine (Cmp_any H7.out (hr.out.on HB7.out)).mono ?_
    rintro e w8 ⟨rfl,hb8⟩
    have HB8:=Lib.hid (HB7.out.trans (hb8.mono HB7.out.size))
    have H8:=Lib.hid (H7.out.on hb8)
    clear hb8
    rcases Nat.lt_or_ge S R with hlt | hge
    · rw [cmpI_lt hlt]
      go_wp2
      go_roundg S
      case measure=>exact Nat.lt_of_lt_of_le hlt hRm
      case rel =>
       have e:=HSS.out
       refine ⟨wr.heap.size,S,rfl,Nat.le_refl _,hb.out.size,?_,?_,?_,H8.out,hb.out.trans (HB8.out.mono hb.out.size)⟩
       · rw [Hid,e]; exact newton_pos n R H0.out hR0.out (e▸hlt)
       · exact Nat.le_trans (Nat.le_of_lt hlt) hR4.out
       · rw [Hid,e]; exact newton_up n R hR0.out
    · have hend:R*R≤n:=newton_end n R hR0.out (HSS.out▸hge)
      have HE:=Lib.hid hend
      have hzz:Slot w8 b o 2:=(HZ.out.on hb.out).on HB8.out
      have HZ8:=Lib.hid hzz
      have HR8:=Lib.hid (hr.out.on HB8.out)
      have HT:=Lib.hid (hb.out.trans (HB8.out.mono hb.out.size))
      clear hend hzz
      rcases cmpI_ge hge with h9 | h9
      all_goals
       rw [h9]
       go_wp2_with fail
       refine (set_any HZ8.out HR8.out).mono ?_
       rintro e w9 ⟨rfl,h1,h2⟩
       have K1:=Lib.hid h1
       have K2:=Lib.hid ((Touch.of_below HT.out b o 2).trans h2)
       clear h1 h2
       go_wp2
       go_ret
       exact ⟨rfl,⟨R,HE.out,hRn.out,K1.out⟩,K2.out⟩
end Go.Proofs.YtmfedaakeeiolaaGreat
end
section
namespace Go.Proofs.YtmfedaakeeiolaaGreat.Y
open Go Go.RowKit
set_option maxRecDepth 100000
noncomputable def sDiv1 {z w:GQ} (hz:FitG z) (hw:FitG w) (h0:gzero w=false):Spec Tryz.prog :=
 Spec.auto Tryz.call275 [nV 0,nV 2] (gM z++gM w) (.tup [nA 4,nI' 0]) (gT (gdiv z w)) [(sZero h0).e,(sDiv (hz.gsz.mono (by decide)) (hw.gsz.mono (by decide)) h0).e] [] 400 Tryz.func275 hmA (by kernel_rfl) (fun β=>by kernel_rfl)
noncomputable def sDiv0 (z:GQ) {w:GQ} (h0:gzero w=true):Spec Tryz.prog :=
 Spec.auto Tryz.call275 [nV 0,nV 2] (gM z++gM w) (.tup [nA 2,nI' 5]) [] [(sZero h0).e] [] 400 Tryz.func275 hmA (by kernel_rfl) (fun β=>by kernel_rfl)
noncomputable def sTwoDiv {z w:GQ} (hz:FitG z) (hw:FitG w) (h0:gzero w=false):Spec Tryz.prog :=
 Spec.auto Tryz.call273 [gS z,gS w,.one (.c (fnL 275))] [] (gA2 (gdiv z w)) [] [(sOpened hz hw).e,dIdx 168 (numR z w),dNum 168 (numR z w),dIdx 168 (numR z w),dNum 168 (numR z w),(sDiv1 hz hw h0).e,(sTold ((hz.gsz.div hw.gsz h0).mono (by decide))).e] [(4,12012013)] 800 Tryz.func273 hmA (by kernel_rfl) (fun β=>by kernel_rfl)
noncomputable def sTwoDiv0 {z w:GQ} (hz:FitG z) (hw:FitG w) (h0:gzero w=true):Spec Tryz.prog :=
 Spec.auto Tryz.call273 [gS z,gS w,.one (.c (fnL 275))] [] (ga0 5) [] [(sOpened hz hw).e,dIdx 168 (numR z w),dNum 168 (numR z w),dIdx 168 (numR z w),dNum 168 (numR z w),(sDiv0 z h0).e] [(4,10012013)] 800 Tryz.func273 hmA (by kernel_rfl) (fun β=>by kernel_rfl)
noncomputable def sGDiv {z w:GQ} (hz:FitG z) (hw:FitG w) (h0:gzero w=false):Spec Tryz.prog :=
 Spec.auto Tryz.call158 [gS z,gS w] [] (gA2 (gdiv z w)) [] [(sTwoDiv hz hw h0).e] [] 400 Tryz.func158 hmA (by kernel_rfl) (fun β=>by kernel_rfl)
noncomputable def sGDiv0 {z w:GQ} (hz:FitG z) (hw:FitG w) (h0:gzero w=true):Spec Tryz.prog :=
 Spec.auto Tryz.call158 [gS z,gS w] [] (ga0 5) [] [(sTwoDiv0 hz hw h0).e] [] 400 Tryz.func158 hmA (by kernel_rfl) (fun β=>by kernel_rfl)
abbrev bxI (n:Int):Ob:=.box [.b (.v (.int .i64 n))] 3
abbrev powL (k:Nat):Lf:=.f (.func 163) [] [.p k 0]
noncomputable def sPow1 {z:GQ} (h0:gzero z=true):OSpec Tryz.prog :=
 OSpec.auto Tryz.call163 [nV 0,.one (.c (.b (.p 2 0)))] [(ratM z.re).ob,(ratM z.im).ob,bxI (-1)] (.tup [nA 0,nI' 5]) [] [(sZero h0).e] [(6,3)] 800 Tryz.func163 hmA (by kernel_rfl) (fun β=>by kernel_rfl)
noncomputable def sMadePow1 {z:GQ} (h0:gzero z=true):OSpec Tryz.prog :=
 OSpec.auto Tryz.call277 [nV 0,nV 2,.one (.c (.b (.p 4 0)))] [(ratM z.re).ob,(ratM z.im).ob,(ratM z.re).ob,(ratM z.im).ob,.box [powL 5] FT1,bxI (-1)] (.tup [nA 0,nI' 5]) [] [(sPow1 h0).e] [] 400 Tryz.func277 hmA (by kernel_rfl) (fun β=>by kernel_rfl)
noncomputable def sTwoPow {z:GQ} (hz:FitG z) (h0:gzero z=true):OSpec Tryz.prog :=
 OSpec.auto Tryz.call273 [gS z,gS z,.one (.c madeL)] [.box [powL 1] FT1,bxI (-1)] (ga0 5) [] [(sOpened hz hz).e,dIdx 168 (numR z z),dNum 168 (numR z z),dIdx 168 (numR z z),dNum 168 (numR z z),(sMadePow1 h0).e] [(4,12012013)] 800 Tryz.func273 hmA (by kernel_rfl) (fun β=>by kernel_rfl)
noncomputable def sMadePow {z:GQ} (hz:FitG z) (h0:gzero z=true):OSpec Tryz.prog :=
 OSpec.auto Tryz.call162 [gS z,.one (.c (powL 0))] [bxI (-1)] (ga0 5) [] [(sTwoPow hz h0).e] [] 400 Tryz.func162 hmA (by kernel_rfl) (fun β=>by kernel_rfl)
noncomputable def sGPow {z:GQ} (hz:FitG z) (h0:gzero z=true):Spec Tryz.prog :=
 Spec.auto Tryz.call43 [gS z,.one (nI' (-1))] [] (ga0 5) [] [(sMadePow hz h0).e] [] 400 Tryz.func43 hmA (by kernel_rfl) (fun β=>by kernel_rfl)
theorem root_uniq {n a b:Nat} (h1:a*a≤n) (h2:n<(a+1)*(a+1)) (k1:b*b≤n) (k2:n<(b+1)*(b+1)):a=b:=by
 rcases Nat.lt_trichotomy a b with h | h | h
 · have:(a+1)*(a+1)≤b*b:=Nat.mul_le_mul h h
   omega
 · exact h
 · have:(b+1)*(b+1)≤a*a:=Nat.mul_le_mul h h
   omega
def eSqrt {m:Int} {n r:Nat} (i p k:Nat) (hm:m=(n:Int)) (h1:r*r≤n) (h2:n<(r+1)*(r+1)) (hn:(dig (5*n)).length≤4294967296):Ev Tryz.prog:=.fill 282 Tryz.call282 (fun β=>#[.pointer (some ⟨(β i).b,0,none⟩),.pointer ((β k).v 0)]) [(k,(intT m).ob)] i 2 p (intT (r:Int))
 (fun β w h ho hs=>by
  obtain ⟨b,hb,kb⟩:=needI (n:=m) (k:=k) h (by simp)
  simp only [hb.1]
  rw [hm] at kb
  refine (Sqrt_any hs kb hn).mono fun e w' ⟨he,⟨r',k1,k2,k3⟩,k4⟩=>?_
  rw [root_uniq h1 h2 k1 k2]
  exact ⟨he,⟨_,ho.at1,k3⟩,k4⟩)
def fSqrt {m:Int} {n r:Nat} (hm:m=(n:Int)) (h1:r*r≤n) (h2:n<(r+1)*(r+1)) (hn:(dig (5*n)).length≤4294967296):Ev Tryz.prog:=dyn2 fun i p k=>eSqrt i p k hm h1 h2 hn
def mkI:Ev Tryz.prog:=dynMk 211 2
theorem dig_small {n:Nat} (h:n<4294967296):(dig n).length≤4294967296:=Nat.le_trans (dig_len_le n 1 (by omega)) (by decide)
theorem cmp_root {x y:Rat} {t:Bool} (h:decide (x=y)=t):Value.bool (cmpQ x y==0)=.bool t:=by
 rw [← h]
 congr 1
 rw [Bool.eq_iff_iff,beq_iff_eq,decide_eq_true_iff]
 unfold cmpQ
 constructor
 · intro h
   by_cases a:x<y
   · rw [if_pos a] at h; exact absurd h (by decide)
   · by_cases b:y<x
     · rw [if_neg a,if_pos b] at h; exact absurd h (by decide)
     · exact Rat.le_antisymm (Rat.not_lt.1 b) (Rat.not_lt.1 a)
 · rintro rfl
   rw [if_neg Rat.lt_irrefl,if_neg Rat.lt_irrefl]
theorem nat_sign {m:Int} {n:Nat} (h:m=(n:Int)):Value.bool (decide (m.sign<0))=.bool false:=by
 rw [h]
 cases n<;>rfl
structure RootD (x:Rat) (n d a b:Nat):Prop where
 hn:x.num=(n:Int)
 hd:(x.den:Int)=(d:Int)
 a1:a*a≤n
 a2:n<(a+1)*(a+1)
 b1:b*b≤d
 b2:d<(b+1)*(b+1)
 sn:5*n<4294967296
 sd:5*d<4294967296
 b0:(b:Int)≠0
 sa:sz (a:Int)≤100
 sb:sz (b:Int)≤100
def sRoot {x:Rat} (hx:Sz KB x) {n d a b:Nat} (h:RootD x n d a b) {t:Bool} (ht:decide (Rat.divInt a b*Rat.divInt a b=x)=t):Spec Tryz.prog :=
 Spec.auto Tryz.call171 [rV 0] [ratT x] (.tup [.c (.b (.z 1 0)),.c (.b (.v (.bool t)))]) [ratT (Rat.divInt a b)]
  [nSign (x:=x) rfl,.eqv 9 (.bool (decide (x.num.sign<0))) (.bool false) (nat_sign h.hn),mkI,nNum x,fSqrt h.hn h.a1 h.a2 (dig_small h.sn),mkI,nDenom x,fSqrt h.hd h.b1 h.b2 (dig_small h.sd),mkR,fSetFrac h.b0 (Nat.le_trans h.sa (by decide)) (Nat.le_trans h.sb (by decide)),
   mkR,fMul ((sz_divInt h.b0 h.sa h.sb).mono (by decide)) ((sz_divInt h.b0 h.sa h.sb).mono (by decide)),nCmp (c:=cmpQ (Rat.divInt a b*Rat.divInt a b) x) (((sz_divInt h.b0 h.sa h.sb).mul (sz_divInt h.b0 h.sa h.sb)).mono (by decide)) hx rfl,.eqv 29 (.bool (cmpQ (Rat.divInt a b*Rat.divInt a b) x==0)) (.bool t) (cmp_root ht)]
  [] 800 Tryz.func171 hmA (by kernel_rfl) (fun β=>by kernel_rfl)
abbrev z20:GQ:=gint 2 0
theorem z20_fit:FitG z20:=fit_int (by decide) (by decide)
abbrev nrm20:Rat:=(gmul z20 (gconj z20)).re
abbrev rt20:Rat:=Rat.divInt (2:Nat) (1:Nat)
abbrev half12:Rat:=Rat.divInt 1 2
abbrev mid20:Rat:=(rt20+z20.re)*half12
theorem root_nrm20:RootD nrm20 4 1 2 1:=⟨by kernel_rfl,by kernel_rfl,by decide,by decide,by decide,by decide,by decide,by decide,by decide,by rw [sz_le]; decide,by rw [sz_le]; decide⟩
theorem root_mid20:RootD mid20 2 1 1 1:=⟨by kernel_rfl,by kernel_rfl,by decide,by decide,by decide,by decide,by decide,by decide,by decide,by rw [sz_le]; decide,by rw [sz_le]; decide⟩
theorem sz_half:Sz 8 half12:=sz_lit 1 2 (by decide) (by decide) (by decide)
theorem sz_rt20:Sz 8 rt20:=sz_lit 2 1 (by decide) (by decide) (by decide)
noncomputable def sSqrt20:Spec Tryz.prog :=
 Spec.auto Tryz.call168 [nV 0] (gM z20) (.tup [nA 0,nI' 7]) []
  [(sParts z20).e,(sConj z20).e,(sMul (z20_fit.gsz.mono (by decide)) (z20_fit.gsz.conj.mono (by decide))).e,(sParts (gmul z20 (gconj z20))).e,
   (sRoot ((z20_fit.gsz.mul z20_fit.gsz.conj).1.mono (by decide)) root_nrm20 (t:=true) (by kernel_rfl)).e,nNew 1 2 (by decide) (by decide) (by decide),mkR,mkR,fAdd (sz_rt20.mono (by decide)) (z20_fit.gsz.1.mono (by decide)),fMul ((sz_rt20.add z20_fit.gsz.1).mono (by decide)) (sz_half.mono (by decide)),
   (sRoot (((sz_rt20.add z20_fit.gsz.1).mul sz_half).mono (by decide)) root_mid20 (t:=false) (by kernel_rfl)).e] [(2,10)] 1200 Tryz.func168 hmA (by kernel_rfl) (fun β=>by kernel_rfl)
noncomputable def sMadeSqrt20:OSpec Tryz.prog :=
 OSpec.auto Tryz.call277 [nV 0,nV 2,.one (.c (.b (.p 4 0)))] ([(ratM z20.re).ob,(ratM z20.im).ob,(ratM z20.re).ob,(ratM z20.im).ob,.box [fnL 168] FT1]) (.tup [nA 0,nI' 7]) [] [sSqrt20.e] [] 400 Tryz.func277 hmA (by kernel_rfl) (fun β=>by kernel_rfl)
noncomputable def sTwoSqrt20:OSpec Tryz.prog :=
 OSpec.auto Tryz.call273 [gS z20,gS z20,.one (.c madeL)] [.box [fnL 168] FT1] (ga0 7) [] [(sOpened z20_fit z20_fit).e,dIdx 168 (numR z20 z20),dNum 168 (numR z20 z20),dIdx 168 (numR z20 z20),dNum 168 (numR z20 z20),sMadeSqrt20.e] [(4,11012013)] 800 Tryz.func273 hmA (by kernel_rfl) (fun β=>by kernel_rfl)
noncomputable def sMadeS20:Spec Tryz.prog :=
 Spec.auto Tryz.call162 [gS z20,.one (.c (fnL 168))] [] (ga0 7) [] [sTwoSqrt20.e] [] 400 Tryz.func162 hmA (by kernel_rfl) (fun β=>by kernel_rfl)
noncomputable def sGSqrt20:Spec Tryz.prog :=
 Spec.auto Tryz.call44 [gS z20] [] (ga0 7) [] [sMadeS20.e] [] 400 Tryz.func44 hmA (by kernel_rfl) (fun β=>by kernel_rfl)
end Go.Proofs.YtmfedaakeeiolaaGreat.Y
end
section
namespace Go.Proofs.YtmfedaakeeiolaaGreat
open Go.Proofs.YtmfedaakeeiolaaGreat.Y
def gnat (n:Nat):GQ:=⟨((n:Int):Rat),0⟩
def gpow (z:GQ):Nat→GQ
 | 0=>gnat 1
 | n+1=>gmul (gpow z n) z
instance gqRing:Lean.Grind.CommRing GQ where
 add:=gadd
 mul:=gmul
 natCast:=⟨gnat⟩
 ofNat:=fun n=>⟨gnat n⟩
 nsmul:=⟨fun n z=>gmul (gnat n) z⟩
 npow:=⟨gpow⟩
 neg:=gneg
 sub:=gsub
 intCast:=⟨fun i=>⟨(i:Rat),0⟩⟩
 zsmul:=⟨fun i z=>gmul ⟨(i:Rat),0⟩ z⟩
 add_zero a:=by refine GQ.ext2 ?_ ?_<;>(show _+_=_; first | exact Rat.add_zero _)
 add_comm a b:=GQ.ext2 (Rat.add_comm _ _) (Rat.add_comm _ _)
 add_assoc a b c:=GQ.ext2 (Rat.add_assoc _ _ _) (Rat.add_assoc _ _ _)
 mul_assoc a b c:=by
  refine GQ.ext2 ?_ ?_
  · show (gmul (gmul a b) c).re=(gmul a (gmul b c)).re; simp only [gmul]; grind
  · show (gmul (gmul a b) c).im=(gmul a (gmul b c)).im; simp only [gmul]; grind
 mul_one a:=by
  refine GQ.ext2 ?_ ?_
  · show a.re*((1:Nat):Int)-a.im*0=a.re; grind
  · show a.re*0+a.im*((1:Nat):Int)=a.im; grind
 left_distrib a b c:=by
  refine GQ.ext2 ?_ ?_
  · show (gmul a (gadd b c)).re=(gadd (gmul a b) (gmul a c)).re; simp only [gmul,gadd]; grind
  · show (gmul a (gadd b c)).im=(gadd (gmul a b) (gmul a c)).im; simp only [gmul,gadd]; grind
 zero_mul a:=by
  refine GQ.ext2 ?_ ?_
  · show ((0:Nat):Int)*a.re-0*a.im=((0:Nat):Int); grind
  · show ((0:Nat):Int)*a.im+0*a.re=0; grind
 mul_comm a b:=by
  refine GQ.ext2 ?_ ?_
  · show (gmul a b).re=(gmul b a).re; simp only [gmul]; grind
  · show (gmul a b).im=(gmul b a).im; simp only [gmul]; grind
 one_mul a:=by
  refine GQ.ext2 ?_ ?_
  · show ((1:Nat):Int)*a.re-0*a.im=a.re; grind
  · show ((1:Nat):Int)*a.im+0*a.re=a.im; grind
 right_distrib a b c:=by
  refine GQ.ext2 ?_ ?_
  · show (gmul (gadd a b) c).re=(gadd (gmul a c) (gmul b c)).re; simp only [gmul,gadd]; grind
  · show (gmul (gadd a b) c).im=(gadd (gmul a c) (gmul b c)).im; simp only [gmul,gadd]; grind
 mul_zero a:=by
  refine GQ.ext2 ?_ ?_
  · show a.re*((0:Nat):Int)-a.im*0=((0:Nat):Int); grind
  · show a.re*0+a.im*((0:Nat):Int)=0; grind
 pow_zero a:=rfl
 pow_succ a n:=rfl
 ofNat_succ n:=by
  refine GQ.ext2 ?_ ?_
  · show (((n+1:Nat):Int):Rat)=((n:Int):Rat)+((1:Nat):Int); simp [Rat.intCast_add]
  · show (0:Rat)=0+0; rw [Rat.add_zero]
 neg_add_cancel a:=by
  refine GQ.ext2 ?_ ?_
  · show -a.re+a.re=((0:Nat):Int); grind
  · show -a.im+a.im=0; grind
 sub_eq_add_neg a b:=GQ.ext2 (Rat.sub_eq_add_neg _ _) (Rat.sub_eq_add_neg _ _)
 neg_zsmul i a:=by
  refine GQ.ext2 ?_ ?_
  · show ((-i:Int):Rat)*a.re-0*a.im = -((i:Rat)*a.re-0*a.im); rw [Rat.intCast_neg]; grind
  · show ((-i:Int):Rat)*a.im+0*a.re = -((i:Rat)*a.im+0*a.re); rw [Rat.intCast_neg]; grind
 intCast_neg i:=by
  refine GQ.ext2 ?_ ?_
  · show ((-i:Int):Rat) = -(i:Rat); exact Rat.intCast_neg i
  · show (0:Rat) = -0; rfl
theorem g0_def:g0=0:=GQ.ext2 rfl rfl
def IZ (k n:Nat) (z:GQ):Prop:=∃ u v w:Int,w≠0∧u.natAbs<256^k∧v.natAbs<256^k∧w.natAbs<256^n∧z.re*w=u∧z.im*w=v
theorem pow_mono {i j:Nat} (h:i≤j):256^i≤256^j:=Nat.pow_le_pow_right (by decide) h
theorem IZ.mono {i j k n:Nat} {z:GQ} (h:IZ i j z) (hk:i≤k) (hn:j≤n):IZ k n z:=by
 obtain ⟨u,v,w,h0,h1,h2,h3,h4,h5⟩:=h
 exact ⟨u,v,w,h0,Nat.lt_of_lt_of_le h1 (pow_mono hk),Nat.lt_of_lt_of_le h2 (pow_mono hk),Nat.lt_of_lt_of_le h3 (pow_mono hn),h4,h5⟩
theorem mul_lt {a b:Int} {i j:Nat} (h:a.natAbs<256^i) (k:b.natAbs<256^j):(a*b).natAbs<256^(i+j):=by
 rw [Int.natAbs_mul,Nat.pow_add]
 exact Nat.mul_lt_mul'' h k
theorem add_lt {a b:Int} {i:Nat} (h:a.natAbs<256^i) (k:b.natAbs<256^i):(a+b).natAbs<256^(i+1):=by
 have:=Int.natAbs_add_le a b
 rw [Nat.pow_succ]
 omega
theorem sub_lt {a b:Int} {i:Nat} (h:a.natAbs<256^i) (k:b.natAbs<256^i):(a-b).natAbs<256^(i+1):=by
 have:=Int.natAbs_sub_le a b
 rw [Nat.pow_succ]
 omega
theorem cst_mul (a b:Int):((a*b:Int):Rat)=(a:Rat)*b:=Rat.intCast_mul a b
theorem cst_add (a b:Int):((a+b:Int):Rat)=(a:Rat)+b:=Rat.intCast_add a b
theorem cst_sub (a b:Int):((a-b:Int):Rat)=(a:Rat)-b:=Rat.intCast_sub a b
theorem IZ.mul {i j k l:Nat} {z w:GQ} (h:IZ i j z) (k':IZ k l w):IZ (i+k+1) (j+l) (gmul z w):=by
 obtain ⟨u,v,x,h0,h1,h2,h3,h4,h5⟩:=h
 obtain ⟨u',v',x',k0,k1,k2,k3,k4,k5⟩:=k'
 refine ⟨u*u'-v*v',u*v'+v*u',x*x',Int.mul_ne_zero h0 k0,sub_lt (mul_lt h1 k1) (mul_lt h2 k2),add_lt (mul_lt h1 k2) (mul_lt h2 k1),mul_lt h3 k3,?_,?_⟩
 · simp only [gmul,cst_mul,cst_sub,← h4,← h5,← k4,← k5]; grind
 · simp only [gmul,cst_mul,cst_add,← h4,← h5,← k4,← k5]; grind
theorem sz_over {x:Rat} {u w:Int} {k n:Nat} (h0:w≠0) (hu:u.natAbs<256^k) (hw:w.natAbs<256^n) (h:x*w=u) (hn:1≤k):Sz (max k n) x:=by
 have hw0:(w:Rat)≠0:=fun e=>h0 (by exact_mod_cast e)
 have hx:x=Rat.divInt u w:=by
  rw [Rat.divInt_eq_div,← h]
  grind
 rw [hx]
 exact (sz_divInt (k:=max k n) h0 (sz_le.2 (Nat.lt_of_lt_of_le hu (pow_mono (Nat.le_max_left ..)))) (sz_le.2 (Nat.lt_of_lt_of_le hw (pow_mono (Nat.le_max_right ..)))))
theorem IZ.div {i j k l m:Nat} {z w:GQ} (h:IZ i j z) (k':IZ k l w) (w0:w≠0) (hm:2*k+1≤m):IZ (i+k+1+l) (j+m) (gdiv z w):=by
 obtain ⟨u,v,x,h0,h1,h2,h3,h4,h5⟩:=h
 obtain ⟨u',v',x',k0,k1,k2,k3,k4,k5⟩:=k'
 have x0:(x':Rat)≠0:=fun e=>k0 (by exact_mod_cast e)
 have n0:gnorm w≠0:=fun e=>w0 ((gnorm_zero e).trans g0_def)
 have nn:((u'*u'+v'*v':Int):Rat)=gnorm w*(x'*x'):=by
  simp only [gnorm,cst_mul,cst_add,← k4,← k5]; grind
 have d0:u'*u'+v'*v'≠0:=by
  intro e
  rw [e] at nn
  have:gnorm w*((x':Rat)*x')=0:=nn.symm
  rcases Rat.mul_eq_zero.1 this with h | h
  · exact n0 h
  · rcases Rat.mul_eq_zero.1 h with h | h<;>exact x0 h
 have iv:(gnorm w)⁻¹*gnorm w=1:=Rat.inv_mul_cancel _ n0
 have dl:(u'*u'+v'*v').natAbs<256^m :=
  Nat.lt_of_lt_of_le (add_lt (mul_lt k1 k1) (mul_lt k2 k2)) (pow_mono (by omega))
 refine ⟨(u*u'+v*v')*x',(v*u'-u*v')*x',x*(u'*u'+v'*v'),Int.mul_ne_zero h0 d0,mul_lt (add_lt (mul_lt h1 k1) (mul_lt h2 k2)) k3,mul_lt (sub_lt (mul_lt h2 k1) (mul_lt h1 k2)) k3,mul_lt h3 dl,?_,?_⟩
 · rw [cst_mul x,nn]
   simp only [gdiv,gscale,gmul,gconj,cst_mul,cst_add,← h4,← h5,← k4,← k5]
   grind
 · rw [cst_mul x,nn]
   simp only [gdiv,gscale,gmul,gconj,cst_mul,cst_sub,← h4,← h5,← k4,← k5]
   grind
theorem IZ.of_sz {k:Nat} {z:GQ} (h:Sz k z.re) (h':Sz k z.im):IZ (k+k) (k+k) z:=by
 have dz:∀ x:Rat,(x.den:Int)≠0:=fun x e=>x.den_nz (by exact_mod_cast e)
 have nd:∀ x:Rat,x*((x.den:Int):Rat)=((x.num:Int):Rat):=fun x=>by
  have e:Rat.divInt x.num x.den=x:=Rat.mkRat_self x
  rw [Rat.divInt_eq_div] at e
  have hd:(((x.den:Nat):Int):Rat)≠0:=by exact_mod_cast x.den_nz
  generalize (((x.den:Nat):Int):Rat)=d at *
  generalize ((x.num:Int):Rat)=n at *
  rw [← e]
  grind
 refine ⟨z.re.num*z.im.den,z.im.num*z.re.den,z.re.den*z.im.den,Int.mul_ne_zero (dz _) (dz _),mul_lt (sz_le.1 h.1) (sz_le.1 h'.2),mul_lt (sz_le.1 h'.1) (sz_le.1 h.2),mul_lt (sz_le.1 h.2) (sz_le.1 h'.2),?_,?_⟩
 · simp only [cst_mul,← nd z.re]; grind
 · simp only [cst_mul,← nd z.im]; grind
end Go.Proofs.YtmfedaakeeiolaaGreat
end
