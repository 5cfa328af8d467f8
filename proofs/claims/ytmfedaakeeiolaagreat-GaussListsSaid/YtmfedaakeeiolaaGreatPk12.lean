/- LsA, MayP, Rs4, Pts, Alg, Rs7, Sm4, LsB, EyD, EyE, Rs10, Nrm, Rs8, MoC, LsN, LsR, EqM, MkA, LsO, CkN, LsM, Row. -/
import Derived.Deep.MidRow
import Derived.Deep.Upon
import Derived.Test.YtmfedaakeeiolaaGreatPk11
set_option linter.unnecessarySimpa false
set_option linter.unusedVariables false
set_option linter.unusedSimpArgs false
section
namespace Go.Proofs.YtmfedaakeeiolaaGreat.Y
open Go Go.RowKit
set_option maxRecDepth 100000
def RwD (sz n:Nat) (L:Nat→List Lf) (w:World) (g:Pl):Prop :=
 (n=0∧∀ c,¬ g.F c)∨(0<n∧∃ b o cs t fr,(∀ m,g.v m=some ⟨b,o+m,none⟩)∧(∀ c,g.F c↔c=b)∧w.heap[b]?=some (.cells cs t fr)∧∀ j,j<n→w.rangeAt b (o+j*sz) ((L j).map (Lf.den idE)))
theorem RwD.heap {sz n:Nat} {L:Nat→List Lf} {w w':World} {g:Pl} (h:RwD sz n L w g) (k:∀ b,g.F b→w'.heap[b]?=w.heap[b]?):RwD sz n L w' g:=by
 rcases h with h | ⟨h0,b,o,cs,t,fr,h1,h2,h3,h4⟩
 · exact .inl h
 · have e:=k b ((h2 b).2 rfl)
   refine .inr ⟨h0,b,o,cs,t,fr,h1,h2,by rw [e]; exact h3,fun j hj i v hv=>?_⟩
   have:=h4 j hj i v hv
   rw [cell_of_row _ _ _ _ _ _ h3] at this
   rw [cell_of_row _ _ _ _ _ _ (by rw [e]; exact h3)]
   exact this
theorem RwD.lt {sz n:Nat} {L:Nat→List Lf} {w:World} {g:Pl} (h:RwD sz n L w g) (c:Nat) (hc:g.F c):c<w.heap.size:=by
 rcases h with h | ⟨h0,b,o,cs,t,fr,h1,h2,h3,h4⟩
 · exact absurd hc (h.2 c)
 · rw [(h2 c).1 hc]
   exact heap_some_lt h3
theorem lsRw_stable (sz n:Nat) (L:Nat→List Lf):Stable (RwD sz n L) :=
 ⟨fun w g h c hc=>h.lt c hc,fun w w' g h k=>h.heap fun b hb=>k.block b (h.lt b hb),
  fun w w' g b o m s h hs ht hF=>h.heap fun c hc=>ht.block c (h.lt c hc) (fun e=>hF (e▸hc))⟩
def rwT (sz n:Nat) (L:Nat→List Lf):Thing:=thing (RwD sz n L) (lsRw_stable sz n L)
def lsYOf:SV→Nat
 | .one (.c (.b (.y k _ _)))=>k
 | _=>0
def lsZOf:SV→Nat
 | .one (.c (.b (.z k _)))=>k
 | _=>0
theorem ls_ix {T:TypeId} (hu:Tryz.prog.underlying T=some (.slice (Tryz.prog.elem T))) {sz:Nat} (hs:(Tryz.prog.info? (Tryz.prog.elem T)).map (·.size)=some sz) {n N j:Nat} {L:Nat→List Lf} (hj:j<n) (hN:n≤N) (k:Nat) (x y:Operand) (β:Env) (w:World) (h:holdsAll β w [(k,(rwT sz N L).ob)]) (ρ:Operand→Value) (o:Oper) (ho:o.op=.indexAddr T x y)
  (hx:(Op.indexAddr T x y).operands.toList.map ρ=[.slice ((β k).v 0) n ((β k).c 0),.int .i64 (j:Int)]):∃ ys w',fresh β w [(k,(rwT sz N L).ob)] ys∧(execOp ρ o).run Tryz.prog w=.ok (.value ((SV.one (.c (.b (.z k (j*sz))))).den (extE β 0 ys))) w'∧newHold w' [] ys∧Below w.heap.size w w':=by
 have h1:RwD sz N L w (β k):=h _ (List.mem_singleton.2 rfl)
 have h3:ρ x=.slice ((β k).v 0) n ((β k).c 0)∧ρ y=.int .i64 (j:Int):=by simpa [Op.operands] using hx
 rcases h1 with h1 | ⟨h0,b,of,cs,t,fr,h1,h2,h4,h5⟩
 · omega
 refine ⟨[],w,(fun _ h=>by cases h),?_,trivial,Below.refl _ _⟩
 unfold execOp
 rw [ho]
 dsimp only
 rw [h3.1,h3.2,h1 0]
 have e:((SV.one (.c (.b (.z k (j*sz))))).den (extE β 0 []))=.pointer (some ⟨b,of+j*sz,none⟩):=by
  show Value.pointer ((β k).v (j*sz))=_
  rw [h1]
 rw [e]
 have hz:((sizeOf (Tryz.prog.elem T)).run Tryz.prog w)=.ok sz w:=by
  cases hq:Tryz.prog.info? (Tryz.prog.elem T) with
  | none=>simp [hq] at hs
  | some i =>
   have hs:i.size=sz:=by simpa [hq] using hs
   simp [sizeOf,typeInfo,hq,hs]
 have h6:=run_indexAt_slice (P:=Tryz.prog) (w:=w) T ⟨b,of,none⟩ n ((β k).c 0) .i64 (j:Int) hu
 rw [if_pos ⟨by omega,by omega⟩,hz] at h6
 simp only [Result.andThen_ok,Int.toNat_natCast,Addr.add_mid] at h6
 simp [go_sem,Nat.add_zero,h6]
def eIx {T:TypeId} (hu:Tryz.prog.underlying T=some (.slice (Tryz.prog.elem T))) {sz:Nat} (hs:(Tryz.prog.info? (Tryz.prog.elem T)).map (·.size)=some sz) {n N j:Nat} (L:Nat→List Lf) (hj:j<n) (hN:n≤N):Ev Tryz.prog:=.dyn (fun o _ _=>match o.op with
 | .indexAddr t _ _=>Nat.beq t T
 | _=>false) fun o xs _=>match o.op with
 | .indexAddr _ x y=>lit (lsYOf (xs.getD 0 undefS)) fun k=>.rd (o.dst.getD 0) (.indexAddr T x y) (fun β=>[.slice ((β k).v 0) n ((β k).c 0),.int .i64 (j:Int)]) [(k,(rwT sz N L).ob)] 0 (.one (.c (.b (.z k (j*sz))))) [] (fun β w h ρ o ho hx=>ls_ix hu hs hj hN k x y β w h ρ o ho hx)
 | _=>.cut
theorem ls_ld {T:TypeId} {d:TypeDesc} (hu:Tryz.prog.underlying T=some d) (hd:d.isRow=true) {sz:Nat} {n j:Nat} {L:Nat→List Lf} (hs:(Tryz.prog.info? T).map (·.size)=some (L j).length) (hL:∀ β,(L j).map (Lf.den β)=(L j).map (Lf.den idE)) (hj:j<n) (k:Nat) (x:Operand) (β:Env) (w:World) (h:holdsAll β w [(k,(rwT sz n L).ob)]) (ρ:Operand→Value) (o:Oper) (ho:o.op=.load T x)
  (hx:(Op.load T x).operands.toList.map ρ=[.pointer ((β k).v (j*sz))]):∃ ys w',fresh β w [(k,(rwT sz n L).ob)] ys∧(execOp ρ o).run Tryz.prog w=.ok (.value ((SV.one (.a (L j))).den (extE β 0 ys))) w'∧newHold w' [] ys∧Below w.heap.size w w':=by
 have h1:RwD sz n L w (β k):=h _ (List.mem_singleton.2 rfl)
 have h3:ρ x=.pointer ((β k).v (j*sz)):=by simpa [Op.operands] using hx
 rcases h1 with h1 | ⟨h0,b,of,cs,t,fr,h1,h2,h4,h5⟩
 · omega
 refine ⟨[],w,(fun _ h=>by cases h),?_,trivial,Below.refl _ _⟩
 unfold execOp
 rw [ho]
 dsimp only
 rw [h3,h1]
 have h6:=run_loadAt_mid (P:=Tryz.prog) w b (of+j*sz) T ((L j).map (Lf.den idE)) d (h5 j hj) hu hd (by rw [List.length_map]; exact hs)
 have e:((SV.one (.a (L j))).den (extE β 0 []))=.agg ((L j).map (Lf.den idE)).toArray:=by
  show Value.agg ((L j).map (Lf.den (extE β 0 []))).toArray=_
  rw [hL]
 rw [e]
 simp only [Sem.run_bind,h6,Result.andThen_ok]
 rfl
def eLd {T:TypeId} {d:TypeDesc} (hu:Tryz.prog.underlying T=some d) (hd:d.isRow=true) (sz:Nat) {n j:Nat} {L:Nat→List Lf} (hs:(Tryz.prog.info? T).map (·.size)=some (L j).length) (hL:∀ β,(L j).map (Lf.den β)=(L j).map (Lf.den idE)) (hj:j<n):Ev Tryz.prog:=.dyn (fun o xs _=>match o.op with
 | .load t _=>Nat.beq t T
 | _=>false) fun o xs _=>match o.op with
 | .load _ x=>lit (lsZOf (xs.getD 0 undefS)) fun k=>.rd (o.dst.getD 0) (.load T x) (fun β=>[.pointer ((β k).v (j*sz))]) [(k,(rwT sz n L).ob)] 0 (.one (.a (L j))) [] (fun β w h ρ o ho hx=>ls_ld hu hd hs hL hj k x β w h ρ o ho hx)
 | _=>.cut
end Go.Proofs.YtmfedaakeeiolaaGreat.Y
end
section
namespace Go.Proofs.YtmfedaakeeiolaaGreat
open Go.Proofs.YtmfedaakeeiolaaGreat.Y
open Go Go.RowKit
set_option maxRecDepth 100000
def Fp.mayE:Fp→Ev Tryz.prog
 | .ok x h=>eMayF x h
 | .no b c s t h hs ht=>eMay b c s t hs ht false ⟨fun e=>Bool.noConfusion e,fun e=>absurd e h⟩
def gMayE (a b:Fp):List (Ev Tryz.prog):=match a with
 | .ok ..=>[a.mayE,b.mayE]
 | .no ..=>[a.mayE]
def sGMay (a b:Fp):Y.Spec Tryz.prog :=
 Y.Spec.auto Tryz.call231 [.one (.a (a.C++b.C))] [] (.one (.c (.b (.v (.bool (a.B&&b.B)))))) []
  (gMayE a b) [] 400 Tryz.func231 hmA (by cases a<;>cases b<;>kernel_rfl) (fun β=>by cases a<;>cases b<;>kernel_rfl)
theorem Sz.le {i k:Nat} {x:Rat} (h:Sz i x) (hk:Nat.ble i k=true:=by decide):Sz k x:=h.mono (Nat.le_of_ble_eq_true hk)
abbrev svG (z:GQ):SV:=.one (.a (gC z))
section
variable {z w:GQ} {x:Rat}
def sR4Plus (hz:GSz KE z) (hw:GSz KE w):Y.Spec Tryz.prog:=Y.Spec.auto Tryz.call53 [svG z,svG w] [] (svG (gadd z w)) [] [(sR3Plus hz.1.le hw.1.le).e,(sR3Plus hz.2.le hw.2.le).e] [(1,11)] 400 Tryz.func53 hmA (by kernel_rfl) (fun β=>by kernel_rfl)
def sR4Times (hz:GSz KE z) (hw:GSz KE w):Y.Spec Tryz.prog:=Y.Spec.auto Tryz.call54 [svG z,svG w] [] (svG (gmul z w)) []
 [(sR3Times hz.1.le hw.1.le).e,(sR3Times hz.2.le hw.2.le).e,(sR3Minus (hz.1.mul hw.1).le (hz.2.mul hw.2).le).e,(sR3Times hz.1.le hw.2.le).e,(sR3Times hz.2.le hw.1.le).e,(sR3Plus (hz.1.mul hw.2).le (hz.2.mul hw.1).le).e] [(1,12),(2,12)] 400 Tryz.func54 hmA (by kernel_rfl) (fun β=>by kernel_rfl)
end
def sR4Int (n m:Int) (hn : -9223372036854775808≤n∧n≤9223372036854775807:=by decide) (hm : -9223372036854775808≤m∧m≤9223372036854775807:=by decide):Y.Spec Tryz.prog :=
 Y.Spec.auto Tryz.call50 [.one (.c (.b (.v (.int .i64 n)))),.one (.c (.b (.v (.int .i64 m))))] [] (svG (gint n m)) [] [(sR3Int n hn).e,(sR3Int m hm).e] [] 400 Tryz.func50 hmA (by kernel_rfl) (fun β=>by kernel_rfl)
def sR4Fits (z:GQ) {b:Bool} (hb:b=true↔FitG z):Y.Spec Tryz.prog :=
 ⟨190,Tryz.call190,[svG z],[],.one (.c (.b (.v (.bool b)))),[],fun β w hh=>by
  by_cases h1:Fit z.re
  · have h2:b=true↔Fit z.im:=hb.trans ⟨fun h=>h.2,fun h=>⟨h1,h⟩⟩
    cases b<;>exact spec_auto (evs:=[eFFit (iff_true_of h1),eFFit h2]) (Ns:=[]) (m:=400) Tryz.func190 hmA (fun β=>by kernel_rfl) (by kernel_rfl) β w hh
  · obtain rfl:=eq_false_of hb fun h=>h1 h.1
    exact spec_auto (evs:=[eFFit (iff_false_of h1)]) (Ns:=[]) (m:=400) Tryz.func190 hmA (fun β=>by kernel_rfl) (by kernel_rfl) β w hh,by kernel_rfl⟩
def Fp.may3:Fp→Y.Spec Tryz.prog
 | .ok x h=>sR3May _ _ _ _ true (iff_true_of (fitF x h))
 | .no b c s t h hs ht=>sR3May b c s t false (iff_false_of h)
def may4E (a b:Fp):List (Ev Tryz.prog):=match a with
 | .ok ..=>[a.may3.e,b.may3.e]
 | .no ..=>[a.may3.e]
def sR4May (a b:Fp):Y.Spec Tryz.prog :=
 Y.Spec.auto Tryz.call45 [.one (.a (a.C++b.C))] [] (.one (.c (.b (.v (.bool (a.B&&b.B)))))) [] (may4E a b) [] 400 Tryz.func45 hmA (by cases a<;>cases b<;>kernel_rfl) (fun β=>by cases a<;>cases b<;>kernel_rfl)
def Fp.raw:Fp→R4
 | .ok x _=>⟨decide (x.num<0),mag x.num.natAbs,false,mag x.den⟩
 | .no b c s t _ _ _=>⟨b,s,c,t⟩
def Pp.rI:Pp→Bool
 | .fin ..=>false
 | _=>true
def Pp.rX:Pp→R4
 | .inf=>r40
 | .fin a _=>a.raw
 | .odd x _ _=>x
def Pp.rY:Pp→R4
 | .inf=>r40
 | .fin _ b=>b.raw
 | .odd _ y _=>y
def Y.Spec.as {P:Program} (S:Y.Spec P) (args:List SV) (res:SV) (ha:S.args=args) (hr:S.res=res):Y.Spec P :=
 ⟨S.f,S.en,args,S.obs,res,S.news,fun β w hh=>by subst ha; subst hr; exact S.ok β w hh,by subst ha; subst hr; exact S.closed⟩
def fR (x:Rat):R4:=⟨decide (x.num<0),mag x.num.natAbs,false,mag x.den⟩
def Pt.i:Pt→Bool
 | .inf=>true
 | .fin _=>false
def Pt.x:Pt→R4
 | .inf=>r40
 | .fin z=>fR z.re
def Pt.y:Pt→R4
 | .inf=>r40
 | .fin z=>fR z.im
def FitP:Pt→Prop
 | .inf=>True
 | .fin z=>FitG z
structure Rw where
 i:Bool
 x:R4
 y:R4
def Pt.w (p:Pt):Rw:=⟨p.i,p.x,p.y⟩
def Pp.w (p:Pp):Rw:=⟨p.rI,p.rX,p.rY⟩
theorem fp_of (x:R4) (h1:x.s.size≤maxLen) (h2:x.t.size≤maxLen):∃ a:Fp,a.raw=x:=by
 obtain ⟨b,s,c,t⟩:=x
 rcases fp_all b c s t with ⟨q,h,rfl,rfl,rfl,rfl⟩ | h
 · exact ⟨.ok q h,rfl⟩
 · exact ⟨.no b c s t h h1 h2,rfl⟩
theorem gz_true {z:GQ}:gzero z=true↔z=g0:=by
 rw [gzero_iff]
 exact ⟨fun h=>GQ.ext2 h.1 h.2,fun h=>by rw [h]; exact ⟨rfl,rfl⟩⟩
theorem gz_false {z:GQ}:gzero z=false↔z≠g0:=by
 cases h:gzero z with
 | true=>exact ⟨fun e=>Bool.noConfusion e,fun e=>absurd (gz_true.1 h) e⟩
 | false=>exact ⟨fun _ e=>by rw [gz_true.2 e] at h; exact Bool.noConfusion h,fun _=>rfl⟩
theorem gnorm_mul (z w:GQ):gnorm (gmul z w)=gnorm z*gnorm w:=by
 simp only [gnorm,gmul]; grind
theorem gnorm_zero {z:GQ} (h:gnorm z=0):z=g0:=by
 cases h1:gzero z with
 | true=>exact gz_true.1 h1
 | false=>exact absurd h (gnorm_ne h1)
theorem gmul_zero {z w:GQ} (h:gmul z w=g0):z=g0∨w=g0:=by
 have h1:gnorm z*gnorm w=0:=by rw [← gnorm_mul,h]; simp only [gnorm,g0]; grind
 rcases Rat.mul_eq_zero.1 h1 with h | h
 · exact .inl (gnorm_zero h)
 · exact .inr (gnorm_zero h)
theorem gmul_ne {z w:GQ} (h:z≠g0) (k:w≠g0):gmul z w≠g0:=fun e=>(gmul_zero e).elim h k
theorem gnorm_inv {w:GQ} (h:w≠g0):gnorm w*(gnorm w)⁻¹=1:=Rat.mul_inv_cancel _ (gnorm_ne (gz_false.2 h))
theorem gdiv_mul {z w:GQ} (h:w≠g0):gmul (gdiv z w) w=z:=by
 have hn:=gnorm_inv h
 unfold gdiv
 generalize hi:(gnorm w)⁻¹=i at hn
 unfold gnorm at hn
 refine GQ.ext2 ?_ ?_
 · simp only [gmul,gscale,gconj]; grind
 · simp only [gmul,gscale,gconj]; grind
theorem gneg_ne {z:GQ} (h:z≠g0):gneg z≠g0:=fun e=>h (by
 have e1:=congrArg GQ.re e
 have e2:=congrArg GQ.im e
 simp only [gneg,g0] at e1 e2
 exact GQ.ext2 (by show z.re=0; grind) (by show z.im=0; grind))
def Reg (m:MQ):Prop:=mdet m≠g0
theorem Reg.by_ {m:MQ} (h:Reg m) {b:Bool} (hb:gzero m.c=b):(bif b then m.d else m.c)≠g0:=by
 cases b
 · exact gz_false.1 hb
 · intro e
   refine h ?_
   have hc:=gz_true.1 hb
   unfold mdet
   rw [hc,show m.d=g0 from e]
   refine GQ.ext2 ?_ ?_<;>(simp only [gsub,gmul,g0]; grind)
theorem det_norm {m:MQ} {b:Bool} {u:GQ} (hu:(bif b then m.d else m.c)=u) (h:u≠g0):gmul (gmul (mdet (mnormB m b)) u) u=mdet m:=by
 unfold mnormB
 rw [hu]
 have ha:=gdiv_mul (z:=m.a) h
 have hb:=gdiv_mul (z:=m.b) h
 have hc:=gdiv_mul (z:=m.c) h
 have hd:=gdiv_mul (z:=m.d) h
 unfold mdet
 show gmul (gmul (gsub (gmul (gdiv m.a u) (gdiv m.d u)) (gmul (gdiv m.b u) (gdiv m.c u))) u) u=_
 rw [← ha,← hb,← hc,← hd]
 rw [ha,hb,hc,hd]
 generalize gdiv m.a u=a' at *
 generalize gdiv m.b u=b' at *
 generalize gdiv m.c u=c' at *
 generalize gdiv m.d u=d' at *
 rw [← ha,← hb,← hc,← hd]
 refine GQ.ext2 ?_ ?_<;>(simp only [gsub,gmul]; grind)
theorem Reg.norm {m:MQ} (h:Reg m) {b:Bool} (hu:(bif b then m.d else m.c)≠g0):Reg (mnormB m b):=fun e=>h (by
 rw [← det_norm rfl hu,e]
 refine GQ.ext2 ?_ ?_<;>(simp only [gmul,g0]; grind))
theorem Reg.undo0 {m:MQ} (h:Reg m):Reg (mundo0 m):=fun e=>h (by
 have e1:=congrArg GQ.re e
 have e2:=congrArg GQ.im e
 simp only [mdet,mundo0,gsub,gmul,gneg,g0] at e1 e2
 refine GQ.ext2 ?_ ?_<;>(simp only [mdet,gsub,gmul,g0]; grind))
theorem Reg.conj {m:MQ} (h:Reg m) (t:Bool):Reg (mconj m t):=by
 cases t
 · exact h
 · intro e
   refine h ?_
   have e1:=congrArg GQ.re e
   have e2:=congrArg GQ.im e
   simp only [mdet,mconj,cond_true,gsub,gmul,gconj,g0] at e1 e2
   refine GQ.ext2 ?_ ?_<;>(simp only [mdet,gsub,gmul,g0]; grind)
theorem det_beh (m n:MQ):mdet (mbeh m n)=gmul (mdet m) (mdet (mconj n m.t)):=by
 unfold mbeh mdet
 generalize mconj n m.t=n'
 refine GQ.ext2 ?_ ?_<;>(simp only [gsub,gadd,gmul]; grind)
theorem Reg.beh {m n:MQ} (h:Reg m) (k:Reg n):Reg (mbeh m n):=by
 unfold Reg
 rw [det_beh]
 exact gmul_ne h (k.conj _)
theorem gint00:gint 0 0=g0:=rfl
theorem gint10:gint 1 0=⟨1,0⟩:=rfl
theorem across_ne {p q:Pt} (h:p≠q):gacross p q≠g0:=by
 intro e
 have e1:=congrArg GQ.re e
 have e2:=congrArg GQ.im e
 cases p<;>cases q<;>simp only [gacross,byA,byB,gint00,gint10,gsub,gmul,g0] at e1 e2
 · exact h rfl
 · exact absurd e1 (by grind)
 · exact absurd e1 (by grind)
 · rename_i z w
   refine h (congrArg Pt.fin (GQ.ext2 ?_ ?_))
   · grind
   · grind
theorem Reg.chart {p q r:Pt} (h1:p≠q) (h2:q≠r) (h3:p≠r):Reg (mchart0 p q r):=by
 have k1:=across_ne h1
 have k2:=across_ne h2
 have k3:=across_ne h3
 unfold Reg
 have:mdet (mchart0 p q r)=gmul (gmul (gacross q r) (gneg (gacross p q))) (gacross p r):=by
  unfold mdet mchart0 gacross
  generalize byA p=a
  generalize byB p=b
  generalize byA q=c
  generalize byB q=d
  generalize byA r=e
  generalize byB r=f
  refine GQ.ext2 ?_ ?_<;>(simp only [gsub,gmul,gneg]; grind)
 rw [this]
 exact gmul_ne (gmul_ne k2 (gneg_ne k1)) k3
def big (k:Nat) (s:ByteArray):Bool:=decide ((k:Int)<(s.size:Int))
def smB (k:Nat) (x y:R4):Bool:=!(big k x.s||(big k x.t||(big k y.s||big k y.t)))
theorem big_lit {k:Nat} {s:ByteArray} {r:Bool} (h:big k s=r):Value.bool (decide ((k:Int)<(s.size:Int)))=.bool r:=by rw [← h]; rfl
def evBig (k:Nat) (s:ByteArray) (d:Nat) (r:Bool) (h:big k s=r):Ev Tryz.prog:=.eqv d (.bool (decide ((k:Int)<(s.size:Int)))) (.bool r) (big_lit h)
def minv0 (m:MQ):MQ:=mconj (mundo0 m) m.t
end Go.Proofs.YtmfedaakeeiolaaGreat
end
section
namespace Go.Proofs.YtmfedaakeeiolaaGreat.Y
open Go Go.RowKit
set_option maxRecDepth 100000
inductive Mw5 where
 | a
 | b
 | c
 | d
 | ok
def Mw5.at (k:Nat) (x y:R4):Mw5→Prop
 | .a=>big k x.s=true
 | .b=>big k x.s=false∧big k x.t=true
 | .c=>big k x.s=false∧big k x.t=false∧big k y.s=true
 | .d=>big k x.s=false∧big k x.t=false∧big k y.s=false∧big k y.t=true
 | .ok=>big k x.s=false∧big k x.t=false∧big k y.s=false∧big k y.t=false
def Mw5.yes:Mw5→Bool
 | .ok=>true
 | _=>false
theorem Mw5.all (k:Nat) (x y:R4):∃ t:Mw5,t.at k x y∧t.yes=smB k x y:=by
 unfold smB
 cases h1:big k x.s with
 | true=>exact ⟨.a,h1,rfl⟩
 | false=>cases h2:big k x.t with
  | true=>exact ⟨.b,⟨h1,h2⟩,rfl⟩
  | false=>cases h3:big k y.s with
   | true=>exact ⟨.c,⟨h1,h2,h3⟩,rfl⟩
   | false=>cases h4:big k y.t with
    | true=>exact ⟨.d,⟨h1,h2,h3,h4⟩,rfl⟩
    | false=>exact ⟨.ok,⟨h1,h2,h3,h4⟩,rfl⟩
def mwW (k:Nat) (x y:R4):(t:Mw5)→t.at k x y→List (Ev Tryz.prog)
 | .a,h=>[evBig k x.s 23 true h]
 | .b,h=>[evBig k x.s 23 false h.1,evBig k x.t 31 true h.2]
 | .c,h=>[evBig k x.s 23 false h.1,evBig k x.t 31 false h.2.1,evBig k y.s 40 true h.2.2]
 | .d,h=>[evBig k x.s 23 false h.1,evBig k x.t 31 false h.2.1,evBig k y.s 40 false h.2.2.1,evBig k y.t 49 true h.2.2.2]
 | .ok,h=>[evBig k x.s 23 false h.1,evBig k x.t 31 false h.2.1,evBig k y.s 40 false h.2.2.1,evBig k y.t 49 false h.2.2.2]
abbrev TGs:TypeId:=82
abbrev TG:TypeId:=37
theorem tgs_u:Tryz.prog.underlying TGs=some (.slice (Tryz.prog.elem TGs)):=by kernel_rfl
theorem tgs_s:(Tryz.prog.info? (Tryz.prog.elem TGs)).map (·.size)=some 8:=by kernel_rfl
theorem tg_d:((Tryz.prog.underlying TG).map fun d=>d.isRow)=some true:=by kernel_rfl
noncomputable def tgD:TypeDesc:=(Tryz.prog.underlying TG).getD (.slice 0)
theorem tgD_u:Tryz.prog.underlying TG=some tgD∧tgD.isRow=true:=by
 have h:=tg_d
 unfold tgD
 cases h2:Tryz.prog.underlying TG with
 | none=>rw [h2] at h; cases h
 | some d =>
  rw [h2] at h
  exact ⟨rfl,Option.some.inj h⟩
abbrev lsG (x y:Nat→R4) (j:Nat):List Lf:=(x j).L++(y j).L
noncomputable def gIx {n N j:Nat} (x y:Nat→R4) (hj:j<n) (hN:n≤N):Ev Tryz.prog:=eIx tgs_u tgs_s (lsG x y) hj hN
noncomputable def gLd {n j:Nat} (x y:Nat→R4) (hj:j<n):Ev Tryz.prog:=eLd tgD_u.1 tgD_u.2 8 (L:=lsG x y) (by kernel_rfl) (fun β=>rfl) hj
def lsAll (f:Nat→Bool) (n:Nat):Bool:=(List.range n).all f
theorem lsAll_yes {f:Nat→Bool} {n:Nat} (h:∀ i,i<n→f i=true):lsAll f n=true:=List.all_eq_true.2 fun i hi=>h i (List.mem_range.1 hi)
theorem lsAll_no {f:Nat→Bool} {n i:Nat} (hi:i<n) (h:f i=false):lsAll f n=false:=by
 rw [Bool.eq_false_iff]
 intro e
 have:=List.all_eq_true.1 e i (List.mem_range.2 hi)
 rw [h] at this
 cases this
theorem lsAll_of {f:Nat→Bool} {n:Nat} (h:lsAll f n=true) (i:Nat) (hi:i<n):f i=true:=List.all_eq_true.1 h i (List.mem_range.2 hi)
section
variable (k n:Nat) (x y:Nat→R4)
abbrev lsSlc (n:Nat):SV:=.one (.c (.b (.y 0 0 n)))
abbrev lsSmA:List SV:=[.one (.c (.b (.v (.int .i64 (k:Int))))),lsSlc n]
noncomputable abbrev smF:Func:=Tryz.f41
noncomputable abbrev smN:Nat:=sizeS smF (lsSmA k n)
abbrev smSl (j:Int):List (Nat × SV):=[(0,.one (.c (.b (.v (.int .i64 (k:Int)))))),(1,lsSlc n),(4,.one (.c (.b (.v (.bool false))))),(5,.one (.c (.b (.v (.int .i64 j)))))]
noncomputable abbrev lsSmC (j:Int) (ev:List (Ev Tryz.prog)):Cf Tryz.prog:=mkC Tryz.prog (smN k n) 1 (smSl k n j) [(rwT 8 n (lsG x y)).ob,.dead] ev
abbrev smH (β0:Env) (w:World) (b:Bool) (C:Cf Tryz.prog):Prop:=HdOk Tryz.prog 1 (smN k n) w.heap.size w β0 (bodyPost Tryz.prog smF (Said Tryz.prog smF 1 (.one (.c (.b (.v (.bool b))))) [] β0 w)) C (lpAt smF 0)
variable (β0:Env) (w:World) {j:Nat}
noncomputable def smE0 (hj:j<n):List (Ev Tryz.prog):=[.eqv 10 (.bool (decide ((j:Int)<(n:Int)))) (.bool true) (by rw [decide_eq_true (by omega)]),gIx x y hj (Nat.le_refl n),gLd x y hj]
theorem sm_step (hj:j<n) (ht:Mw5.at k (x j) (y j) .ok) {j2:Int} (hj2:IntKind.i64.wrap ((j:Int)+1)=j2) {b:Bool} (h:smH k n β0 w b (lsSmC k n x y j2 [])) :
  smH k n β0 w b (lsSmC k n x y j (smE0 n x y hj++mwW k (x j) (y j) .ok ht++[.eqv 12 (.int .i64 (IntKind.i64.wrap ((j:Int)+1))) (.int .i64 j2) (by rw [hj2]),.cut])) :=
 piece_ok (Ns:=[]) (m:=400) [] [0,0] hmA (by kernel_rfl) (fun β=>ok_of_maps (by kernel_rfl)) h
theorem sm_no (hj:j<n) {t:Mw5} (ht:Mw5.at k (x j) (y j) t) (hn:t.yes=false):smH k n β0 w false (lsSmC k n x y j (smE0 n x y hj++mwW k (x j) (y j) t ht)):=by
 cases t
 case ok=>cases hn
 all_goals exact last_ok (Ns:=[]) (m:=400) hmA (fun β=>ok_of_maps (by kernel_rfl))
theorem sm_end (hj:¬ j<n):smH k n β0 w true (lsSmC k n x y j [.eqv 10 (.bool (decide ((j:Int)<(n:Int)))) (.bool false) (by rw [decide_eq_false (by omega)])]) :=
 last_ok (Ns:=[]) (m:=400) hmA (fun β=>ok_of_maps (by kernel_rfl))
theorem sm_ev {m0 N B0:Nat} {w0:World} {β0:Env} {Q:Exit→Act→World→Prop} {u:Nat} {sl:List (Nat × SV)} {ob:List Ob} {ev ev':List (Ev Tryz.prog)} {p:Code × List Kf} (h:HdOk Tryz.prog m0 N B0 w0 β0 Q (mkC Tryz.prog N u sl ob ev) p):HdOk Tryz.prog m0 N B0 w0 β0 Q (mkC Tryz.prog N u sl ob ev') p :=
 fun β a w hβ hs=>h β a w hβ (hs.ev ev)
abbrev smOk (j:Nat):Bool:=smB k (x j) (y j)
theorem sm_loop (hn:n≤4611686018427387904):∀ (d j:Nat),j+d=n→(∀ i,i<j→smOk k x y i=true)→smH k n β0 w (lsAll (smOk k x y) n) (lsSmC k n x y j [])
 | 0,j,e,h=>by
  obtain rfl:j=n:=by omega
  rw [lsAll_yes h]
  exact sm_ev (sm_end k j x y β0 w (by omega))
 | d+1,j,e,h=>by
  obtain ⟨t,ht,et⟩:=Mw5.all k (x j) (y j)
  cases ho:smOk k x y j with
  | false =>
   rw [lsAll_no (i:=j) (by omega) ho]
   exact sm_ev (sm_no k n x y β0 w (by omega) ht (et.trans ho))
  | true =>
   have e1:t=.ok:=by
    rw [show smB k (x j) (y j)=true from ho] at et
    cases t
    case ok=>rfl
    all_goals cases et
   subst e1
   have h2:=sm_loop hn d (j+1) (by omega) (fun i hi=>by
    rcases Nat.lt_succ_iff_lt_or_eq.1 hi with h3 | rfl
    · exact h i h3
    · exact ho)
   exact sm_ev (sm_step k n x y β0 w (by omega) ht (j2:=((j+1:Nat):Int)) (by rw [IntKind.wrap_i64]; omega) h2)
theorem sm_start (b:Bool) (hh:(rwT 8 n (lsG x y)).D w (β0 0)) (h:smH k n β0 w b (lsSmC k n x y 0 [])):Calls Tryz.prog 41 ((lsSmA k n).map (SV.den β0)).toArray w (Said Tryz.prog smF 1 (.one (.c (.b (.v (.bool b))))) [] β0 w) :=
 sx_cut (P:=Tryz.prog) (lsSmA k n) [(rwT 8 n (lsG x y)).ob] [.cut] [] [] 400 (.one (.c (.b (.v (.bool b))))) [] Tryz.func41 hmA (u:=1) (sl:=smSl k n 0) (ob:=[(rwT 8 n (lsG x y)).ob,.dead]) (σ:=[0,0]) (p':=lpAt smF 0) (by kernel_rfl) (fun β=>ok_of_maps (by kernel_rfl)) (by kernel_rfl) (by kernel_rfl) β0 w (fun i o ho=>by
  cases i with
  | zero=>simp only [List.getElem?_cons_zero] at ho; obtain rfl:=Option.some.inj ho; exact hh
  | succ i=>simp at ho) h
end
noncomputable def sR4SmallL (k n:Nat) (x y:Nat→R4) (hn:n≤4611686018427387904) {b:Bool} (hb:lsAll (smOk k x y) n=b):Spec Tryz.prog :=
 ⟨41,Tryz.call41,lsSmA k n,[rwT 8 n (lsG x y)],.one (.c (.b (.v (.bool b)))),[],fun β w hh=>(sm_start k n x y β w b (hh 0 _ rfl) (by
  rw [← hb]
  exact sm_loop k n x y β w hn n 0 (by omega) (fun i hi=>absurd hi (Nat.not_lt_zero i)))).mono fun e w' h=>by
  obtain ⟨β',q,obj,_,rfl,_,_,_,g⟩:=h
  exact ⟨[],(fun _ h=>by cases h),rfl,trivial,g.bel⟩,by kernel_rfl⟩
def rL (x:R4):List Lf:=[.b (.v (.bool x.b)),.b (.v (.string x.s)),.b (.v (.bool x.c)),.b (.v (.string x.t))]
structure Fr where
 r:R4
 a:Fp
 e:fpC a=rL r
def sOfW (a b:Fr) {r:Bool} (hr:(a.a.B&&b.a.B)=r):Spec Tryz.prog :=
 ⟨213,Tryz.call213,[.one (.a (rL a.r++rL b.r))],[],.tup [nA 0,.c (.b (.v (.bool r)))],[anyT,anyT],fun β w hh=>by
  rw [← a.e,← b.e]
  refine (sOf_ok a.a b.a β w hh).mono fun e w' ⟨xs,h1,he,h2,h3⟩=>⟨xs,h1,by rw [he,hr]; rfl,?_,h3⟩
  obtain ⟨_,a,_⟩:=a
  obtain ⟨_,b,_⟩:=b
  cases a<;>cases b
  · match xs,h2 with
    | [p,q],h2=>exact ⟨an_of (pr_stable _) h2.1,an_of (pr_stable _) h2.2.1,trivial⟩
  · exact h2
  · exact h2
  · exact h2,by kernel_rfl⟩
def eqEv (t:TypeId) (xs ys:Array Value) (r:Bool) (hg:Tryz.prog.eqGuardType Tryz.prog.depth t=false) (h:∀ w,(Op.equalIn 10000 t (.agg xs) (.agg ys)).run Tryz.prog w=.ok r w):Ev Tryz.prog :=
 .dyn (fun o _ _=>match o.op with
  | .binOp .eql t' _ _ _=>Nat.beq t' t
  | .binOp .neq t' _ _ _=>Nat.beq t' t
  | _=>false) fun o _ _=>match o.op with
  | .binOp .eql _ a b u=>.gen (o.dst.getD 0) (.binOp .eql t a b u) [.agg xs,.agg ys] (.bool r) (fun ρ o w ho hx=>by
    simp only [Op.operands,List.map_cons,List.map_nil,List.cons.injEq] at hx
    exact exec_eql hg (h w) a b ρ o ho hx.1 hx.2.1)
  | .binOp .neq _ a b u=>.gen (o.dst.getD 0) (.binOp .neq t a b u) [.agg xs,.agg ys] (.bool (!r)) (fun ρ o w ho hx=>by
    simp only [Op.operands,List.map_cons,List.map_nil,List.cons.injEq] at hx
    exact exec_neq hg (h w) a b ρ o ho hx.1 hx.2.1)
  | _=>.eqv 0 undef undef rfl
def eqEvG (x y x' y':R4) (r:Bool) (h:(x.eq x'&&(y.eq y'&&true))=r):Ev Tryz.prog :=
 eqEv 37 #[.bool x.b,.string x.s,.bool x.c,.string x.t,.bool y.b,.string y.s,.bool y.c,.string y.t] #[.bool x'.b,.string x'.s,.bool x'.c,.string x'.t,.bool y'.b,.string y'.s,.bool y'.c,.string y'.t] r (by kernel_rfl) (fun w=>by rw [← h]; exact eqG 9996 ..)
def ofE {z:GQ} (h:FitG z):Ev Tryz.prog:=(sOf (.ok z.re h.1) (.ok z.im h.2)).e
end Go.Proofs.YtmfedaakeeiolaaGreat.Y
end
section
namespace Go.Proofs.YtmfedaakeeiolaaGreat
open Go.Proofs.YtmfedaakeeiolaaGreat.Y
open Go Go.RowKit
set_option maxRecDepth 100000
abbrev KQ:Nat:=250
theorem minv_reg {m:MQ} (h:Reg m):Reg (minv0 m):=h.undo0.conj _
def mnorm (m:MQ):MQ:=mnormB m (gzero m.c)
theorem Reg.mnorm {m:MQ} (h:Reg m):Reg (mnorm m):=h.norm (h.by_ rfl)
def mcha (p q r:Pt):MQ:=mnorm (mchart0 p q r)
def mid (t:Bool):MQ:=⟨gint 1 0,g0,g0,gint 1 0,t⟩
theorem Reg.id (t:Bool):Reg (mid t):=fun e=>by
 have:=congrArg GQ.re e
 simp only [mdet,mid,gint10,gsub,gmul,g0] at this
 exact absurd this (by grind)
abbrev KT:Nat:=125
abbrev P6 (p q r s u v:Pt) (k:Pt→Prop):Prop:=k p∧k q∧k r∧k s∧k u∧k v
section
variable {p q r s u v:Pt} (z:P6 p q r s u v (PSz KT)) (t:Bool)
structure Six (p q r s u v:Pt):Prop where
 a:p≠q
 b:q≠r
 c:r≠p
 d:s≠u
 e:u≠v
 f:v≠s
theorem Six.r1 (h:Six p q r s u v):Reg (mchart0 p q r):=Reg.chart h.a h.b (Ne.symm h.c)
theorem Six.r2 (h:Six p q r s u v):Reg (mchart0 s u v):=Reg.chart h.d h.e (Ne.symm h.f)
theorem Six.r3 (h:Six p q r s u v) (t:Bool):Reg (mbeh (mid t) (mcha p q r)):=(Reg.id t).beh h.r1.mnorm
theorem Six.r4 (h:Six p q r s u v):Reg (minv0 (mcha s u v)):=minv_reg h.r2.mnorm
end
end Go.Proofs.YtmfedaakeeiolaaGreat
end
section
namespace Go.Proofs.YtmfedaakeeiolaaGreat.Y
open Go Go.RowKit
set_option maxRecDepth 100000
theorem num_some:(Tryz.prog.info? 168).isSome=true:=by kernel_rfl
noncomputable def appN:AppT Tryz.prog :=
 ⟨302,168,(Tryz.prog.info? 168).get num_some,.agg #[.pointer none,.pointer none],2,16,Tryz.underlying302,(Option.some_get num_some).symm,by kernel_rfl,by kernel_rfl,by kernel_rfl,rfl,by decide,by decide⟩
structure Gp where
 a:Fr
 b:Fr
def Gp.C (g:Gp):SV:=.one (.a (rL g.a.r++rL g.b.r))
def Gp.B (g:Gp):Bool:=g.a.a.B&&g.b.a.B
abbrev tB' (t:Bool):SV:=.one (.c (.b (.v (.bool t))))
abbrev nI' (k:Int):SC:=.c (.b (.v (.int .i64 k)))
abbrev gS (z:GQ):SV:=.one (.a (lsX (gC z)))
abbrev NUM:TypeId:=168
abbrev NUMS:TypeId:=302
def nuPs (p:Nat→Nat × Nat) (i:Nat):List Value:=[.pointer (some ⟨(p i).1,0,none⟩),.pointer (some ⟨(p i).2,0,none⟩)]
def nuCs (p:Nat→Nat × Nat) (j:Nat):List Value:=(List.range j).flatMap (nuPs p)
theorem nuCs_succ (p:Nat→Nat × Nat) (j:Nat):nuCs p (j+1)=nuCs p j++nuPs p j:=by
 unfold nuCs
 rw [List.range_succ,List.flatMap_append,List.flatMap_cons,List.flatMap_nil,List.append_nil]
theorem nuCs_len (p:Nat→Nat × Nat):∀ j,(nuCs p j).length=j*2
 | 0=>rfl
 | j+1=>by
  rw [nuCs_succ,List.length_append,nuCs_len p j]
  show j*2+2=(j+1)*2
  omega
theorem nuCs_get (p:Nat→Nat × Nat) {i:Nat} {e:Nat} {v:Value} (hv:(nuPs p i)[e]?=some v):∀ j,i<j→(nuCs p j)[i*2+e]?=some v
 | 0,h=>absurd h (Nat.not_lt_zero i)
 | j+1,h=>by
  have he:e<2:=(List.getElem?_eq_some_iff.1 hv).1
  rw [nuCs_succ]
  rcases Nat.lt_succ_iff_lt_or_eq.1 h with h1 | rfl
  · rw [List.getElem?_append_left (by rw [nuCs_len]; omega)]
    exact nuCs_get p hv j h1
  · rw [List.getElem?_append_right (by rw [nuCs_len]; omega),nuCs_len,show i*2+e-i*2=e by omega]
    exact hv
theorem nuCs_congr {p p':Nat→Nat × Nat}:∀ j,(∀ i,i<j→p i=p' i)→nuCs p j=nuCs p' j
 | 0,_=>rfl
 | j+1,h=>by
  rw [nuCs_succ,nuCs_succ,nuCs_congr j fun i hi=>h i (by omega)]
  unfold nuPs
  rw [h j (by omega)]
def NuD (x:Nat→GQ) (j n:Nat) (w:World) (g:Pl):Prop :=
 g.F g.b∧(∀ c,g.F c→c<w.heap.size)∧((∀ m,g.v m=some ⟨g.b,m,none⟩)∧(0<n→∃ q,w.cell? ⟨g.b,0,none⟩=some (.pointer q)))∧∃ p:Nat→Nat × Nat,
  (∀ i,i<j→(RatAt w (p i).1 0 (x i).re∧RatAt w (p i).2 0 (x i).im)∧(g.F (p i).1∧g.F (p i).2)∧(p i).1≠g.b∧(p i).2≠g.b) ∧
  w.ownsRow 0 NUM 2 (.slice (some ⟨g.b,0,none⟩) j n) j (nuCs p j)
theorem own_heap {w w':World} {b j n:Nat} {l:List Value} (h:w.ownsRow 0 NUM 2 (.slice (some ⟨b,0,none⟩) j n) j l) (k:w'.heap[b]?=w.heap[b]?):w'.ownsRow 0 NUM 2 (.slice (some ⟨b,0,none⟩) j n) j l:=by
 obtain ⟨h1,h2⟩:=h
 refine ⟨h1,?_⟩
 rcases h2 with ⟨e,_⟩ | ⟨g,cap,cur,e,hg,hh,hc⟩
 · cases e
 · refine .inr ⟨g,cap,cur,e,hg,?_,hc⟩
   injection e with e
   injection e with e
   injection e with e
   subst e
   rw [k]
   exact hh
theorem nu_stable (x:Nat→GQ) (j n:Nat):Stable (NuD x j n):=by
 refine ⟨fun w g h c hc=>h.2.1 c hc,fun w w' g h k=>?_,fun w w' g b o m s h hs ht hF=>?_⟩
 · obtain ⟨h1,h2,h3,p,h4,h5⟩:=h
   exact ⟨h1,fun c hc=>Nat.lt_of_lt_of_le (h2 c hc) k.size,⟨h3.1,fun h0=>(h3.2 h0).imp fun q e=>by rw [World.cell?_of_block (k.block g.b (h2 _ h1))]; exact e⟩,p,fun i hi=>⟨⟨(h4 i hi).1.1.on k,(h4 i hi).1.2.on k⟩,(h4 i hi).2⟩,own_heap h5 (k.block g.b (h2 _ h1))⟩
 · obtain ⟨h1,h2,h3,p,h4,h5⟩:=h
   refine ⟨h1,fun c hc=>Nat.lt_of_lt_of_le (h2 c hc) ht.size,⟨h3.1,fun h0=>(h3.2 h0).imp fun q e=>by rw [World.cell?_of_block (ht.block g.b (h2 _ h1) fun e=>hF (e▸h1))]; exact e⟩,p,fun i hi=>⟨⟨RatAt.touchN (h4 i hi).1.1 hs ht fun e=>hF (e▸(h4 i hi).2.1.1),RatAt.touchN (h4 i hi).1.2 hs ht fun e=>hF (e▸(h4 i hi).2.1.2)⟩,(h4 i hi).2⟩,own_heap h5 (ht.block g.b (h2 _ h1) fun e=>hF (e▸h1))⟩
def nuT (x:Nat→GQ) (j n:Nat):Thing:=thing (NuD x j n) (nu_stable x j n)
def nuO (x:Nat→GQ) (j n:Nat):Ob:=.ow (nuT x j n) NUM
theorem nu_info:∃ i z,Tryz.prog.info? NUM=some i∧i.zero=some z∧i.size=2∧i.bytes=16 :=
 ⟨_,_,appN.hi,appN.hz,appN.hsize,appN.hby⟩
theorem nu_make {n:Nat} (hn:n≤1048576) (x:Nat→GQ) (a b:Operand) (β:Env) (w:World) (ρ:Operand→Value) (o:Oper) (N:Nat) (ho:o.op=.makeSlice NUMS a b) (hx:(Op.makeSlice NUMS a b).operands.toList.map ρ=[.int .i64 0,.int .i64 (n:Int)]) :
  ∃ (g:Pl) (w':World),(execOp ρ o).run Tryz.prog w=.ok (.value ((SV.one (.c (.b (.s N 0 0 n)))).den (extE β N [g]))) w'∧(nuO x 0 n).holds (extE β N [g]) w' g∧Grow β w w' none g∧owF β [] none g:=by
 have h3:ρ a=.int .i64 0∧ρ b=.int .i64 (n:Int):=by simpa [Op.operands] using hx
 obtain ⟨i,z,hi,hz,hs,hb⟩:=nu_info
 have hr:=run_make (P:=Tryz.prog) w NUMS NUM i z Tryz.underlying302 hi hz .i64 .i64 0 (n:Int) (Int.le_refl _) (by omega) (by rw [hb]; omega) (by omega)
 simp only [Int.toNat_zero,Int.toNat_natCast] at hr
 refine ⟨newPl w.heap.size,w.alloc (.cells (madeCells z.cells (n*i.size)) NUM),?_,⟨⟨rfl,by decide,_,heap_alloc_new w _⟩,rfl,fun c hc=>?_,⟨fun m=>rfl,fun h0=>?_⟩,fun _=>(0,0),fun i hi=>absurd hi (Nat.not_lt_zero i),rfl,.inr ⟨w.heap.size,n,_,rfl,Nat.zero_le _,heap_alloc_new w _,Nat.zero_le _,by simp only [maxLen]; omega,by rw [size_madeCells,hs],by simp [nuCs]⟩⟩,.inl ⟨Nat.le_refl _,(Below.refl _ w).alloc (Nat.le_refl _) _⟩,fun c hc=>.inl hc⟩
 · have e:(SV.one (.c (.b (.s N 0 0 n)))).den (extE β N [newPl w.heap.size])=.slice (some ⟨w.heap.size,0,none⟩) 0 n:=by
    have:=extE_in (β:=β) (n:=N) (xs:=[newPl w.heap.size]) (i:=0) rfl
    simp only [Nat.add_zero] at this
    simp only [SV.den,SC.den,Lf.den,Lf0.den,this]
    rfl
   rw [e]
   unfold execOp
   rw [ho]
   dsimp only
   rw [h3.1,h3.2]
   simp [go_sem,hr]
 · have hc:c=w.heap.size:=hc
   rw [hc]
   simp
 · obtain rfl:z=.agg #[.pointer none,.pointer none]:=by
    have h1:Tryz.prog.info? NUM=some appN.i:=appN.hi
    have h2:appN.i.zero=some (.agg #[.pointer none,.pointer none]):=appN.hz
    rw [hi] at h1
    have h3:=Option.some.inj h1
    rw [← h3,hz] at h2
    exact Option.some.inj h2
   refine ⟨none,?_⟩
   show (w.alloc _).cell? ⟨w.heap.size,0,none⟩=_
   rw [cell_of_row _ _ _ _ _ _ (heap_alloc_new w _),hs]
   have h2:0<n*2:=by omega
   simp [madeCells,h2,Value.cells]
def eNuMk {n:Nat} (hn:n≤1048576) (x:Nat→GQ):Ev Tryz.prog:=.dynU (fun o _ _=>match o.op,o.dst with
 | .makeSlice t _ _,some _=>Nat.beq t NUMS
 | _,_=>false) fun o _ ob=>match o.op,o.dst with
 | .makeSlice _ a b,some d=>lit ob.length fun N=>.upd (some d) (.makeSlice NUMS a b) (fun _=>[.int .i64 0,.int .i64 (n:Int)]) [] none N (nuO x 0 n) (.one (.c (.b (.s N 0 0 n)))) (fun β w _ _ ρ o ho hx=>nu_make hn x a b β w ρ o N ho hx)
 | _,_=>.cut
theorem nu_app {x:Nat→GQ} {j n:Nat} (hj:j<n) (hn:n≤1048576) (K a p q N:Nat) (s y:Operand) (β:Env) (w:World) (hh:holdsAll β w [(a,.box [.b (.z p 0),.b (.z q 0)] NUM),(p,(ratT (x j).re).ob),(q,(ratT (x j).im).ob)]) (hold:oldHolds β w (some (K,nuO x j n))) (ρ:Operand→Value) (o:Oper)
  (ho:o.op=.call ⟨.builtin .append,#[s,y],#[NUMS,NUMS]⟩) (hx:(Op.call ⟨.builtin .append,#[s,y],#[NUMS,NUMS]⟩).operands.toList.map ρ=[.slice (some ⟨(β K).b,0,none⟩) j n,.slice (some ⟨(β a).b,0,none⟩) 1 1]) :
  ∃ (g:Pl) (w':World),(execOp ρ o).run Tryz.prog w=.ok (.value ((SV.one (.c (.b (.s N 0 (j+1) n)))).den (extE β N [g]))) w'∧(nuO x (j+1) n).holds (extE β N [g]) w' g∧Grow β w w' (some (K,nuO x j n)) g∧owF β [(a,.box [.b (.z p 0),.b (.z q 0)] NUM),(p,(ratT (x j).re).ob),(q,(ratT (x j).im).ob)] (some (K,nuO x j n)) g:=by
 have ha:(Ob.box [.b (.z p 0),.b (.z q 0)] NUM).holds β w (β a):=hh (a,.box [.b (.z p 0),.b (.z q 0)] NUM) (by simp)
 have hp:PR (x j).re w (β p):=hh (p,(ratT (x j).re).ob) (by simp)
 have hq:PR (x j).im w (β q):=hh (q,(ratT (x j).im).ob) (by simp)
 obtain ⟨bp,hp1,hp2⟩:=hp
 obtain ⟨bq,hq1,hq2⟩:=hq
 obtain ⟨⟨hF,_,cur0,hcur0⟩,_,hlt,⟨hv,hc0⟩,P,hP,hown⟩:=hold
 have h3:ρ s=.slice (some ⟨(β K).b,0,none⟩) j n∧ρ y=.slice (some ⟨(β a).b,0,none⟩) 1 1:=by simpa [Op.operands,Call.operands] using hx
 obtain ⟨i,z,hi,hz,hs,hb⟩:=nu_info
 have hcell:∀ e u,([.pointer (some ⟨bp,0,none⟩),.pointer (some ⟨bq,0,none⟩)]:List Value)[e]?=some u→w.cell? ((⟨(β a).b,0,none⟩:Addr).add e)=some u:=fun e u he=>by
  rw [Addr.add_mid,Nat.zero_add,cell_of_row _ _ _ _ _ _ ha.2]
  show (([Lf.b (.z p 0),.b (.z q 0)]:List Lf).map (Lf.den β)).toArray[e]?=_
  have e1:([Lf.b (.z p 0),.b (.z q 0)]:List Lf).map (Lf.den β)=[.pointer (some ⟨bp,0,none⟩),.pointer (some ⟨bq,0,none⟩)]:=by
   show [Value.pointer ((β p).v 0),.pointer ((β q).v 0)]=_
   rw [hp1.1,hq1.1]
  rw [e1]
  simpa using he
 obtain ⟨w',hr,hown',hgr⟩:=run_append_fits (P:=Tryz.prog) w 0 NUMS o.type NUM i 2 Tryz.underlying302 hi hs (β K).b j n (nuCs P j) hown ⟨(β a).b,0,none⟩ 1 1 [.pointer (some ⟨bp,0,none⟩),.pointer (some ⟨bq,0,none⟩)] rfl hcell (fun u hu=>by
  simp at hu
  rcases hu with rfl | rfl<;>rfl) (by omega)
 have hno:∀ {b:Nat} {y:Rat},RatAt w b 0 y→b≠(β K).b:=fun {b y} h e=>by
  obtain ⟨u,hu⟩:=hc0 (by omega)
  obtain ⟨A,l,c,h0,_⟩:=h.2.1.open_
  rw [e,hu] at h0
  cases h0
 have hnp:=hno hp2
 have hnq:=hno hq2
 obtain ⟨P',hP'⟩:∃ P':Nat→Nat × Nat,P'=fun i=>if i=j then (bp,bq) else P i:=⟨_,rfl⟩
 have hPj:P' j=(bp,bq):=by rw [hP']; exact if_pos rfl
 have hPi:∀ i,i<j→P' i=P i:=fun i hi=>by rw [hP']; exact if_neg (by omega)
 have hcs:nuCs P j++[.pointer (some ⟨bp,0,none⟩),.pointer (some ⟨bq,0,none⟩)]=nuCs P' (j+1):=by
  rw [nuCs_succ,nuCs_congr j hPi]
  unfold nuPs
  rw [hPj]
 rw [hcs] at hown'
 have hlp:bp<w.heap.size:=hp2.lt
 have hlq:bq<w.heap.size:=hq2.lt
 have hblk:∀ c,c<w.heap.size→c≠(β K).b→w'.heap[c]?=w.heap[c]?:=fun c hc hne=>hgr.block c hc fun e=>hne (Option.some.inj e)
 obtain ⟨cw,hcw,hcwz⟩:∃ cur,w.heap[(β K).b]?=some (.cells cur NUM (0,0))∧cur.size=n*2:=by
  rcases hown.2 with ⟨e,_⟩ | ⟨g,cap,cur,e,_,hh,_,_,hz,_⟩
  · cases e
  · injection e with e1 e2 e3
    injection e1 with e1
    injection e1 with e1
    subst e1 e3
    exact ⟨cur,hh,hz⟩
 obtain ⟨cur,hcur,hcurz,hcurt⟩:∃ cur,w'.heap[(β K).b]?=some (.cells cur NUM (0,0))∧cur.size=n*2∧cur.toList.take ((j+1)*2)=nuCs P' (j+1):=by
  rcases hown'.2 with ⟨e,_⟩ | ⟨g,cap,cur,e,_,hh,_,_,hz,ht⟩
  · cases e
  · injection e with e1 e2 e3
    injection e1 with e1
    injection e1 with e1
    subst e1 e3
    exact ⟨cur,hh,hz,ht⟩
 have hT:Touch w w' (β K).b 0 (n*2):=⟨hgr.os,hgr.tape,hgr.output,hgr.size,fun c hc hne=>hblk c hc hne,fun cs t fr hb=>by
  rw [hcw] at hb
  injection hb with hb
  injection hb with hb1 hb2 hb3
  subst hb1 hb2 hb3
  refine ⟨cur,hcur,by rw [hcurz,hcwz],fun i hi=>?_⟩
  have hi:n*2≤i:=by omega
  rw [Array.getElem?_eq_none (by omega),Array.getElem?_eq_none (by omega)]⟩
 have hN:NW w (β K).b:=fun cs fr e=>by
  rw [hcw] at e
  injection e with e
  injection e with _ e
  exact absurd e (by decide)
 have hbel:∀ {c:Nat} {y:Rat},RatAt w c 0 y→c≠(β K).b→RatAt w' c 0 y:=fun {c y} h hne=>RatAt.touchN h hN hT hne
 have hz0:w'.cell? ⟨(β K).b,0,none⟩=some (.pointer (some ⟨(P' 0).1,0,none⟩)):=by
  rw [cell_of_row _ _ _ _ _ _ hcur]
  have h1:=nuCs_get P' (i:=0) (e:=0) rfl (j+1) (by omega)
  rw [← hcurt,List.getElem?_take_of_lt (by omega)] at h1
  rw [← Array.getElem?_toList]
  exact h1
 refine ⟨⟨(β K).b,(β K).v,(β K).c,fun c=>(β K).F c∨c=bp∨c=bq,(β K).u⟩,w',?_,⟨⟨.inl hF,by decide,_,hcur⟩,.inl hF,fun c hc=>?_,⟨hv,fun _=>⟨_,hz0⟩⟩,P',fun i hi=>?_,hown'⟩,.inr ⟨_,rfl,rfl,n*2,⟨cw,NUM,hcw,by decide,by omega⟩,hT⟩,fun c hc=>?_⟩
 · have e:(SV.one (.c (.b (.s N 0 (j+1) n)))).den (extE β N [(⟨(β K).b,(β K).v,(β K).c,fun c=>(β K).F c∨c=bp∨c=bq,(β K).u⟩:Pl)])=.slice (some ⟨(β K).b,0,none⟩) (j+1) n:=by
    have:=extE_in (β:=β) (n:=N) (xs:=[(⟨(β K).b,(β K).v,(β K).c,fun c=>(β K).F c∨c=bp∨c=bq,(β K).u⟩:Pl)]) (i:=0) rfl
    simp only [Nat.add_zero] at this
    simp only [SV.den,SC.den,Lf.den,Lf0.den,this]
   rw [e]
   exact exec_append s y NUMS ho h3.1 h3.2 hr
 · rcases hc with hc | rfl | rfl
   · exact Nat.lt_of_lt_of_le (hlt c hc) hgr.size
   · exact Nat.lt_of_lt_of_le hlp hgr.size
   · exact Nat.lt_of_lt_of_le hlq hgr.size
 · rcases Nat.lt_succ_iff_lt_or_eq.1 hi with h1 | rfl
   · rw [hPi i h1]
     obtain ⟨⟨r1,r2⟩,⟨f1,f2⟩,n1,n2⟩:=hP i h1
     exact ⟨⟨hbel r1 n1,hbel r2 n2⟩,⟨.inl f1,.inl f2⟩,n1,n2⟩
   · rw [hPj]
     exact ⟨⟨hbel hp2 hnp,hbel hq2 hnq⟩,⟨.inr (.inl rfl),.inr (.inr rfl)⟩,hnp,hnq⟩
 · rcases hc with hc | rfl | rfl
   · exact .inr (.inl ⟨_,rfl,hc⟩)
   · exact .inr (.inr ⟨(p,(ratT (x j).re).ob),by simp,rfl,(hp1.2 _).2 rfl⟩)
   · exact .inr (.inr ⟨(q,(ratT (x j).im).ob),by simp,rfl,(hq1.2 _).2 rfl⟩)
def nuK:List Ob→Nat→Nat
 | [],_=>0
 | .ow _ _::_,k=>k
 | _::r,k=>nuK r (k+1)
def nuPQ (ob:List Ob) (a:Nat):Nat × Nat:=match ob[a]? with
 | some (.box [.b (.z p _),.b (.z q _)] _)=>(p,q)
 | _=>(0,0)
def eNuApp {x:Nat→GQ} {j n:Nat} (hj:j<n) (hn:n≤1048576):Ev Tryz.prog:=.dynU (fun o _ _=>match o.op,o.dst with
 | .call ⟨.builtin .append,#[_,_],#[t,t']⟩,some _=>Nat.beq t NUMS&&Nat.beq t' NUMS
 | _,_=>false) fun o xs ob=>match o.op,o.dst with
 | .call ⟨.builtin .append,#[s,y],_⟩,some d=>lit (nuK ob 0) fun K=>lit (slOf (xs.getD 1 undefS)) fun a=>lit (nuPQ ob a).1 fun p=>lit (nuPQ ob a).2 fun q=>lit ob.length fun N =>
   .upd (some d) (.call ⟨.builtin .append,#[s,y],#[NUMS,NUMS]⟩) (fun β=>[.slice (some ⟨(β K).b,0,none⟩) j n,.slice (some ⟨(β a).b,0,none⟩) 1 1]) [(a,.box [.b (.z p 0),.b (.z q 0)] NUM),(p,(ratT (x j).re).ob),(q,(ratT (x j).im).ob)] (some (K,nuO x j n)) N (nuO x (j+1) n) (.one (.c (.b (.s N 0 (j+1) n)))) (fun β w hh hold ρ o ho hx=>nu_app hj hn K a p q N s y β w hh hold ρ o ho hx)
 | _,_=>.cut
theorem ix_s {T:TypeId} (hu:Tryz.prog.underlying T=some (.slice (Tryz.prog.elem T))) {sz:Nat} (hs:(Tryz.prog.info? (Tryz.prog.elem T)).map (·.size)=some sz) {n m j:Nat} (hj:j<n) (k:Nat) (x y:Operand) (β:Env) (w:World) (ρ:Operand→Value) (o:Oper) (ho:o.op=.indexAddr T x y)
  (hx:(Op.indexAddr T x y).operands.toList.map ρ=[.slice (some ⟨(β k).b,0,none⟩) n m,.int .i64 (j:Int)]):(execOp ρ o).run Tryz.prog w=.ok (.value (.pointer (some ⟨(β k).b,j*sz,none⟩))) w:=by
 have h3:ρ x=.slice (some ⟨(β k).b,0,none⟩) n m∧ρ y=.int .i64 (j:Int):=by simpa [Op.operands] using hx
 unfold execOp
 rw [ho]
 dsimp only
 rw [h3.1,h3.2]
 have hz:((sizeOf (Tryz.prog.elem T)).run Tryz.prog w)=.ok sz w:=by
  cases hq:Tryz.prog.info? (Tryz.prog.elem T) with
  | none=>simp [hq] at hs
  | some i =>
   have hs:i.size=sz:=by simpa [hq] using hs
   simp [sizeOf,typeInfo,hq,hs]
 have h6:=run_indexAt_slice (P:=Tryz.prog) (w:=w) T ⟨(β k).b,0,none⟩ n m .i64 (j:Int) hu
 rw [if_pos ⟨by omega,by omega⟩,hz] at h6
 simp only [Result.andThen_ok,Int.toNat_natCast,Addr.add_mid,Nat.zero_add] at h6
 simp [go_sem,h6]
def eIxS {T:TypeId} (hu:Tryz.prog.underlying T=some (.slice (Tryz.prog.elem T))) {sz:Nat} (hs:(Tryz.prog.info? (Tryz.prog.elem T)).map (·.size)=some sz) {n j:Nat} (m:Nat) (hj:j<n):Ev Tryz.prog:=.dyn (fun o _ _=>match o.op with
 | .indexAddr t _ _=>Nat.beq t T
 | _=>false) fun o xs _=>match o.op with
 | .indexAddr _ x y=>lit (slOf (xs.getD 0 undefS)) fun k=>.rd (o.dst.getD 0) (.indexAddr T x y) (fun β=>[.slice (some ⟨(β k).b,0,none⟩) n m,.int .i64 (j:Int)]) [] 0 (.one (.c (.b (.p k (j*sz))))) [] (fun β w _ ρ o ho hx=>⟨[],w,(fun _ h=>by cases h),ix_s hu hs hj k x y β w ρ o ho hx,trivial,Below.refl _ _⟩)
 | _=>.cut
theorem nus_u:Tryz.prog.underlying NUMS=some (.slice (Tryz.prog.elem NUMS)):=by kernel_rfl
theorem nus_s:(Tryz.prog.info? (Tryz.prog.elem NUMS)).map (·.size)=some 2:=by kernel_rfl
theorem nu_d:((Tryz.prog.underlying NUM).map fun d=>d.isRow)=some true:=by kernel_rfl
theorem nu_sz:(Tryz.prog.info? NUM).map (·.size)=some 2:=by kernel_rfl
theorem nu_ld {x:Nat→GQ} {j m n:Nat} (hj:j<m) (k N:Nat) (y:Operand) (β:Env) (w:World) (hh:holdsAll β w [(k,(nuT x m n).ob)]) (ρ:Operand→Value) (o:Oper) (ho:o.op=.load NUM y) (hx:(Op.load NUM y).operands.toList.map ρ=[.pointer (some ⟨(β k).b,j*2,none⟩)]) :
  ∃ ys w',fresh β w [(k,(nuT x m n).ob)] ys∧(execOp ρ o).run Tryz.prog w=.ok (.value ((SV.one (.a [.b (.z N 0),.b (.z (N+1) 0)])).den (extE β N ys))) w'∧newHold w' [ratT (x j).re,ratT (x j).im] ys∧Below w.heap.size w w':=by
 obtain ⟨hF,hlt,⟨hv,_⟩,P,hP,hown⟩:NuD x m n w (β k):=hh (k,(nuT x m n).ob) (List.mem_singleton.2 rfl)
 have h3:ρ y=.pointer (some ⟨(β k).b,j*2,none⟩):=by simpa [Op.operands] using hx
 obtain ⟨⟨r1,r2⟩,⟨f1,f2⟩,_⟩:=hP j hj
 refine ⟨[⟨(P j).1,fun _=>some ⟨(P j).1,0,none⟩,fun _=>0,fun c=>c=(P j).1,fun _=>undef⟩,⟨(P j).2,fun _=>some ⟨(P j).2,0,none⟩,fun _=>0,fun c=>c=(P j).2,fun _=>undef⟩],w,?_,?_,⟨⟨_,⟨rfl,fun c=>Iff.rfl⟩,r1⟩,⟨_,⟨rfl,fun c=>Iff.rfl⟩,r2⟩,trivial⟩,Below.refl _ _⟩
 · intro u hu c hc
   refine .inr ⟨(k,(nuT x m n).ob),List.mem_singleton.2 rfl,rfl,?_⟩
   rcases List.mem_cons.1 hu with rfl | hu
   · have hc:c=(P j).1:=hc
     rw [hc]; exact f1
   · rw [List.mem_singleton.1 hu] at hc
     have hc:c=(P j).2:=hc
     rw [hc]; exact f2
 · obtain ⟨d,hd1,hd2⟩:∃ d,Tryz.prog.underlying NUM=some d∧d.isRow=true:=by
    have h:=nu_d
    cases h2:Tryz.prog.underlying NUM with
    | none=>rw [h2] at h; cases h
    | some d=>rw [h2] at h; exact ⟨d,rfl,Option.some.inj h⟩
   have hc:w.rangeAt (β k).b (j*2) (nuPs P j):=fun e v hv=>by
    rcases hown.2 with ⟨e1,_⟩ | ⟨g,cap,cur,e1,_,hh,_,_,hz,ht⟩
    · cases e1
    · injection e1 with e1 e2 e3
      injection e1 with e1
      injection e1 with e1
      subst e1
      rw [cell_of_row _ _ _ _ _ _ hh]
      have he:e<2:=(List.getElem?_eq_some_iff.1 hv).1
      have h1:=nuCs_get P hv m hj
      rw [← ht,List.getElem?_take_of_lt (by omega)] at h1
      rw [← Array.getElem?_toList]
      exact h1
   have h6:=run_loadAt_mid (P:=Tryz.prog) w (β k).b (j*2) NUM (nuPs P j) d hc hd1 hd2 nu_sz
   have e:((SV.one (.a [.b (.z N 0),.b (.z (N+1) 0)])).den (extE β N [(⟨(P j).1,fun _=>some ⟨(P j).1,0,none⟩,fun _=>0,fun c=>c=(P j).1,fun _=>undef⟩:Pl),⟨(P j).2,fun _=>some ⟨(P j).2,0,none⟩,fun _=>0,fun c=>c=(P j).2,fun _=>undef⟩]))=.agg (nuPs P j).toArray:=by
    have e0:=extE_in (β:=β) (n:=N) (xs:=[(⟨(P j).1,fun _=>some ⟨(P j).1,0,none⟩,fun _=>0,fun c=>c=(P j).1,fun _=>undef⟩:Pl),⟨(P j).2,fun _=>some ⟨(P j).2,0,none⟩,fun _=>0,fun c=>c=(P j).2,fun _=>undef⟩]) (i:=0) rfl
    have e1:=extE_in (β:=β) (n:=N) (xs:=[(⟨(P j).1,fun _=>some ⟨(P j).1,0,none⟩,fun _=>0,fun c=>c=(P j).1,fun _=>undef⟩:Pl),⟨(P j).2,fun _=>some ⟨(P j).2,0,none⟩,fun _=>0,fun c=>c=(P j).2,fun _=>undef⟩]) (i:=1) rfl
    simp only [Nat.add_zero] at e0
    simp only [SV.den,SC.den,List.map_cons,List.map_nil,Lf.den,Lf0.den,e0,e1]
    rfl
   rw [e]
   unfold execOp
   rw [ho]
   dsimp only
   rw [h3]
   simp only [Sem.run_bind,h6,Result.andThen_ok]
   rfl
def lsPOf:SV→Nat
 | .one (.c (.b (.p k _)))=>k
 | _=>0
def eNuLd {x:Nat→GQ} {j m:Nat} (n:Nat) (hj:j<m):Ev Tryz.prog:=.dyn (fun o _ _=>match o.op with
 | .load t _=>Nat.beq t NUM
 | _=>false) fun o xs ob=>match o.op with
 | .load _ y=>lit (lsPOf (xs.getD 0 undefS)) fun k=>lit ob.length fun N=>.rd (o.dst.getD 0) (.load NUM y) (fun β=>[.pointer (some ⟨(β k).b,j*2,none⟩)]) [(k,(nuT x m n).ob)] N (.one (.a [.b (.z N 0),.b (.z (N+1) 0)])) [ratT (x j).re,ratT (x j).im] (fun β w hh ρ o ho hx=>nu_ld hj k N y β w hh ρ o ho hx)
 | _=>.cut
theorem app_core {P:Program} (A:AppT P) (w:World) (ty:TypeId) {n m:Nat} {xs news:List Value} (old:Option (Nat × Nat)) (v:Value)
  (hold:(old=none∧n=0∧xs=[]∧v=.slice none 0 0)∨∃ b c,old=some (b,c)∧v=.slice (some ⟨b,0,none⟩) n c∧w.ownsRow 0 A.e A.sz v n xs)
  (ad:Addr) (cc:Nat) (hl:news.length=m*A.sz) (hnews:∀ j u,news[j]?=some u→w.cell? (ad.add j)=some u) (h1:∀ u∈news,u.oneCell'=true) (hm:0<m) (h63:n+m≤maxLen) (hb:(n+m)*A.bytes≤140737488355328) :
  ∃ g cap w',(Builtin.append_ #[A.t,A.t] ty #[v,.slice (some ad) m cc]).run P w=.ok (.slice (some ⟨g,0,none⟩) (n+m) cap) w'∧w'.ownsRow 0 A.e A.sz (.slice (some ⟨g,0,none⟩) (n+m) cap) (n+m) (xs++news) ∧
   ((w.heap.size≤g∧Below w.heap.size w w')∨∃ c,old=some (g,c)∧∃ N,Slot w g 0 N∧Touch w w' g 0 N):=by
 have hsmall:n+m≤9223372036854775807:=by simp only [maxLen] at h63; omega
 have grown:∀ (o:Nat),o<n+m→xs.length=n*A.sz →
   (w.drew.alloc (.cells (xs.toArray++news.toArray++Builtin.zeroCells A.z.cells (grownCap w (n+m) o A.e-(n+m))) A.e)).ownsRow 0 A.e A.sz
    (.slice (some ⟨w.heap.size,0,none⟩) (n+m) (grownCap w (n+m) o A.e)) (n+m) (xs++news) ∧
   Below w.heap.size w (w.drew.alloc (.cells (xs.toArray++news.toArray++Builtin.zeroCells A.z.cells (grownCap w (n+m) o A.e-(n+m))) A.e)):=by
  intro o ho hx
  have hge:=grownCap_ge w (n+m) o A.e
  have hcm:grownCap w (n+m) o A.e≤maxLen:=grownCap_le_maxLen w (n+m) o A.e h63
  have hlen:(xs++news).length=(n+m)*A.sz:=by rw [List.length_append,hx,hl,Nat.add_mul]
  refine ⟨⟨hlen,.inr ⟨w.heap.size,_,_,rfl,Nat.zero_le _,heap_alloc_new w.drew _,hge,hcm,?_,?_⟩⟩,⟨rfl,rfl,rfl,by simp,fun k hk=>Below.heap_alloc w.drew _ k hk⟩⟩
  · simp only [Array.size_append,List.size_toArray,size_zeroCells,A.hzs,hx,hl,← Nat.add_mul]
    congr 1
    omega
  · simp only [Array.toList_append,List.append_assoc]
    rw [← List.append_assoc,← hlen]
    exact List.take_left
 rcases hold with ⟨rfl,rfl,rfl,rfl⟩ | ⟨b,c,rfl,rfl,hown⟩
 · obtain ⟨g1,g2⟩:=grown 0 (by omega) (by simp)
   refine ⟨w.heap.size,grownCap w (0+m) 0 A.e,_,?_,g1,.inl ⟨Nat.le_refl _,g2⟩⟩
   have:=run_append_nil (P:=P) w A.t ty A.e A.i A.z A.ht A.hi A.hz ad m cc news (by rw [A.hsize]; exact hl) hnews hm (by omega) (by rw [A.hby]; rw [Nat.zero_add] at hb; omega)
   simpa using this
 · have hown2:=hown
   obtain ⟨hxl,h2⟩:=hown
   rcases h2 with ⟨e,_⟩ | ⟨g,cap,cur,e,_,hh,hnc,hcm,hcs,ht⟩
   · cases e
   injection e with e1 e2 e3
   injection e1 with e1
   injection e1 with e1
   subst e1 e3
   by_cases hroom:n+m≤c
   · have hfit:n*A.i.size+news.length≤cur.size:=by rw [hl,hcs,A.hsize,← Nat.add_mul]; exact Nat.mul_le_mul_right _ hroom
     have hr:=run_append_room (P:=P) w A.t ty A.e A.i A.ht A.hi b n c cur hh ad m cc news (by rw [A.hsize]; exact hl) hnews h1 hroom hfit
     have hsize:(cur.toList.take (n*A.i.size)++news++cur.toList.drop (n*A.i.size+news.length)).toArray.size=cur.size:=by
      simp only [List.size_toArray,List.length_append,List.length_take,List.length_drop,Array.length_toList]
      omega
     refine ⟨b,c,_,hr,⟨by rw [List.length_append,hxl,hl,Nat.add_mul],.inr ⟨b,c,_,rfl,Nat.zero_le _,setRow_heap w b cur _ A.e _ hh,hroom,hcm,by rw [hsize]; exact hcs,?_⟩⟩,.inr ⟨c,rfl,cur.size,⟨cur,A.e,hh,A.he,by omega⟩,?_⟩⟩
     · rw [A.hsize,ht]
       have hlen:(xs++news).length=(n+m)*A.sz:=by rw [List.length_append,hxl,hl,Nat.add_mul]
       rw [← hlen]
       exact List.take_left
     · exact ⟨rfl,rfl,rfl,by simp,fun k hk hne=>setRow_other w _ k _ hne,fun cs2 t2 fr2 h2=>by
        rw [hh] at h2
        obtain ⟨rfl,rfl,rfl⟩:=Obj.cells.inj (Option.some.inj h2)
        refine ⟨_,setRow_heap w _ _ _ _ _ hh,hsize,fun j hj=>?_⟩
        have hj2:cur.size≤j:=by omega
        rw [Array.getElem?_eq_none (by rw [hsize]; exact hj2),Array.getElem?_eq_none hj2]⟩
   · obtain ⟨g1,g2⟩:=grown c (by omega) hxl
     refine ⟨w.heap.size,grownCap w (n+m) c A.e,_,?_,g1,.inl ⟨Nat.le_refl _,g2⟩⟩
     exact run_append_grow (P:=P) w A.t ty A.e A.i A.z A.ht A.hi A.hz ⟨b,0,none⟩ n c xs (by rw [A.hsize]; exact hxl) (fun j u hu=>by
      have hj:j<n*A.sz:=by have:=(List.getElem?_eq_some_iff.1 hu).1; omega
      have:=hown2.cellAt j hj
      rw [Addr.add_mid,Nat.zero_add,this]
      exact hu) ad m cc news (by rw [A.hsize]; exact hl) hnews (by omega) (by omega) (growslice_fits (by omega) (by rw [A.hby]; exact hb))
def rwCs (L:Nat→List Lf) (n:Nat):List Value:=(List.range n).flatMap fun j=>(L j).map (Lf.den idE)
theorem rwCs_succ (L:Nat→List Lf) (n:Nat):rwCs L (n+1)=rwCs L n++(L n).map (Lf.den idE):=by
 unfold rwCs
 rw [List.range_succ,List.flatMap_append,List.flatMap_cons,List.flatMap_nil,List.append_nil]
theorem rwCs_len {sz:Nat} {L:Nat→List Lf}:∀ n,(∀ j,j<n→(L j).length=sz)→(rwCs L n).length=n*sz
 | 0,_=>by simp [rwCs]
 | n+1,h=>by rw [rwCs_succ,List.length_append,rwCs_len n fun j hj=>h j (by omega),List.length_map,h n (by omega),Nat.add_mul,Nat.one_mul]
theorem rwCs_get {sz:Nat} {L:Nat→List Lf} {i e:Nat} {v:Value} (hv:((L i).map (Lf.den idE))[e]?=some v):∀ n,(∀ j,j<n→(L j).length=sz)→i<n→(rwCs L n)[i*sz+e]?=some v
 | 0,_,h=>absurd h (Nat.not_lt_zero i)
 | n+1,hs,h=>by
  have he:e<(L i).length:=by have:=(List.getElem?_eq_some_iff.1 hv).1; rwa [List.length_map] at this
  have hl:(rwCs L n).length=n*sz:=rwCs_len n fun j hj=>hs j (by omega)
  rw [rwCs_succ]
  rcases Nat.lt_succ_iff_lt_or_eq.1 h with h1 | rfl
  · have:i*sz+sz≤n*sz:=by rw [← Nat.succ_mul]; exact Nat.mul_le_mul_right _ h1
    rw [List.getElem?_append_left (by rw [hl]; have:=hs i (by omega); omega)]
    exact rwCs_get hv n (fun j hj=>hs j (by omega)) h1
  · rw [List.getElem?_append_right (by rw [hl]; omega),hl,show i*sz+e-i*sz=e by omega]
    exact hv
theorem rwCs_at {sz:Nat} {L:Nat→List Lf} {k:Nat} {v:Value}:∀ n,(∀ j,j<n→(L j).length=sz)→(rwCs L n)[k]?=some v→∃ i e,i<n∧k=i*sz+e∧((L i).map (Lf.den idE))[e]?=some v
 | 0,_,h=>by simp [rwCs] at h
 | n+1,hs,h=>by
  have hl:(rwCs L n).length=n*sz:=rwCs_len n fun j hj=>hs j (by omega)
  rw [rwCs_succ] at h
  by_cases hk:k<n*sz
  · rw [List.getElem?_append_left (by omega)] at h
    obtain ⟨i,e,h1,h2,h3⟩:=rwCs_at n (fun j hj=>hs j (by omega)) h
    exact ⟨i,e,by omega,h2,h3⟩
  · rw [List.getElem?_append_right (by omega),hl] at h
    exact ⟨n,k-n*sz,by omega,by omega,h⟩
theorem rwCs_add (L:Nat→List Lf) (n:Nat):∀ m,rwCs L (n+m)=rwCs L n++rwCs (fun j=>L (n+j)) m
 | 0=>by simp [rwCs]
 | m+1=>by rw [← Nat.add_assoc,rwCs_succ,rwCs_succ,rwCs_add L n m,List.append_assoc]
def OrD (sz:Nat) (e:TypeId) (n:Nat) (L:Nat→List Lf) (w:World) (g:Pl):Prop :=
 (∀ c,g.F c↔c=g.b)∧(∀ m,g.v m=some ⟨g.b,m,none⟩)∧(0<n∧∀ j,j<n→(L j).length=sz)∧w.ownsRow 0 e sz (.slice (some ⟨g.b,0,none⟩) n (g.c 0)) n (rwCs L n)
theorem OrD.cells {sz:Nat} {e:TypeId} {n:Nat} {L:Nat→List Lf} {w:World} {g:Pl} (h:OrD sz e n L w g):∃ cur,w.heap[g.b]?=some (.cells cur e (0,0))∧n≤g.c 0∧g.c 0≤maxLen∧cur.size=g.c 0*sz∧cur.toList.take (n*sz)=rwCs L n:=by
 rcases h.2.2.2.2 with ⟨e1,_⟩ | ⟨g',cap,cur,e1,_,hh,h1,h2,h3,h4⟩
 · cases e1
 · injection e1 with e1 e2 e3
   injection e1 with e1
   injection e1 with e1
   subst e1 e3
   exact ⟨cur,hh,h1,h2,h3,h4⟩
theorem OrD.heap {sz:Nat} {e:TypeId} {n:Nat} {L:Nat→List Lf} {w w':World} {g:Pl} (h:OrD sz e n L w g) (k:w'.heap[g.b]?=w.heap[g.b]?):OrD sz e n L w' g:=by
 obtain ⟨cur,hh,h1,h2,h3,h4⟩:=h.cells
 exact ⟨h.1,h.2.1,h.2.2.1,h.2.2.2.1,.inr ⟨g.b,g.c 0,cur,rfl,Nat.zero_le _,by rw [k]; exact hh,h1,h2,h3,h4⟩⟩
theorem lr_stable (sz:Nat) (e:TypeId) (n:Nat) (L:Nat→List Lf):Stable (OrD sz e n L) :=
 ⟨fun w g h c hc=>by rw [(h.1 c).1 hc]; obtain ⟨cur,hh,_⟩:=h.cells; exact heap_some_lt hh,
  fun w w' g h k=>h.heap (k.block _ (by obtain ⟨cur,hh,_⟩:=h.cells; exact heap_some_lt hh)),
  fun w w' g b o m s h hs ht hF=>h.heap (ht.block _ (by obtain ⟨cur,hh,_⟩:=h.cells; exact heap_some_lt hh) fun e=>hF ((h.1 b).2 e.symm))⟩
theorem OrD.rw {sz:Nat} {e:TypeId} {n:Nat} {L:Nat→List Lf} (w:World) (g:Pl) (h:OrD sz e n L w g):RwD sz n L w g:=by
 obtain ⟨cur,hh,h1,h2,h3,h4⟩:=h.cells
 refine .inr ⟨h.2.2.1.1,g.b,0,cur,e,(0,0),fun m=>by rw [h.2.1,Nat.zero_add],h.1,hh,fun j hj i v hv=>?_⟩
 rw [cell_of_row _ _ _ _ _ _ hh,Nat.zero_add]
 have hi:i<(L j).length:=by have:=(List.getElem?_eq_some_iff.1 hv).1; rwa [List.length_map] at this
 have h5:=rwCs_get hv n h.2.2.1.2 hj
 have hlt:j*sz+i<n*sz:=by
  have:j*sz+sz≤n*sz:=by rw [← Nat.succ_mul]; exact Nat.mul_le_mul_right _ hj
  have:=h.2.2.1.2 j hj
  omega
 rw [← h4,List.getElem?_take_of_lt hlt] at h5
 rw [← Array.getElem?_toList]
 exact h5
def orT (sz:Nat) (e:TypeId) (n:Nat) (L:Nat→List Lf):Thing :=
 ⟨OrD sz e n L,lr_stable sz e n L,1,RwD sz n L,lsRw_stable sz n L,OrD.rw,false,fun h=>(Bool.noConfusion h),false,fun h=>(Bool.noConfusion h),false,fun h=>(Bool.noConfusion h),false,fun h=>(Bool.noConfusion h)⟩
def orO (sz:Nat) (e:TypeId) (n:Nat) (L:Nat→List Lf):Ob:=.ow (orT sz e n L) e
inductive OrB (β:Env) (sz:Nat) (e:TypeId) (n0:Nat) (L:Nat→List Lf):Option (Nat × Ob)→Value→Prop where
 | nil (h:n0=0):OrB β sz e n0 L none (.slice none 0 0)
 | row (K:Nat) (h:n0=0):OrB β sz e n0 L (some (K,.row [] e 0 sz)) (.slice (some ⟨(β K).b,0,none⟩) 0 ((β K).c 0))
 | own (K:Nat):OrB β sz e n0 L (some (K,orO sz e n0 L)) (.slice ((β K).v 0) n0 ((β K).c 0))
structure OrL (A:AppT Tryz.prog) (L:Nat→List Lf) (n:Nat):Prop where
 len:∀ j,j<n→(L j).length=A.sz
 one:∀ j,j<n→∀ u∈(L j).map (Lf.den idE),u.oneCell'=true
 max:n≤maxLen
 bytes:n*A.bytes≤140737488355328
theorem or_core (A:AppT Tryz.prog) {L:Nat→List Lf} {n0 m:Nat} (h:OrL A L (n0+m)) (hm:0<m) {β:Env} {w:World} {old:Option (Nat × Ob)} {v:Value} (hold:oldHolds β w old) (hk:OrB β A.sz A.e n0 L old v) (b of cc M:Nat)
  (hnews:∀ i,i<m→w.rangeAt b (of+i*A.sz) ((L (n0+i)).map (Lf.den idE))) (s y:Operand) (ρ:Operand→Value) (o:Oper) (ho:o.op=.call ⟨.builtin .append,#[s,y],#[A.t,A.t]⟩) (h1:ρ s=v) (h2:ρ y=.slice (some ⟨b,of,none⟩) m cc) :
  ∃ (g:Pl) (w':World),(execOp ρ o).run Tryz.prog w=.ok (.value ((SV.one (.c (.b (.y M 0 (n0+m))))).den (extE β M [g]))) w'∧(orO A.sz A.e (n0+m) L).holds (extE β M [g]) w' g∧Grow β w w' old g∧(∀ c,g.F c→c=g.b):=by
 have hnl:(rwCs (fun j=>L (n0+j)) m).length=m*A.sz:=rwCs_len m fun j hj=>h.len _ (by omega)
 have hnc:∀ j u,(rwCs (fun j=>L (n0+j)) m)[j]?=some u→w.cell? ((⟨b,of,none⟩:Addr).add j)=some u:=fun j u hu=>by
  obtain ⟨i,e,h3,h4,h5⟩:=rwCs_at m (fun j hj=>h.len (n0+j) (by omega)) hu
  have:=hnews i h3 e u h5
  rw [Addr.add_mid,h4,← Nat.add_assoc]
  exact this
 have hone:∀ u∈rwCs (fun j=>L (n0+j)) m,u.oneCell'=true:=fun u hu=>by
  obtain ⟨j,hj,hu⟩:=List.mem_flatMap.1 hu
  exact h.one _ (by have:=List.mem_range.1 hj; omega) u hu
 obtain ⟨ol,hol,hol2⟩:∃ ol:Option (Nat × Nat),((ol=none∧n0=0∧rwCs L n0=[]∧v=.slice none 0 0)∨∃ b c,ol=some (b,c)∧v=.slice (some ⟨b,0,none⟩) n0 c∧w.ownsRow 0 A.e A.sz v n0 (rwCs L n0)) ∧
   ∀ g c,ol=some (g,c)→∃ p,old=some p∧g=(β p.1).b:=by
  cases hk with
  | nil h0=>subst h0; exact ⟨none,.inl ⟨rfl,rfl,rfl,rfl⟩,fun g c e=>by cases e⟩
  | row K h0 =>
   subst h0
   obtain ⟨ho1,cur,hc1,hc2,hc3,hc4,hc5,hc6⟩:(Ob.row [] A.e 0 A.sz).holds β w (β K):=hold
   exact ⟨some ((β K).b,(β K).c 0),.inr ⟨_,_,rfl,rfl,by simp [rwCs],.inr ⟨_,_,cur,rfl,Nat.zero_le _,hc1,hc3,hc4,hc5,by simp [rwCs]⟩⟩,fun g c e=>by
    injection e with e
    injection e with e1 e2
    exact ⟨_,rfl,e1.symm⟩⟩
  | own K =>
   obtain ⟨_,hd⟩:(orO A.sz A.e n0 L).holds β w (β K):=hold
   have hd:OrD A.sz A.e n0 L w (β K):=hd
   have hv:=hd.2.1 0
   exact ⟨some ((β K).b,(β K).c 0),.inr ⟨_,_,rfl,by rw [hv],by rw [hv]; exact hd.2.2.2⟩,fun g c e=>by
    injection e with e
    injection e with e1 e2
    exact ⟨_,rfl,e1.symm⟩⟩
 obtain ⟨g,cap,w',hr,hown,hgr⟩:=app_core A w o.type ol v hol ⟨b,of,none⟩ cc hnl hnc hone hm h.max h.bytes
 rw [← rwCs_add] at hown
 obtain ⟨cur,hcur⟩:∃ cur,w'.heap[g]?=some (.cells cur A.e (0,0)):=by
  rcases hown.2 with ⟨e1,_⟩ | ⟨g',cap,cur,e1,_,hh,_⟩
  · cases e1
  · injection e1 with e1 e2 e3
    injection e1 with e1
    injection e1 with e1
    subst e1
    exact ⟨cur,hh⟩
 refine ⟨⟨g,fun m=>some ⟨g,m,none⟩,fun _=>cap,fun c=>c=g,fun _=>undef⟩,w',?_,⟨⟨rfl,A.he,_,hcur⟩,fun c=>Iff.rfl,fun m=>rfl,⟨by omega,h.len⟩,hown⟩,?_,fun c hc=>hc⟩
 · have e:(SV.one (.c (.b (.y M 0 (n0+m))))).den (extE β M [(⟨g,fun m=>some ⟨g,m,none⟩,fun _=>cap,fun c=>c=g,fun _=>undef⟩:Pl)])=.slice (some ⟨g,0,none⟩) (n0+m) cap:=by
    have:=extE_in (β:=β) (n:=M) (xs:=[(⟨g,fun m=>some ⟨g,m,none⟩,fun _=>cap,fun c=>c=g,fun _=>undef⟩:Pl)]) (i:=0) rfl
    simp only [Nat.add_zero] at this
    simp only [SV.den,SC.den,Lf.den,Lf0.den,this]
   rw [e]
   exact exec_append s y A.t ho h1 h2 hr
 · rcases hgr with ⟨k1,k2⟩ | ⟨c,k1,N,k2,k3⟩
   · exact .inl ⟨k1,k2⟩
   · obtain ⟨p,p1,p2⟩:=hol2 g c k1
     exact .inr ⟨p,p1,p2,N,k2,k3⟩
def isApT (t:TypeId) (o:Oper):Bool:=match o.op,o.dst with
 | .call ⟨.builtin .append,#[_,_],#[u,u']⟩,some _=>Nat.beq u t&&Nat.beq u' t
 | _,_=>false
def lsKOf:SV→Nat
 | .one (.c (.b (.y k _ _)))=>k
 | .one (.c (.b (.r k _)))=>k
 | .one (.c (.b (.s k _ _ _)))=>k
 | _=>0
inductive OrK where
 | nil
 | row
 | own
def OrK.old (k:OrK) (sz:Nat) (e:TypeId) (n0:Nat) (L:Nat→List Lf) (K:Nat):Option (Nat × Ob):=match k with
 | .nil=>none
 | .row=>some (K,.row [] e 0 sz)
 | .own=>some (K,orO sz e n0 L)
def OrK.val (k:OrK) (n0:Nat) (g:Pl):Value:=match k with
 | .nil=>.slice none 0 0
 | .row=>.slice (some ⟨g.b,0,none⟩) 0 (g.c 0)
 | .own=>.slice (g.v 0) n0 (g.c 0)
def OrK.ok (k:OrK) (n0:Nat):Prop:=match k with
 | .nil=>n0=0
 | .row=>n0=0
 | .own=>True
theorem OrK.orB {k:OrK} {n0:Nat} (h:k.ok n0) (β:Env) (sz:Nat) (e:TypeId) (L:Nat→List Lf) (K:Nat):OrB β sz e n0 L (k.old sz e n0 L K) (k.val n0 (β K)):=by
 cases k
 · exact .nil h
 · exact .row K h
 · exact .own K
def eApL (A:AppT Tryz.prog) (k:OrK) {n0 m N t:Nat} {L L':Nat→List Lf} (hk:k.ok n0) (ht:n0+m=t) (h:OrL A L t) (hm:0<m) (hN:m≤N) (hL:∀ i,i<m→L (n0+i)=L' i):Ev Tryz.prog:=.dynU (fun o _ _=>isApT A.t o) fun o xs ob=>match o.op,o.dst with
 | .call ⟨.builtin .append,#[s,y],_⟩,some d=>lit (lsKOf (xs.getD 0 undefS)) fun K=>lit (lsKOf (xs.getD 1 undefS)) fun a=>lit ob.length fun M =>
   .upd (some d) (.call ⟨.builtin .append,#[s,y],#[A.t,A.t]⟩) (fun β=>[k.val n0 (β K),.slice ((β a).v 0) m ((β a).c 0)]) [(a,(rwT A.sz N L').ob)] (k.old A.sz A.e n0 L K) M (orO A.sz A.e t L) (.one (.c (.b (.y M 0 t)))) (fun β w hh hold ρ o ho hx=>by
    subst ht
    have h3:ρ s=k.val n0 (β K)∧ρ y=.slice ((β a).v 0) m ((β a).c 0):=by simpa [Op.operands,Call.operands] using hx
    have hd:RwD A.sz N L' w (β a):=hh (a,(rwT A.sz N L').ob) (List.mem_singleton.2 rfl)
    rcases hd with hd | ⟨h0,b,of,cs,t,fr,d1,d2,d3,d4⟩
    · omega
    obtain ⟨g,w',r1,r2,r3,r4⟩:=or_core A h hm hold (OrK.orB hk β A.sz A.e L K) b of ((β a).c 0) M (fun i hi=>by rw [hL i hi]; exact d4 i (by omega)) s y ρ o ho h3.1 (by rw [h3.2,d1]; rfl)
    exact ⟨g,w',r1,r2,r3,fun c hc=>.inl (r4 c hc)⟩)
 | _,_=>.cut
def eAp1 (A:AppT Tryz.prog) (k:OrK) {n0:Nat} {L:Nat→List Lf} {cs:List Lf} (hk:k.ok n0) (h:OrL A L (n0+1)) (hL:L n0=cs) (hc:∀ β,cs.map (Lf.den β)=cs.map (Lf.den idE)):Ev Tryz.prog:=.dynU (fun o _ _=>isApT A.t o) fun o xs ob=>match o.op,o.dst with
 | .call ⟨.builtin .append,#[s,y],_⟩,some d=>lit (lsKOf (xs.getD 0 undefS)) fun K=>lit (lsKOf (xs.getD 1 undefS)) fun a=>lit ob.length fun M =>
   .upd (some d) (.call ⟨.builtin .append,#[s,y],#[A.t,A.t]⟩) (fun β=>[k.val n0 (β K),.slice (some ⟨(β a).b,0,none⟩) 1 1]) [(a,.box cs A.e)] (k.old A.sz A.e n0 L K) M (orO A.sz A.e (n0+1) L) (.one (.c (.b (.y M 0 (n0+1))))) (fun β w hh hold ρ o ho hx=>by
    have h3:ρ s=k.val n0 (β K)∧ρ y=.slice (some ⟨(β a).b,0,none⟩) 1 1:=by simpa [Op.operands,Call.operands] using hx
    have hd:(Ob.box cs A.e).holds β w (β a):=hh (a,.box cs A.e) (List.mem_singleton.2 rfl)
    obtain ⟨g,w',r1,r2,r3,r4⟩:=or_core A h (Nat.zero_lt_one) hold (OrK.orB hk β A.sz A.e L K) (β a).b 0 1 M (fun i hi=>by
     obtain rfl:i=0:=by omega
     rw [Nat.add_zero,hL,← hc β]
     intro j v hv
     rw [cell_of_row _ _ _ _ _ _ hd.2,Nat.zero_mul]
     simpa using hv) s y ρ o ho h3.1 h3.2
    exact ⟨g,w',r1,r2,r3,fun c hc=>.inl (r4 c hc)⟩)
 | _,_=>.cut
theorem ap_none (A:AppT Tryz.prog) (s y:Operand) (w:World) (v0:Option Addr) (c0:Nat) (v:Option Addr) (c:Nat) (ρ:Operand→Value) (o:Oper) (ho:o.op=.call ⟨.builtin .append,#[s,y],#[A.t,A.t]⟩) (h1:ρ s=.slice v0 0 c0) (h2:ρ y=.slice v 0 c):(execOp ρ o).run Tryz.prog w=.ok (.value (.slice v0 0 c0)) w:=by
 refine exec_append s y A.t ho h1 h2 (run_append_nothing w A.t A.t o.type A.e A.i A.ht A.hi v0 0 c0 (Nat.zero_le _) _ ?_)
 cases v with
 | none=>exact Src.ofNil w A.ht c
 | some a=>exact Src.ofSlice w A.ht a 0 c [] (by simp) (fun j u hu=>by simp at hu) (fun u hu=>by cases hu)
def eAp0 (A:AppT Tryz.prog) (k:OrK) (hk:k.ok 0) {N:Nat} {L':Nat→List Lf}:Ev Tryz.prog:=.dyn (fun o _ _=>isApT A.t o) fun o xs ob=>match o.op,o.dst with
 | .call ⟨.builtin .append,#[s,y],_⟩,some d=>lit (lsKOf (xs.getD 0 undefS)) fun K=>lit (lsKOf (xs.getD 1 undefS)) fun a =>
   .rd d (.call ⟨.builtin .append,#[s,y],#[A.t,A.t]⟩) (fun β=>[k.val 0 (β K),.slice ((β a).v 0) 0 ((β a).c 0)]) [] 0 (match k with
    | .nil=>.one (.c (.b (.v (.slice none 0 0))))
    | .row=>.one (.c (.b (.r K 0)))
    | .own=>.one (.c (.b (.y K 0 0)))) [] (fun β w hh ρ o ho hx=>by
    have h3:ρ s=k.val 0 (β K)∧ρ y=.slice ((β a).v 0) 0 ((β a).c 0):=by simpa [Op.operands,Call.operands] using hx
    refine ⟨[],w,(fun _ h=>by cases h),?_,trivial,Below.refl _ _⟩
    cases k
    · exact ap_none A s y w _ _ _ _ ρ o ho h3.1 h3.2
    · exact ap_none A s y w _ _ _ _ ρ o ho h3.1 h3.2
    · exact ap_none A s y w _ _ _ _ ρ o ho h3.1 h3.2)
 | _,_=>.cut
def lsOwAt:List Ob→Nat→Nat
 | [],_=>0
 | .ow _ _::_,k=>k
 | _::r,k=>lsOwAt r (k+1)
def eFrz:Ev Tryz.prog:=.frz fun ob=>lsOwAt ob 0
def eSl {T:TypeId} (hu:Tryz.prog.underlying T=some (.slice (Tryz.prog.elem T))) {sz:Nat} (hs:(Tryz.prog.info? (Tryz.prog.elem T)).map (·.size)=some sz) {N n:Nat} (hN:n≤N) (e:TypeId) (L:Nat→List Lf):Ev Tryz.prog:=.dyn (fun o _ _=>match o.op with
 | .slice t _ none (some _) none=>Nat.beq t T
 | _=>false) fun o xs _=>match o.op with
 | .slice _ x none (some y) none=>lit (lsKOf (xs.getD 0 undefS)) fun k=>.rd (o.dst.getD 0) (.slice T x none (some y) none) (fun β=>[.slice ((β k).v 0) N ((β k).c 0),.int .i64 (n:Int)]) [(k,.th (orT sz e N L))] 0 (.one (.c (.b (.y k 0 n)))) [] (fun β w h ρ o ho hx=>by
   have h3:ρ x=.slice ((β k).v 0) N ((β k).c 0)∧ρ y=.int .i64 (n:Int):=by simpa [Op.operands] using hx
   have hd:OrD sz e N L w (β k):=h (k,.th (orT sz e N L)) (List.mem_singleton.2 rfl)
   obtain ⟨cur,_,h1,_⟩:=hd.cells
   refine ⟨[],w,(fun _ h=>by cases h),?_,trivial,Below.refl _ _⟩
   have hz:((sizeOf (Tryz.prog.elem T)).run Tryz.prog w)=.ok sz w:=by
    cases hq:Tryz.prog.info? (Tryz.prog.elem T) with
    | none=>simp [hq] at hs
    | some i =>
     have hs:i.size=sz:=by simpa [hq] using hs
     simp [sizeOf,typeInfo,hq,hs]
   have h6:=run_slice_h (P:=Tryz.prog) (w:=w) T ((β k).v 0) N ((β k).c 0) hu .i64 (n:Int) (by omega) (by omega)
   rw [hz] at h6
   have e:((SV.one (.c (.b (.y k 0 n)))).den (extE β 0 []))=.slice ((β k).v 0) n ((β k).c 0):=rfl
   rw [e]
   unfold execOp
   rw [ho]
   dsimp only
   simp only [Option.map_none,Option.map_some,h3.1,h3.2]
   have h7:(Instr.sliceAt T (.slice ((β k).v 0) N ((β k).c 0)) none (some (.int .i64 (n:Int))) none).run Tryz.prog w=.ok (.slice ((β k).v 0) n ((β k).c 0)) w:=by
    rw [run_sliceAt_slice (P:=Tryz.prog) (w:=w) T _ _ _ _ hu,h6,hd.2.1 0]
    simp [sliced,Addr.add]
   simp only [Sem.run_bind,h7,Result.andThen_ok]
   rfl)
 | _=>.cut
end Go.Proofs.YtmfedaakeeiolaaGreat.Y
end
section
namespace Go.Proofs.YtmfedaakeeiolaaGreat
open Go.Proofs.YtmfedaakeeiolaaGreat.Y
open Go Go.RowKit
set_option maxRecDepth 100000
theorem sz_lit1 {n:Int} (h:n.natAbs<256):Fit (Rat.divInt n 1):=(Sz.small h).fit (by decide)
theorem fit_int {n m:Int} (h:n.natAbs<256) (k:m.natAbs<256):FitG (gint n m):=⟨sz_lit1 h,sz_lit1 k⟩
def geq (x y x' y':R4):Bool:=x.eq x'&&(y.eq y'&&true)
theorem geq_self (x y:R4):geq x y x y=true:=by
 unfold geq
 rw [R4.eq_iff.2 rfl,R4.eq_iff.2 rfl]; rfl
theorem fit_small {z:GQ} (h1:z.re.num.natAbs<256) (h2:z.re.den<256) (h3:z.im.num.natAbs<256) (h4:z.im.den<256):FitP (.fin z) :=
 ⟨Sz.fit (k:=1) ⟨sz_small h1,sz_small (n:=(z.re.den:Int)) (by simpa using h2)⟩ (by decide),Sz.fit (k:=1) ⟨sz_small h3,sz_small (n:=(z.im.den:Int)) (by simpa using h4)⟩ (by decide)⟩
end Go.Proofs.YtmfedaakeeiolaaGreat
end
section
namespace Go.Proofs.YtmfedaakeeiolaaGreat.Y
open Go Go.RowKit
set_option maxRecDepth 100000
theorem fit10:FitG (gint 1 0):=fit_int (by decide) (by decide)
theorem fit00:FitG (gint 0 0):=fit_int (by decide) (by decide)
def frX (x:Rat) (h:Fit x):Fr:=⟨fR x,.ok x h,rfl⟩
def gpX (z:GQ) (h:FitG z):Gp:=⟨frX z.re h.1,frX z.im h.2⟩
theorem rL_inj {x y:R4} (h:rL x=rL y):x=y:=by
 obtain ⟨b,s,c,t⟩:=x
 obtain ⟨b',s',c',t'⟩:=y
 simp only [rL,List.cons.injEq,Lf.b.injEq,Lf0.v.injEq,Value.bool.injEq,Value.string.injEq,and_true] at h
 obtain ⟨rfl,rfl,rfl,rfl⟩:=h
 rfl
inductive Gn where
 | ok (z:GQ) (h:FitG z)
 | no (g:Gp) (h:g.B=false)
def Gn.gp:Gn→Gp
 | .ok z h=>gpX z h
 | .no g _=>g
def Gn.x (g:Gn):R4:=g.gp.a.r
def Gn.y (g:Gn):R4:=g.gp.b.r
def Gn.B:Gn→Bool
 | .ok ..=>true
 | .no ..=>false
theorem Gn.gpB:∀ g:Gn,g.gp.B=g.B
 | .ok ..=>rfl
 | .no _ h=>h
def Gn.z:Gn→GQ
 | .ok z _=>z
 | .no ..=>g0
theorem fr_of (r:R4) (h:r.s.size≤maxLen∧r.t.size≤maxLen):∃ a:Fr,a.r=r:=by
 obtain ⟨a,ha⟩:=fp_of r h.1 h.2
 exact ⟨⟨r,a,by rw [← ha]; cases a<;>rfl⟩,rfl⟩
theorem gn_of (x y:R4) (hx:x.s.size≤maxLen∧x.t.size≤maxLen) (hy:y.s.size≤maxLen∧y.t.size≤maxLen):∃ g:Gn,g.x=x∧g.y=y:=by
 obtain ⟨a,rfl⟩:=fr_of x hx
 obtain ⟨b,rfl⟩:=fr_of y hy
 cases h:(Gp.mk a b).B with
 | false=>exact ⟨.no ⟨a,b⟩ h,rfl,rfl⟩
 | true =>
  have h':=Bool.and_eq_true_iff.1 h
  obtain ⟨ra,fa,ea⟩:=a
  obtain ⟨rb,fb,eb⟩:=b
  cases fa with
  | no=>cases h'.1
  | ok x hx2=>cases fb with
   | no=>cases h'.2
   | ok y hy2 =>
    refine ⟨.ok ⟨x,y⟩ ⟨hx2,hy2⟩,rL_inj ?_,rL_inj ?_⟩
    · exact ea
    · exact eb
theorem said_0 {P:Program} {fn:Func} {m0:Nat} {res res':SV} {β:Env} {w:World} {e:Ending} {w':World} (h:Said P fn m0 res [] β w e w') (hr:∀ β':Env,(∀ k,k<m0→β' k=β k)→res.den β'=res'.den β):∃ xs:List Pl,freshS β w m0 xs∧e=.returned (res'.den (extE β m0 xs))∧newHold w' [] xs∧Below w.heap.size w w':=by
 obtain ⟨β',q,obj,hb,rfl,_,_,_,g⟩:=h
 exact ⟨[],(fun _ h=>by cases h),by rw [hr β' hb,extE_nil],trivial,g.bel⟩
theorem said_1 {P:Program} {fn:Func} {m0 k:Nat} {res res':SV} {t:Thing} {β:Env} {w:World} {e:Ending} {w':World} (h:Said P fn m0 res [(k,t.ob)] β w e w') (hr:∀ β':Env,(∀ k,k<m0→β' k=β k)→res.den β'=res'.den (extE β m0 [β' k])):∃ xs:List Pl,freshS β w m0 xs∧e=.returned (res'.den (extE β m0 xs))∧newHold w' [t] xs∧Below w.heap.size w w':=by
 obtain ⟨β',q,obj,hb,rfl,_,hF,hh,g⟩:=h
 refine ⟨[β' k],fun x hx c hc=>?_,by rw [hr β' hb],⟨hh _ (List.mem_singleton.2 rfl),trivial⟩,g.bel⟩
 obtain rfl:=List.mem_singleton.1 hx
 exact hF _ (List.mem_singleton.2 rfl) c hc
theorem gn_ok {g:Gn} (h:g.B=true):FitG g.z∧g.x=fR g.z.re∧g.y=fR g.z.im:=by
 cases g with
 | ok z hz=>exact ⟨hz,rfl,rfl⟩
 | no g h'=>cases h
def ofL {X Y:R4} {z:GQ} (hf:FitG z) (hx:X=fR z.re) (hy:Y=fR z.im):Spec Tryz.prog:=(sOf (.ok z.re hf.1) (.ok z.im hf.2)).as [.one (.a (X.L++Y.L))] (.tup [nA 0,.c (.b (.v (.bool true)))]) (by
 subst hx hy
 rfl) rfl
theorem hd_ev' {m0 N B0:Nat} {w0:World} {β0:Env} {Q:Exit→Act→World→Prop} {u:Nat} {sl:List (Nat × SV)} {ob:List Ob} {ev ev':List (Ev Tryz.prog)} {p:Code × List Kf} (h:HdOk Tryz.prog m0 N B0 w0 β0 Q (mkC Tryz.prog N u sl ob ev) p):HdOk Tryz.prog m0 N B0 w0 β0 Q (mkC Tryz.prog N u sl ob ev') p :=
 fun β a w hβ hs=>h β a w hβ (hs.ev ev)
section
variable (n N:Nat) (G:Nat→Gn)
abbrev lqX (j:Nat):R4:=(G j).x
abbrev lqY (j:Nat):R4:=(G j).y
abbrev lqZ (j:Nat):GQ:=(G j).z
abbrev lqT:Thing:=rwT 8 N (lsG (lqX G) (lqY G))
noncomputable abbrev opF:Func:=Tryz.f290
noncomputable abbrev opN:Nat:=sizeS opF [lsSlc n]
abbrev opNil:SV:=.one (.c (.b (.v (.slice none 0 0))))
abbrev opSl (j:Nat):List (Nat × SV):=[(2,opNil),(3,.one (nI' 0)),(4,.one (.c (.b (.s 2 0 j n)))),(12,lsSlc n),(13,.one (nI' (n:Int))),(14,.one (nI' (j:Int)))]
noncomputable abbrev opC (j:Nat) (ev:List (Ev Tryz.prog)):Cf Tryz.prog:=mkC Tryz.prog (opN n) 1 (opSl n j) [(lqT N G).ob,.dead,nuO (lqZ G) j n] ev
abbrev opRY:SV:=.tup [.c (.b (.s 2 0 n n)),nI' 0]
abbrev opRN:SV:=.tup [.c (.b (.v (.slice none 0 0))),nI' 2]
abbrev opHY (β0:Env) (w:World) (C:Cf Tryz.prog):Prop:=HdOk Tryz.prog 1 (opN n) w.heap.size w β0 (bodyPost Tryz.prog opF (Said Tryz.prog opF 1 (opRY n) [(2,(nuT (lqZ G) n n).ob)] β0 w)) C (lpAt opF 0)
abbrev opHN (β0:Env) (w:World) (C:Cf Tryz.prog):Prop:=HdOk Tryz.prog 1 (opN n) w.heap.size w β0 (bodyPost Tryz.prog opF (Said Tryz.prog opF 1 opRN [] β0 w)) C (lpAt opF 0)
variable (β0:Env) (w:World) {j:Nat} (hN:n≤N)
noncomputable def opE0 (hj:j<n):List (Ev Tryz.prog) :=
 [.eqv 15 (.bool (decide ((j:Int)<(n:Int)))) (.bool true) (by rw [decide_eq_true (by omega)]),gIx (lqX G) (lqY G) hj hN,gLd (lqX G) (lqY G) (Nat.lt_of_lt_of_le hj hN)]
noncomputable def opE1 (hj:j<n) (hn:n≤1048576) (h:(G j).B=true) {j2:Int} (hj2:IntKind.i64.wrap ((j:Int)+1)=j2):List (Ev Tryz.prog) :=
 opE0 n N G hN hj++[(ofL (gn_ok h).1 (gn_ok h).2.1 (gn_ok h).2.2).e,eNuApp (x:=lqZ G) hj hn,.eqv 29 (.int .i64 (IntKind.i64.wrap ((j:Int)+1))) (.int .i64 j2) (by rw [hj2]),.cut]
theorem op_stepY (hj:j<n) (hn:n≤1048576) (h:(G j).B=true) (k:opHY n G β0 w (opC n N G (j+1) [])):opHY n G β0 w (opC n N G j (opE1 n N G hN hj hn h (j2:=((j+1:Nat):Int)) (by rw [IntKind.wrap_i64]; omega))) :=
 piece_ok (Ns:=[]) (m:=400) [] [0,1,8] hmA (by kernel_rfl) (fun β=>ok_of_maps (by kernel_rfl)) k
theorem op_stepN (hj:j<n) (hn:n≤1048576) (h:(G j).B=true) (k:opHN n β0 w (opC n N G (j+1) [])):opHN n β0 w (opC n N G j (opE1 n N G hN hj hn h (j2:=((j+1:Nat):Int)) (by rw [IntKind.wrap_i64]; omega))) :=
 piece_ok (Ns:=[]) (m:=400) [] [0,1,8] hmA (by kernel_rfl) (fun β=>ok_of_maps (by kernel_rfl)) k
theorem op_no (hj:j<n) (h:(G j).B=false):opHN n β0 w (opC n N G j (opE0 n N G hN hj++[(sOfW (G j).gp.a (G j).gp.b ((G j).gpB.trans h)).e])) :=
 last_ok (Ns:=[]) (m:=400) hmA (fun β=>ok_of_maps (by kernel_rfl))
theorem op_end:opHY n G β0 w (opC n N G n [eFrz,.eqv 15 (.bool (decide ((n:Int)<(n:Int)))) (.bool false) (by rw [decide_eq_false (by omega)])]) :=
 last_ok (Ns:=[]) (m:=400) hmA (fun β=>ok_of_maps (by kernel_rfl))
include hN in
theorem op_loopY (hn:n≤1048576) (h:∀ i,i<n→(G i).B=true):∀ (d j:Nat),j+d=n→opHY n G β0 w (opC n N G j [])
 | 0,j,e=>by
  obtain rfl:j=n:=by omega
  exact hd_ev' (op_end j N G β0 w)
 | d+1,j,e=>hd_ev' (op_stepY n N G β0 w hN (by omega) hn (h j (by omega)) (op_loopY hn h d (j+1) (by omega)))
include hN in
theorem op_loopN (hn:n≤1048576) {i:Nat} (hi:i<n) (h:(G i).B=false) (h2:∀ k,k<i→(G k).B=true):∀ (d j:Nat),j+d=i→opHN n β0 w (opC n N G j [])
 | 0,j,e=>by
  obtain rfl:j=i:=by omega
  exact hd_ev' (op_no n N G β0 w hN hi h)
 | d+1,j,e=>hd_ev' (op_stepN n N G β0 w hN (by omega) hn (h2 j (by omega)) (op_loopN hn hi h h2 d (j+1) (by omega)))
end
section
variable (n N:Nat) (G:Nat→Gn) (β0:Env) (w:World)
theorem op_startY (hn:n≤1048576) (hh:(lqT N G).D w (β0 0)) (h:opHY n G β0 w (opC n N G 0 [])):Calls Tryz.prog 290 (([lsSlc n]:List SV).map (SV.den β0)).toArray w (Said Tryz.prog opF 1 (opRY n) [(2,(nuT (lqZ G) n n).ob)] β0 w) :=
 sx_cut (P:=Tryz.prog) [lsSlc n] [(lqT N G).ob] [eNuMk hn (lqZ G),.cut] [] [] 400 (opRY n) [(2,(nuT (lqZ G) n n).ob)] Tryz.func290 hmA (u:=1) (sl:=opSl n 0) (ob:=[(lqT N G).ob,.dead,nuO (lqZ G) 0 n]) (σ:=[0,0,1]) (p':=lpAt opF 0) (by kernel_rfl) (fun β=>ok_of_maps (by kernel_rfl)) (by kernel_rfl) (by kernel_rfl) β0 w (fun i o ho=>by
  cases i with
  | zero=>simp only [List.getElem?_cons_zero] at ho; obtain rfl:=Option.some.inj ho; exact hh
  | succ i=>simp at ho) h
theorem op_startN (hn:n≤1048576) (hh:(lqT N G).D w (β0 0)) (h:opHN n β0 w (opC n N G 0 [])):Calls Tryz.prog 290 (([lsSlc n]:List SV).map (SV.den β0)).toArray w (Said Tryz.prog opF 1 opRN [] β0 w) :=
 sx_cut (P:=Tryz.prog) [lsSlc n] [(lqT N G).ob] [eNuMk hn (lqZ G),.cut] [] [] 400 opRN [] Tryz.func290 hmA (u:=1) (sl:=opSl n 0) (ob:=[(lqT N G).ob,.dead,nuO (lqZ G) 0 n]) (σ:=[0,0,1]) (p':=lpAt opF 0) (by kernel_rfl) (fun β=>ok_of_maps (by kernel_rfl)) (by kernel_rfl) (by kernel_rfl) β0 w (fun i o ho=>by
  cases i with
  | zero=>simp only [List.getElem?_cons_zero] at ho; obtain rfl:=Option.some.inj ho; exact hh
  | succ i=>simp at ho) h
end
noncomputable def sOpenedL {n N:Nat} (G:Nat→Gn) (hN:n≤N) (hn:n≤1048576) (h:∀ i,i<n→(G i).B=true):Spec Tryz.prog :=
 ⟨290,Tryz.call290,[lsSlc n],[lqT N G],.tup [.c (.b (.s 1 0 n n)),nI' 0],[nuT (lqZ G) n n],fun β w hh=>(op_startY n N G β w hn (hh 0 _ rfl) (op_loopY n N G β w hN hn h n 0 (by omega))).mono fun e w' h=>said_1 h fun β' _=>rfl,by kernel_rfl⟩
noncomputable def sOpenedLNo {n N:Nat} (G:Nat→Gn) (hN:n≤N) (hn:n≤1048576) {i:Nat} (hi:i<n) (h:(G i).B=false) (h2:∀ k,k<i→(G k).B=true):Spec Tryz.prog :=
 ⟨290,Tryz.call290,[lsSlc n],[lqT N G],.tup [.c (.b (.v (.slice none 0 0))),nI' 2],[],fun β w hh=>(op_startN n N G β w hn (hh 0 _ rfl) (op_loopN n N G β w hN hn hi h h2 i 0 (by omega))).mono fun e w' h=>said_0 h fun β' _=>rfl,by kernel_rfl⟩
end Go.Proofs.YtmfedaakeeiolaaGreat.Y
end
section
namespace Go.Proofs.YtmfedaakeeiolaaGreat
open Go.Proofs.YtmfedaakeeiolaaGreat.Y
def IZ (k n:Nat) (z:GQ):Prop:=∃ u v w:Int,w≠0∧u.natAbs<256^k∧v.natAbs<256^k∧w.natAbs<256^n∧z.re*w=u∧z.im*w=v
theorem pow_mono {i j:Nat} (h:i≤j):256^i≤256^j:=Nat.pow_le_pow_right (by decide) h
theorem IZ.mono {i j k n:Nat} {z:GQ} (h:IZ i j z) (hk:i≤k) (hn:j≤n):IZ k n z:=by
 obtain ⟨u,v,w,h0,h1,h2,h3,h4,h5⟩:=h
 exact ⟨u,v,w,h0,Nat.lt_of_lt_of_le h1 (pow_mono hk),Nat.lt_of_lt_of_le h2 (pow_mono hk),Nat.lt_of_lt_of_le h3 (pow_mono hn),h4,h5⟩
theorem mul_lt {a b:Int} {i j:Nat} (h:a.natAbs<256^i) (k:b.natAbs<256^j):(a*b).natAbs<256^(i+j):=by
 rw [Int.natAbs_mul,Nat.pow_add]
 exact Nat.mul_lt_mul'' h k
theorem add_lt {a b:Int} {i:Nat} (h:a.natAbs<256^i) (k:b.natAbs<256^i):(a+b).natAbs<256^(i+1):=by
 have:=Int.natAbs_add_le a b
 rw [Nat.pow_succ]
 omega
theorem sub_lt {a b:Int} {i:Nat} (h:a.natAbs<256^i) (k:b.natAbs<256^i):(a-b).natAbs<256^(i+1):=by
 have:=Int.natAbs_sub_le a b
 rw [Nat.pow_succ]
 omega
theorem cst_mul (a b:Int):((a*b:Int):Rat)=(a:Rat)*b:=Rat.intCast_mul a b
theorem cst_add (a b:Int):((a+b:Int):Rat)=(a:Rat)+b:=Rat.intCast_add a b
theorem cst_sub (a b:Int):((a-b:Int):Rat)=(a:Rat)-b:=Rat.intCast_sub a b
theorem IZ.mul {i j k l:Nat} {z w:GQ} (h:IZ i j z) (k':IZ k l w):IZ (i+k+1) (j+l) (gmul z w):=by
 obtain ⟨u,v,x,h0,h1,h2,h3,h4,h5⟩:=h
 obtain ⟨u',v',x',k0,k1,k2,k3,k4,k5⟩:=k'
 refine ⟨u*u'-v*v',u*v'+v*u',x*x',Int.mul_ne_zero h0 k0,sub_lt (mul_lt h1 k1) (mul_lt h2 k2),add_lt (mul_lt h1 k2) (mul_lt h2 k1),mul_lt h3 k3,?_,?_⟩
 · simp only [gmul,cst_mul,cst_sub,← h4,← h5,← k4,← k5]; grind
 · simp only [gmul,cst_mul,cst_add,← h4,← h5,← k4,← k5]; grind
theorem IZ.add {i j k l m:Nat} {z w:GQ} (h:IZ i j z) (k':IZ k l w) (h1:i+l≤m) (h2:k+j≤m):IZ (m+1) (j+l) (gadd z w):=by
 obtain ⟨u,v,x,a0,a1,a2,a3,a4,a5⟩:=h
 obtain ⟨u',v',x',k0,k1,k2,k3,k4,k5⟩:=k'
 have up:∀ {a:Int} {s:Nat},a.natAbs<256^s→s≤m→a.natAbs<256^m:=fun h hs=>Nat.lt_of_lt_of_le h (pow_mono hs)
 refine ⟨u*x'+u'*x,v*x'+v'*x,x*x',Int.mul_ne_zero a0 k0,add_lt (up (mul_lt a1 k3) h1) (up (mul_lt k1 a3) h2),add_lt (up (mul_lt a2 k3) h1) (up (mul_lt k2 a3) h2),mul_lt a3 k3,?_,?_⟩
 · simp only [gadd,cst_mul,cst_add,← a4,← k4]; grind
 · simp only [gadd,cst_mul,cst_add,← a5,← k5]; grind
theorem sz_over {x:Rat} {u w:Int} {k n:Nat} (h0:w≠0) (hu:u.natAbs<256^k) (hw:w.natAbs<256^n) (h:x*w=u) (hn:1≤k):Sz (max k n) x:=by
 have hw0:(w:Rat)≠0:=fun e=>h0 (by exact_mod_cast e)
 have hx:x=Rat.divInt u w:=by
  rw [Rat.divInt_eq_div,← h]
  grind
 rw [hx]
 exact (sz_divInt (k:=max k n) h0 (sz_le.2 (Nat.lt_of_lt_of_le hu (pow_mono (Nat.le_max_left ..)))) (sz_le.2 (Nat.lt_of_lt_of_le hw (pow_mono (Nat.le_max_right ..)))))
theorem IZ.of_sz {k:Nat} {z:GQ} (h:Sz k z.re) (h':Sz k z.im):IZ (k+k) (k+k) z:=by
 have dz:∀ x:Rat,(x.den:Int)≠0:=fun x e=>x.den_nz (by exact_mod_cast e)
 have nd:∀ x:Rat,x*((x.den:Int):Rat)=((x.num:Int):Rat):=fun x=>by
  have e:Rat.divInt x.num x.den=x:=Rat.mkRat_self x
  rw [Rat.divInt_eq_div] at e
  have hd:(((x.den:Nat):Int):Rat)≠0:=by exact_mod_cast x.den_nz
  generalize (((x.den:Nat):Int):Rat)=d at *
  generalize ((x.num:Int):Rat)=n at *
  rw [← e]
  grind
 refine ⟨z.re.num*z.im.den,z.im.num*z.re.den,z.re.den*z.im.den,Int.mul_ne_zero (dz _) (dz _),mul_lt (sz_le.1 h.1) (sz_le.1 h'.2),mul_lt (sz_le.1 h'.1) (sz_le.1 h.2),mul_lt (sz_le.1 h.2) (sz_le.1 h'.2),?_,?_⟩
 · simp only [cst_mul,← nd z.re]; grind
 · simp only [cst_mul,← nd z.im]; grind
def lsAcc (f:GQ→GQ→GQ) (a:GQ) (z:Nat→GQ):Nat→GQ
 | 0=>a
 | j+1=>f (lsAcc f a z j) (z j)
theorem iz_gsz {k n:Nat} {z:GQ} (h:IZ k n z) (h1:1≤k):GSz (max k n) z:=by
 obtain ⟨u,v,w,h0,h2,h3,h4,h5,h6⟩:=h
 exact ⟨sz_over h0 h2 h4 h5 h1,sz_over h0 h3 h4 h6 h1⟩
theorem acc_add {z:Nat→GQ} {a:GQ} (ha:IZ 2 2 a) {n:Nat} (h:∀ i,i<n→IZ 160 160 (z i)):∀ j,j≤n→IZ (161*j+2) (160*j+2) (lsAcc gadd a z j)
 | 0,_=>ha
 | j+1,hj=>((acc_add ha h j (by omega)).add (h j (by omega)) (m:=161*j+162) (by omega) (by omega)).mono (by omega) (by omega)
theorem acc_mul {z:Nat→GQ} {a:GQ} (ha:IZ 2 2 a) {n:Nat} (h:∀ i,i<n→IZ 160 160 (z i)):∀ j,j≤n→IZ (161*j+2) (160*j+2) (lsAcc gmul a z j)
 | 0,_=>ha
 | j+1,hj=>((acc_mul ha h j (by omega)).mul (h j (by omega))).mono (by omega) (by omega)
theorem acc_gsz {z:GQ} {j k:Nat} (h:IZ (161*j+2) (160*j+2) z) (hj:j≤k):GSz (161*k+2) z:=(iz_gsz h (by omega)).mono (by omega)
end Go.Proofs.YtmfedaakeeiolaaGreat
end
section
namespace Go.Proofs.YtmfedaakeeiolaaGreat.Y
open Go Go.RowKit
set_option maxRecDepth 100000
inductive Cd where
 | v (x:Value)
 | r (x:Rat)
 | t (x:Rat)
def cd1 (g:Pl) (i:Nat):Cd→Value
 | .v x=>x
 | .r _=>.pointer (g.v i)
 | .t _=>.pointer (g.v i)
def cdV (g:Pl):Nat→List Cd→List Value
 | _,[]=>[]
 | i,c::l=>cd1 g i c::cdV g (i+1) l
def cdP (w:World) (g:Pl) (i:Nat):Cd→Prop
 | .v _=>True
 | .r x=>(g.v i=none∧x=0)∨∃ b,g.v i=some ⟨b,0,none⟩∧g.F b∧RatAt w b 0 x
 | .t x=>∃ b,g.v i=some ⟨b,0,none⟩∧g.F b∧RatAt w b 0 x
def cdOk (w:World) (g:Pl):Nat→List Cd→Prop
 | _,[]=>True
 | i,c::l=>cdP w g i c∧cdOk w g (i+1) l
theorem cdV_at {g:Pl}:∀ {l:List Cd} {i j:Nat} {c:Cd},l[j]?=some c→(cdV g i l)[j]?=some (cd1 g (i+j) c)
 | _::_,i,0,c,h=>by
  simp only [List.getElem?_cons_zero] at h
  obtain rfl:=Option.some.inj h
  rfl
 | _::l,i,j+1,c,h=>by
  have:=cdV_at (g:=g) (l:=l) (i:=i+1) (j:=j) (c:=c) (by simpa using h)
  rw [show i+(j+1)=i+1+j by omega]
  simpa [cdV] using this
theorem cdOk_at {w:World} {g:Pl}:∀ {l:List Cd} {i j:Nat} {c:Cd},cdOk w g i l→l[j]?=some c→cdP w g (i+j) c
 | _::_,i,0,c,h,hl=>by
  simp only [List.getElem?_cons_zero] at hl
  obtain rfl:=Option.some.inj hl
  exact h.1
 | _::l,i,j+1,c,h,hl=>by
  rw [show i+(j+1)=i+1+j by omega]
  exact cdOk_at (l:=l) h.2 (by simpa using hl)
theorem cdP_below {w w':World} {g:Pl} {i:Nat} (hb:Below w.heap.size w w'):∀ c:Cd,cdP w g i c→cdP w' g i c
 | .v _,_=>trivial
 | .r x,h=>h.imp id fun ⟨b,h1,h2,h3⟩=>⟨b,h1,h2,h3.on hb⟩
 | .t x,⟨b,h1,h2,h3⟩=>⟨b,h1,h2,h3.on hb⟩
theorem cdP_touch {w w':World} {g:Pl} {i b o n:Nat} (hs:NW w b) (ht:Touch w w' b o n) (hne:¬ g.F b):∀ c:Cd,cdP w g i c→cdP w' g i c
 | .v _,_=>trivial
 | .r x,h=>h.imp id fun ⟨d,h1,h2,h3⟩=>⟨d,h1,h2,RatAt.touchN h3 hs ht fun e=>hne (e▸h2)⟩
 | .t x,⟨d,h1,h2,h3⟩=>⟨d,h1,h2,RatAt.touchN h3 hs ht fun e=>hne (e▸h2)⟩
theorem cdOk_map {w w':World} {g:Pl} (h:∀ i c,cdP w g i c→cdP w' g i c):∀ {l:List Cd} {i:Nat},cdOk w g i l→cdOk w' g i l
 | [],_,_=>trivial
 | c::l,i,k=>⟨h i c k.1,cdOk_map h k.2⟩
def RW (e:TypeId) (cs:List Cd) (w:World) (g:Pl):Prop :=
 (g.F g.b∧∃ cur:Array Value,w.heap[g.b]?=some (.cells cur e (0,0))∧cur.toList.take cs.length=cdV g 0 cs)∧(cdOk w g 0 cs∧g.v cs.length=some ⟨g.b,0,none⟩)∧∀ c,g.F c→c<w.heap.size
theorem rw_stable (e:TypeId) (cs:List Cd):Stable (RW e cs) :=
 ⟨fun w g h=>h.2.2,
  fun w w' g ⟨⟨hf,cur,h1,h2⟩,⟨h3,h5⟩,h4⟩ hb=>⟨⟨hf,cur,by rw [hb.block g.b (heap_lt h1)]; exact h1,h2⟩,⟨cdOk_map (fun i c=>cdP_below hb c) h3,h5⟩,fun c hc=>Nat.lt_of_lt_of_le (h4 c hc) hb.size⟩,
  fun w w' g b o n m ⟨⟨hf,cur,h1,h2⟩,⟨h3,h5⟩,h4⟩ hs ht hne=>⟨⟨hf,cur,by rw [ht.block g.b (heap_lt h1) fun e=>hne (e▸hf)]; exact h1,h2⟩,⟨cdOk_map (fun i c=>cdP_touch hs ht hne c) h3,h5⟩,
   fun c hc=>Nat.lt_of_lt_of_le (h4 c hc) (ht.below (B:=0) (Nat.zero_le _) (Nat.zero_le _)).size⟩⟩
def rowT (e:TypeId) (cs:List Cd):Thing:=thing (RW e cs) (rw_stable e cs)
def cellPl (g:Pl) (i:Nat):Pl:=⟨(match g.v i with | some a=>a.block | none=>0),fun _=>g.v i,fun _=>0,fun c=>∃ a,g.v i=some a∧c=a.block,fun _=>undef⟩
theorem cellPl_or {w:World} {g:Pl} {i:Nat} {x:Rat} (h:cdP w g i (.r x)):OR0 x w (cellPl g i):=by
 rcases h with ⟨h1,h2⟩ | ⟨b,h1,h2,h3⟩
 · exact .inl ⟨h1,(fun c hc=>by obtain ⟨a,ha,_⟩:=hc; rw [h1] at ha; cases ha),h2⟩
 · exact .inr ⟨b,⟨h1,fun c=>⟨fun ⟨a,ha,hc⟩=>by rw [h1] at ha; cases ha; exact hc,fun hc=>⟨_,h1,hc⟩⟩⟩,h3⟩
theorem cellPl_F {w:World} {g:Pl} {i:Nat} {x:Rat} (h:cdP w g i (.r x)) {c:Nat} (hc:(cellPl g i).F c):g.F c:=by
 obtain ⟨a,ha,rfl⟩:=hc
 rcases h with ⟨h1,h2⟩ | ⟨b,h1,h2,h3⟩
 · rw [h1] at ha; cases ha
 · rw [h1] at ha; cases ha; exact h2
theorem rw_cell {e:TypeId} {cs:List Cd} {w:World} {g:Pl} (h:RW e cs w g) {j:Nat} {c:Cd} (hj:cs[j]?=some c):w.cell? ⟨g.b,j,none⟩=some (cd1 g j c):=by
 obtain ⟨⟨_,cur,h1,h2⟩,_⟩:=h
 have h3:=cdV_at (g:=g) (i:=0) hj
 rw [← h2,Nat.zero_add] at h3
 rw [List.getElem?_take] at h3
 split at h3
 · rw [Array.getElem?_toList] at h3
   exact cell_lay h1 h3
 · cases h3
theorem den_two (β:Env) (n:Nat) (p q:Pl):(SV.one (.a [.b (.z n 0),.b (.z (n+1) 0)])).den (extE β n [p,q])=.agg #[.pointer (p.v 0),.pointer (q.v 0)]:=by
 have h1:=extE_in (β:=β) (n:=n) (i:=0) (xs:=[p,q]) rfl
 have h2:=extE_in (β:=β) (n:=n) (i:=1) (xs:=[p,q]) rfl
 rw [Nat.add_zero] at h1
 simp [SV.den,SC.den,Lf.den,Lf0.den,h1,h2]
def rdNum (d t:Nat) (e:TypeId) (cs:List Cd) (o:Nat) (x y:Rat) (hx:cs[o]?=some (.r x)) (hy:cs[o+1]?=some (.r y)) (k n:Nat):Ev Tryz.prog :=
 .rd d (.load 168 (.tmp t)) (fun β=>[.pointer (some ⟨(β k).b,o,none⟩)]) [(k,(rowT e cs).ob)] n (.one (.a [.b (.z n 0),.b (.z (n+1) 0)])) [ratM x,ratM y] (fun β w h ρ op ho hx'=>by
  have h1:RW e cs w (β k):=h (k,(rowT e cs).ob) (by simp)
  have h2:ρ (.tmp t)=.pointer (some ⟨(β k).b,o,none⟩):=by simpa [Op.operands] using hx'
  have p1:=cdOk_at h1.2.1.1 hx
  have p2:=cdOk_at h1.2.1.1 hy
  rw [Nat.zero_add] at p1 p2
  refine ⟨[cellPl (β k) o,cellPl (β k) (o+1)],w,fun g hg c hc=>.inr ⟨(k,(rowT e cs).ob),by simp,rfl,?_⟩,?_,⟨cellPl_or p1,cellPl_or p2,trivial⟩,Below.refl _ _⟩
  · rcases List.mem_cons.1 hg with rfl | hg
    · exact cellPl_F p1 hc
    · obtain rfl:=List.mem_singleton.1 hg
      exact cellPl_F p2 hc
  · have hr:w.rangeAt (β k).b o [.pointer ((β k).v o),.pointer ((β k).v (o+1))]:=fun j v hv=>by
     match j,hv with
     | 0,hv=>simp only [List.getElem?_cons_zero] at hv; obtain rfl:=Option.some.inj hv; exact rw_cell h1 hx
     | 1,hv=>simp only [List.getElem?_cons_succ,List.getElem?_cons_zero] at hv; obtain rfl:=Option.some.inj hv; exact rw_cell h1 hy
     | j+2,hv=>simp at hv
    have hl:=run_loadAt_mid (P:=Tryz.prog) w (β k).b o 168 _ _ hr Tryz.underlying168 (by kernel_rfl) (by kernel_rfl)
    rw [den_two]
    unfold execOp
    rw [ho]
    simp only [h2]
    simp [hl,Result.andThen]
    exact ⟨rfl,rfl⟩)
def adOf:SV→Nat × Nat
 | .one (.c (.b (.p k o)))=>(k,o)
 | _=>(0,0)
def isAd:SV→Bool
 | .one (.c (.b (.p _ _)))=>true
 | _=>false
def dNum (e:TypeId) (cs:List Cd):Ev Tryz.prog:=.dyn (fun o xs ob=>match o.op with
 | .load T (.tmp _)=>Nat.beq T 168&&isAd (xs.getD 0 undefS)&&(match ob[(adOf (xs.getD 0 undefS)).1]? with | some (.th _)=>true | _=>false)
 | _=>false) fun o xs ob=>match o.op with
 | .load _ (.tmp t)=>lit (adOf (xs.getD 0 undefS)).1 fun k=>lit (adOf (xs.getD 0 undefS)).2 fun off=>lit ob.length fun n=>match hx:cs[off]?,hy:cs[off+1]? with
  | some (.r x),some (.r y)=>rdNum (o.dst.getD 0) t e cs off x y hx hy k n
  | _,_=>.eqv 0 undef undef rfl
 | _=>.eqv 0 undef undef rfl
def rdIdx (d t:Nat) (e:TypeId) (cs:List Cd) (ix:Operand) (n j:Nat) (hj:Nat.blt j n=true) (k:Nat):Ev Tryz.prog :=
 .rd d (.indexAddr 302 (.tmp t) ix) (fun β=>[.slice ((β k).v cs.length) n ((β k).c cs.length),.int .i64 (j:Int)]) [(k,(rowT e cs).ob)] 0 (.one (.c (.b (.p k (j*2))))) [] (fun β w h ρ op ho hx'=>by
  have h1:RW e cs w (β k):=h (k,(rowT e cs).ob) (by simp)
  have h2:ρ (.tmp t)=.slice (some ⟨(β k).b,0,none⟩) n ((β k).c cs.length)∧ρ ix=.int .i64 (j:Int):=by
   rw [h1.2.1.2] at hx'
   simpa [Op.operands] using hx'
  rw [Nat.blt_eq] at hj
  refine ⟨[],w,(fun _ h=>by cases h),?_,trivial,Below.refl _ _⟩
  rw [extE_nil]
  unfold execOp
  rw [ho]
  simp only [h2.1,h2.2]
  have hi:=run_indexAt_slice (P:=Tryz.prog) w 302 ⟨(β k).b,0,none⟩ n ((β k).c cs.length) .i64 (j:Int) (by kernel_rfl)
  have hsz:(sizeOf (Tryz.prog.elem 302)).run Tryz.prog w=.ok 2 w:=by kernel_rfl
  rw [if_pos ⟨by omega,by omega⟩,hsz,Result.andThen_ok,Int.toNat_natCast] at hi
  have ha:(⟨(β k).b,0,none⟩:Addr).add (j*2)=⟨(β k).b,j*2,none⟩:=by
   simp [Addr.add]
   exact fun h=>h.symm
  rw [ha] at hi
  simp only [Sem.run_bind,hi,Result.andThen_ok]
  rfl)
def yOf:SV→Nat × Nat
 | .one (.c (.b (.y k _ n)))=>(k,n)
 | _=>(0,0)
def isY:SV→Bool
 | .one (.c (.b (.y _ _ _)))=>true
 | _=>false
def intS:SV→Nat
 | .one (.c (.b (.v (.int _ i))))=>i.toNat
 | _=>0
def dIdx (e:TypeId) (cs:List Cd):Ev Tryz.prog:=.dyn (fun o xs ob=>match o.op with
 | .indexAddr _ (.tmp _) _=>isY (xs.getD 0 undefS)
 | _=>false) fun o xs ob=>match o.op with
 | .indexAddr _ (.tmp t) ix=>lit (yOf (xs.getD 0 undefS)).1 fun k=>lit (yOf (xs.getD 0 undefS)).2 fun n=>lit (intS (xs.getD 1 undefS)) fun j=>if h:Nat.blt j n=true then rdIdx (o.dst.getD 0) t e cs ix n j h k else .eqv 0 undef undef rfl
 | _=>.eqv 0 undef undef rfl
structure CSpec (P:Program) where
 f:FuncId
 en:Enters P f
 args:List SV
 cs:List Lf
 t:TypeId
 res:SV
 news:List Thing
 ok:∀ β w,(Ob.box cs t).holds β w (β 0)→Calls P f (args.map (SV.den β)).toArray w fun e w'=>∃ xs:List Pl,(∀ x∈xs,∀ c,x.F c→w.heap.size≤c)∧e=.returned (res.den (extE β 1 xs))∧newHold w' news xs∧Below w.heap.size w w'
 cl:(cs.all (Lf.of fun _=>false)&&args.all (SV.of fun k=>Nat.beq k 0)&&res.of fun k=>Nat.ble 1 k&&Nat.blt k (1+news.length))=true
def bkOfY:List SV→Nat
 | []=>0
 | .one (.c (.b (.s k _ _ _)))::_=>k
 | _::r=>bkOfY r
def CSpec.e {P:Program} (S:CSpec P):Ev P:=.dyn (fun o _ _=>isCallB o) fun _ xs ob=>lit (bkOfY xs) fun i=>lit ob.length fun n =>
 .call S.f S.en (fun β=>(S.args.map (SV.den fun _=>β i)).toArray) [(i,.box S.cs S.t)] n (S.res.ren fun k=>n+(k-1)) S.news (fun β w h=>by
  have hc:=S.cl
  simp only [Bool.and_eq_true] at hc
  have h1:(β i).one∧w.heap[(β i).b]?=some (.cells (S.cs.map (Lf.den β)).toArray S.t (0,0)):=h _ (List.mem_singleton.2 rfl)
  refine (S.ok (fun _=>β i) w ?_).mono fun e w' ⟨xs,k1,k2,k3,k4⟩=>⟨xs,fun x hx c hc=>.inl (k1 x hx c hc),?_,k3,k4⟩
  · show (β i).one∧w.heap[(β i).b]?=some (.cells (S.cs.map (Lf.den fun _=>β i)).toArray S.t (0,0))
    rw [show S.cs.map (Lf.den fun _=>β i)=S.cs.map (Lf.den β) from List.map_congr_left fun x hx=>Lf.den_congr (q:=fun _=>false) (fun k hk=>by cases hk) x (List.all_eq_true.1 hc.1.1 x hx)]
    exact h1
  · rw [k2,SV.den_ren]
    congr 1
    refine SV.den_congr (fun k hk=>?_) _ hc.2
    have hlen:=(newHold_get k3).1
    rw [Bool.and_eq_true,Nat.ble_eq,Nat.blt_eq] at hk
    have h5:k-1<xs.length:=by omega
    rw [extE_in (List.getElem?_eq_getElem h5)]
    have:=extE_in (β:=fun _=>β i) (n:=1) (List.getElem?_eq_getElem h5)
    rw [show 1+(k-1)=k by omega] at this
    exact this)
end Go.Proofs.YtmfedaakeeiolaaGreat.Y
end
