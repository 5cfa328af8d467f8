/- CxB, CxC, CxL, CxW, CxJ, Open, OpnB, OpnM, OpnD, OpnL, OpnK. -/
import Derived.ProofKit
import Derived.OpenShut
import Derived.ShutString
import Derived.ChangeOld
import Derived.Below
import Derived.Deep.Slices
import Derived.Test.YtmfedaakeeiolaaGreatSk13
set_option linter.unnecessarySimpa false
set_option linter.unusedVariables false
set_option linter.unusedSimpArgs false
section
namespace Go.Proofs.YtmfedaakeeiolaaGreat.Y
open Go Go.RowKit
set_option maxRecDepth 100000
theorem cx_said0 {P:Program} {fn:Func} {m0:Nat} {res res':SV} {β:Env} {w:World} {e:Ending} {w':World} (h:Said P fn m0 res [] β w e w') (hr:∀ β':Env,(∀ k,k<m0→β' k=β k)→res.den β'=res'.den β):∃ xs:List Pl,freshS β w m0 xs∧e=.returned (res'.den (extE β m0 xs))∧newHold w' [] xs∧Below w.heap.size w w':=by
 obtain ⟨β',q,obj,hb,rfl,_,_,_,g⟩:=h
 exact ⟨[],(fun _ h=>by cases h),by rw [hr β' hb,extE_nil],trivial,g.bel⟩
theorem cx_said1 {P:Program} {fn:Func} {m0 k:Nat} {res res':SV} {t:Thing} {β:Env} {w:World} {e:Ending} {w':World} (h:Said P fn m0 res [(k,t.ob)] β w e w') (hr:∀ β':Env,(∀ k,k<m0→β' k=β k)→res.den β'=res'.den (extE β m0 [β' k])):∃ xs:List Pl,freshS β w m0 xs∧e=.returned (res'.den (extE β m0 xs))∧newHold w' [t] xs∧Below w.heap.size w w':=by
 obtain ⟨β',q,obj,hb,rfl,_,hF,hh,g⟩:=h
 refine ⟨[β' k],fun x hx c hc=>?_,by rw [hr β' hb],⟨hh _ (List.mem_singleton.2 rfl),trivial⟩,g.bel⟩
 obtain rfl:=List.mem_singleton.1 hx
 exact hF _ (List.mem_singleton.2 rfl) c hc
theorem cx_hd {m0 N B0:Nat} {w0:World} {β0:Env} {Q:Exit→Act→World→Prop} {u:Nat} {sl:List (Nat × SV)} {ob:List Ob} {ev ev':List (Ev Tryz.prog)} {p:Code × List Kf} (h:HdOk Tryz.prog m0 N B0 w0 β0 Q (mkC Tryz.prog N u sl ob ev) p):HdOk Tryz.prog m0 N B0 w0 β0 Q (mkC Tryz.prog N u sl ob ev') p :=
 fun β a w hβ hs=>h β a w hβ (hs.ev ev)
noncomputable def rwDesc (T:TypeId):TypeDesc:=(Tryz.prog.underlying T).getD (.slice 0)
theorem rwDesc_u {T:TypeId} (h:((Tryz.prog.underlying T).map fun d=>d.isRow)=some true):Tryz.prog.underlying T=some (rwDesc T)∧(rwDesc T).isRow=true:=by
 unfold rwDesc
 cases h2:Tryz.prog.underlying T with
 | none=>rw [h2] at h; cases h
 | some d =>
  rw [h2] at h
  exact ⟨rfl,Option.some.inj h⟩
noncomputable def faB (T:TypeId) (i off:Nat):Bool:=match Tryz.prog.underlying T with
 | some (.struct fs)=>match fs[i]? with
  | some f=>Nat.beq f.offset off&&match Tryz.prog.info? f.type with
   | some n=>!Nat.beq n.size 0
   | none=>false
  | none=>false
 | _=>false
theorem fa_run {T:TypeId} {i off:Nat} (h:faB T i off=true) (a:Addr) (w:World):(Instr.fieldAt T (.pointer (some a)) i).run Tryz.prog w=.ok (.pointer (some (a.add off))) w:=by
 unfold faB at h
 split at h
 · rename_i fs hu
   split at h
   · rename_i f hf
     rw [Bool.and_eq_true] at h
     obtain ⟨h1,h2⟩:=h
     split at h2
     · rename_i inf hi
       have hs:inf.size≠0:=by
        intro e
        rw [e] at h2
        cases h2
       obtain rfl:=Nat.eq_of_beq_eq_true h1
       simp [Instr.fieldAt,run_underlying hu,Instr.sureAddr,fieldPlace,sizeOf,typeInfo,hf,hi,hs]
     · cases h2
   · cases h
 · cases h
theorem rw_part {w:World} {b o k n:Nat} {cs:List Value} (h:w.rangeAt b o cs):w.rangeAt b (o+k) ((cs.drop k).take n):=fun i v hv=>by
 have h1:cs[k+i]?=some v:=by
  rw [List.getElem?_take] at hv
  split at hv
  · rw [List.getElem?_drop] at hv
    exact hv
  · cases hv
 have:=h (k+i) v h1
 rw [Nat.add_assoc]
 exact this
def eFa {T:TypeId} {sz I off n j:Nat} (L:Nat→List Lf) (hf:faB T I off=true) (hj:j<n):Ev Tryz.prog:=.dyn (fun o _ _=>match o.op with
 | .fieldAddr t _ i=>Nat.beq t T&&Nat.beq i I
 | _=>false) fun o xs _=>match o.op with
 | .fieldAddr _ x _=>lit (lsZOf (xs.getD 0 undefS)) fun k=>.rd (o.dst.getD 0) (.fieldAddr T x I) (fun β=>[.pointer ((β k).v (j*sz))]) [(k,(rwT sz n L).ob)] 0 (.one (.c (.b (.z k (j*sz+off))))) [] (fun β w h ρ o ho hx=>by
   have h1:RwD sz n L w (β k):=h _ (List.mem_singleton.2 rfl)
   have h3:ρ x=.pointer ((β k).v (j*sz)):=by simpa [Op.operands] using hx
   rcases h1 with h1 | ⟨h0,b,of,cs,t,fr,h1,h2,h4,h5⟩
   · omega
   refine ⟨[],w,(fun _ h=>by cases h),?_,trivial,Below.refl _ _⟩
   unfold execOp
   rw [ho]
   dsimp only
   have e:((SV.one (.c (.b (.z k (j*sz+off))))).den (extE β 0 []))=.pointer (some ((⟨b,of+j*sz,none⟩:Addr).add off)):=by
    show Value.pointer ((β k).v (j*sz+off))=_
    rw [h1,Addr.add_mid,Nat.add_assoc]
   have h6:=fa_run hf (⟨b,of+j*sz,none⟩:Addr) w
   rw [e,h3,h1]
   simp only [Sem.run_bind,h6,Result.andThen_ok]
   rfl)
 | _=>.cut
def ePt {T:TypeId} {d:TypeDesc} (hu:Tryz.prog.underlying T=some d) (hd:d.isRow=true) (sz off:Nat) {n j:Nat} {L:Nat→List Lf} {cs:List Lf} {m:Nat} (hc:((L j).drop off).take m=cs) (hs:(Tryz.prog.info? T).map (·.size)=some cs.length) (hL:∀ β,cs.map (Lf.den β)=cs.map (Lf.den idE)) (hj:j<n):Ev Tryz.prog:=.dyn (fun o xs _=>match o.op with
 | .load t _=>Nat.beq t T
 | _=>false) fun o xs _=>match o.op with
 | .load _ x=>lit (lsZOf (xs.getD 0 undefS)) fun k=>.rd (o.dst.getD 0) (.load T x) (fun β=>[.pointer ((β k).v (j*sz+off))]) [(k,(rwT sz n L).ob)] 0 (.one (.a cs)) [] (fun β w h ρ o ho hx=>by
   have h1:RwD sz n L w (β k):=h _ (List.mem_singleton.2 rfl)
   have h3:ρ x=.pointer ((β k).v (j*sz+off)):=by simpa [Op.operands] using hx
   rcases h1 with h1 | ⟨h0,b,of,cl,t,fr,h1,h2,h4,h5⟩
   · omega
   refine ⟨[],w,(fun _ h=>by cases h),?_,trivial,Below.refl _ _⟩
   unfold execOp
   rw [ho]
   dsimp only
   rw [h3,h1]
   have h7:w.rangeAt b (of+j*sz+off) (cs.map (Lf.den idE)):=by
    rw [← hc,List.map_take,List.map_drop]
    exact rw_part (h5 j hj)
   have h6:=run_loadAt_mid (P:=Tryz.prog) w b (of+j*sz+off) T (cs.map (Lf.den idE)) d h7 hu hd (by rw [List.length_map]; exact hs)
   have e:((SV.one (.a cs)).den (extE β 0 []))=.agg (cs.map (Lf.den idE)).toArray:=by
    show Value.agg (cs.map (Lf.den (extE β 0 []))).toArray=_
    rw [hL]
   rw [e]
   rw [Nat.add_assoc] at h6
   simp only [Sem.run_bind,h6,Result.andThen_ok]
   rfl)
 | _=>.cut
abbrev TCs:TypeId:=127
abbrev TCi:TypeId:=105
abbrev TFr:TypeId:=25
theorem tcs_u:Tryz.prog.underlying TCs=some (.slice (Tryz.prog.elem TCs)):=by kernel_rfl
theorem tcs_s:(Tryz.prog.info? (Tryz.prog.elem TCs)).map (·.size)=some 16:=by kernel_rfl
theorem tci_d:((Tryz.prog.underlying TCi).map fun d=>d.isRow)=some true:=by kernel_rfl
theorem tgs_d:((Tryz.prog.underlying 37).map fun d=>d.isRow)=some true:=by kernel_rfl
theorem tfr_d:((Tryz.prog.underlying TFr).map fun d=>d.isRow)=some true:=by kernel_rfl
inductive Cq where
 | ok (r:RQ) (h:MayC r)
 | no (a b b' c:R4) (h:CkNo (cbC a b b' c)) (hw:WheelNo (cbC a b b' c))
def Cq.B:Cq→Bool
 | .ok ..=>true
 | .no ..=>false
def Cq.a:Cq→R4
 | .ok r _=>fR r.a
 | .no a _ _ _ _ _=>a
def Cq.b:Cq→R4
 | .ok r _=>fR r.b.re
 | .no _ b _ _ _ _=>b
def Cq.b':Cq→R4
 | .ok r _=>fR r.b.im
 | .no _ _ b _ _ _=>b
def Cq.c:Cq→R4
 | .ok r _=>fR r.c
 | .no _ _ _ c _ _=>c
abbrev cqL (p:Cq):List Lf:=cbC p.a p.b p.b' p.c
theorem cqNum (x:Fn) (z:Gn) (y:Fn) (h:(x.B&&(z.B&&y.B))=false):WheelNo (cbC x.r z.x z.y y.r):=wheelNum x z y h
theorem cqOf {r:RQ} (h:WheelNo (cC r)):WheelNo (cbC (fR r.a) (fR r.b.re) (fR r.b.im) (fR r.c)):=by
 rw [cC_eq] at h
 exact h
theorem cq_mk {r:RQ} (h:WheelNo (cC r)) (k:∀ (β:Env) (w:World),Calls Tryz.prog 85 (([.one (.a (cC r))]:List SV).map (SV.den β)).toArray w fun e w'=>e=.returned (.int .i64 2)∧Below w.heap.size w w'):∃ p:Cq,p.a=fR r.a∧p.b=fR r.b.re∧p.b'=fR r.b.im∧p.c=fR r.c:=by
 have c1:=ckNoOf h k
 have c2:=cqOf h
 exact ⟨.no _ _ _ _ c1 c2,rfl,rfl,rfl,rfl⟩
theorem cq_of (a b b' c:R4) (ha:a.s.size≤maxLen∧a.t.size≤maxLen) (hb:b.s.size≤maxLen∧b.t.size≤maxLen) (hb':b'.s.size≤maxLen∧b'.t.size≤maxLen) (hc:c.s.size≤maxLen∧c.t.size≤maxLen):∃ p:Cq,p.a=a∧p.b=b∧p.b'=b'∧p.c=c:=by
 obtain ⟨x,rfl⟩:=fn_of a ha
 obtain ⟨z,rfl,rfl⟩:=gn_of b b' hb hb'
 obtain ⟨y,rfl⟩:=fn_of c hc
 cases h:(x.B&&(z.B&&y.B)) with
 | false=>exact ⟨.no x.r z.x z.y y.r (ckNoNum x z y h) (cqNum x z y h),rfl,rfl,rfl,rfl⟩
 | true =>
  cases x with
  | no=>cases h
  | ok x hx=>cases z with
   | no=>cases h
   | ok z hz=>cases y with
    | no=>cases h
    | ok y hy =>
     have hf:FitC ⟨x,z,y⟩:=⟨hx,hz,hy⟩
     cases hp:decide ((rpow ⟨x,z,y⟩).num.sign≤0) with
     | true=>exact cq_mk (r:=⟨x,z,y⟩) (wheelPow hf hp) (ckPow hf hp)
     | false =>
      by_cases hne:rone ⟨x,z,y⟩=⟨x,z,y⟩
      · exact ⟨.ok ⟨x,z,y⟩ ⟨hf,hp,hne⟩,rfl,rfl,rfl,rfl⟩
      · exact cq_mk (r:=⟨x,z,y⟩) (wheelOne hf hp hne) (ckOne hf hp hne)
theorem cq_no {p:Cq} (h:p.B=false):CkNo (cqL p)∧WheelNo (cqL p):=by
 cases p with
 | ok=>cases h
 | no a b b' c hk hw=>exact ⟨hk,hw⟩
noncomputable def cqR (p:Cq):RQ:=match p with
 | .ok r _=>r
 | .no ..=>⟨0,⟨0,0⟩,0⟩
theorem cqR_ok {p:Cq} (h:p.B=true):MayC (cqR p)∧cqL p=cC (cqR p):=by
 cases p with
 | ok r hr=>exact ⟨hr,(cC_eq r).symm⟩
 | no=>cases h
abbrev cxL (C:Nat→Cq) (j:Nat):List Lf:=cqL (C j)
abbrev cxT (N:Nat) (C:Nat→Cq):Thing:=rwT 16 N (cxL C)
abbrev cxS (n:Nat):SV:=.one (.c (.b (.y 0 0 n)))
noncomputable def cxIx {n N j:Nat} (C:Nat→Cq) (hj:j<n) (hN:n≤N):Ev Tryz.prog:=eIx tcs_u tcs_s (cxL C) hj hN
noncomputable def cxLd {n j:Nat} (C:Nat→Cq) (hj:j<n):Ev Tryz.prog:=eLd (rwDesc_u tci_d).1 (rwDesc_u tci_d).2 16 (L:=cxL C) (by kernel_rfl) (fun β=>rfl) hj
noncomputable def cxFa {n j:Nat} (C:Nat→Cq) (hj:j<n):Ev Tryz.prog:=eFa (T:=TCi) (sz:=16) (I:=0) (off:=0) (cxL C) (by kernel_rfl) hj
noncomputable def cxFb {n j:Nat} (C:Nat→Cq) (hj:j<n):Ev Tryz.prog:=eFa (T:=TCi) (sz:=16) (I:=1) (off:=4) (cxL C) (by kernel_rfl) hj
noncomputable def cxFc {n j:Nat} (C:Nat→Cq) (hj:j<n):Ev Tryz.prog:=eFa (T:=TCi) (sz:=16) (I:=2) (off:=12) (cxL C) (by kernel_rfl) hj
noncomputable def cxPa {n j:Nat} (C:Nat→Cq) (hj:j<n):Ev Tryz.prog:=ePt (rwDesc_u tfr_d).1 (rwDesc_u tfr_d).2 16 0 (L:=cxL C) (cs:=rL (C j).a) (m:=4) rfl (by kernel_rfl) (fun β=>rfl) hj
noncomputable def cxPb {n j:Nat} (C:Nat→Cq) (hj:j<n):Ev Tryz.prog:=ePt (rwDesc_u tgs_d).1 (rwDesc_u tgs_d).2 16 4 (L:=cxL C) (cs:=rL (C j).b++rL (C j).b') (m:=8) rfl (by kernel_rfl) (fun β=>rfl) hj
noncomputable def cxPc {n j:Nat} (C:Nat→Cq) (hj:j<n):Ev Tryz.prog:=ePt (rwDesc_u tfr_d).1 (rwDesc_u tfr_d).2 16 12 (L:=cxL C) (cs:=rL (C j).c) (m:=4) rfl (by kernel_rfl) (fun β=>rfl) hj
noncomputable abbrev wdF:Func:=Tryz.f78
section
variable (n:Nat) (C:Nat→Cq)
noncomputable abbrev wdN:Nat:=sizeS wdF [cxS n]
abbrev wdSl (j:Nat):List (Nat × SV):=[(0,cxS n),(2,.one (.c (.b (.v (.bool false))))),(3,.one (nI' (j:Int)))]
noncomputable abbrev wdC (j:Nat) (ev:List (Ev Tryz.prog)):Cf Tryz.prog:=mkC Tryz.prog (wdN n) 1 (wdSl n j) [(cxT n C).ob,.dead] ev
abbrev wdH (r:Bool) (β0:Env) (w:World) (c:Cf Tryz.prog):Prop:=HdOk Tryz.prog 1 (wdN n) w.heap.size w β0 (bodyPost Tryz.prog wdF (Said Tryz.prog wdF 1 (tB' r) [] β0 w)) c (lpAt wdF 0)
variable (β0:Env) (w:World) {j:Nat}
def CqW (p:Cq) (r:Bool):Prop:=CbWide p.a p.b p.b' p.c r
noncomputable def wdE0 (hj:j<n):List (Ev Tryz.prog):=[.eqv 7 (.bool (decide ((j:Int)<(n:Int)))) (.bool true) (by rw [decide_eq_true (by omega)]),cxIx C hj (Nat.le_refl n),cxFa C hj,cxPa C hj]
noncomputable def wdE1 (hj:j<n):List (Ev Tryz.prog):=[cxIx C hj (Nat.le_refl n),cxFb C hj,cxPb C hj]
noncomputable def wdE2 (hj:j<n):List (Ev Tryz.prog):=[cxIx C hj (Nat.le_refl n),cxFc C hj,cxPc C hj]
noncomputable def wdA (hj:j<n) {rb rb':Bool} (ha:Lg1 (C j).a false) (hb:Lg1 (C j).b rb) (hb':Lg1 (C j).b' rb') {k:Bool} (hk:(rb||rb')=k):List (Ev Tryz.prog):=wdE0 n C hj++[(sLongF (C j).a ha).e]++wdE1 n C hj++[(sLongG1 hb hb' hk).e]
theorem wd_step0 (hj:j<n) {rb rb':Bool} (ha:Lg1 (C j).a false) (hb:Lg1 (C j).b rb) (hb':Lg1 (C j).b' rb') (hk:(rb||rb')=false) (hc:Lg1 (C j).c false) {j2:Int} (hj2:IntKind.i64.wrap ((j:Int)+1)=j2) (e2:j2=((j+1:Nat):Int)) (r:Bool) (k:wdH n r β0 w (wdC n C (j+1) [])) :
  wdH n r β0 w (wdC n C j (wdA n C hj ha hb hb' hk++wdE2 n C hj++[(sLongF (C j).c hc).e,.eqv 9 (.int .i64 (IntKind.i64.wrap ((j:Int)+1))) (.int .i64 ((j+1:Nat):Int)) (by rw [hj2,e2]),.cut])) :=
 piece_ok (Ns:=[]) (m:=800) [] [0,0] hmA (by kernel_rfl) (fun β=>ok_of_maps (by kernel_rfl)) k
theorem wd_step (hj:j<n) (h:CqW (C j) false) {j2:Int} (hj2:IntKind.i64.wrap ((j:Int)+1)=j2) (e2:j2=((j+1:Nat):Int)) (r:Bool) (k:wdH n r β0 w (wdC n C (j+1) [])):wdH n r β0 w (wdC n C j []):=by
 obtain ⟨ra,rb,rb',rc,ha,hb,hb',hc,e⟩:=h
 rw [Bool.or_eq_false_iff,Bool.or_eq_false_iff] at e
 obtain ⟨rfl,hbb,rfl⟩:=e
 exact cx_hd (wd_step0 n C β0 w hj ha hb hb' hbb hc hj2 e2 r k)
theorem wd_yesA (hj:j<n) (ha:Lg1 (C j).a true):wdH n true β0 w (wdC n C j (wdE0 n C hj++[(sLongF (C j).a ha).e])) :=
 last_ok (Ns:=[]) (m:=800) hmA (fun β=>ok_of_maps (by kernel_rfl))
theorem wd_yesB (hj:j<n) {rb rb':Bool} (ha:Lg1 (C j).a false) (hb:Lg1 (C j).b rb) (hb':Lg1 (C j).b' rb') (hk:(rb||rb')=true):wdH n true β0 w (wdC n C j (wdA n C hj ha hb hb' hk)) :=
 last_ok (Ns:=[]) (m:=800) hmA (fun β=>ok_of_maps (by kernel_rfl))
theorem wd_yesC (hj:j<n) {rb rb':Bool} (ha:Lg1 (C j).a false) (hb:Lg1 (C j).b rb) (hb':Lg1 (C j).b' rb') (hk:(rb||rb')=false) (hc:Lg1 (C j).c true):wdH n true β0 w (wdC n C j (wdA n C hj ha hb hb' hk++wdE2 n C hj++[(sLongF (C j).c hc).e])) :=
 last_ok (Ns:=[]) (m:=800) hmA (fun β=>ok_of_maps (by kernel_rfl))
theorem wd_yes (hj:j<n) (h:CqW (C j) true):wdH n true β0 w (wdC n C j []):=by
 obtain ⟨ra,rb,rb',rc,ha,hb,hb',hc,e⟩:=h
 cases ra with
 | true=>exact cx_hd (wd_yesA n C β0 w hj ha)
 | false=>cases k:(rb||rb') with
  | true=>exact cx_hd (wd_yesB n C β0 w hj ha hb hb' k)
  | false=>cases rc with
   | true=>exact cx_hd (wd_yesC n C β0 w hj ha hb hb' k hc)
   | false=>rw [k] at e; cases e
theorem wd_end:wdH n false β0 w (wdC n C n [.eqv 7 (.bool (decide ((n:Int)<(n:Int)))) (.bool false) (by rw [decide_eq_false (by omega)])]) :=
 last_ok (Ns:=[]) (m:=400) hmA (fun β=>ok_of_maps (by kernel_rfl))
theorem wd_loopY (hn:n≤maxLen) {i:Nat} (hi:i<n) (h:CqW (C i) true) (h2:∀ k,k<i→CqW (C k) false):∀ (d j:Nat),j+d=i→wdH n true β0 w (wdC n C j [])
 | 0,j,e=>by
  obtain rfl:j=i:=by omega
  exact wd_yes n C β0 w hi h
 | d+1,j,e=>wd_step n C β0 w (by omega) (h2 j (by omega)) (j2:=((j+1:Nat):Int)) (by rw [IntKind.wrap_i64]; simp only [maxLen] at hn; omega) rfl true (wd_loopY hn hi h h2 d (j+1) (by omega))
theorem wd_loopN (hn:n≤maxLen) (h:∀ i,i<n→CqW (C i) false):∀ (d j:Nat),j+d=n→wdH n false β0 w (wdC n C j [])
 | 0,j,e=>by
  obtain rfl:j=n:=by omega
  exact cx_hd (wd_end j C β0 w)
 | d+1,j,e=>wd_step n C β0 w (by omega) (h j (by omega)) (j2:=((j+1:Nat):Int)) (by rw [IntKind.wrap_i64]; simp only [maxLen] at hn; omega) rfl false (wd_loopN hn h d (j+1) (by omega))
theorem wd_start (r:Bool) (hh:(cxT n C).D w (β0 0)) (h:wdH n r β0 w (wdC n C 0 [])):Calls Tryz.prog 78 (([cxS n]:List SV).map (SV.den β0)).toArray w (Said Tryz.prog wdF 1 (tB' r) [] β0 w) :=
 sx_cut (P:=Tryz.prog) [cxS n] [(cxT n C).ob] [.cut] [] [] 400 (tB' r) [] Tryz.func78 hmA (u:=1) (sl:=wdSl n 0) (ob:=[(cxT n C).ob,.dead]) (σ:=[0,0]) (p':=lpAt wdF 0) (by kernel_rfl) (fun β=>ok_of_maps (by kernel_rfl)) (by kernel_rfl) (by kernel_rfl) β0 w (fun i o ho=>by
  cases i with
  | zero=>simp only [List.getElem?_cons_zero] at ho; obtain rfl:=Option.some.inj ho; exact hh
  | succ i=>simp at ho) h
end
theorem cx_first {f:Nat→Bool} {n:Nat} (h:∃ i,i<n∧f i=true):∃ i,i<n∧f i=true∧∀ k,k<i→f k=false:=by
 induction n with
 | zero=>obtain ⟨i,hi,_⟩:=h; exact absurd hi (Nat.not_lt_zero i)
 | succ n ih =>
  by_cases h3:∃ i,i<n∧f i=true
  · obtain ⟨i,k1,k2,k3⟩:=ih h3
    exact ⟨i,by omega,k2,k3⟩
  · obtain ⟨i,hi,hf⟩:=h
    have e:i=n:=by
     rcases Nat.lt_succ_iff_lt_or_eq.1 hi with h4 | h4
     · exact absurd ⟨i,h4,hf⟩ h3
     · exact h4
    subst e
    exact ⟨i,hi,hf,fun k hk=>by
     rw [Bool.eq_false_iff]
     intro e
     exact h3 ⟨k,hk,e⟩⟩
theorem wd_all {n:Nat} (C:Nat→Cq) (hn:n≤maxLen):∃ r:Bool,((r=false→∀ i,i<n→CqW (C i) false)∧∀ (β0:Env) (w:World),(cxT n C).D w (β0 0)→Calls Tryz.prog 78 (([cxS n]:List SV).map (SV.den β0)).toArray w (Said Tryz.prog wdF 1 (tB' r) [] β0 w)):=by
 have hW:∀ i,∃ r,CqW (C i) r:=fun i=>CbWide.all _ _ _ _
 obtain ⟨f,hf⟩:∃ f:Nat→Bool,∀ i,CqW (C i) (f i):=⟨fun i=>(hW i).choose,fun i=>(hW i).choose_spec⟩
 by_cases h:∃ i,i<n∧f i=true
 · obtain ⟨i,h1,h2,h3⟩:=cx_first h
   refine ⟨true,fun e=>(by cases e),fun β0 w hh=>wd_start n C β0 w true hh (wd_loopY n C β0 w hn h1 (by rw [← h2]; exact hf i) (fun k hk=>by rw [← h3 k hk]; exact hf k) i 0 (by omega))⟩
 · have h2:∀ i,i<n→CqW (C i) false:=fun i hi=>by
    have:=hf i
    cases e:f i with
    | true=>exact absurd ⟨i,hi,e⟩ h
    | false=>rw [e] at this; exact this
   exact ⟨false,fun _=>h2,fun β0 w hh=>wd_start n C β0 w false hh (wd_loopN n C β0 w hn h2 n 0 (by omega))⟩
def CxWide (n:Nat) (C:Nat→Cq) (r:Bool):Prop:=∀ (β0:Env) (w:World),(cxT n C).D w (β0 0)→Calls Tryz.prog 78 (([cxS n]:List SV).map (SV.den β0)).toArray w (Said Tryz.prog wdF 1 (tB' r) [] β0 w)
noncomputable def sCxWide {n:Nat} {C:Nat→Cq} {r:Bool} (h:CxWide n C r):Spec Tryz.prog :=
 ⟨78,Tryz.call78,[cxS n],[cxT n C],tB' r,[],fun β w hh=>(h β w (hh 0 _ rfl)).mono fun e w' h=>cx_said0 h fun β' _=>rfl,by kernel_rfl⟩
abbrev cxK (b:Bool):Int:=bif b then 0 else 2
noncomputable def sCxCk (p:Cq) {b:Bool} (hb:p.B=b):Spec Tryz.prog :=
 ⟨86,Tryz.call86,[.one (.a (cqL p))],[],.one (nI' (cxK b)),[],fun β w hh=>by
  cases b with
  | true =>
   rw [(cqR_ok hb).2]
   exact (sCCheck (cqR_ok hb).1).ok β w hh
  | false=>exact (sCkNo (cq_no hb).1).ok β w hh,by kernel_rfl⟩
noncomputable def sCxRk (p:Cq) {b:Bool} (hb:p.B=b):Spec Tryz.prog :=
 ⟨85,Tryz.call85,[.one (.a (cqL p))],[],.one (nI' (cxK b)),[],fun β w hh=>by
  cases b with
  | true =>
   rw [(cqR_ok hb).2]
   exact (sRCk (cqR_ok hb).1).ok β w hh
  | false=>exact (sRCkNo (cq_no hb).1).ok β w hh,by kernel_rfl⟩
noncomputable def sCxC1 (p:Cq) {b:Bool} (hb:p.B=b):Spec Tryz.prog :=
 ⟨219,Tryz.call219,[.one (.a (cqL p))],[],tB' (!b),[],fun β w hh=>by
  cases b
  · exact spec_auto (evs:=[(sCxCk p hb).e]) (Ns:=[]) (m:=400) Tryz.func219 hmA (fun β=>by kernel_rfl) (by kernel_rfl) β w hh
  · exact spec_auto (evs:=[(sCxCk p hb).e]) (Ns:=[]) (m:=400) Tryz.func219 hmA (fun β=>by kernel_rfl) (by kernel_rfl) β w hh,by kernel_rfl⟩
noncomputable abbrev xiF:Func:=Tryz.f308
abbrev xiV:SV:=.one (.c (.f (.func 219) [] []))
abbrev xiA (n:Nat):List SV:=[cxS n,xiV]
section
variable (n N:Nat) (C:Nat→Cq)
noncomputable abbrev xiN:Nat:=sizeS xiF (xiA n)
abbrev xiSl (j:Nat):List (Nat × SV):=[(0,cxS n),(1,xiV),(7,.one (nI' (n:Int))),(8,.one (nI' (j:Int)))]
noncomputable abbrev xiC (j:Nat) (ev:List (Ev Tryz.prog)):Cf Tryz.prog:=mkC Tryz.prog (xiN n) 1 (xiSl n j) [(cxT N C).ob,.dead] ev
abbrev xiH (r:Int) (β0:Env) (w:World) (c:Cf Tryz.prog):Prop:=HdOk Tryz.prog 1 (xiN n) w.heap.size w β0 (bodyPost Tryz.prog xiF (Said Tryz.prog xiF 1 (.one (nI' r)) [] β0 w)) c (lpAt xiF 0)
variable (β0:Env) (w:World) {j:Nat} (hN:n≤N)
noncomputable def xiE (hj:j<n):List (Ev Tryz.prog):=[.eqv 9 (.bool (decide ((j:Int)<(n:Int)))) (.bool true) (by rw [decide_eq_true (by omega)]),cxIx C hj hN,cxLd (n:=N) C (Nat.lt_of_lt_of_le hj hN)]
theorem xi_step (r:Int) (hj:j<n) (h:(C j).B=true) {j2:Int} (hj2:IntKind.i64.wrap ((j:Int)+1)=j2) (e2:j2=((j+1:Nat):Int)) (k:xiH n r β0 w (xiC n N C (j+1) [])):xiH n r β0 w (xiC n N C j (xiE n N C hN hj++[(sCxC1 (C j) h).e,.eqv 18 (.int .i64 (IntKind.i64.wrap ((j:Int)+1))) (.int .i64 ((j+1:Nat):Int)) (by rw [hj2,e2]),.cut])) :=
 piece_ok (Ns:=[]) (m:=400) [] [0,0] hmA (by kernel_rfl) (fun β=>ok_of_maps (by kernel_rfl)) k
theorem xi_no (hj:j<n) (h:(C j).B=false):xiH n (j:Int) β0 w (xiC n N C j (xiE n N C hN hj++[(sCxC1 (C j) h).e])) :=
 last_ok (Ns:=[]) (m:=400) hmA (fun β=>ok_of_maps (by kernel_rfl))
theorem xi_end:xiH n (-1) β0 w (xiC n N C n [.eqv 9 (.bool (decide ((n:Int)<(n:Int)))) (.bool false) (by rw [decide_eq_false (by omega)])]) :=
 last_ok (Ns:=[]) (m:=400) hmA (fun β=>ok_of_maps (by kernel_rfl))
include hN in
theorem xi_loop (hn:n≤1048576) (h:∀ i,i<n→(C i).B=true):∀ (d j:Nat),j+d=n→xiH n (-1) β0 w (xiC n N C j [])
 | 0,j,e=>by
  obtain rfl:j=n:=by omega
  exact cx_hd (xi_end j N C β0 w)
 | d+1,j,e=>cx_hd (xi_step n N C β0 w hN _ (by omega) (h j (by omega)) (j2:=((j+1:Nat):Int)) (by rw [IntKind.wrap_i64]; omega) rfl (xi_loop hn h d (j+1) (by omega)))
include hN in
theorem xi_loopN (hn:n≤1048576) {i:Nat} (hi:i<n) (h:(C i).B=false) (h2:∀ k,k<i→(C k).B=true):∀ (d j:Nat),j+d=i→xiH n (i:Int) β0 w (xiC n N C j [])
 | 0,j,e=>by
  obtain rfl:j=i:=by omega
  exact cx_hd (xi_no n N C β0 w hN hi h)
 | d+1,j,e=>cx_hd (xi_step n N C β0 w hN _ (by omega) (h2 j (by omega)) (j2:=((j+1:Nat):Int)) (by rw [IntKind.wrap_i64]; omega) rfl (xi_loopN hn hi h h2 d (j+1) (by omega)))
theorem xi_start (r:Int) (hh:(cxT N C).D w (β0 0)) (h:xiH n r β0 w (xiC n N C 0 [])):Calls Tryz.prog 308 ((xiA n).map (SV.den β0)).toArray w (Said Tryz.prog xiF 1 (.one (nI' r)) [] β0 w) :=
 sx_cut (P:=Tryz.prog) (xiA n) [(cxT N C).ob] [.cut] [] [] 400 (.one (nI' r)) [] Tryz.func308 hmA (u:=1) (sl:=xiSl n 0) (ob:=[(cxT N C).ob,.dead]) (σ:=[0,0]) (p':=lpAt xiF 0) (by kernel_rfl) (fun β=>ok_of_maps (by kernel_rfl)) (by kernel_rfl) (by kernel_rfl) β0 w (fun i o ho=>by
  cases i with
  | zero=>simp only [List.getElem?_cons_zero] at ho; obtain rfl:=Option.some.inj ho; exact hh
  | succ i=>simp at ho) h
end
noncomputable def cxI {n N:Nat} (C:Nat→Cq) (hN:n≤N) (hn:n≤1048576) (h:∀ i,i<n→(C i).B=true):Spec Tryz.prog :=
 ⟨308,Tryz.call308,xiA n,[cxT N C],.one (nI' (-1)),[],fun β w hh=>(xi_start n N C β w _ (hh 0 _ rfl) (xi_loop n N C β w hN hn h n 0 (by omega))).mono fun e w' h=>cx_said0 h fun β' _=>rfl,by kernel_rfl⟩
noncomputable def cxINo {n N:Nat} (C:Nat→Cq) (hN:n≤N) (hn:n≤1048576) {i:Nat} (hi:i<n) (h:(C i).B=false) (h2:∀ k,k<i→(C k).B=true):Spec Tryz.prog :=
 ⟨308,Tryz.call308,xiA n,[cxT N C],.one (nI' (i:Int)),[],fun β w hh=>(xi_start n N C β w _ (hh 0 _ rfl) (xi_loopN n N C β w hN hn hi h h2 i 0 (by omega))).mono fun e w' h=>cx_said0 h fun β' _=>rfl,by kernel_rfl⟩
noncomputable def cxHas {n N:Nat} (C:Nat→Cq) (hN:n≤N) (hn:n≤1048576) (h:∀ i,i<n→(C i).B=true):Spec Tryz.prog :=
 Spec.auto Tryz.call218 (xiA n) [cxT N C] (tB' false) [] [(cxI C hN hn h).e] [] 400 Tryz.func218 hmA (by kernel_rfl) (fun β=>by kernel_rfl)
noncomputable def cxHasNo {n N:Nat} (C:Nat→Cq) (hN:n≤N) (hn:n≤1048576) {i:Nat} (hi:i<n) (h:(C i).B=false) (h2:∀ k,k<i→(C k).B=true):Spec Tryz.prog :=
 Spec.auto Tryz.call218 (xiA n) [cxT N C] (tB' true) [] [(cxINo C hN hn hi h h2).e,.eqv 8 (.bool (decide ((0:Int)≤(i:Int)))) (.bool true) (by rw [decide_eq_true (by omega)])] [] 400 Tryz.func218 hmA (by kernel_rfl) (fun β=>by kernel_rfl)
section
variable {p:Cq} (h:p.B=true) {m:MQ} (hm:MayQ m)
noncomputable def sWheelQ:Spec Tryz.prog:=(sWheel (cqR_ok h).1).as [.one (.a (cqL p))] (.tup [.a [.b (.z 0 0),.b (.z 1 0),.b (.z 2 0),.b (.z 3 0)],.c (.b (.v (.bool true)))]) (by
 show [SV.one (.a (cC (cqR p)))]=[SV.one (.a (cqL p))]
 rw [(cqR_ok h).2]) rfl
noncomputable abbrev cxM (m:MQ) (p:Cq):RQ:=imR (cqR p) m
noncomputable def cxTold (hF:FitC (cxM m p)):Spec Tryz.prog:=(sCbTold (cqR_ok h).1 hm).conv (.tup [.a (cC (cxM m p)),nI' 0]) (by
 show ciA (imR (cqR p) m)=_
 rw [ciA,(ci_fit hF).1,(ci_fit hF).2])
noncomputable def cxUnt (hF:¬ FitC (cxM m p)):Spec Tryz.prog:=(sCbTold (cqR_ok h).1 hm).conv (.tup [.a c0C,nI' 4]) (by
 show ciA (imR (cqR p) m)=_
 rw [ciA,(ci_not hF).1,(ci_not hF).2])
end
abbrev MTX:TypeId:=170
theorem circ_some:(Tryz.prog.info? 105).isSome=true:=by kernel_rfl
noncomputable def appC:AppT Tryz.prog :=
 ⟨TCs,TCi,(Tryz.prog.info? 105).get circ_some,.agg #[.bool false,.string ⟨#[]⟩,.bool false,.string ⟨#[]⟩,.bool false,.string ⟨#[]⟩,.bool false,.string ⟨#[]⟩,.bool false,.string ⟨#[]⟩,.bool false,.string ⟨#[]⟩,.bool false,.string ⟨#[]⟩,.bool false,.string ⟨#[]⟩],16,192,Tryz.underlying127,(Option.some_get circ_some).symm,by kernel_rfl,by kernel_rfl,by kernel_rfl,rfl,by decide,by decide⟩
theorem cxOne (a b b' c:R4):∀ u∈(cbC a b b' c).map (Lf.den idE),u.oneCell'=true:=fun u hu=>by
 have e:(cbC a b b' c).map (Lf.den idE)=[.bool a.b,.string a.s,.bool a.c,.string a.t,.bool b.b,.string b.s,.bool b.c,.string b.t,.bool b'.b,.string b'.s,.bool b'.c,.string b'.t,.bool c.b,.string c.s,.bool c.c,.string c.t]:=rfl
 rw [e] at hu
 simp only [List.mem_cons,List.not_mem_nil,or_false] at hu
 rcases hu with rfl | rfl | rfl | rfl | rfl | rfl | rfl | rfl | rfl | rfl | rfl | rfl | rfl | rfl | rfl | rfl<;>rfl
noncomputable abbrev imL (m:MQ) (C:Nat→Cq) (j:Nat):List Lf:=cC (cxM m (C j))
theorem imOrL (m:MQ) (C:Nat→Cq) {n:Nat} (hn:n≤1000):OrL appC (imL m C) n :=
 ⟨fun j _=>rfl,fun j _ u hu=>by
  rw [imL,cC_eq] at hu
  exact cxOne _ _ _ _ u hu,Nat.le_trans hn (by decide),Nat.le_trans (Nat.mul_le_mul_right _ hn) (by show 1000*192≤_; decide)⟩
noncomputable abbrev isF:Func:=Tryz.f95
abbrev isA (m:MQ) (n:Nat):List SV:=[.one (.a (mCl m)),cxS n]
abbrev cxNil:SV:=.one (.c (.b (.v (.slice none 0 0))))
section
variable (n N:Nat) (C:Nat→Cq) {m:MQ} (hm:MayQ m)
noncomputable abbrev isN (m:MQ):Nat:=sizeS isF (isA m n)
abbrev isSl (o:SV) (j:Nat):List (Nat × SV):=[(6,.one (.c (.b (.p 2 0)))),(8,o),(29,cxS n),(30,.one (nI' (n:Int))),(31,.one (nI' (j:Int)))]
noncomputable abbrev isOb (m:MQ):List Ob:=[(cxT N C).ob,.dead,.box [.b (.z 3 0),.b (.z 4 0),.b (.z 5 0),.b (.z 6 0),.b (.z 7 0),.b (.z 8 0),.b (.z 9 0),.b (.z 10 0),.b (.v (.bool m.t))] MTX,(ratT m.a.re).ob,(ratT m.a.im).ob,(ratT m.b.re).ob,(ratT m.b.im).ob,(ratT m.c.re).ob,(ratT m.c.im).ob,(ratT m.d.re).ob,(ratT m.d.im).ob]
noncomputable abbrev isC0 (m:MQ) (ev:List (Ev Tryz.prog)):Cf Tryz.prog:=mkC Tryz.prog (isN n m) 1 (isSl n cxNil 0) (isOb N C m) ev
noncomputable abbrev isC (m:MQ) (j:Nat) (ev:List (Ev Tryz.prog)):Cf Tryz.prog:=mkC Tryz.prog (isN n m) 1 (isSl n (.one (.c (.b (.y 11 0 j)))) j) (isOb N C m++[orO 16 TCi j (imL m C)]) ev
abbrev isH (m:MQ) (r:SV) (l:List (Nat × Ob)) (β0:Env) (w:World) (c:Cf Tryz.prog):Prop:=HdOk Tryz.prog 1 (isN n m) w.heap.size w β0 (bodyPost Tryz.prog isF (Said Tryz.prog isF 1 r l β0 w)) c (lpAt isF 0)
abbrev isRY:SV:=.tup [.c (.b (.y 11 0 n)),nI' 0]
abbrev isRN (k:Int):SV:=.tup [.c (.b (.v (.slice none 0 0))),nI' k]
noncomputable abbrev isW (m:MQ):List (Nat × Ob):=[(11,(orT 16 TCi n (imL m C)).ob)]
variable (β0:Env) (w:World) {j:Nat} (hN:n≤N)
noncomputable def isE (hj:j<n) (h:(C j).B=true):List (Ev Tryz.prog):=[.eqv 32 (.bool (decide ((j:Int)<(n:Int)))) (.bool true) (by rw [decide_eq_true (by omega)]),cxIx C hj hN,cxLd (n:=N) C (Nat.lt_of_lt_of_le hj hN),(sWheelQ h).e,(sImgG (cqR_ok h).1 hm).e]
theorem is_first (r:SV) (l:List (Nat × Ob)) (hj:0<n) (h:(C 0).B=true) (hF:FitC (cxM m (C 0))) (k:isH n m r l β0 w (isC n N C m 1 [])) :
  isH n m r l β0 w (isC0 n N C m (isE n N C hm hN hj h++[(cxTold h hm hF).e,eAp1 appC .nil (n0:=0) (L:=imL m C) (cs:=imL m C 0) rfl (imOrL m C (by decide)) rfl (fun β=>rfl),.cut])) :=
 piece_ok (Ns:=[]) (m:=800) [] [0,0,2,3,4,5,6,7,8,9,10,23] hmA (by kernel_rfl) (fun β=>ok_of_maps (by kernel_rfl)) k
theorem is_step (r:SV) (l:List (Nat × Ob)) (hj:j<n) (hn:n≤1000) (h:(C j).B=true) (hF:FitC (cxM m (C j))) {j2:Int} (hj2:IntKind.i64.wrap ((j:Int)+1)=j2) (e2:j2=((j+1:Nat):Int)) (k:isH n m r l β0 w (isC n N C m (j+1) [])) :
  isH n m r l β0 w (isC n N C m j (isE n N C hm hN hj h++[(cxTold h hm hF).e,eAp1 appC .own (n0:=j) (L:=imL m C) (cs:=imL m C j) trivial (imOrL m C (by omega)) rfl (fun β=>rfl),.eqv 54 (.int .i64 (IntKind.i64.wrap ((j:Int)+1))) (.int .i64 ((j+1:Nat):Int)) (by rw [hj2,e2]),.cut])) :=
 piece_ok (Ns:=[]) (m:=800) [] [0,0,2,3,4,5,6,7,8,9,10,24] hmA (by kernel_rfl) (fun β=>ok_of_maps (by kernel_rfl)) k
theorem is_no0 (hj:0<n) (h:(C 0).B=true) (hF:¬ FitC (cxM m (C 0))):isH n m (isRN 4) [] β0 w (isC0 n N C m (isE n N C hm hN hj h++[(cxUnt h hm hF).e])) :=
 last_ok (Ns:=[]) (m:=800) hmA (fun β=>ok_of_maps (by kernel_rfl))
theorem is_no (hj:j<n) (h:(C j).B=true) (hF:¬ FitC (cxM m (C j))):isH n m (isRN 4) [] β0 w (isC n N C m j (isE n N C hm hN hj h++[(cxUnt h hm hF).e])) :=
 last_ok (Ns:=[]) (m:=800) hmA (fun β=>ok_of_maps (by kernel_rfl))
theorem is_end0 (C:Nat→Cq) (β0:Env) (w:World):isH 0 m (isRN 0) [] β0 w (isC0 0 N C m [.eqv 32 (.bool (decide ((0:Int)<(0:Int)))) (.bool false) (by rw [decide_eq_false (by decide)])]) :=
 last_ok (Ns:=[]) (m:=400) hmA (fun β=>ok_of_maps (by kernel_rfl))
theorem is_end:isH n m (isRY n) (isW n C m) β0 w (isC n N C m n [eFrz,.eqv 32 (.bool (decide ((n:Int)<(n:Int)))) (.bool false) (by rw [decide_eq_false (by omega)])]) :=
 last_ok (Ns:=[]) (m:=400) hmA (fun β=>ok_of_maps (by kernel_rfl))
include hm hN in
theorem is_start (r:SV) (l:List (Nat × Ob)) (hn:n≤1000) (h:∀ i,i<n→(C i).B=true) (hh:(cxT N C).D w (β0 0)) (k:isH n m r l β0 w (isC0 n N C m [])):Calls Tryz.prog 95 ((isA m n).map (SV.den β0)).toArray w (Said Tryz.prog isF 1 r l β0 w) :=
 sx_cut (P:=Tryz.prog) (isA m n) [(cxT N C).ob] [.eqv 17 (.bool (decide ((4096:Int)<(n:Int)))) (.bool false) (by rw [decide_eq_false (by omega)]),(sOpenYes hm).e,(cxHas C hN (Nat.le_trans hn (by decide)) h).e,.cut] [] [] 400 r l Tryz.func95 hmA (u:=1) (sl:=isSl n cxNil 0) (ob:=isOb N C m) (σ:=[0,0,10,2,3,4,5,6,7,8,9]) (p':=lpAt isF 0) (by kernel_rfl) (fun β=>ok_of_maps (by kernel_rfl)) (by kernel_rfl) (by kernel_rfl) β0 w (fun i o ho=>by
  cases i with
  | zero=>simp only [List.getElem?_cons_zero] at ho; obtain rfl:=Option.some.inj ho; exact hh
  | succ i=>simp at ho) k
include hN hm in
theorem is_run (r:SV) (l:List (Nat × Ob)) (hn:n≤1000) (h:∀ i,i<n→(C i).B=true) {t:Nat} (ht:t≤n) (hF:∀ i,i<t→FitC (cxM m (C i))) (k:isH n m r l β0 w (isC n N C m t [])):∀ (d j:Nat),j+d=t→isH n m r l β0 w (isC n N C m j [])
 | 0,j,e=>by
  obtain rfl:j=t:=by omega
  exact k
 | d+1,j,e=>cx_hd (is_step n N C hm β0 w hN r l (by omega) hn (h j (by omega)) (hF j (by omega)) (j2:=((j+1:Nat):Int)) (by rw [IntKind.wrap_i64]; omega) rfl (is_run r l hn h ht hF k d (j+1) (by omega)))
include hN hm in
theorem is_all (hn:n≤1000) (h0:0<n) (h:∀ i,i<n→(C i).B=true) (hF:∀ i,i<n→FitC (cxM m (C i))) (hh:(cxT N C).D w (β0 0)):Calls Tryz.prog 95 ((isA m n).map (SV.den β0)).toArray w (Said Tryz.prog isF 1 (isRY n) (isW n C m) β0 w) :=
 is_start n N C hm β0 w hN _ _ hn h hh (cx_hd (is_first n N C hm β0 w hN _ _ h0 (h 0 h0) (hF 0 h0) (is_run n N C hm β0 w hN _ _ hn h (Nat.le_refl n) hF (cx_hd (is_end n N C β0 w)) (n-1) 1 (by omega))))
include hN hm in
theorem is_unt (hn:n≤1000) (h:∀ i,i<n→(C i).B=true) {i:Nat} (hi:i<n) (hF:¬ FitC (cxM m (C i))) (hF2:∀ k,k<i→FitC (cxM m (C k))) (hh:(cxT N C).D w (β0 0)):Calls Tryz.prog 95 ((isA m n).map (SV.den β0)).toArray w (Said Tryz.prog isF 1 (isRN 4) [] β0 w):=by
 refine is_start n N C hm β0 w hN _ _ hn h hh ?_
 rcases Nat.eq_zero_or_pos i with rfl | h0
 · exact cx_hd (is_no0 n N C hm β0 w hN hi (h 0 hi) hF)
 · exact cx_hd (is_first n N C hm β0 w hN _ _ (by omega) (h 0 (by omega)) (hF2 0 h0) (is_run n N C hm β0 w hN _ _ hn h (Nat.le_of_lt hi) hF2 (cx_hd (is_no n N C hm β0 w hN hi (h i hi) hF)) (i-1) 1 (by omega)))
end
noncomputable def sIms {n N:Nat} (C:Nat→Cq) {m:MQ} (hm:MayQ m) (hN:n≤N) (hn:n≤1000) (h0:0<n) (h:∀ i,i<n→(C i).B=true) (hF:∀ i,i<n→FitC (cxM m (C i))):Spec Tryz.prog :=
 ⟨95,Tryz.call95,isA m n,[cxT N C],.tup [.c (.b (.y 1 0 n)),nI' 0],[rwT 16 n (imL m C)],fun β w hh=>(is_all n N C hm β w hN hn h0 h hF (hh 0 _ rfl)).mono fun e w' h=>by
  obtain ⟨xs,h1,h2,h3,h4⟩:=cx_said1 h (res':=.tup [.c (.b (.y 1 0 n)),nI' 0]) fun β' _=>rfl
  refine ⟨xs,h1,h2,?_,h4⟩
  match xs,h3 with
  | [x],h3=>exact ⟨OrD.rw w' x h3.1,trivial⟩,by kernel_rfl⟩
noncomputable def sIms0 {N:Nat} (C:Nat→Cq) {m:MQ} (hm:MayQ m):Spec Tryz.prog :=
 ⟨95,Tryz.call95,isA m 0,[cxT N C],isRN 0,[],fun β w hh=>(is_start 0 N C hm β w (Nat.zero_le N) _ _ (by decide) (fun i hi=>absurd hi (Nat.not_lt_zero i)) (hh 0 _ rfl) (cx_hd (is_end0 N C β w))).mono fun e w' h=>cx_said0 h fun β' _=>rfl,by kernel_rfl⟩
noncomputable def sImsUnt {n N:Nat} (C:Nat→Cq) {m:MQ} (hm:MayQ m) (hN:n≤N) (hn:n≤1000) (h:∀ i,i<n→(C i).B=true) {i:Nat} (hi:i<n) (hF:¬ FitC (cxM m (C i))) (hF2:∀ k,k<i→FitC (cxM m (C k))):Spec Tryz.prog :=
 ⟨95,Tryz.call95,isA m n,[cxT N C],isRN 4,[],fun β w hh=>(is_unt n N C hm β w hN hn h hi hF hF2 (hh 0 _ rfl)).mono fun e w' h=>cx_said0 h fun β' _=>rfl,by kernel_rfl⟩
noncomputable def sImsNo {n N:Nat} (C:Nat→Cq) {m:MQ} (hm:MayQ m) (hN:n≤N) (hn:n≤1000) {i:Nat} (hi:i<n) (h:(C i).B=false) (h2:∀ k,k<i→(C k).B=true):Spec Tryz.prog :=
 Spec.auto Tryz.call95 (isA m n) [cxT N C] (isRN 2) [] [.eqv 17 (.bool (decide ((4096:Int)<(n:Int)))) (.bool false) (by rw [decide_eq_false (by omega)]),(sOpenYes hm).e,(cxHasNo C hN (Nat.le_trans hn (by decide)) hi h h2).e] [] 800 Tryz.func95 hmA (by kernel_rfl) (fun β=>by kernel_rfl)
noncomputable def sImsMap {n N:Nat} (C:Nat→Cq) {m:Mp} {t:Bool} (ho:OpenNo m t) (hn:n≤1000):Spec Tryz.prog :=
 Spec.auto Tryz.call95 [.one (.a m.C),cxS n] [cxT N C] (isRN 2) [] [.eqv 17 (.bool (decide ((4096:Int)<(n:Int)))) (.bool false) (by rw [decide_eq_false (by omega)]),(sOpenNo ho).e] [] 800 Tryz.func95 hmA (by kernel_rfl) (fun β=>by kernel_rfl)
noncomputable def sImQ {p:Cq} (h:p.B=true) {m:MQ} (hm:MayQ m):Spec Tryz.prog:=(sCbImg (cqR_ok h).1 hm).as [.one (.a (mCl m)),.one (.a (cqL p))] (ciA (cxM m p)) (by
 show [SV.one (.a (mCl m)),SV.one (.a (cC (cqR p)))]=_
 rw [(cqR_ok h).2]) rfl
noncomputable def sImQNo {p:Cq} (h:p.B=false) {m:MQ} (hm:MayQ m):Spec Tryz.prog :=
 Spec.auto Tryz.call96 [.one (.a (mCl m)),.one (.a (cqL p))] [] (.tup [.a c0C,nI' 2]) [] [(sOpenYes hm).e,(sWheelNo (cq_no h).2 (by kernel_rfl)).e] [] 800 Tryz.func96 hmA (by kernel_rfl) (fun β=>by kernel_rfl)
noncomputable def sImQMap (p:Cq) {m:Mp} {t:Bool} (ho:OpenNo m t):Spec Tryz.prog :=
 ⟨96,Tryz.call96,[.one (.a m.C),.one (.a (cqL p))],[],.tup [.a c0C,nI' 2],[],fun β w hh=>by
  cases h:p.B with
  | true=>exact spec_auto (evs:=[(sOpenNo ho).e,(sWheelQ h).e]) (Ns:=[]) (m:=800) Tryz.func96 hmA (fun β=>by kernel_rfl) (by kernel_rfl) β w hh
  | false=>exact spec_auto (evs:=[(sOpenNo ho).e,(sWheelNo (cq_no h).2 (by kernel_rfl)).e]) (Ns:=[]) (m:=800) Tryz.func96 hmA (fun β=>by kernel_rfl) (by kernel_rfl) β w hh,by kernel_rfl⟩
noncomputable def sCxImQ {p:Cq} (h:p.B=true) {m:MQ} (hm:MayQ m):Spec Tryz.prog:=(sCxImg (cqR_ok h).1 hm).as [.one (.a (mCl m)),.one (.a (cqL p))] (.one (.a (cC (cxM m p)))) (by
 show [SV.one (.a (mCl m)),SV.one (.a (cC (cqR p)))]=_
 rw [(cqR_ok h).2]) rfl
def eSlG {T:TypeId} (hu:Tryz.prog.underlying T=some (.slice (Tryz.prog.elem T))) {sz:Nat} (hs:(Tryz.prog.info? (Tryz.prog.elem T)).map (·.size)=some sz) {N l n:Nat} (hN:n≤N) (e:TypeId) (L:Nat→List Lf):Ev Tryz.prog:=.dyn (fun o _ _=>match o.op with
 | .slice t _ none (some _) none=>Nat.beq t T
 | _=>false) fun o xs _=>match o.op with
 | .slice _ x none (some y) none=>lit (lsKOf (xs.getD 0 undefS)) fun k=>.rd (o.dst.getD 0) (.slice T x none (some y) none) (fun β=>[.slice ((β k).v 0) l ((β k).c 0),.int .i64 (n:Int)]) [(k,.th (orT sz e N L))] 0 (.one (.c (.b (.y k 0 n)))) [] (fun β w h ρ o ho hx=>by
   have h3:ρ x=.slice ((β k).v 0) l ((β k).c 0)∧ρ y=.int .i64 (n:Int):=by simpa [Op.operands] using hx
   have hd:OrD sz e N L w (β k):=h (k,.th (orT sz e N L)) (List.mem_singleton.2 rfl)
   obtain ⟨cur,_,h1,_⟩:=hd.cells
   refine ⟨[],w,(fun _ h=>by cases h),?_,trivial,Below.refl _ _⟩
   have hz:((sizeOf (Tryz.prog.elem T)).run Tryz.prog w)=.ok sz w:=by
    cases hq:Tryz.prog.info? (Tryz.prog.elem T) with
    | none=>simp [hq] at hs
    | some i =>
     have hs:i.size=sz:=by simpa [hq] using hs
     simp [sizeOf,typeInfo,hq,hs]
   have h6:=run_slice_h (P:=Tryz.prog) (w:=w) T ((β k).v 0) l ((β k).c 0) hu .i64 (n:Int) (by omega) (by omega)
   rw [hz] at h6
   have e:((SV.one (.c (.b (.y k 0 n)))).den (extE β 0 []))=.slice ((β k).v 0) n ((β k).c 0):=rfl
   rw [e]
   unfold execOp
   rw [ho]
   dsimp only
   simp only [Option.map_none,Option.map_some,h3.1,h3.2]
   have h7:(Instr.sliceAt T (.slice ((β k).v 0) l ((β k).c 0)) none (some (.int .i64 (n:Int))) none).run Tryz.prog w=.ok (.slice ((β k).v 0) n ((β k).c 0)) w:=by
    rw [run_sliceAt_slice (P:=Tryz.prog) (w:=w) T _ _ _ _ hu,h6,hd.2.1 0]
    simp [sliced,Addr.add]
   simp only [Sem.run_bind,h7,Result.andThen_ok]
   rfl)
 | _=>.cut
noncomputable def sCxIs (r:RQ):Spec Tryz.prog :=
 Spec.auto Tryz.call98 [.one (.a (ciC r)),.one (nI' (ciK r)),.one (.a (cC r)),.one (nI' 0)] [] (tB' true) [] [(sCTold r).e,eqC1 (ciR r r.a) (ciR r r.b.re) (ciR r r.b.im) (ciR r r.c),(sNum11 (ciK r)).e,.eqv 23 (.bool (ciK r==ciK r)) (.bool true) (ieq_self _)] [] 400 Tryz.func98 hmA (by kernel_rfl) (fun β=>by kernel_rfl)
def cqU:Cq:=.ok uQ u_may
theorem cx_ne {k:Int} (h:k≠0):Value.bool (k==0)=.bool false:=by
 rw [show (k==0)=false by rw [Bool.eq_false_iff]; intro e; exact h (eq_of_beq e)]
theorem ck_may {q:MQ} (h:MayQ q):ckGs q h.1 0:=fun β w=>by
 have hd:=h.2.1
 cases r1:gB q.c g1' with
 | true=>exact spec_auto (evs:=ckM q h.1++[gEq q.c g1' r1]++ckZ q h.1 hd) (Ns:=[(3,21)]) (m:=800) Tryz.func26 hmA (fun β=>by kernel_rfl) (by kernel_rfl) β w (mw_no β w)
 | false =>
  rcases h.2.2 with h1 | ⟨h1,h2⟩
  · rw [gB_iff.2 (mw_sub0.1 h1)] at r1
    cases r1
  · have r2:gB q.c g0'=true:=gB_iff.2 (by
     rw [gz_true] at h1
     rw [h1]
     kernel_rfl)
    have r3:gB q.d g1'=true:=gB_iff.2 (mw_sub0.1 h2)
    exact spec_auto (evs:=ckM q h.1++[gEq q.c g1' r1,sR8zero.e,gEq q.c g0' r2,sR8unit.e,gEq q.d g1' r3]++ckZ q h.1 hd) (Ns:=[(3,21)]) (m:=800) Tryz.func26 hmA (fun β=>by kernel_rfl) (by kernel_rfl) β w (mw_no β w)
def CkMp (m:Mp) (k:Int):Prop:=∀ (β:Env) (w:World),Calls Tryz.prog 26 (([.one (.a m.C)]:List SV).map (SV.den β)).toArray w fun e w'=>∃ xs:List Pl,freshS β w 0 xs∧e=.returned ((SV.one (nI' k)).den (extE β 0 xs))∧newHold w' [] xs∧Below w.heap.size w w'
def sCkMp {m:Mp} {k:Int} (h:CkMp m k):Spec Tryz.prog :=
 ⟨26,Tryz.call26,[.one (.a m.C)],[],.one (nI' k),[],fun β w _=>h β w,by kernel_rfl⟩
abbrev r4k (x:R4):Prop:=x.s.size≤maxLen∧x.t.size≤maxLen
theorem map_all (x0 y0 x1 y1 x2 y2 x3 y3:R4) (t:Bool) (h0:r4k x0) (k0:r4k y0) (h1:r4k x1) (k1:r4k y1) (h2:r4k x2) (k2:r4k y2) (h3:r4k x3) (k3:r4k y3) :
  ∃ m:Mp,m.C=cbM x0 y0 x1 y1 x2 y2 x3 y3 t∧((∃ q,MayQ q∧m.C=mCl q)∨(∃ t,OpenNo m t)∧CkMp m 2):=by
 obtain ⟨a0,e0⟩:=fr_of x0 h0
 obtain ⟨b0,f0⟩:=fr_of y0 k0
 obtain ⟨a1,e1⟩:=fr_of x1 h1
 obtain ⟨b1,f1⟩:=fr_of y1 k1
 obtain ⟨a2,e2⟩:=fr_of x2 h2
 obtain ⟨b2,f2⟩:=fr_of y2 k2
 obtain ⟨a3,e3⟩:=fr_of x3 h3
 obtain ⟨b3,f3⟩:=fr_of y3 k3
 have hC:(⟨a0,b0,a1,b1,a2,b2,a3,b3,t⟩:Mp).C=cbM x0 y0 x1 y1 x2 y2 x3 y3 t:=by
  unfold Mp.C
  dsimp only
  rw [e0,f0,e1,f1,e2,f2,e3,f3]
 refine ⟨⟨a0,b0,a1,b1,a2,b2,a3,b3,t⟩,hC,?_⟩
 have two:∀ {a b c d:Gn},mgL a b c d t=cbM x0 y0 x1 y1 x2 y2 x3 y3 t→CkV a b c d t 2→((∃ q,MayQ q∧(⟨a0,b0,a1,b1,a2,b2,a3,b3,t⟩:Mp).C=mCl q)∨(∃ u,OpenNo ⟨a0,b0,a1,b1,a2,b2,a3,b3,t⟩ u)∧CkMp ⟨a0,b0,a1,b1,a2,b2,a3,b3,t⟩ 2):=fun {a b c d} e hk=>by
  rcases open_all ⟨a0,b0,a1,b1,a2,b2,a3,b3,t⟩ with h | h
  · exact .inl h
  · refine .inr ⟨h,fun β w=>?_⟩
    have:=hk β w
    rw [hC,← e]
    exact this
 obtain ⟨a,rfl,rfl⟩:=gn_of x0 y0 h0 k0
 obtain ⟨b,rfl,rfl⟩:=gn_of x1 y1 h1 k1
 obtain ⟨c,rfl,rfl⟩:=gn_of x2 y2 h2 k2
 obtain ⟨d,rfl,rfl⟩:=gn_of x3 y3 h3 k3
 cases h:(a.B&&(b.B&&(c.B&&d.B))) with
 | false=>exact two rfl (ck_no h)
 | true =>
  cases a with
  | no=>cases h
  | ok za ha=>cases b with
   | no=>cases h
   | ok zb hb=>cases c with
    | no=>cases h
    | ok zc hc=>cases d with
     | no=>cases h
     | ok zd hd =>
      rcases ck_q ⟨za,zb,zc,zd,t⟩ ⟨ha,hb,hc,hd⟩ with ⟨hm,_⟩ | hk
      · exact .inl ⟨_,hm,hC⟩
      · exact two rfl hk
noncomputable abbrev ciF:Func:=Tryz.f13
abbrev lwA (M:List Lf) (n:Nat):List SV:=[.one (.a M),cxS n]
section
variable (n:Nat) (C:Nat→Cq) (m:Mp)
abbrev MpFar (m:Mp) (r:Bool):Prop:=CbFar m.a.r m.a'.r m.b.r m.b'.r m.c.r m.c'.r m.d.r m.d'.r r
def sMpFar {m:Mp} {r:Bool} (h:MpFar m r):Spec Tryz.prog:=sFar11 m.a.r m.a'.r m.b.r m.b'.r m.c.r m.c'.r m.d.r m.d'.r m.t h
end
section
variable (n:Nat) (C:Nat→Cq)
noncomputable abbrev lwN (M:List Lf) (n:Nat):Nat:=sizeS ciF (lwA M n)
abbrev lwSl (a:SV) (E:Int) (bad:Bool) (K:Int) (j:Nat):List (Nat × SV):=[(1,cxS n),(2,.one (.c (.b (.p 2 0)))),(5,.one (.c (.b (.y 3 0 n)))),(6,a),(7,.one (nI' E)),(8,tB' bad),(9,.one (nI' K)),(10,.one (nI' (j:Int)))]
noncomputable abbrev lwOb (M:List Lf):List Ob:=[(cxT n C).ob,.dead,.box M MOB,(orT 16 TCi (n+1) (cxL C)).ob]
noncomputable abbrev lwC (M:List Lf) (E:Int) (bad:Bool) (K:Int) (j:Nat) (ev:List (Ev Tryz.prog)):Cf Tryz.prog:=mkC Tryz.prog (lwN M n) 1 (lwSl n cxNil E bad K j) (lwOb n C M) ev
noncomputable abbrev lwCT (m:MQ) (j:Nat) (ev:List (Ev Tryz.prog)):Cf Tryz.prog:=mkC Tryz.prog (lwN (mCl m) n) 1 (lwSl n (.one (.c (.b (.y 4 0 n)))) 0 false 0 j) (lwOb n C (mCl m)++[(rwT 16 n (imL m C)).ob]) ev
abbrev lwH (M:List Lf) (β0:Env) (w:World) (c:Cf Tryz.prog):Prop:=HdOk Tryz.prog 1 (lwN M n) w.heap.size w β0 (bodyPost Tryz.prog ciF (Said Tryz.prog ciF 1 (tB' true) [] β0 w)) c (lpAt ciF 0)
abbrev lwNs:List (Nat × Nat):=[(10,501010012),(11,9),(17,7),(18,24),(24,37)]
variable (β0:Env) (w:World) {j:Nat}
noncomputable def lwE0 (hj:j<n):List (Ev Tryz.prog):=[.eqv 47 (.bool (decide ((j:Int)<(n:Int)))) (.bool true) (by rw [decide_eq_true (by omega)]),cxIx C hj (Nat.le_refl n),cxLd C hj]
noncomputable def lwE1 (hj:j<n):List (Ev Tryz.prog):=[cxIx (N:=n+1) C hj (Nat.le_succ n),cxLd (n:=n+1) C (Nat.lt_succ_of_lt hj),cxIx C hj (Nat.le_refl n),cxLd C hj,eqC1 (C j).a (C j).b (C j).b' (C j).c]
noncomputable def lwEn (j:Nat) {j2:Int} (hj2:IntKind.i64.wrap ((j:Int)+1)=j2) (e2:j2=((j+1:Nat):Int)):List (Ev Tryz.prog):=[.eqv 49 (.int .i64 (IntKind.i64.wrap ((j:Int)+1))) (.int .i64 ((j+1:Nat):Int)) (by rw [hj2,e2]),.cut]
noncomputable def lwZ:List (Ev Tryz.prog):=[eqC1 r40 r40 r40 r40,(sNum11 2).e]
theorem lw_map {m:Mp} {t:Bool} (ho:OpenNo m t) (K:Int) (hj:j<n) {j2:Int} (hj2:IntKind.i64.wrap ((j:Int)+1)=j2) (e2:j2=((j+1:Nat):Int)) (k:lwH n m.C β0 w (lwC n C m.C 2 true 2 (j+1) [])) :
  lwH n m.C β0 w (lwC n C m.C 2 true K j (lwE0 n C hj++[(sImQMap (C j) ho).e]++lwE1 n C hj++lwZ++lwEn j hj2 e2)) :=
 piece_ok (Ns:=lwNs) (m:=800) [] [0,0,2,3] hmA (by kernel_rfl) (fun β=>ok_of_maps (by kernel_rfl)) k
section
variable {m:MQ} (hm:MayQ m)
theorem lw_bad (E K:Int) (hj:j<n) (h:(C j).B=false) {j2:Int} (hj2:IntKind.i64.wrap ((j:Int)+1)=j2) (e2:j2=((j+1:Nat):Int)) (k:lwH n (mCl m) β0 w (lwC n C (mCl m) E false 2 (j+1) [])) :
  lwH n (mCl m) β0 w (lwC n C (mCl m) E false K j (lwE0 n C hj++[(sImQNo h hm).e]++lwE1 n C hj++[cxIx C hj (Nat.le_refl n),cxLd C hj,(sCxRk (C j) h).e]++lwZ++lwEn j hj2 e2)) :=
 piece_ok (Ns:=lwNs) (m:=800) [] [0,0,2,3] hmA (by kernel_rfl) (fun β=>ok_of_maps (by kernel_rfl)) k
noncomputable def lwG (hj:j<n) (h:(C j).B=true):List (Ev Tryz.prog):=lwE0 n C hj++[(sImQ h hm).e]++lwE1 n C hj++[cxIx C hj (Nat.le_refl n),cxLd C hj,(sCxRk (C j) h).e,cxIx C hj (Nat.le_refl n),cxLd C hj,(sCxImQ h hm).e,(sCxIs (cxM m (C j))).e]
theorem lw_more {E K:Int} (hE:E≠0) (hK:K≠0) (hj:j<n) (h:(C j).B=true) {j2:Int} (hj2:IntKind.i64.wrap ((j:Int)+1)=j2) (e2:j2=((j+1:Nat):Int)) (k:lwH n (mCl m) β0 w (lwC n C (mCl m) E false K (j+1) [])) :
  lwH n (mCl m) β0 w (lwC n C (mCl m) E false K j (lwG n C hm hj h++[(sNum11 E).e,.eqv 99 (.bool (E==0)) (.bool false) (cx_ne hE),.eqv 116 (.bool (K==0)) (.bool false) (cx_ne hK)]++lwEn j hj2 e2)) :=
 piece_ok (Ns:=lwNs) (m:=800) [] [0,0,2,3] hmA (by kernel_rfl) (fun β=>ok_of_maps (by kernel_rfl)) k
theorem lw_fit {E:Int} (hE:E≠0) (hj:j<n) (h:(C j).B=true) (hF:FitC (cxM m (C j))) {j2:Int} (hj2:IntKind.i64.wrap ((j:Int)+1)=j2) (e2:j2=((j+1:Nat):Int)) (k:lwH n (mCl m) β0 w (lwC n C (mCl m) E false 0 (j+1) [])) :
  lwH n (mCl m) β0 w (lwC n C (mCl m) E false 0 j (lwG n C hm hj h++[(sNum11 E).e,.eqv 99 (.bool (E==0)) (.bool false) (cx_ne hE),(sCFits (cxM m (C j)) (iff_true_of hF)).e]++lwEn j hj2 e2)) :=
 piece_ok (Ns:=lwNs) (m:=800) [] [0,0,2,3] hmA (by kernel_rfl) (fun β=>ok_of_maps (by kernel_rfl)) k
theorem lw_unt {E:Int} (hE:E≠0) (hj:j<n) (h:(C j).B=true) (hF:¬ FitC (cxM m (C j))) {j2:Int} (hj2:IntKind.i64.wrap ((j:Int)+1)=j2) (e2:j2=((j+1:Nat):Int)) (k:lwH n (mCl m) β0 w (lwC n C (mCl m) E false 4 (j+1) [])) :
  lwH n (mCl m) β0 w (lwC n C (mCl m) E false 0 j (lwG n C hm hj h++[(sNum11 E).e,.eqv 99 (.bool (E==0)) (.bool false) (cx_ne hE),(sCFits (cxM m (C j)) (iff_false_of hF)).e]++lwEn j hj2 e2)) :=
 piece_ok (Ns:=lwNs) (m:=800) [] [0,0,2,3] hmA (by kernel_rfl) (fun β=>ok_of_maps (by kernel_rfl)) k
noncomputable def imIx (hj:j<n):Ev Tryz.prog:=eIx tcs_u tcs_s (imL m C) hj (Nat.le_refl n)
noncomputable def imLd (hj:j<n):Ev Tryz.prog:=eLd (rwDesc_u tci_d).1 (rwDesc_u tci_d).2 16 (L:=imL m C) (by kernel_rfl) (fun β=>rfl) hj
theorem lw_told (hj:j<n) (h:(C j).B=true) (hF:FitC (cxM m (C j))) {j2:Int} (hj2:IntKind.i64.wrap ((j:Int)+1)=j2) (e2:j2=((j+1:Nat):Int)) (k:lwH n (mCl m) β0 w (lwCT n C m (j+1) [])) :
  lwH n (mCl m) β0 w (lwCT n C m j (lwG n C hm hj h++[(sNum11 0).e,.eqv 104 (.bool (decide ((n:Int)≤(j:Int)))) (.bool false) (by rw [decide_eq_false (by omega)]),imIx n C (m:=m) hj,imLd n C (m:=m) hj,eqC1 (fR (cxM m (C j)).a) (fR (cxM m (C j)).b.re) (fR (cxM m (C j)).b.im) (fR (cxM m (C j)).c),(sCFits (cxM m (C j)) (iff_true_of hF)).e]++lwEn j hj2 e2)) :=
 piece_ok (Ns:=lwNs) (m:=800) [] [0,0,2,3,4] hmA (by kernel_rfl) (fun β=>ok_of_maps (by kernel_rfl)) k
end
noncomputable def lwF (hC:C n=cqU) {n2:Int} (hn2:IntKind.i64.wrap ((n:Int)+1)=n2) (e2:n2=((n+1:Nat):Int)):List (Ev Tryz.prog) :=
 [.eqv 151 (.int .i64 (IntKind.i64.wrap ((n:Int)+1))) (.int .i64 ((n+1:Nat):Int)) (by rw [hn2,e2]),eSlG tcs_u tcs_s (N:=n+1) (l:=n) (n:=n+1) (Nat.le_refl _) TCi (cxL C),cxIx (n:=n+1) (N:=n+1) (j:=n) C (Nat.lt_succ_self n) (Nat.le_refl _),cxLd (n:=n+1) (j:=n) C (Nat.lt_succ_self n),sUnit.e,
  eqEvC (C n).a (C n).b (C n).b' (C n).c (fR uQ.a) (fR uQ.b.re) (fR uQ.b.im) (fR uQ.c) true (by rw [hC]; exact ceq_self _ _ _ _),sWorks11.e]
theorem lw_end4 {m:MQ} (hC:C n=cqU) {n2:Int} (hn2:IntKind.i64.wrap ((n:Int)+1)=n2) (e2:n2=((n+1:Nat):Int)):lwH n (mCl m) β0 w (lwC n C (mCl m) 4 false 4 n ([.eqv 47 (.bool (decide ((n:Int)<(n:Int)))) (.bool false) (by rw [decide_eq_false (by omega)]),(sNum11 4).e]++lwF n C hC hn2 e2)) :=
 last_ok (Ns:=lwNs) (m:=800) hmA (fun β=>ok_of_maps (by kernel_rfl))
theorem lw_end2 {m:MQ} (hC:C n=cqU) {n2:Int} (hn2:IntKind.i64.wrap ((n:Int)+1)=n2) (e2:n2=((n+1:Nat):Int)):lwH n (mCl m) β0 w (lwC n C (mCl m) 2 false 2 n ([.eqv 47 (.bool (decide ((n:Int)<(n:Int)))) (.bool false) (by rw [decide_eq_false (by omega)]),(sNum11 2).e]++lwF n C hC hn2 e2)) :=
 last_ok (Ns:=lwNs) (m:=800) hmA (fun β=>ok_of_maps (by kernel_rfl))
theorem lw_endM {m:Mp} (K:Int) (hC:C n=cqU) {n2:Int} (hn2:IntKind.i64.wrap ((n:Int)+1)=n2) (e2:n2=((n+1:Nat):Int)):lwH n m.C β0 w (lwC n C m.C 2 true K n ([.eqv 47 (.bool (decide ((n:Int)<(n:Int)))) (.bool false) (by rw [decide_eq_false (by omega)]),(sNum11 2).e]++lwF n C hC hn2 e2)) :=
 last_ok (Ns:=lwNs) (m:=800) hmA (fun β=>ok_of_maps (by kernel_rfl))
theorem lw_endT {m:MQ} (hC:C n=cqU) {n2:Int} (hn2:IntKind.i64.wrap ((n:Int)+1)=n2) (e2:n2=((n+1:Nat):Int)):lwH n (mCl m) β0 w (lwCT n C m n ([.eqv 47 (.bool (decide ((n:Int)<(n:Int)))) (.bool false) (by rw [decide_eq_false (by omega)]),(sNum11 0).e,.eqv 144 (.bool (!((n:Int)==(n:Int)))) (.bool false) (by simp)]++lwF n C hC hn2 e2)) :=
 last_ok (Ns:=lwNs) (m:=800) hmA (fun β=>ok_of_maps (by kernel_rfl))
end
theorem lw_end0 {m:MQ} (C:Nat→Cq) (β0:Env) (w:World) (hC:C 0=cqU):lwH 0 (mCl m) β0 w (lwC 0 C (mCl m) 0 false 0 0 ([(sNum11 0).e]++(lwF 0 C hC (n2:=1) (by kernel_rfl) rfl).drop 1)) :=
 last_ok (Ns:=lwNs) (m:=800) hmA (fun β=>ok_of_maps (by kernel_rfl))
theorem cxOrL (C:Nat→Cq) {n:Nat} (hn:n≤1000):OrL appC (cxL C) n :=
 ⟨fun j _=>rfl,fun j _ u hu=>cxOne _ _ _ _ u hu,Nat.le_trans hn (by decide),Nat.le_trans (Nat.mul_le_mul_right _ hn) (by show 1000*192≤_; decide)⟩
def FarM (M:List Lf) (r:Bool):Prop:=∀ (β:Env) (w:World),Calls Tryz.prog 93 (([.one (.a M)]:List SV).map (SV.den β)).toArray w fun e w'=>∃ xs:List Pl,freshS β w 0 xs∧e=.returned ((tB' r:SV).den (extE β 0 xs))∧newHold w' [] xs∧Below w.heap.size w w'
def sFarQ {q:MQ} {r:Bool} (h:FarM (mCl q) r):Spec Tryz.prog:=⟨93,Tryz.call93,[.one (.a (mCl q))],[],tB' r,[],fun β w _=>h β w,by kernel_rfl⟩
def sFarP {m:Mp} {r:Bool} (h:FarM m.C r):Spec Tryz.prog:=⟨93,Tryz.call93,[.one (.a m.C)],[],tB' r,[],fun β w _=>h β w,by kernel_rfl⟩
theorem farM_all (m:Mp):∃ r,FarM m.C r:=by
 obtain ⟨r,h⟩:=CbFar.all m.a.r m.a'.r m.b.r m.b'.r m.c.r m.c'.r m.d.r m.d'.r
 exact ⟨r,fun β w=>(sMpFar h).ok β w fun k t h=>by simp [sMpFar,sFar11] at h⟩
noncomputable def lwFarP {m:Mp} (n:Nat) (C:Nat→Cq) (h:FarM m.C true):Spec Tryz.prog :=
 Spec.auto Tryz.call13 (lwA m.C n) [cxT n C] (tB' true) [] [(sFarP h).e,sWorks11.e] [] 800 Tryz.func13 hmA (by kernel_rfl) (fun β=>by kernel_rfl)
noncomputable def lwWideP {m:Mp} {n:Nat} {C:Nat→Cq} (h:FarM m.C false) (h2:CxWide n C true):Spec Tryz.prog :=
 Spec.auto Tryz.call13 (lwA m.C n) [cxT n C] (tB' true) [] [(sFarP h).e,(sCxWide h2).e,sWorks11.e] [] 800 Tryz.func13 hmA (by kernel_rfl) (fun β=>by kernel_rfl)
noncomputable def lwLongP {m:Mp} {n:Nat} {C:Nat→Cq} (h:FarM m.C false) (h2:CxWide n C false) (h3:6<n):Spec Tryz.prog :=
 Spec.auto Tryz.call13 (lwA m.C n) [cxT n C] (tB' true) [] [(sFarP h).e,(sCxWide h2).e,.eqv 23 (.bool (decide ((6:Int)<(n:Int)))) (.bool true) (by rw [decide_eq_true (by omega)]),sWorks11.e] [] 800 Tryz.func13 hmA (by kernel_rfl) (fun β=>by kernel_rfl)
theorem lw_hL {n:Nat} {C:Nat→Cq} (hC:C n=cqU):cxL C n=cC uQ:=by
 show cqL (C n)=_
 rw [hC]
 exact (cC_eq uQ).symm
section
variable (n:Nat) (C:Nat→Cq) (β0:Env) (w:World)
noncomputable def lwS0 (hn:n≤6) (hw:CxWide n C false):List (Ev Tryz.prog):=[(sCxWide hw).e,.eqv 23 (.bool (decide ((6:Int)<(n:Int)))) (.bool false) (by rw [decide_eq_false (by omega)]),.app appC]
noncomputable def lwS1 (hn:n≤6) (h0:0<n) (hC:C n=cqU):List (Ev Tryz.prog) :=
 [eApL appC .row (n0:=0) (m:=n) (N:=n) (L:=cxL C) (L':=cxL C) rfl (Nat.zero_add n) (cxOrL C (by omega)) h0 (Nat.le_refl n) (fun i hi=>by rw [Nat.zero_add]),sUnit.e,eAp1 appC .own (n0:=n) (L:=cxL C) (cs:=cC uQ) trivial (cxOrL C (by omega)) (lw_hL hC) (fun β=>rfl),eSl tcs_u tcs_s (Nat.le_succ n) TCi (cxL C),eFrz]
noncomputable def lwS2 (C:Nat→Cq) (hC:C 0=cqU):List (Ev Tryz.prog) :=
 [eAp0 appC .row rfl (N:=0) (L':=cxL C),sUnit.e,eAp1 appC .row (n0:=0) (L:=cxL C) (cs:=cC uQ) rfl (cxOrL C (by decide)) (lw_hL hC) (fun β=>rfl),eSl tcs_u tcs_s (Nat.le_succ 0) TCi (cxL C),eFrz]
section
variable {m:MQ} (hm:MayQ m) (hf:FarM (mCl m) false)
include hm hf in
theorem lw_stT (hn:n≤6) (h0:0<n) (hw:CxWide n C false) (hC:C n=cqU) (h:∀ i,i<n→(C i).B=true) (hF:∀ i,i<n→FitC (cxM m (C i))) (hh:(cxT n C).D w (β0 0)) (k:lwH n (mCl m) β0 w (lwCT n C m 0 [])) :
  Calls Tryz.prog 13 ((lwA (mCl m) n).map (SV.den β0)).toArray w (Said Tryz.prog ciF 1 (tB' true) [] β0 w) :=
 sx_cut (P:=Tryz.prog) (lwA (mCl m) n) [(cxT n C).ob] ((sFarQ hf).e::lwS0 n C hn hw++lwS1 n C hn h0 hC++[(sIms (N:=n+1) C hm (Nat.le_succ n) (by omega) h0 h hF).e,(sR8Ck (ck_may hm)).e,.cut]) [] [] 800 (tB' true) [] Tryz.func13 hmA (u:=1) (sl:=lwSl n (.one (.c (.b (.y 4 0 n)))) 0 false 0 0)
  (ob:=lwOb n C (mCl m)++[(rwT 16 n (imL m C)).ob]) (σ:=[0,0,1,5,6]) (p':=lpAt ciF 0) (by kernel_rfl) (fun β=>ok_of_maps (by kernel_rfl)) (by kernel_rfl) (by kernel_rfl) β0 w (fun i o ho=>by
  cases i with
  | zero=>simp only [List.getElem?_cons_zero] at ho; obtain rfl:=Option.some.inj ho; exact hh
  | succ i=>simp at ho) k
include hm hf in
theorem lw_stU (hn:n≤6) (hw:CxWide n C false) (hC:C n=cqU) (h:∀ i,i<n→(C i).B=true) {i:Nat} (hi:i<n) (hF:¬ FitC (cxM m (C i))) (hF2:∀ k,k<i→FitC (cxM m (C k))) (hh:(cxT n C).D w (β0 0)) (k:lwH n (mCl m) β0 w (lwC n C (mCl m) 4 false 0 0 [])) :
  Calls Tryz.prog 13 ((lwA (mCl m) n).map (SV.den β0)).toArray w (Said Tryz.prog ciF 1 (tB' true) [] β0 w) :=
 sx_cut (P:=Tryz.prog) (lwA (mCl m) n) [(cxT n C).ob] ((sFarQ hf).e::lwS0 n C hn hw++lwS1 n C hn (Nat.lt_of_le_of_lt (Nat.zero_le i) hi) hC++[(sImsUnt (N:=n+1) C hm (Nat.le_succ n) (by omega) h hi hF hF2).e,(sR8Ck (ck_may hm)).e,.cut]) [] [] 800 (tB' true) [] Tryz.func13 hmA (u:=1) (sl:=lwSl n cxNil 4 false 0 0)
  (ob:=lwOb n C (mCl m)) (σ:=[0,0,1,5]) (p':=lpAt ciF 0) (by kernel_rfl) (fun β=>ok_of_maps (by kernel_rfl)) (by kernel_rfl) (by kernel_rfl) β0 w (fun i o ho=>by
  cases i with
  | zero=>simp only [List.getElem?_cons_zero] at ho; obtain rfl:=Option.some.inj ho; exact hh
  | succ i=>simp at ho) k
include hm hf in
theorem lw_stN (hn:n≤6) (hw:CxWide n C false) (hC:C n=cqU) {i:Nat} (hi:i<n) (h:(C i).B=false) (h2:∀ k,k<i→(C k).B=true) (hh:(cxT n C).D w (β0 0)) (k:lwH n (mCl m) β0 w (lwC n C (mCl m) 2 false 0 0 [])) :
  Calls Tryz.prog 13 ((lwA (mCl m) n).map (SV.den β0)).toArray w (Said Tryz.prog ciF 1 (tB' true) [] β0 w) :=
 sx_cut (P:=Tryz.prog) (lwA (mCl m) n) [(cxT n C).ob] ((sFarQ hf).e::lwS0 n C hn hw++lwS1 n C hn (Nat.lt_of_le_of_lt (Nat.zero_le i) hi) hC++[(sImsNo (N:=n+1) C hm (Nat.le_succ n) (by omega) hi h h2).e,(sR8Ck (ck_may hm)).e,.cut]) [] [] 800 (tB' true) [] Tryz.func13 hmA (u:=1) (sl:=lwSl n cxNil 2 false 0 0)
  (ob:=lwOb n C (mCl m)) (σ:=[0,0,1,5]) (p':=lpAt ciF 0) (by kernel_rfl) (fun β=>ok_of_maps (by kernel_rfl)) (by kernel_rfl) (by kernel_rfl) β0 w (fun i o ho=>by
  cases i with
  | zero=>simp only [List.getElem?_cons_zero] at ho; obtain rfl:=Option.some.inj ho; exact hh
  | succ i=>simp at ho) k
include hm hf in
theorem lw_st0 (hw:CxWide 0 C false) (hC:C 0=cqU) (hh:(cxT 0 C).D w (β0 0)) (k:lwH 0 (mCl m) β0 w (lwC 0 C (mCl m) 0 false 0 0 [])) :
  Calls Tryz.prog 13 ((lwA (mCl m) 0).map (SV.den β0)).toArray w (Said Tryz.prog ciF 1 (tB' true) [] β0 w) :=
 sx_cut (P:=Tryz.prog) (lwA (mCl m) 0) [(cxT 0 C).ob] ((sFarQ hf).e::lwS0 0 C (by decide) hw++lwS2 C hC++[(sIms0 (N:=1) C hm).e,(sR8Ck (ck_may hm)).e,.cut]) [] [] 800 (tB' true) [] Tryz.func13 hmA (u:=1) (sl:=lwSl 0 cxNil 0 false 0 0)
  (ob:=lwOb 0 C (mCl m)) (σ:=[0,0,1,4]) (p':=lpAt ciF 0) (by kernel_rfl) (fun β=>ok_of_maps (by kernel_rfl)) (by kernel_rfl) (by kernel_rfl) β0 w (fun i o ho=>by
  cases i with
  | zero=>simp only [List.getElem?_cons_zero] at ho; obtain rfl:=Option.some.inj ho; exact hh
  | succ i=>simp at ho) k
end
section
variable {m:Mp} {t:Bool} (ho:OpenNo m t) (hk:CkMp m 2) (hf:FarM m.C false)
include ho hk hf in
theorem lw_stM (hn:n≤6) (h0:0<n) (hw:CxWide n C false) (hC:C n=cqU) (hh:(cxT n C).D w (β0 0)) (k:lwH n m.C β0 w (lwC n C m.C 2 true 0 0 [])) :
  Calls Tryz.prog 13 ((lwA m.C n).map (SV.den β0)).toArray w (Said Tryz.prog ciF 1 (tB' true) [] β0 w) :=
 sx_cut (P:=Tryz.prog) (lwA m.C n) [(cxT n C).ob] ((sFarP hf).e::lwS0 n C hn hw++lwS1 n C hn h0 hC++[(sImsMap (n:=n) (N:=n+1) C ho (by omega)).e,(sCkMp hk).e,.cut]) [] [] 800 (tB' true) [] Tryz.func13 hmA (u:=1) (sl:=lwSl n cxNil 2 true 0 0)
  (ob:=lwOb n C m.C) (σ:=[0,0,1,5]) (p':=lpAt ciF 0) (by kernel_rfl) (fun β=>ok_of_maps (by kernel_rfl)) (by kernel_rfl) (by kernel_rfl) β0 w (fun i o ho=>by
  cases i with
  | zero=>simp only [List.getElem?_cons_zero] at ho; obtain rfl:=Option.some.inj ho; exact hh
  | succ i=>simp at ho) k
include ho hk hf in
theorem lw_stM0 (hw:CxWide 0 C false) (hC:C 0=cqU) (hh:(cxT 0 C).D w (β0 0)) (k:lwH 0 m.C β0 w (lwC 0 C m.C 2 true 0 0 [])) :
  Calls Tryz.prog 13 ((lwA m.C 0).map (SV.den β0)).toArray w (Said Tryz.prog ciF 1 (tB' true) [] β0 w) :=
 sx_cut (P:=Tryz.prog) (lwA m.C 0) [(cxT 0 C).ob] ((sFarP hf).e::lwS0 0 C (by decide) hw++lwS2 C hC++[(sImsMap (n:=0) (N:=1) C ho (by decide)).e,(sCkMp hk).e,.cut]) [] [] 800 (tB' true) [] Tryz.func13 hmA (u:=1) (sl:=lwSl 0 cxNil 2 true 0 0)
  (ob:=lwOb 0 C m.C) (σ:=[0,0,1,4]) (p':=lpAt ciF 0) (by kernel_rfl) (fun β=>ok_of_maps (by kernel_rfl)) (by kernel_rfl) (by kernel_rfl) β0 w (fun i o ho=>by
  cases i with
  | zero=>simp only [List.getElem?_cons_zero] at ho; obtain rfl:=Option.some.inj ho; exact hh
  | succ i=>simp at ho) k
end
end
end Go.Proofs.YtmfedaakeeiolaaGreat.Y
end
section
namespace Go.Proofs.YtmfedaakeeiolaaGreat.Y
open Go Go.RowKit
set_option maxRecDepth 100000
open Classical in
noncomputable def cxCd (m:MQ) (C:Nat→Cq):Nat→Int
 | 0=>0
 | j+1=>if (C j).B=true then (if cxCd m C j=0 then (if FitC (cxM m (C j)) then 0 else 4) else cxCd m C j) else 2
section
variable (m:MQ) (C:Nat→Cq)
theorem cd_bad {j:Nat} (h:(C j).B=false):cxCd m C (j+1)=2:=by
 unfold cxCd
 rw [h]
 rfl
theorem cd_more {j:Nat} (h:(C j).B=true) (h0:cxCd m C j≠0):cxCd m C (j+1)=cxCd m C j:=by
 show (if (C j).B=true then (if cxCd m C j=0 then _ else _) else _)=_
 rw [if_pos h,if_neg h0]
theorem cd_fit {j:Nat} (h:(C j).B=true) (h0:cxCd m C j=0) (hF:FitC (cxM m (C j))):cxCd m C (j+1)=0:=by
 show (if (C j).B=true then (if cxCd m C j=0 then _ else _) else _)=_
 rw [if_pos h,if_pos h0,if_pos hF]
theorem cd_unt {j:Nat} (h:(C j).B=true) (h0:cxCd m C j=0) (hF:¬ FitC (cxM m (C j))):cxCd m C (j+1)=4:=by
 show (if (C j).B=true then (if cxCd m C j=0 then _ else _) else _)=_
 rw [if_pos h,if_pos h0,if_neg hF]
theorem cd_04:∀ j,(∀ i,i<j→(C i).B=true)→cxCd m C j=0∨cxCd m C j=4
 | 0,_=>.inl rfl
 | j+1,h=>by
  by_cases h0:cxCd m C j=0
  · by_cases hF:FitC (cxM m (C j))
    · exact .inl (cd_fit m C (h j (by omega)) h0 hF)
    · exact .inr (cd_unt m C (h j (by omega)) h0 hF)
  · rw [cd_more m C (h j (by omega)) h0]
    exact cd_04 j fun i hi=>h i (by omega)
theorem cd_4:∀ j,(∀ i,i<j→(C i).B=true)→(∃ i,i<j∧¬ FitC (cxM m (C i)))→cxCd m C j=4
 | 0,_,h=>by obtain ⟨i,hi,_⟩:=h; exact absurd hi (Nat.not_lt_zero i)
 | j+1,h,hF=>by
  by_cases h0:cxCd m C j=0
  · by_cases h1:FitC (cxM m (C j))
    · exfalso
      obtain ⟨i,hi,hn⟩:=hF
      rcases Nat.lt_succ_iff_lt_or_eq.1 hi with h2 | rfl
      · have:=cd_4 j (fun i hi=>h i (by omega)) ⟨i,h2,hn⟩
        rw [h0] at this
        cases this
      · exact hn h1
    · exact cd_unt m C (h j (by omega)) h0 h1
  · rw [cd_more m C (h j (by omega)) h0]
    exact (cd_04 m C j fun i hi=>h i (by omega)).resolve_left h0
theorem cd_2:∀ j,(∃ i,i<j∧(C i).B=false)→cxCd m C j=2
 | 0,h=>by obtain ⟨i,hi,_⟩:=h; exact absurd hi (Nat.not_lt_zero i)
 | j+1,h=>by
  cases hb:(C j).B with
  | false=>exact cd_bad m C hb
  | true =>
   have:cxCd m C j=2:=cd_2 j (by
    obtain ⟨i,hi,hn⟩:=h
    rcases Nat.lt_succ_iff_lt_or_eq.1 hi with h2 | rfl
    · exact ⟨i,h2,hn⟩
    · rw [hb] at hn; cases hn)
   rw [cd_more m C hb (by rw [this]; decide),this]
end
theorem cx_w {j n:Nat} (hj:j≤n) (hn:n≤6):IntKind.i64.wrap ((j:Int)+1)=((j+1:Nat):Int):=by rw [IntKind.wrap_i64]; omega
section
variable (n:Nat) (C:Nat→Cq) (β0:Env) (w:World) (hn:n≤6)
include hn in
theorem lw_run {m:MQ} (hm:MayQ m) {E:Int} (hE:E≠0) (k:lwH n (mCl m) β0 w (lwC n C (mCl m) E false (cxCd m C n) n [])):∀ d j,j+d=n→lwH n (mCl m) β0 w (lwC n C (mCl m) E false (cxCd m C j) j [])
 | 0,j,e=>by
  obtain rfl:j=n:=by omega
  exact k
 | d+1,j,e=>by
  have ih:=lw_run hm hE k d (j+1) (by omega)
  cases hb:(C j).B with
  | false =>
   rw [cd_bad m C hb] at ih
   exact cx_hd (lw_bad n C β0 w hm E (cxCd m C j) (by omega) hb (cx_w (n:=n) (by omega) hn) rfl ih)
  | true =>
   by_cases h0:cxCd m C j=0
   · by_cases hF:FitC (cxM m (C j))
     · rw [cd_fit m C hb h0 hF] at ih
       rw [h0]
       exact cx_hd (lw_fit n C β0 w hm hE (by omega) hb hF (cx_w (n:=n) (by omega) hn) rfl ih)
     · rw [cd_unt m C hb h0 hF] at ih
       rw [h0]
       exact cx_hd (lw_unt n C β0 w hm hE (by omega) hb hF (cx_w (n:=n) (by omega) hn) rfl ih)
   · rw [cd_more m C hb h0] at ih
     exact cx_hd (lw_more n C β0 w hm hE h0 (by omega) hb (cx_w (n:=n) (by omega) hn) rfl ih)
include hn in
theorem lw_runT {m:MQ} (hm:MayQ m) (hC:C n=cqU) (h:∀ i,i<n→(C i).B=true) (hF:∀ i,i<n→FitC (cxM m (C i))):∀ d j,j+d=n→lwH n (mCl m) β0 w (lwCT n C m j [])
 | 0,j,e=>by
  obtain rfl:j=n:=by omega
  exact cx_hd (lw_endT j C β0 w hC (cx_w (Nat.le_refl j) hn) rfl)
 | d+1,j,e=>cx_hd (lw_told n C β0 w hm (by omega) (h j (by omega)) (hF j (by omega)) (cx_w (n:=n) (by omega) hn) rfl (lw_runT hm hC h hF d (j+1) (by omega)))
include hn in
theorem lw_runM {m:Mp} {t:Bool} (ho:OpenNo m t) (hC:C n=cqU):∀ d j (K:Int),j+d=n→lwH n m.C β0 w (lwC n C m.C 2 true K j [])
 | 0,j,K,e=>by
  obtain rfl:j=n:=by omega
  exact cx_hd (lw_endM j C β0 w K hC (cx_w (Nat.le_refl j) hn) rfl)
 | d+1,j,K,e=>cx_hd (lw_map n C β0 w ho K (by omega) (cx_w (n:=n) (by omega) hn) rfl (lw_runM ho hC d (j+1) 2 (by omega)))
end
theorem ci_walk (x0 y0 x1 y1 x2 y2 x3 y3:R4) (t:Bool) (h0:r4k x0) (k0:r4k y0) (h1:r4k x1) (k1:r4k y1) (h2:r4k x2) (k2:r4k y2) (h3:r4k x3) (k3:r4k y3) (n:Nat) (hn63:n≤maxLen) (C:Nat→Cq) (hC:C n=cqU) (β0:Env) (w:World) (hh:(cxT n C).D w (β0 0)) :
  Calls Tryz.prog 13 ((lwA (cbM x0 y0 x1 y1 x2 y2 x3 y3 t) n).map (SV.den β0)).toArray w fun e w'=>e=.returned (.bool true)∧Below w.heap.size w w':=by
 obtain ⟨m,hmC,hmap⟩:=map_all x0 y0 x1 y1 x2 y2 x3 y3 t h0 k0 h1 k1 h2 k2 h3 k3
 rw [← hmC]
 have fin:∀ {e w'},Said Tryz.prog ciF 1 (tB' true) [] β0 w e w'→e=.returned (.bool true)∧Below w.heap.size w w':=fun {e w'} h=>by
  obtain ⟨β',q,obj,_,rfl,_,_,_,g⟩:=h
  exact ⟨rfl,g.bel⟩
 have fin2:∀ (S:Spec Tryz.prog),S.f=13→S.args=lwA m.C n→S.obs=[cxT n C]→S.res=tB' true→Calls Tryz.prog 13 ((lwA m.C n).map (SV.den β0)).toArray w fun e w'=>e=.returned (.bool true)∧Below w.heap.size w w':=fun S h1 h2 h3 h4=>by
  have:=S.ok β0 w (fun k t ht=>by
   rw [h3] at ht
   match k,ht with
   | 0,ht=>obtain rfl:=Option.some.inj ht; exact hh
   | k+1,ht=>cases ht)
  rw [h1,h2] at this
  refine this.mono fun e w' ⟨xs,_,he,_,hb⟩=>⟨?_,hb⟩
  rw [he,h4]
  rfl
 obtain ⟨r1,hf⟩:=farM_all m
 cases r1 with
 | true=>exact fin2 (lwFarP n C hf) rfl rfl rfl rfl
 | false =>
 obtain ⟨r2,_,hw⟩:=wd_all C hn63
 have hw:CxWide n C r2:=hw
 cases r2 with
 | true=>exact fin2 (lwWideP hf hw) rfl rfl rfl rfl
 | false =>
 by_cases hn:n≤6
 · clear fin2
   rcases hmap with ⟨q,hq,e⟩ | ⟨⟨u,ho⟩,hk⟩
   · rw [e] at hf ⊢
     by_cases hB:∃ i,i<n∧(!(C i).B)=true
     · obtain ⟨i,i1,i2,i3⟩:=cx_first hB
       have i2:(C i).B=false:=by rw [Bool.not_eq_true'] at i2; exact i2
       have i3:∀ k,k<i→(C k).B=true:=fun k hk=>by have:=i3 k hk; rw [Bool.not_eq_false'] at this; exact this
       refine (lw_stN n C β0 w hq hf hn hw hC i1 i2 i3 hh ?_).mono fun e w' h=>fin h
       refine lw_run n C β0 w hn hq (E:=2) (by decide) ?_ n 0 (by omega)
       rw [cd_2 q C n ⟨i,i1,i2⟩]
       exact cx_hd (lw_end2 n C β0 w hC (cx_w (Nat.le_refl n) hn) rfl)
     · have hA:∀ i,i<n→(C i).B=true:=fun i hi=>by
        cases hb:(C i).B with
        | true=>rfl
        | false=>exact absurd ⟨i,hi,by rw [hb]; rfl⟩ hB
       by_cases hF:∀ i,i<n→FitC (cxM q (C i))
       · rcases Nat.eq_zero_or_pos n with rfl | hp
         · exact (lw_st0 C β0 w hq hf hw hC hh (cx_hd (lw_end0 C β0 w hC))).mono fun e w' h=>fin h
         · exact (lw_stT n C β0 w hq hf hn hp hw hC hA hF hh (lw_runT n C β0 w hn hq hC hA hF n 0 (by omega))).mono fun e w' h=>fin h
       · have hx:∃ i,i<n∧(@decide (¬ FitC (cxM q (C i))) (Classical.propDecidable _))=true:=by
          refine Classical.byContradiction fun hc=>hF fun i hi=>Classical.byContradiction fun hn=>hc ⟨i,hi,?_⟩
          exact @decide_eq_true _ (Classical.propDecidable _) hn
         obtain ⟨i,i1,i2,i3⟩:=cx_first hx
         have i2:¬ FitC (cxM q (C i)):=@of_decide_eq_true _ (Classical.propDecidable _) i2
         have i3:∀ k,k<i→FitC (cxM q (C k)):=fun k hk=>Classical.byContradiction fun hn=>(@of_decide_eq_false _ (Classical.propDecidable _) (i3 k hk)) hn
         refine (lw_stU n C β0 w hq hf hn hw hC hA i1 i2 i3 hh ?_).mono fun e w' h=>fin h
         refine lw_run n C β0 w hn hq (E:=4) (by decide) ?_ n 0 (by omega)
         rw [cd_4 q C n hA ⟨i,i1,i2⟩]
         exact cx_hd (lw_end4 n C β0 w hC (cx_w (Nat.le_refl n) hn) rfl)
   · rcases Nat.eq_zero_or_pos n with rfl | hp
     · exact (lw_stM0 C β0 w ho hk hf hw hC hh (lw_runM 0 C β0 w hn ho hC 0 0 0 rfl)).mono fun e w' h=>fin h
     · exact (lw_stM n C β0 w ho hk hf hn hp hw hC hh (lw_runM n C β0 w hn ho hC n 0 0 (by omega))).mono fun e w' h=>fin h
 · exact fin2 (lwLongP hf hw (by omega)) rfl rfl rfl rfl
theorem RwD.congr {sz n:Nat} {L L':Nat→List Lf} {w:World} {g:Pl} (h:RwD sz n L w g) (e:∀ j,j<n→L j=L' j):RwD sz n L' w g:=by
 rcases h with h | ⟨h0,b,o,cs,t,fr,h1,h2,h3,h4⟩
 · exact .inl h
 · exact .inr ⟨h0,b,o,cs,t,fr,h1,h2,h3,fun j hj=>by rw [← e j hj]; exact h4 j hj⟩
end Go.Proofs.YtmfedaakeeiolaaGreat.Y
namespace Go.Proofs.YtmfedaakeeiolaaGreat
open Go.Proofs.YtmfedaakeeiolaaGreat.Y Go Go.RowKit
theorem CircImages_walk (x0 y0 x1 y1 x2 y2 x3 y3:R4) (t:Bool) (g:Y.Pl) (n:Nat) (Q:Nat→Y.Cq) (W:World) (h0:Y.r4k x0) (k0:Y.r4k y0) (h1:Y.r4k x1) (k1:Y.r4k y1) (h2:Y.r4k x2) (k2:Y.r4k y2) (h3:Y.r4k x3) (k3:Y.r4k y3) (hn:n≤maxLen) (hr:Y.RwD 16 n (fun j=>Y.cqL (Q j)) W g) :
  Calls Tryz.prog 13 #[.agg (x0.V++y0.V++x1.V++y1.V++x2.V++y2.V++x3.V++y3.V++[Value.bool t]).toArray,.slice (g.v 0) n (g.c 0)] W fun e W'=>e=.returned (.bool true)∧Below W.heap.size W W':=by
 have h:=Y.ci_walk x0 y0 x1 y1 x2 y2 x3 y3 t h0 k0 h1 k1 h2 k2 h3 k3 n hn (fun j=>if j<n then Q j else Y.cqU) (if_neg (Nat.lt_irrefl n)) (fun _=>g) W (hr.congr fun j hj=>by
  show _=Y.cqL (if j<n then Q j else Y.cqU)
  rw [if_pos hj])
 exact h
end Go.Proofs.YtmfedaakeeiolaaGreat
end
section
namespace Go.Proofs.YtmfedaakeeiolaaGreat
open Go.ChangeShapes Go.WideShapes Go.ChangeAt Go.RowKit
theorem cellsOf_bool:Tryz.prog.cellsOf 4=1:=by kernel_rfl
theorem cellsOf_string:Tryz.prog.cellsOf 9=1:=by kernel_rfl
theorem cellsOf_whole:Tryz.prog.cellsOf 23=2:=by kernel_rfl
theorem cellsOf_frac:Tryz.prog.cellsOf 25=4:=by kernel_rfl
section
variable {H:Type} {enc:TypeId × Value→H} {w:World} {base:Nat} {spare:Nat→Bool} {held:Bool}
set_option maxRecDepth 100000 in
theorem trod_whole {fuel:Nat} {cs:List Value} {x:DataW H × List MemPlace} (h:DataW.trod enc Tryz.prog w base spare held fuel 23 cs=some x) :
  ∃ (b:Bool) (s:ByteArray),cs=[.bool b,.string s]∧s.size≤maxLen:=by
 obtain ⟨xs,n,rfl,_,hlen,hxl,hf⟩:=DataW.trod_struct Tryz.underlying23 h
 rw [cellsOf_whole] at hlen
 have hx0:xs[0]?=some (xs[0]'(by rw [hxl]; decide)):=List.getElem?_eq_getElem _
 have hx1:xs[1]?=some (xs[1]'(by rw [hxl]; decide)):=List.getElem?_eq_getElem _
 have h0:DataW.trod enc Tryz.prog w base spare held n 4 ((cs.drop 0).take (Tryz.prog.cellsOf 4))=some _:=(hf 0 _ rfl).trans hx0
 have h1:DataW.trod enc Tryz.prog w base spare held n 9 ((cs.drop 1).take (Tryz.prog.cellsOf 9))=some _:=(hf 1 _ rfl).trans hx1
 rw [cellsOf_bool] at h0
 rw [cellsOf_string] at h1
 match cs,hlen with
 | [a,b],_ =>
  obtain ⟨p,e0,_⟩:=DataW.trod_bool Tryz.underlying4 h0
  obtain ⟨s,e1,_,hs⟩:=DataW.trod_string Tryz.underlying9 h1
  cases e0
  cases e1
  exact ⟨p,s,rfl,hs⟩
set_option maxRecDepth 100000 in
theorem trod_frac {fuel:Nat} {cs:List Value} {x:DataW H × List MemPlace} (h:DataW.trod enc Tryz.prog w base spare held fuel 25 cs=some x) :
  ∃ (b c:Bool) (s t:ByteArray),cs=[.bool b,.string s,.bool c,.string t]∧s.size≤maxLen∧t.size≤maxLen:=by
 obtain ⟨xs,n,rfl,_,hlen,hxl,hf⟩:=DataW.trod_struct Tryz.underlying25 h
 rw [cellsOf_frac] at hlen
 have hx0:xs[0]?=some (xs[0]'(by rw [hxl]; decide)):=List.getElem?_eq_getElem _
 have hx1:xs[1]?=some (xs[1]'(by rw [hxl]; decide)):=List.getElem?_eq_getElem _
 have h0:DataW.trod enc Tryz.prog w base spare held n 23 ((cs.drop 0).take (Tryz.prog.cellsOf 23))=some _:=(hf 0 _ rfl).trans hx0
 have h1:DataW.trod enc Tryz.prog w base spare held n 23 ((cs.drop 2).take (Tryz.prog.cellsOf 23))=some _:=(hf 1 _ rfl).trans hx1
 rw [cellsOf_whole] at h0 h1
 match cs,hlen with
 | [a,b,c,d],_ =>
  obtain ⟨p,s,e0,hs⟩:=trod_whole h0
  obtain ⟨q,t,e1,ht⟩:=trod_whole h1
  cases e0
  cases e1
  exact ⟨p,q,s,t,rfl,hs,ht⟩
end
end Go.Proofs.YtmfedaakeeiolaaGreat
end
section
namespace Go.Proofs.YtmfedaakeeiolaaGreat
open Go Go.ChangeShapes Go.WideShapes Go.ChangeAt Go.RowKit
theorem cellsOf_gauss:Tryz.prog.cellsOf 37=8:=by kernel_rfl
theorem cellsOf_mob:Tryz.prog.cellsOf 39=33:=by kernel_rfl
theorem chunk {α:Type} (cs:List α) (a b:Nat):cs.drop a=(cs.drop a).take b++cs.drop (a+b):=by
 rw [← List.drop_drop,List.take_append_drop]
def R4.ok (x:R4):Prop:=x.s.size≤maxLen∧x.t.size≤maxLen
section
variable {H:Type} {enc:TypeId × Value→H} {w:World} {base:Nat} {spare:Nat→Bool} {held:Bool}
theorem trod_r4 {fuel:Nat} {cs:List Value} {x:DataW H × List MemPlace} (h:DataW.trod enc Tryz.prog w base spare held fuel 25 cs=some x):∃ r:R4,cs=r.V∧r.ok:=by
 obtain ⟨b,c,s,t,e,h1,h2⟩:=trod_frac h
 exact ⟨⟨b,s,c,t⟩,e,h1,h2⟩
set_option maxRecDepth 100000 in
theorem trod_gauss {fuel:Nat} {cs:List Value} {x:DataW H × List MemPlace} (h:DataW.trod enc Tryz.prog w base spare held fuel 37 cs=some x):∃ r s:R4,cs=r.V++s.V∧r.ok∧s.ok:=by
 obtain ⟨xs,n,rfl,_,hlen,hxl,hf⟩:=DataW.trod_struct Tryz.underlying37 h
 rw [cellsOf_gauss] at hlen
 have hx0:xs[0]?=some (xs[0]'(by rw [hxl]; decide)):=List.getElem?_eq_getElem _
 have hx1:xs[1]?=some (xs[1]'(by rw [hxl]; decide)):=List.getElem?_eq_getElem _
 have h0:DataW.trod enc Tryz.prog w base spare held n 25 ((cs.drop 0).take (Tryz.prog.cellsOf 25))=some _:=(hf 0 _ rfl).trans hx0
 have h1:DataW.trod enc Tryz.prog w base spare held n 25 ((cs.drop 4).take (Tryz.prog.cellsOf 25))=some _:=(hf 1 _ rfl).trans hx1
 rw [cellsOf_frac] at h0 h1
 obtain ⟨r,e0,k0⟩:=trod_r4 h0
 obtain ⟨s,e1,k1⟩:=trod_r4 h1
 refine ⟨r,s,?_,k0,k1⟩
 have:=chunk cs 0 4
 rw [e0,List.drop_zero] at this
 rw [this,chunk cs (0+4) 4,e1,List.drop_of_length_le (by omega),List.append_nil]
end
end Go.Proofs.YtmfedaakeeiolaaGreat
end
section
namespace Go.Proofs.YtmfedaakeeiolaaGreat
open Go.ChangeShapes Go.WideShapes Go.ChangeAt Go.RowKit
section
variable {H:Type} {enc:TypeId × Value→H} {w:World} {base:Nat} {spare:Nat→Bool} {held:Bool}
theorem cellsOf_circle:Tryz.prog.cellsOf 105=16:=by kernel_rfl
set_option maxRecDepth 100000 in
theorem trod_circle {fuel:Nat} {cs:List Value} {x:DataW H × List MemPlace} (h:DataW.trod enc Tryz.prog w base spare held fuel 105 cs=some x) :
  ∃ (a b b' c:R4),cs=a.V++b.V++b'.V++c.V∧a.ok∧b.ok∧b'.ok∧c.ok:=by
 obtain ⟨xs,n,rfl,_,hlen,hxl,hf⟩:=DataW.trod_struct Tryz.underlying105 h
 rw [cellsOf_circle] at hlen
 have hx0:xs[0]?=some (xs[0]'(by rw [hxl]; decide)):=List.getElem?_eq_getElem _
 have hx1:xs[1]?=some (xs[1]'(by rw [hxl]; decide)):=List.getElem?_eq_getElem _
 have hx2:xs[2]?=some (xs[2]'(by rw [hxl]; decide)):=List.getElem?_eq_getElem _
 have h0:DataW.trod enc Tryz.prog w base spare held n 25 ((cs.drop 0).take (Tryz.prog.cellsOf 25))=some _:=(hf 0 _ rfl).trans hx0
 have h1:DataW.trod enc Tryz.prog w base spare held n 37 ((cs.drop 4).take (Tryz.prog.cellsOf 37))=some _:=(hf 1 _ rfl).trans hx1
 have h2:DataW.trod enc Tryz.prog w base spare held n 25 ((cs.drop 12).take (Tryz.prog.cellsOf 25))=some _:=(hf 2 _ rfl).trans hx2
 rw [cellsOf_frac] at h0 h2
 rw [cellsOf_gauss] at h1
 obtain ⟨a0,e0,k0⟩:=trod_r4 h0
 obtain ⟨a1,b1,e1,k1⟩:=trod_gauss h1
 obtain ⟨a2,e2,k2⟩:=trod_r4 h2
 refine ⟨a0,a1,b1,a2,?_,k0,k1.1,k1.2,k2⟩
 have c0:=chunk cs 0 4
 have c1:=chunk cs (0+4) 8
 have c2:=chunk cs (0+4+8) 4
 rw [List.drop_eq_nil_of_le (show cs.length≤0+4+8+4 by omega),List.append_nil] at c2
 rw [e2] at c2
 rw [e1,c2] at c1
 rw [e0,c1,List.drop_zero] at c0
 rw [c0]
 simp only [List.append_assoc]
end
end Go.Proofs.YtmfedaakeeiolaaGreat
end
section
namespace Go.Proofs.YtmfedaakeeiolaaGreat
open Go Go.ChangeShapes Go.WideShapes Go.ChangeAt Go.RowKit
section
variable {H:Type} {enc:TypeId × Value→H} {w:World} {base:Nat} {spare:Nat→Bool} {held:Bool}
set_option maxRecDepth 100000 in
theorem trod_mob {fuel:Nat} {cs:List Value} {x:DataW H × List MemPlace} (h:DataW.trod enc Tryz.prog w base spare held fuel 39 cs=some x) :
  ∃ (a b c d e f g k:R4) (t:Bool),cs=a.V++b.V++c.V++d.V++e.V++f.V++g.V++k.V++[Value.bool t]∧a.ok∧b.ok∧c.ok∧d.ok∧e.ok∧f.ok∧g.ok∧k.ok:=by
 obtain ⟨xs,n,rfl,_,hlen,hxl,hf⟩:=DataW.trod_struct Tryz.underlying39 h
 rw [cellsOf_mob] at hlen
 have hx0:xs[0]?=some (xs[0]'(by rw [hxl]; decide)):=List.getElem?_eq_getElem _
 have hx1:xs[1]?=some (xs[1]'(by rw [hxl]; decide)):=List.getElem?_eq_getElem _
 have hx2:xs[2]?=some (xs[2]'(by rw [hxl]; decide)):=List.getElem?_eq_getElem _
 have hx3:xs[3]?=some (xs[3]'(by rw [hxl]; decide)):=List.getElem?_eq_getElem _
 have hx4:xs[4]?=some (xs[4]'(by rw [hxl]; decide)):=List.getElem?_eq_getElem _
 have h0:DataW.trod enc Tryz.prog w base spare held n 37 ((cs.drop 0).take (Tryz.prog.cellsOf 37))=some _:=(hf 0 _ rfl).trans hx0
 have h1:DataW.trod enc Tryz.prog w base spare held n 37 ((cs.drop 8).take (Tryz.prog.cellsOf 37))=some _:=(hf 1 _ rfl).trans hx1
 have h2:DataW.trod enc Tryz.prog w base spare held n 37 ((cs.drop 16).take (Tryz.prog.cellsOf 37))=some _:=(hf 2 _ rfl).trans hx2
 have h3:DataW.trod enc Tryz.prog w base spare held n 37 ((cs.drop 24).take (Tryz.prog.cellsOf 37))=some _:=(hf 3 _ rfl).trans hx3
 have h4:DataW.trod enc Tryz.prog w base spare held n 4 ((cs.drop 32).take (Tryz.prog.cellsOf 4))=some _:=(hf 4 _ rfl).trans hx4
 rw [cellsOf_gauss] at h0 h1 h2 h3
 rw [cellsOf_bool] at h4
 obtain ⟨a0,b0,e0,k0⟩:=trod_gauss h0
 obtain ⟨a1,b1,e1,k1⟩:=trod_gauss h1
 obtain ⟨a2,b2,e2,k2⟩:=trod_gauss h2
 obtain ⟨a3,b3,e3,k3⟩:=trod_gauss h3
 obtain ⟨t,e4⟩:∃ t,cs.drop 32=[Value.bool t]:=by
  match hc:(cs.drop 32),(show (cs.drop 32).length=1 by rw [List.length_drop]; omega) with
  | [a],_ =>
   rw [hc] at h4
   obtain ⟨i,e0,_⟩:=DataW.trod_bool Tryz.underlying4 h4
   refine ⟨i,?_⟩
   cases e0
   rfl
 refine ⟨a0,b0,a1,b1,a2,b2,a3,b3,t,?_,k0.1,k0.2,k1.1,k1.2,k2.1,k2.2,k3.1,k3.2⟩
 have c0:=chunk cs 0 8
 have c1:=chunk cs (0+8) 8
 have c2:=chunk cs (0+8+8) 8
 have c3:=chunk cs (0+8+8+8) 8
 rw [e3,show 0+8+8+8+8=32 by rfl,e4] at c3
 rw [e2,c3] at c2
 rw [e1,c2] at c1
 rw [e0,c1,List.drop_zero] at c0
 rw [c0]
 simp only [List.append_assoc]
set_option maxRecDepth 100000 in
theorem open_mob {r:Reach} {b0:Nat} {v:Value} {d:DataW H} {p:List MemPlace} (hv:Value.okWide Tryz.prog w r b0 39 v) (h:DataW.Trod enc Tryz.prog w base spare held 39 v d p) :
  ∃ (x0 y0 x1 y1 x2 y2 x3 y3:R4) (t:Bool),v=.agg (x0.V++y0.V++x1.V++y1.V++x2.V++y2.V++x3.V++y3.V++[Value.bool t]).toArray∧x0.ok∧y0.ok∧x1.ok∧y1.ok∧x2.ok∧y2.ok∧x3.ok∧y3.ok:=by
 obtain ⟨cs,rfl,hsz⟩:=okWide_struct Tryz.underlying39 hv
 obtain ⟨fuel,hf⟩:=h
 obtain ⟨l⟩:=cs
 obtain ⟨a,b,c,d,e,f,g,k,t,rfl,hh⟩:=trod_mob hf
 exact ⟨a,b,c,d,e,f,g,k,t,rfl,hh⟩
end
end Go.Proofs.YtmfedaakeeiolaaGreat
end
section
namespace Go.Proofs.YtmfedaakeeiolaaGreat
open Go.ChangeShapes Go.WideShapes Go.ChangeAt Go.RowKit
set_option maxRecDepth 100000
section
variable {H:Type} {enc:TypeId × Value→H} {w:World} {base:Nat} {spare:Nat→Bool} {held:Bool}
theorem cell_cells {a:Addr} {v:Value} (h:w.cell? a=some v):a.spot=none∧∃ cs t fr,w.heap[a.block]?=some (.cells cs t fr):=by
 unfold World.cell? at h
 split at h
 · rename_i c t fr hb
   split at h
   · cases h
   · rename_i hs
     exact ⟨by simpa using hs,c,t,fr,hb⟩
 · cases h
theorem open_rows {α:Type} {T e:TypeId} (hT:Tryz.prog.underlying T=some (.slice e)) {sz:Nat} (hc:Tryz.prog.cellsOf e=sz) (h2:0<sz) (Lq:α→List Y.Lf) (q0:α)
  (hel:∀ fuel cs x,DataW.trod enc Tryz.prog w base spare held fuel e cs=some x→∃ q,cs=(Lq q).map (Y.Lf.den Y.idE))
  {r:Reach} {b0:Nat} {v:Value} {d:DataW H} {p:List MemPlace} (hv:Value.okWide Tryz.prog w r b0 T v) (h:DataW.Trod enc Tryz.prog w base spare held T v d p) :
  ∃ (g:Y.Pl) (n:Nat) (Q:Nat→α),v=.slice (g.v 0) n (g.c 0)∧n≤maxLen∧Y.RwD sz n (fun j=>Lq (Q j)) w g:=by
 obtain ⟨a,len,cap,rfl⟩:=okWide_slice hT hv
 obtain ⟨fuel,hf⟩:=h
 have hf:DataW.trod enc Tryz.prog w base spare held fuel T [.slice a len cap]=some (d,p):=hf
 rcases Go.Deep.open_slice hT hf with ⟨e1,_⟩ | ⟨a',len',cap',m,n,D,Pl,e1,hb,hl,hm,hmm,_,hx⟩
 · simp only [List.cons.injEq,and_true,Value.slice.injEq] at e1
   obtain ⟨rfl,rfl,rfl⟩:=e1
   exact ⟨Y.nilPl,0,fun _=>q0,rfl,Nat.zero_le _,.inl ⟨rfl,fun c hc=>hc⟩⟩
 · simp only [List.cons.injEq,and_true,Value.slice.injEq] at e1
   obtain ⟨rfl,rfl,rfl⟩:=e1
   have hlm:len≤m:=by rw [hmm]; split<;>omega
   by_cases h0:len=0
   · subst h0
     exact ⟨⟨0,fun _=>some a',fun _=>cap,fun _=>False,fun _=>undef⟩,0,fun _=>q0,rfl,Nat.zero_le _,.inl ⟨rfl,fun c hc=>hc⟩⟩
   rw [hc] at hx
   have each:∀ i,i<len→∃ q,∀ j,j<sz→w.cell? (a'.add (i*sz+j))=((Lq q).map (Y.Lf.den Y.idE))[j]?∧((Lq q).map (Y.Lf.den Y.idE)).length=sz:=fun i hi=>by
    obtain ⟨cs',k1,k2⟩:=hx i (by omega)
    obtain ⟨q,hq⟩:=hel _ _ _ k2
    obtain ⟨_,k4,k5⟩:=World.cells?_some k1
    exact ⟨q,fun j hj=>⟨by rw [← Go.Deep.add_add,k5 j hj,hq],by rw [← hq]; exact k4⟩⟩
   haveI:Inhabited α:=⟨q0⟩
   obtain ⟨Q,hQ⟩:=Go.Deep.choose_lt each
   have hfst:∃ u,w.cell? a'=some u:=by
    have k:=hQ 0 (by omega) 0 h2
    have:(a'.add (0*sz+0))=a':=by simp [Addr.add]
    rw [this] at k
    rw [k.1]
    exact ⟨_,List.getElem?_eq_getElem (by rw [k.2]; exact h2)⟩
   obtain ⟨u,hu⟩:=hfst
   obtain ⟨hs,cs,t,fr,hcs⟩:=cell_cells hu
   obtain ⟨b,o,s⟩:=a'
   obtain rfl:s=none:=hs
   refine ⟨⟨b,fun m=>some ⟨b,o+m,none⟩,fun _=>cap,fun c=>c=b,fun _=>undef⟩,len,Q,rfl,by omega,.inr ⟨by omega,b,o,cs,t,fr,fun m=>rfl,fun c=>Iff.rfl,hcs,fun j hj i v hv=>?_⟩⟩
   have hi:i<sz:=by
    have h4:i<((Lq (Q j)).map (Y.Lf.den Y.idE)).length:=(List.getElem?_eq_some_iff.1 hv).1
    have h5:=(hQ j hj 0 h2).2
    omega
   have h6:=(hQ j hj i hi).1
   rw [Addr.add_mid] at h6
   rw [Nat.add_assoc,h6]
   exact hv
end
section
variable {H:Type} {enc:TypeId × Value→H} {w:World} {base:Nat} {spare:Nat→Bool} {held:Bool}
theorem open_circ_row {r:Reach} {b0:Nat} {v:Value} {d:DataW H} {p:List MemPlace} (hv:Value.okWide Tryz.prog w r b0 127 v) (h:DataW.Trod enc Tryz.prog w base spare held 127 v d p) :
  ∃ (g:Y.Pl) (n:Nat) (Q:Nat→Y.Cq),v=.slice (g.v 0) n (g.c 0)∧n≤maxLen∧Y.RwD 16 n (fun j=>Y.cqL (Q j)) w g:=by
 refine open_rows Tryz.underlying127 cellsOf_circle (by decide) (fun q:Y.Cq=>Y.cqL q) (.ok Y.uQ Y.u_may) (fun fuel cs x hx=>?_) hv h
 obtain ⟨a,b,b',c,rfl,h1,h2,h3,h4⟩:=trod_circle hx
 obtain ⟨q,rfl,rfl,rfl,rfl⟩:=Y.cq_of a b b' c h1 h2 h3 h4
 exact ⟨q,rfl⟩
end
end Go.Proofs.YtmfedaakeeiolaaGreat
end
