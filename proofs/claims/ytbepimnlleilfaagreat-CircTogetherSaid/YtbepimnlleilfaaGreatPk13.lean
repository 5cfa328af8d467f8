/- LsF, CxB, LsK, PlK, LsO, LsQ, PlS, PlR, OnL, TgA, TgB, TlB, TlC, TgC, TgD, TgE, TlL, TlM. -/
import Derived.Test.YtbepimnlleilfaaGreatPk12
set_option linter.unnecessarySimpa false
set_option linter.unusedVariables false
set_option linter.unusedSimpArgs false
section
namespace Go.Proofs.YtbepimnlleilfaaGreat.Y
open Go Go.RowKit
set_option maxRecDepth 100000
noncomputable def rwDesc (T:TypeId):TypeDesc:=(Tryz.prog.underlying T).getD (.slice 0)
theorem rwDesc_u {T:TypeId} (h:((Tryz.prog.underlying T).map fun d=>d.isRow)=some true):Tryz.prog.underlying T=some (rwDesc T)∧(rwDesc T).isRow=true:=by
 unfold rwDesc
 cases h2:Tryz.prog.underlying T with
 | none=>rw [h2] at h; cases h
 | some d =>
  rw [h2] at h
  exact ⟨rfl,Option.some.inj h⟩
noncomputable def faB (T:TypeId) (i off:Nat):Bool:=match Tryz.prog.underlying T with
 | some (.struct fs)=>match fs[i]? with
  | some f=>Nat.beq f.offset off&&match Tryz.prog.info? f.type with
   | some n=>!Nat.beq n.size 0
   | none=>false
  | none=>false
 | _=>false
theorem fa_run {T:TypeId} {i off:Nat} (h:faB T i off=true) (a:Addr) (w:World):(Instr.fieldAt T (.pointer (some a)) i).run Tryz.prog w=.ok (.pointer (some (a.add off))) w:=by
 unfold faB at h
 split at h
 · rename_i fs hu
   split at h
   · rename_i f hf
     rw [Bool.and_eq_true] at h
     obtain ⟨h1,h2⟩:=h
     split at h2
     · rename_i inf hi
       have hs:inf.size≠0:=by
        intro e
        rw [e] at h2
        cases h2
       obtain rfl:=Nat.eq_of_beq_eq_true h1
       simp [Instr.fieldAt,run_underlying hu,Instr.sureAddr,fieldPlace,sizeOf,typeInfo,hf,hi,hs]
     · cases h2
   · cases h
 · cases h
theorem rw_part {w:World} {b o k n:Nat} {cs:List Value} (h:w.rangeAt b o cs):w.rangeAt b (o+k) ((cs.drop k).take n):=fun i v hv=>by
 have h1:cs[k+i]?=some v:=by
  rw [List.getElem?_take] at hv
  split at hv
  · rw [List.getElem?_drop] at hv
    exact hv
  · cases hv
 have:=h (k+i) v h1
 rw [Nat.add_assoc]
 exact this
def eFa {T:TypeId} {sz I off n j:Nat} (L:Nat→List Lf) (hf:faB T I off=true) (hj:j<n):Ev Tryz.prog:=.dyn (fun o _ _=>match o.op with
 | .fieldAddr t _ i=>Nat.beq t T&&Nat.beq i I
 | _=>false) fun o xs _=>match o.op with
 | .fieldAddr _ x _=>lit (lsZOf (xs.getD 0 undefS)) fun k=>.rd (o.dst.getD 0) (.fieldAddr T x I) (fun β=>[.pointer ((β k).v (j*sz))]) [(k,(rwT sz n L).ob)] 0 (.one (.c (.b (.z k (j*sz+off))))) [] (fun β w h ρ o ho hx=>by
   have h1:RwD sz n L w (β k):=h _ (List.mem_singleton.2 rfl)
   have h3:ρ x=.pointer ((β k).v (j*sz)):=by simpa [Op.operands] using hx
   rcases h1 with h1 | ⟨h0,b,of,cs,t,fr,h1,h2,h4,h5⟩
   · omega
   refine ⟨[],w,(fun _ h=>by cases h),?_,trivial,Below.refl _ _⟩
   unfold execOp
   rw [ho]
   dsimp only
   have e:((SV.one (.c (.b (.z k (j*sz+off))))).den (extE β 0 []))=.pointer (some ((⟨b,of+j*sz,none⟩:Addr).add off)):=by
    show Value.pointer ((β k).v (j*sz+off))=_
    rw [h1,Addr.add_mid,Nat.add_assoc]
   have h6:=fa_run hf (⟨b,of+j*sz,none⟩:Addr) w
   rw [e,h3,h1]
   simp only [Sem.run_bind,h6,Result.andThen_ok]
   rfl)
 | _=>.cut
def ePt {T:TypeId} {d:TypeDesc} (hu:Tryz.prog.underlying T=some d) (hd:d.isRow=true) (sz off:Nat) {n j:Nat} {L:Nat→List Lf} {cs:List Lf} {m:Nat} (hc:((L j).drop off).take m=cs) (hs:(Tryz.prog.info? T).map (·.size)=some cs.length) (hL:∀ β,cs.map (Lf.den β)=cs.map (Lf.den idE)) (hj:j<n):Ev Tryz.prog:=.dyn (fun o xs _=>match o.op with
 | .load t _=>Nat.beq t T
 | _=>false) fun o xs _=>match o.op with
 | .load _ x=>lit (lsZOf (xs.getD 0 undefS)) fun k=>.rd (o.dst.getD 0) (.load T x) (fun β=>[.pointer ((β k).v (j*sz+off))]) [(k,(rwT sz n L).ob)] 0 (.one (.a cs)) [] (fun β w h ρ o ho hx=>by
   have h1:RwD sz n L w (β k):=h _ (List.mem_singleton.2 rfl)
   have h3:ρ x=.pointer ((β k).v (j*sz+off)):=by simpa [Op.operands] using hx
   rcases h1 with h1 | ⟨h0,b,of,cl,t,fr,h1,h2,h4,h5⟩
   · omega
   refine ⟨[],w,(fun _ h=>by cases h),?_,trivial,Below.refl _ _⟩
   unfold execOp
   rw [ho]
   dsimp only
   rw [h3,h1]
   have h7:w.rangeAt b (of+j*sz+off) (cs.map (Lf.den idE)):=by
    rw [← hc,List.map_take,List.map_drop]
    exact rw_part (h5 j hj)
   have h6:=run_loadAt_mid (P:=Tryz.prog) w b (of+j*sz+off) T (cs.map (Lf.den idE)) d h7 hu hd (by rw [List.length_map]; exact hs)
   have e:((SV.one (.a cs)).den (extE β 0 []))=.agg (cs.map (Lf.den idE)).toArray:=by
    show Value.agg (cs.map (Lf.den (extE β 0 []))).toArray=_
    rw [hL]
   rw [e]
   rw [Nat.add_assoc] at h6
   simp only [Sem.run_bind,h6,Result.andThen_ok]
   rfl)
 | _=>.cut
theorem cx_said0 {P:Program} {fn:Func} {m0:Nat} {res res':SV} {β:Env} {w:World} {e:Ending} {w':World} (h:Said P fn m0 res [] β w e w') (hr:∀ β':Env,(∀ k,k<m0→β' k=β k)→res.den β'=res'.den β):∃ xs:List Pl,freshS β w m0 xs∧e=.returned (res'.den (extE β m0 xs))∧newHold w' [] xs∧Below w.heap.size w w':=by
 obtain ⟨β',q,obj,hb,rfl,_,_,_,g⟩:=h
 exact ⟨[],(fun _ h=>by cases h),by rw [hr β' hb,extE_nil],trivial,g.bel⟩
theorem cx_hd {m0 N B0:Nat} {w0:World} {β0:Env} {Q:Exit→Act→World→Prop} {u:Nat} {sl:List (Nat × SV)} {ob:List Ob} {ev ev':List (Ev Tryz.prog)} {p:Code × List Kf} (h:HdOk Tryz.prog m0 N B0 w0 β0 Q (mkC Tryz.prog N u sl ob ev) p):HdOk Tryz.prog m0 N B0 w0 β0 Q (mkC Tryz.prog N u sl ob ev') p :=
 fun β a w hβ hs=>h β a w hβ (hs.ev ev)
abbrev TCi:TypeId:=95
inductive Cq where
 | ok (r:RQ) (h:MayC r)
 | no (a b b' c:R4) (h:CkNo (cbC a b b' c)) (hw:WheelNo (cbC a b b' c))
def Cq.B:Cq→Bool
 | .ok ..=>true
 | .no ..=>false
def Cq.a:Cq→R4
 | .ok r _=>fR r.a
 | .no a _ _ _ _ _=>a
def Cq.b:Cq→R4
 | .ok r _=>fR r.b.re
 | .no _ b _ _ _ _=>b
def Cq.b':Cq→R4
 | .ok r _=>fR r.b.im
 | .no _ _ b _ _ _=>b
def Cq.c:Cq→R4
 | .ok r _=>fR r.c
 | .no _ _ _ c _ _=>c
def krCs (L:Nat→List Lf) (E:Nat→Env) (n:Nat):List Value:=(List.range n).flatMap fun j=>(L j).map (Lf.den (E j))
theorem krCs_succ (L:Nat→List Lf) (E:Nat→Env) (n:Nat):krCs L E (n+1)=krCs L E n++(L n).map (Lf.den (E n)):=by
 unfold krCs
 rw [List.range_succ,List.flatMap_append,List.flatMap_cons,List.flatMap_nil,List.append_nil]
theorem krCs_len {sz:Nat} {L:Nat→List Lf} {E:Nat→Env}:∀ n,(∀ j,j<n→(L j).length=sz)→(krCs L E n).length=n*sz
 | 0,_=>by simp [krCs]
 | n+1,h=>by rw [krCs_succ,List.length_append,krCs_len n fun j hj=>h j (by omega),List.length_map,h n (by omega),Nat.add_mul,Nat.one_mul]
theorem krCs_get {sz:Nat} {L:Nat→List Lf} {E:Nat→Env} {i e:Nat} {v:Value} (hv:((L i).map (Lf.den (E i)))[e]?=some v):∀ n,(∀ j,j<n→(L j).length=sz)→i<n→(krCs L E n)[i*sz+e]?=some v
 | 0,_,h=>absurd h (Nat.not_lt_zero i)
 | n+1,hs,h=>by
  have he:e<(L i).length:=by have:=(List.getElem?_eq_some_iff.1 hv).1; rwa [List.length_map] at this
  have hl:(krCs L E n).length=n*sz:=krCs_len n fun j hj=>hs j (by omega)
  rw [krCs_succ]
  rcases Nat.lt_succ_iff_lt_or_eq.1 h with h1 | rfl
  · have:i*sz+sz≤n*sz:=by rw [← Nat.succ_mul]; exact Nat.mul_le_mul_right _ h1
    rw [List.getElem?_append_left (by rw [hl]; have:=hs i (by omega); omega)]
    exact krCs_get hv n (fun j hj=>hs j (by omega)) h1
  · rw [List.getElem?_append_right (by rw [hl]; omega),hl,show i*sz+e-i*sz=e by omega]
    exact hv
theorem krCs_congr {L:Nat→List Lf} {E E':Nat→Env}:∀ n,(∀ i,i<n→E i=E' i)→krCs L E n=krCs L E' n
 | 0,_=>rfl
 | n+1,h=>by rw [krCs_succ,krCs_succ,krCs_congr n fun i hi=>h i (by omega),h n (by omega)]
def KrD (sz:Nat) (e:TypeId) (n:Nat) (L:Nat→List Lf) (T:Nat→List Thing) (w:World) (g:Pl):Prop :=
 g.F g.b∧(∀ c,g.F c→c<w.heap.size)∧(∀ m,g.v m=some ⟨g.b,m,none⟩)∧(0<n∧∀ j,j<n→(L j).length=sz)∧∃ E:Nat→Env,
  (∀ j,j<n→∀ (k:Nat) (t:Thing),(T j)[k]?=some t→t.D w (E j k)∧∀ c,(E j k).F c→g.F c∧c≠g.b) ∧
  w.ownsRow 0 e sz (.slice (some ⟨g.b,0,none⟩) n (g.c 0)) n (krCs L E n)
theorem KrD.cells {sz:Nat} {e:TypeId} {w:World} {b n c:Nat} {l:List Value} (h:w.ownsRow 0 e sz (.slice (some ⟨b,0,none⟩) n c) n l):∃ cur,w.heap[b]?=some (.cells cur e (0,0))∧n≤c∧c≤maxLen∧cur.size=c*sz∧cur.toList.take (n*sz)=l:=by
 rcases h.2 with ⟨e1,_⟩ | ⟨g',cap,cur,e1,_,hh,h1,h2,h3,h4⟩
 · cases e1
 · injection e1 with e1 e2 e3
   injection e1 with e1
   injection e1 with e1
   subst e1 e3
   exact ⟨cur,hh,h1,h2,h3,h4⟩
theorem kr_own {sz:Nat} {e:TypeId} {w w':World} {b n c:Nat} {l:List Value} (h:w.ownsRow 0 e sz (.slice (some ⟨b,0,none⟩) n c) n l) (k:w'.heap[b]?=w.heap[b]?):w'.ownsRow 0 e sz (.slice (some ⟨b,0,none⟩) n c) n l:=by
 obtain ⟨cur,hh,h1,h2,h3,h4⟩:=KrD.cells h
 exact ⟨h.1,.inr ⟨b,c,cur,rfl,Nat.zero_le _,by rw [k]; exact hh,h1,h2,h3,h4⟩⟩
theorem kr_stable (sz:Nat) (e:TypeId) (n:Nat) (L:Nat→List Lf) (T:Nat→List Thing):Stable (KrD sz e n L T):=by
 refine ⟨fun w g h c hc=>h.2.1 c hc,fun w w' g h k=>?_,fun w w' g b o m s h hs ht hF=>?_⟩
 · obtain ⟨h1,h2,h3,h4,E,h5,h6⟩:=h
   exact ⟨h1,fun c hc=>Nat.lt_of_lt_of_le (h2 c hc) k.size,h3,h4,E,fun j hj i t ht=>⟨t.st.below w w' _ (h5 j hj i t ht).1 k,(h5 j hj i t ht).2⟩,kr_own h6 (k.block g.b (h2 _ h1))⟩
 · obtain ⟨h1,h2,h3,h4,E,h5,h6⟩:=h
   exact ⟨h1,fun c hc=>Nat.lt_of_lt_of_le (h2 c hc) ht.size,h3,h4,E,fun j hj i t htt=>⟨t.st.touch w w' _ b o m s (h5 j hj i t htt).1 hs ht fun hc=>hF ((h5 j hj i t htt).2 _ hc).1,(h5 j hj i t htt).2⟩,kr_own h6 (ht.block g.b (h2 _ h1) fun e=>hF (e▸h1))⟩
def krT (sz:Nat) (e:TypeId) (n:Nat) (L:Nat→List Lf) (T:Nat→List Thing):Thing:=thing (KrD sz e n L T) (kr_stable sz e n L T)
def krO (sz:Nat) (e:TypeId) (n:Nat) (L:Nat→List Lf) (T:Nat→List Thing):Ob:=.ow (krT sz e n L T) e
def krOld (k:Bool) (sz:Nat) (e:TypeId) (n:Nat) (L:Nat→List Lf) (T:Nat→List Thing) (K:Nat):Option (Nat × Ob):=bif k then some (K,krO sz e n L T) else none
def krVal (k:Bool) (n:Nat) (g:Pl):Value:=bif k then .slice (g.v 0) n (g.c 0) else .slice none 0 0
theorem kr_app (A:AppT Tryz.prog) {L:Nat→List Lf} {T:Nat→List Thing} {n:Nat} {k:Bool} (hk:k=false→n=0) (hL:∀ j,j<n+1→(L j).length=A.sz) (h63:n+1≤maxLen) (hb:(n+1)*A.bytes≤140737488355328)
  (K a M:Nat) (ps:List Nat) (cs:List Lf) {β:Env} {w:World} (hcs:∀ E:Env,(∀ (i p:Nat),ps[i]?=some p→E i=β p)→(L n).map (Lf.den E)=cs.map (Lf.den β)) (h1:∀ u∈cs.map (Lf.den β),u.oneCell'=true) (hl:cs.length=A.sz)
  (hps:(T n).length=ps.length) (hT:∀ (i:Nat) (t:Thing) (p:Nat),(T n)[i]?=some t→ps[i]?=some p→t.D w (β p))
  (hno:∀ cur,w.heap[(β K).b]?=some (.cells cur A.e (0,0))→k=true→∀ (i:Nat) (t:Thing) (p:Nat),(T n)[i]?=some t→ps[i]?=some p→¬ (β p).F (β K).b)
  (hold:oldHolds β w (krOld k A.sz A.e n L T K)) (ha:(Ob.box cs A.e).holds β w (β a)) (s y:Operand) (ρ:Operand→Value) (o:Oper) (ho:o.op=.call ⟨.builtin .append,#[s,y],#[A.t,A.t]⟩) (e1:ρ s=krVal k n (β K)) (e2:ρ y=.slice (some ⟨(β a).b,0,none⟩) 1 1) :
  ∃ (g:Pl) (w':World),(execOp ρ o).run Tryz.prog w=.ok (.value ((SV.one (.c (.b (.y M 0 (n+1))))).den (extE β M [g]))) w'∧(krO A.sz A.e (n+1) L T).holds (extE β M [g]) w' g∧Grow β w w' (krOld k A.sz A.e n L T K) g∧(∀ c,g.F c→c=g.b∨(∃ p,krOld k A.sz A.e n L T K=some p∧(β p.1).F c)∨∃ (i p:Nat),ps[i]?=some p∧i<(T n).length∧(β p).F c):=by
 obtain ⟨En,hEn⟩:∃ En:Env,∀ (i p:Nat),ps[i]?=some p→En i=β p:=⟨fun i=>β (ps[i]?.getD 0),fun i p hp=>by show β (ps[i]?.getD 0)=β p; rw [hp]; rfl⟩
 have hnl:((L n).map (Lf.den En)).length=1*A.sz:=by rw [List.length_map,hL n (by omega),Nat.one_mul]
 have hnc:∀ j u,((L n).map (Lf.den En))[j]?=some u→w.cell? ((⟨(β a).b,0,none⟩:Addr).add j)=some u:=fun j u hu=>by
  rw [hcs En hEn] at hu
  rw [Addr.add_mid,Nat.zero_add,cell_of_row _ _ _ _ _ _ ha.2]
  simpa using hu
 have hone:∀ u∈(L n).map (Lf.den En),u.oneCell'=true:=fun u hu=>h1 u (by rw [← hcs En hEn]; exact hu)
 obtain ⟨ol,E,hol,hol2,hKl,hE⟩:∃ (ol:Option (Nat × Nat)) (E:Nat→Env),((ol=none∧n=0∧krCs L E n=[]∧krVal k n (β K)=.slice none 0 0)∨∃ b c,ol=some (b,c)∧krVal k n (β K)=.slice (some ⟨b,0,none⟩) n c∧w.ownsRow 0 A.e A.sz (krVal k n (β K)) n (krCs L E n)) ∧
   (∀ b c,ol=some (b,c)→k=true∧b=(β K).b)∧((k=true→∀ c,(β K).F c→c<w.heap.size)∧(k=true→∀ j,j<n→∀ (i:Nat) (t:Thing),(T j)[i]?=some t→t.D w (E j i)∧∀ c,(E j i).F c→(β K).F c∧c≠(β K).b)):=by
  cases k with
  | false =>
   obtain rfl:=hk rfl
   exact ⟨none,fun _=>β,.inl ⟨rfl,rfl,rfl,rfl⟩,(fun b c e=>by cases e),(fun e=>by cases e),(fun e=>by cases e)⟩
  | true =>
   obtain ⟨_,hd⟩:(krO A.sz A.e n L T).holds β w (β K):=hold
   obtain ⟨d1,d2,d3,d4,E,d5,d6⟩:KrD A.sz A.e n L T w (β K):=hd
   refine ⟨some ((β K).b,(β K).c 0),E,.inr ⟨_,_,rfl,?_,?_⟩,(fun b c e=>by injection e with e; injection e with e3 e4; exact ⟨rfl,e3.symm⟩),fun _=>d2,fun _=>d5⟩
   · show Value.slice ((β K).v 0) n ((β K).c 0)=_
     rw [d3 0]
   · show w.ownsRow 0 A.e A.sz (.slice ((β K).v 0) n ((β K).c 0)) n _
     rw [d3 0]
     exact d6
 obtain ⟨g,cap,w',hr,hown,hgr⟩:=app_core A w o.type ol (krVal k n (β K)) hol ⟨(β a).b,0,none⟩ 1 hnl hnc hone Nat.zero_lt_one h63 hb
 obtain ⟨E',hE'⟩:∃ E':Nat→Env,E'=fun j=>if j=n then En else E j:=⟨_,rfl⟩
 have hn1:E' n=En:=by rw [hE']; exact if_pos rfl
 have hn2:∀ j,j<n→E' j=E j:=fun j hj=>by rw [hE']; exact if_neg (by omega)
 have hcr:krCs L E n++(L n).map (Lf.den En)=krCs L E' (n+1):=by
  rw [krCs_succ,hn1,krCs_congr n fun i hi=>(hn2 i hi).symm]
 rw [hcr] at hown
 obtain ⟨cur,hcur,_⟩:=KrD.cells hown
 have hTn:∀ (i:Nat) (t:Thing),(T n)[i]?=some t→∃ p,ps[i]?=some p∧En i=β p∧t.D w (β p):=fun i t ht=>by
  have hi:i<ps.length:=by rw [← hps]; exact (List.getElem?_eq_some_iff.1 ht).1
  exact ⟨ps[i],List.getElem?_eq_getElem hi,hEn i _ (List.getElem?_eq_getElem hi),hT i t _ ht (List.getElem?_eq_getElem hi)⟩
 have key:∀ (t:Thing) (p:Pl),t.D w p→(k=true→¬ p.F (β K).b)→t.D w' p∧∀ c,p.F c→c≠g:=fun t p hd hp=>by
  have hlt:=t.st.lt w p hd
  rcases hgr with ⟨k1,k2⟩ | ⟨c,k1,N,k2,k3⟩
  · exact ⟨t.st.below w w' p hd k2,fun c hc e=>by have:=hlt c hc; omega⟩
  · obtain ⟨kk,rfl⟩:=hol2 _ _ k1
    obtain ⟨cw,tw,hw1,hw2,hw3⟩:=k2
    have hN:NW w (β K).b:=fun cs fr e=>by
     rw [hw1] at e
     injection e with e
     injection e with _ e
     exact hw2 e
    exact ⟨t.st.touch w w' p _ 0 N 0 hd hN k3 (hp kk),fun c hc e=>hp kk (e▸hc)⟩
 have hsz:w.heap.size≤w'.heap.size:=by
  rcases hgr with ⟨_,k2⟩ | ⟨c,_,N,_,k3⟩
  · exact k2.size
  · exact k3.size
 have hnoT:k=true→∀ (i:Nat) (t:Thing) (p:Nat),(T n)[i]?=some t→ps[i]?=some p→¬ (β p).F (β K).b:=fun hk=>by
  subst hk
  obtain ⟨_,hd⟩:(krO A.sz A.e n L T).holds β w (β K):=hold
  obtain ⟨_,_,_,_,_,_,d6⟩:KrD A.sz A.e n L T w (β K):=hd
  obtain ⟨c0,hc0,_⟩:=KrD.cells d6
  exact hno c0 hc0 rfl
 refine ⟨⟨g,fun m=>some ⟨g,m,none⟩,fun _=>cap,fun c=>c=g∨(k=true∧(β K).F c)∨∃ (i:Nat) (t:Thing) (p:Nat),(T n)[i]?=some t∧ps[i]?=some p∧(β p).F c,fun _=>undef⟩,w',?_,⟨⟨.inl rfl,A.he,_,hcur⟩,.inl rfl,fun c hc=>?_,fun m=>rfl,⟨by omega,hL⟩,E',fun j hj i t ht=>?_,hown⟩,?_,fun c hc=>?_⟩
 · have e:(SV.one (.c (.b (.y M 0 (n+1))))).den (extE β M [(⟨g,fun m=>some ⟨g,m,none⟩,fun _=>cap,fun c=>c=g∨(k=true∧(β K).F c)∨∃ (i:Nat) (t:Thing) (p:Nat),(T n)[i]?=some t∧ps[i]?=some p∧(β p).F c,fun _=>undef⟩:Pl)])=.slice (some ⟨g,0,none⟩) (n+1) cap:=by
    have:=extE_in (β:=β) (n:=M) (xs:=[(⟨g,fun m=>some ⟨g,m,none⟩,fun _=>cap,fun c=>c=g∨(k=true∧(β K).F c)∨∃ (i:Nat) (t:Thing) (p:Nat),(T n)[i]?=some t∧ps[i]?=some p∧(β p).F c,fun _=>undef⟩:Pl)]) (i:=0) rfl
    simp only [Nat.add_zero] at this
    simp only [SV.den,SC.den,Lf.den,Lf0.den,this]
   rw [e]
   exact exec_append s y A.t ho e1 e2 hr
 · rcases hc with rfl | ⟨kk,hc⟩ | ⟨i,t,p,ht,hp,hc⟩
   · exact heap_some_lt hcur
   · exact Nat.lt_of_lt_of_le (hKl kk c hc) hsz
   · exact Nat.lt_of_lt_of_le (t.st.lt w _ (hT i t p ht hp) c hc) hsz
 · rcases Nat.lt_succ_iff_lt_or_eq.1 hj with h2 | rfl
   · have hkk:k=true:=by
      cases k with
      | true=>rfl
      | false=>have:=hk rfl; omega
     obtain ⟨q1,q2⟩:=hE hkk j h2 i t ht
     obtain ⟨q3,q4⟩:=key t (E j i) q1 fun _ hc=>(q2 _ hc).2 rfl
     rw [hn2 j h2]
     exact ⟨q3,fun c hc=>⟨.inr (.inl ⟨hkk,(q2 c hc).1⟩),q4 c hc⟩⟩
   · obtain ⟨p,p1,p2,p3⟩:=hTn i t ht
     obtain ⟨q3,q4⟩:=key t (β p) p3 fun hkk=>hnoT hkk i t p ht p1
     rw [hn1,p2]
     exact ⟨q3,fun c hc=>⟨.inr (.inr ⟨i,t,p,ht,p1,hc⟩),q4 c hc⟩⟩
 · rcases hgr with ⟨k1,k2⟩ | ⟨c,k1,N,k2,k3⟩
   · exact .inl ⟨k1,k2⟩
   · obtain ⟨kk,hb⟩:=hol2 _ _ k1
     subst kk
     exact .inr ⟨_,rfl,hb,N,k2,k3⟩
 · rcases hc with rfl | ⟨kk,hc⟩ | ⟨i,t,p,ht,hp,hc⟩
   · exact .inl rfl
   · subst kk
     exact .inr (.inl ⟨_,rfl,hc⟩)
   · exact .inr (.inr ⟨i,p,hp,(List.getElem?_eq_some_iff.1 ht).1,hc⟩)
abbrev plL (Q:Nat→Pt) (j:Nat):List Lf:=pL 0 (Q j)
abbrev plTs (Q:Nat→Pt) (j:Nat):List Thing:=pM (Q j)
abbrev plR (n:Nat) (Q:Nat→Pt):Thing:=krT 3 PLT n (plL Q) (plTs Q)
abbrev plO (n:Nat) (Q:Nat→Pt):Ob:=krO 3 PLT n (plL Q) (plTs Q)
theorem or_no {x:Rat} {w:World} {g:Pl} {b:Nat} {cur:Array Value} {t:TypeId} {q:Option Addr} (h:(ratM x).D w g) (hc:w.heap[b]?=some (.cells cur t (0,0))) (hq:cur[1]?=some (.pointer q)):¬ g.F b:=fun hF=>by
 have h:OR0 x w g:=h
 rcases h with h | ⟨d,h1,h2⟩
 · exact h.2.1 b hF
 · obtain rfl:=(h1.2 b).1 hF
   exact ptr_no_rat hc hq h2
theorem pl_cell1 {Q:Nat→Pt} {n:Nat} {w:World} {g:Pl} (h:KrD 3 PLT n (plL Q) (plTs Q) w g) {cur:Array Value} (hc:w.heap[g.b]?=some (.cells cur PLT (0,0))):∃ q,cur[1]?=some (.pointer q):=by
 obtain ⟨_,_,_,⟨h0,hl⟩,E,_,h6⟩:=h
 obtain ⟨cur',e1,e2,e3,e4,e5⟩:=KrD.cells h6
 rw [hc] at e1
 injection e1 with e1
 injection e1 with e1
 subst e1
 have h1:=krCs_get (L:=plL Q) (E:=E) (sz:=3) (i:=0) (e:=1) (v:=.pointer ((E 0 0).v 0)) rfl n hl h0
 rw [← e5,List.getElem?_take_of_lt (by omega)] at h1
 exact ⟨_,by rw [← Array.getElem?_toList]; exact h1⟩
def plPQ (ob:List Ob) (a:Nat):Nat × Nat:=match ob[a]? with
 | some (.box [_,.b (.z p _),.b (.z q _)] _)=>(p,q)
 | _=>(0,0)
abbrev plNeed (a p q:Nat) (Q:Pt):List (Nat × Ob):=[(a,.box [.b (.v (.bool (pI Q))),.b (.z p 0),.b (.z q 0)] PLT),(p,(ratM (pG Q).re).ob),(q,(ratM (pG Q).im).ob)]
theorem pl_app {Q:Nat→Pt} {n:Nat} {k:Bool} (hk:k=false→n=0) (hn:n+1≤1048576) (K a p q M:Nat) (s y:Operand) (β:Env) (w:World) (hh:holdsAll β w (plNeed a p q (Q n))) (hold:oldHolds β w (krOld k 3 PLT n (plL Q) (plTs Q) K)) (ρ:Operand→Value) (o:Oper)
  (ho:o.op=.call ⟨.builtin .append,#[s,y],#[appP.t,appP.t]⟩) (hx:(Op.call ⟨.builtin .append,#[s,y],#[appP.t,appP.t]⟩).operands.toList.map ρ=[krVal k n (β K),.slice (some ⟨(β a).b,0,none⟩) 1 1]) :
  ∃ (g:Pl) (w':World),(execOp ρ o).run Tryz.prog w=.ok (.value ((SV.one (.c (.b (.y M 0 (n+1))))).den (extE β M [g]))) w'∧(plO (n+1) Q).holds (extE β M [g]) w' g∧Grow β w w' (krOld k 3 PLT n (plL Q) (plTs Q) K) g∧owF β (plNeed a p q (Q n)) (krOld k 3 PLT n (plL Q) (plTs Q) K) g:=by
 have ha:(Ob.box [.b (.v (.bool (pI (Q n)))),.b (.z p 0),.b (.z q 0)] PLT).holds β w (β a):=hh (a,_) (by simp [plNeed])
 have hp:(ratM (pG (Q n)).re).D w (β p):=hh (p,(ratM (pG (Q n)).re).ob) (by simp [plNeed])
 have hq:(ratM (pG (Q n)).im).D w (β q):=hh (q,(ratM (pG (Q n)).im).ob) (by simp [plNeed])
 have h3:ρ s=krVal k n (β K)∧ρ y=.slice (some ⟨(β a).b,0,none⟩) 1 1:=by simpa [Op.operands,Call.operands] using hx
 have hT:∀ (i:Nat) (t:Thing) (r:Nat),(plTs Q n)[i]?=some t→[p,q][i]?=some r→t.D w (β r)∧(t=ratM (pG (Q n)).re∨t=ratM (pG (Q n)).im):=fun i t r ht hr=>by
  match i,ht,hr with
  | 0,ht,hr =>
   obtain rfl:=Option.some.inj ht
   obtain rfl:=Option.some.inj hr
   exact ⟨hp,.inl rfl⟩
  | 1,ht,hr =>
   obtain rfl:=Option.some.inj ht
   obtain rfl:=Option.some.inj hr
   exact ⟨hq,.inr rfl⟩
  | i+2,ht,hr=>cases hr
 obtain ⟨g,w',r1,r2,r3,r4⟩:=kr_app appP (L:=plL Q) (T:=plTs Q) (n:=n) (k:=k) hk (fun j _=>rfl) (by simp only [maxLen]; omega) (Nat.le_trans (Nat.mul_le_mul_right _ hn) (by show 1048576*24≤_; decide)) K a M [p,q] [.b (.v (.bool (pI (Q n)))),.b (.z p 0),.b (.z q 0)] (fun E hE=>by
   have e0:=hE 0 p rfl
   have e1:=hE 1 q rfl
   show [Value.bool (pI (Q n)),.pointer ((E 0).v 0),.pointer ((E 1).v 0)]=[Value.bool (pI (Q n)),.pointer ((β p).v 0),.pointer ((β q).v 0)]
   rw [e0,e1]) (fun u hu=>by
   have e:([Lf.b (.v (.bool (pI (Q n)))),.b (.z p 0),.b (.z q 0)]:List Lf).map (Lf.den β)=[Value.bool (pI (Q n)),.pointer ((β p).v 0),.pointer ((β q).v 0)]:=rfl
   rw [e] at hu
   simp only [List.mem_cons,List.not_mem_nil,or_false] at hu
   rcases hu with rfl | rfl | rfl<;>rfl) rfl rfl (fun i t r ht hr=>(hT i t r ht hr).1) (fun cur hcur kk i t r ht hr=>by
   subst kk
   obtain ⟨_,hd⟩:(plO n Q).holds β w (β K):=hold
   obtain ⟨u,hu⟩:=pl_cell1 (Q:=Q) (n:=n) hd hcur
   obtain ⟨h5,h6⟩:=hT i t r ht hr
   rcases h6 with rfl | rfl
   · exact or_no h5 hcur hu
   · exact or_no h5 hcur hu) hold ha s y ρ o ho h3.1 h3.2
 refine ⟨g,w',r1,r2,r3,fun c hc=>?_⟩
 rcases r4 c hc with h | h | ⟨i,r,h1,h2,h3⟩
 · exact .inl h
 · exact .inr (.inl h)
 · refine .inr (.inr ?_)
   match i,h1 with
   | 0,h1=>obtain rfl:=Option.some.inj h1; exact ⟨(p,(ratM (pG (Q n)).re).ob),by simp [plNeed],rfl,h3⟩
   | 1,h1=>obtain rfl:=Option.some.inj h1; exact ⟨(q,(ratM (pG (Q n)).im).ob),by simp [plNeed],rfl,h3⟩
   | i+2,h1=>cases h1
noncomputable def eKApp {Q:Nat→Pt} {n:Nat} (k:Bool) (hk:k=false→n=0) (hn:n+1≤1048576):Ev Tryz.prog:=.dynU (fun o _ _=>isApT appP.t o) fun o xs ob=>match o.op,o.dst with
 | .call ⟨.builtin .append,#[s,y],_⟩,some d=>lit (lsKOf (xs.getD 0 undefS)) fun K=>lit (lsKOf (xs.getD 1 undefS)) fun a=>lit (plPQ ob a).1 fun p=>lit (plPQ ob a).2 fun q=>lit ob.length fun M =>
   .upd (some d) (.call ⟨.builtin .append,#[s,y],#[appP.t,appP.t]⟩) (fun β=>[krVal k n (β K),.slice (some ⟨(β a).b,0,none⟩) 1 1]) (plNeed a p q (Q n)) (krOld k 3 PLT n (plL Q) (plTs Q) K) M (plO (n+1) Q) (.one (.c (.b (.y M 0 (n+1))))) (fun β w hh hold ρ o ho hx=>pl_app hk hn K a p q M s y β w hh hold ρ o ho hx)
 | _,_=>.cut
theorem said_0 {P:Program} {fn:Func} {m0:Nat} {res res':SV} {β:Env} {w:World} {e:Ending} {w':World} (h:Said P fn m0 res [] β w e w') (hr:∀ β':Env,(∀ k,k<m0→β' k=β k)→res.den β'=res'.den β):∃ xs:List Pl,freshS β w m0 xs∧e=.returned (res'.den (extE β m0 xs))∧newHold w' [] xs∧Below w.heap.size w w':=by
 obtain ⟨β',q,obj,hb,rfl,_,_,_,g⟩:=h
 exact ⟨[],(fun _ h=>by cases h),by rw [hr β' hb,extE_nil],trivial,g.bel⟩
theorem said_1 {P:Program} {fn:Func} {m0 k:Nat} {res res':SV} {t:Thing} {β:Env} {w:World} {e:Ending} {w':World} (h:Said P fn m0 res [(k,t.ob)] β w e w') (hr:∀ β':Env,(∀ k,k<m0→β' k=β k)→res.den β'=res'.den (extE β m0 [β' k])):∃ xs:List Pl,freshS β w m0 xs∧e=.returned (res'.den (extE β m0 xs))∧newHold w' [t] xs∧Below w.heap.size w w':=by
 obtain ⟨β',q,obj,hb,rfl,_,hF,hh,g⟩:=h
 refine ⟨[β' k],fun x hx c hc=>?_,by rw [hr β' hb],⟨hh _ (List.mem_singleton.2 rfl),trivial⟩,g.bel⟩
 obtain rfl:=List.mem_singleton.1 hx
 exact hF _ (List.mem_singleton.2 rfl) c hc
theorem hd_ev' {m0 N B0:Nat} {w0:World} {β0:Env} {Q:Exit→Act→World→Prop} {u:Nat} {sl:List (Nat × SV)} {ob:List Ob} {ev ev':List (Ev Tryz.prog)} {p:Code × List Kf} (h:HdOk Tryz.prog m0 N B0 w0 β0 Q (mkC Tryz.prog N u sl ob ev) p):HdOk Tryz.prog m0 N B0 w0 β0 Q (mkC Tryz.prog N u sl ob ev') p :=
 fun β a w hβ hs=>h β a w hβ (hs.ev ev)
abbrev TPs:TypeId:=70
theorem tps_u:Tryz.prog.underlying TPs=some (.slice (Tryz.prog.elem TPs)):=by kernel_rfl
theorem tps_s:(Tryz.prog.info? (Tryz.prog.elem TPs)).map (·.size)=some 9:=by kernel_rfl
theorem tpt_d:((Tryz.prog.underlying PTT).map fun d=>d.isRow)=some true:=by kernel_rfl
noncomputable def tptD:TypeDesc:=(Tryz.prog.underlying PTT).getD (.slice 0)
theorem tptD_u:Tryz.prog.underlying PTT=some tptD∧tptD.isRow=true:=by
 have h:=tpt_d
 unfold tptD
 cases h2:Tryz.prog.underlying PTT with
 | none=>rw [h2] at h; cases h
 | some d =>
  rw [h2] at h
  exact ⟨rfl,Option.some.inj h⟩
abbrev lsP (P:Nat→Pp) (j:Nat):List Lf:=lsX (P j).w.C
abbrev lpT (N:Nat) (P:Nat→Pp):Thing:=rwT 9 N (lsP P)
noncomputable def pLd {N j:Nat} (P:Nat→Pp) (hj:j<N):Ev Tryz.prog:=eLd tptD_u.1 tptD_u.2 9 (L:=lsP P) (by kernel_rfl) (fun β=>rfl) hj
noncomputable def pIx0 {n N j:Nat} (P:Nat→Pp) (hj:j<n) (hN:n≤N):Ev Tryz.prog:=eIx tps_u tps_s (lsP P) hj hN
theorem lpSome:(Tryz.prog.info? 61).isSome=true:=by kernel_rfl
noncomputable def lpApp:AppT Tryz.prog :=
 ⟨TPs,PTT,(Tryz.prog.info? 61).get lpSome,.agg #[.bool false,.bool false,.string ⟨#[]⟩,.bool false,.string ⟨#[]⟩,.bool false,.string ⟨#[]⟩,.bool false,.string ⟨#[]⟩],9,104,Tryz.underlying70,(Option.some_get lpSome).symm,by kernel_rfl,by kernel_rfl,by kernel_rfl,rfl,by decide,by decide⟩
theorem lp_one (r:Rw):∀ u∈(lsX r.C).map (Lf.den idE),u.oneCell'=true:=fun u hu=>by
 have e:(lsX r.C).map (Lf.den idE)=[.bool r.i,.bool r.x.b,.string r.x.s,.bool r.x.c,.string r.x.t,.bool r.y.b,.string r.y.s,.bool r.y.c,.string r.y.t]:=rfl
 rw [e] at hu
 simp only [List.mem_cons,List.not_mem_nil,or_false] at hu
 rcases hu with rfl | rfl | rfl | rfl | rfl | rfl | rfl | rfl | rfl<;>rfl
theorem lpOrL (P:Nat→Pp) {n:Nat} (hn:n≤10000):OrL lpApp (lsP P) n :=
 ⟨fun j _=>rfl,fun j _=>lp_one _,Nat.le_trans hn (by decide),Nat.le_trans (Nat.mul_le_mul_right _ hn) (by show 10000*104≤_; decide)⟩
abbrev lpS0 (n:Nat):SV:=.one (.c (.b (.y 0 0 n)))
noncomputable def plQ:Pp→Pt
 | .fin (.ok x _) (.ok y _)=>.fin ⟨x,y⟩
 | _=>.inf
theorem plQ_ok {p:Pp} (h:p.B=true):FitP (plQ p)∧p.w=(plQ p).w:=by
 cases p with
 | inf=>exact ⟨trivial,rfl⟩
 | odd=>cases h
 | fin a b =>
  cases a with
  | no=>cases h
  | ok x hx=>cases b with
   | no=>cases h
   | ok y hy=>exact ⟨⟨hx,hy⟩,rfl⟩
noncomputable def sPlSpot {p:Pp} (h:p.B=true):Spec Tryz.prog:=(sSpotP (plQ p) (plQ_ok h).1).as [.one (.a (lsX p.w.C))] (.tup [.a (pL 0 (plQ p)),.c (.b (.v (.bool true)))]) (by
 show [SV.one (.a (lsX (plQ p).w.C))]=_
 rw [(plQ_ok h).2]) rfl
noncomputable abbrev spF:Func:=Tryz.f188
noncomputable abbrev spQ (P:Nat→Pp) (j:Nat):Pt:=plQ (P j)
abbrev spNil:SV:=.one (.c (.b (.v (.slice none 0 0))))
section
variable (n N:Nat) (P:Nat→Pp)
noncomputable abbrev spN:Nat:=sizeS spF [lpS0 n]
abbrev spSl (o:SV) (j:Nat):List (Nat × SV):=[(4,o),(9,lpS0 n),(10,.one (nI' (n:Int))),(11,.one (nI' (j:Int)))]
noncomputable abbrev spC0 (ev:List (Ev Tryz.prog)):Cf Tryz.prog:=mkC Tryz.prog (spN n) 1 (spSl n spNil 0) [(lpT N P).ob,.dead] ev
noncomputable abbrev spC (j:Nat) (ev:List (Ev Tryz.prog)):Cf Tryz.prog:=mkC Tryz.prog (spN n) 1 (spSl n (.one (.c (.b (.y 2 0 j)))) j) [(lpT N P).ob,.dead,plO j (spQ P)] ev
abbrev spH (r:SV) (l:List (Nat × Ob)) (β0:Env) (w:World) (c:Cf Tryz.prog):Prop:=HdOk Tryz.prog 1 (spN n) w.heap.size w β0 (bodyPost Tryz.prog spF (Said Tryz.prog spF 1 r l β0 w)) c (lpAt spF 0)
abbrev spRY:SV:=.tup [.c (.b (.y 2 0 n)),.c (.b (.v (.bool true)))]
abbrev spRN (b:Bool):SV:=.tup [.c (.b (.v (.slice none 0 0))),.c (.b (.v (.bool b)))]
variable (β0:Env) (w:World) (r:SV) (l:List (Nat × Ob)) {j:Nat} (hN:n≤N)
noncomputable def spE (hj:j<n):List (Ev Tryz.prog):=[.eqv 12 (.bool (decide ((j:Int)<(n:Int)))) (.bool true) (by rw [decide_eq_true (by omega)]),pIx0 P hj hN,pLd P (j:=j) (N:=N) (Nat.lt_of_lt_of_le hj hN)]
theorem sp_first (hj:0<n) (h:(P 0).B=true) (k:spH n r l β0 w (spC n N P 1 [])):spH n r l β0 w (spC0 n N P (spE n N P hN hj++[(sPlSpot h).e,eKApp (Q:=spQ P) (n:=0) false (fun _=>rfl) (by decide),.cut])) :=
 piece_ok (Ns:=[]) (m:=800) [] [0,0,7] hmA (by kernel_rfl) (fun β=>ok_of_maps (by kernel_rfl)) k
theorem sp_step (hj:j<n) (hn:n≤1048575) (h:(P j).B=true) {j2:Int} (hj2:IntKind.i64.wrap ((j:Int)+1)=j2) (e2:j2=((j+1:Nat):Int)) (k:spH n r l β0 w (spC n N P (j+1) [])):spH n r l β0 w (spC n N P j (spE n N P hN hj++[(sPlSpot h).e,eKApp (Q:=spQ P) (n:=j) true (fun e=>by cases e) (by omega),.eqv 26 (.int .i64 (IntKind.i64.wrap ((j:Int)+1))) (.int .i64 ((j+1:Nat):Int)) (by rw [hj2,e2]),.cut])) :=
 piece_ok (Ns:=[]) (m:=800) [] [0,0,8] hmA (by kernel_rfl) (fun β=>ok_of_maps (by kernel_rfl)) k
theorem sp_no0 (hj:0<n) (h:(P 0).B=false):spH n (spRN false) [] β0 w (spC0 n N P (spE n N P hN hj++[(sSpotW (P 0) h).e])) :=
 last_ok (Ns:=[]) (m:=800) hmA (fun β=>ok_of_maps (by kernel_rfl))
theorem sp_no (hj:j<n) (h:(P j).B=false):spH n (spRN false) [] β0 w (spC n N P j (spE n N P hN hj++[(sSpotW (P j) h).e])) :=
 last_ok (Ns:=[]) (m:=800) hmA (fun β=>ok_of_maps (by kernel_rfl))
theorem sp_end0:spH 0 (spRN true) [] β0 w (spC0 0 N P [.eqv 12 (.bool (decide ((0:Int)<(0:Int)))) (.bool false) (by rw [decide_eq_false (by decide)])]) :=
 last_ok (Ns:=[]) (m:=400) hmA (fun β=>ok_of_maps (by kernel_rfl))
theorem sp_end:spH n (spRY n) [(2,(plR n (spQ P)).ob)] β0 w (spC n N P n [eFrz,.eqv 12 (.bool (decide ((n:Int)<(n:Int)))) (.bool false) (by rw [decide_eq_false (by omega)])]) :=
 last_ok (Ns:=[]) (m:=400) hmA (fun β=>ok_of_maps (by kernel_rfl))
theorem sp_start (hh:(lpT N P).D w (β0 0)) (k:spH n r l β0 w (spC0 n N P [])):Calls Tryz.prog 188 (([lpS0 n]:List SV).map (SV.den β0)).toArray w (Said Tryz.prog spF 1 r l β0 w) :=
 sx_cut (P:=Tryz.prog) [lpS0 n] [(lpT N P).ob] [.cut] [] [] 400 r l Tryz.func188 hmA (u:=1) (sl:=spSl n spNil 0) (ob:=[(lpT N P).ob,.dead]) (σ:=[0,0]) (p':=lpAt spF 0) (by kernel_rfl) (fun β=>ok_of_maps (by kernel_rfl)) (by kernel_rfl) (by kernel_rfl) β0 w (fun i o ho=>by
  cases i with
  | zero=>simp only [List.getElem?_cons_zero] at ho; obtain rfl:=Option.some.inj ho; exact hh
  | succ i=>simp at ho) k
include hN in
theorem sp_run (hn:n≤1048575) (h:∀ i,i<n→(P i).B=true) {t:Nat} (ht:t≤n) (k:spH n r l β0 w (spC n N P t [])):∀ (d j:Nat),j+d=t→spH n r l β0 w (spC n N P j [])
 | 0,j,e=>by
  obtain rfl:j=t:=by omega
  exact k
 | d+1,j,e=>hd_ev' (sp_step n N P β0 w r l hN (by omega) hn (h j (by omega)) (j2:=((j+1:Nat):Int)) (by rw [IntKind.wrap_i64]; omega) rfl (sp_run hn h ht k d (j+1) (by omega)))
end
noncomputable def sSpL {n N:Nat} (P:Nat→Pp) (hN:n≤N) (hn:n≤1048575) (h0:0<n) (h:∀ i,i<n→(P i).B=true):Spec Tryz.prog :=
 ⟨188,Tryz.call188,[lpS0 n],[lpT N P],.tup [.c (.b (.y 1 0 n)),.c (.b (.v (.bool true)))],[plR n (spQ P)],fun β w hh=>(sp_start n N P β w _ _ (hh 0 _ rfl) (hd_ev' (sp_first n N P β w _ _ hN h0 (h 0 h0) (sp_run n N P β w _ _ hN hn h (Nat.le_refl n) (hd_ev' (sp_end n N P β w)) (n-1) 1 (by omega))))).mono fun e w' h=>said_1 h fun β' _=>rfl,by kernel_rfl⟩
noncomputable def sSpL0 {N:Nat} (P:Nat→Pp):Spec Tryz.prog :=
 ⟨188,Tryz.call188,[lpS0 0],[lpT N P],spRN true,[],fun β w hh=>(sp_start 0 N P β w _ _ (hh 0 _ rfl) (hd_ev' (sp_end0 N P β w))).mono fun e w' h=>said_0 h fun β' _=>rfl,by kernel_rfl⟩
theorem sp_noAt {n N:Nat} (P:Nat→Pp) (β0:Env) (w:World) (hN:n≤N) (hn:n≤1048575) {i:Nat} (hi:i<n) (h:(P i).B=false) (h2:∀ k,k<i→(P k).B=true) (hh:(lpT N P).D w (β0 0)):Calls Tryz.prog 188 (([lpS0 n]:List SV).map (SV.den β0)).toArray w (Said Tryz.prog spF 1 (spRN false) [] β0 w):=by
 refine sp_start n N P β0 w _ _ hh ?_
 rcases Nat.eq_zero_or_pos i with rfl | h0
 · exact hd_ev' (sp_no0 n N P β0 w hN hi h)
 · refine hd_ev' (sp_first n N P β0 w _ _ hN (by omega) (h2 0 h0) ?_)
   have key:∀ (d j:Nat),j+d=i→spH n (spRN false) [] β0 w (spC n N P j []):=fun d=>by
    induction d with
    | zero =>
     intro j e
     obtain rfl:j=i:=by omega
     exact hd_ev' (sp_no n N P β0 w hN hi h)
    | succ d ih=>intro j e; exact hd_ev' (sp_step n N P β0 w _ _ hN (by omega) hn (h2 j (by omega)) (j2:=((j+1:Nat):Int)) (by rw [IntKind.wrap_i64]; omega) rfl (ih (j+1) (by omega)))
   exact key (i-1) 1 (by omega)
noncomputable def sSpLNo {n N:Nat} (P:Nat→Pp) (hN:n≤N) (hn:n≤1048575) {i:Nat} (hi:i<n) (h:(P i).B=false) (h2:∀ k,k<i→(P k).B=true):Spec Tryz.prog :=
 ⟨188,Tryz.call188,[lpS0 n],[lpT N P],spRN false,[],fun β w hh=>(sp_noAt P β w hN hn hi h h2 (hh 0 _ rfl)).mono fun e w' h=>said_0 h fun β' _=>rfl,by kernel_rfl⟩
abbrev PLTS:TypeId:=230
theorem pls_u:Tryz.prog.underlying PLTS=some (.slice (Tryz.prog.elem PLTS)):=by kernel_rfl
theorem pls_s:(Tryz.prog.info? (Tryz.prog.elem PLTS)).map (·.size)=some 3:=by kernel_rfl
theorem kr_ix {n m j:Nat} {Q:Nat→Pt} (hj:j<n) (hm:n≤m) (k:Nat) (x y:Operand) (β:Env) (w:World) (h:holdsAll β w [(k,(plR m Q).ob)]) (ρ:Operand→Value) (o:Oper) (ho:o.op=.indexAddr PLTS x y)
  (hx:(Op.indexAddr PLTS x y).operands.toList.map ρ=[.slice ((β k).v 0) n ((β k).c 0),.int .i64 (j:Int)]):∃ ys w',fresh β w [(k,(plR m Q).ob)] ys∧(execOp ρ o).run Tryz.prog w=.ok (.value ((SV.one (.c (.b (.z k (j*3))))).den (extE β 0 ys))) w'∧newHold w' [] ys∧Below w.heap.size w w':=by
 have h1:KrD 3 PLT m (plL Q) (plTs Q) w (β k):=h _ (List.mem_singleton.2 rfl)
 have h3:ρ x=.slice ((β k).v 0) n ((β k).c 0)∧ρ y=.int .i64 (j:Int):=by simpa [Op.operands] using hx
 have hv:=h1.2.2.1
 refine ⟨[],w,(fun _ h=>by cases h),?_,trivial,Below.refl _ _⟩
 unfold execOp
 rw [ho]
 dsimp only
 rw [h3.1,h3.2,hv 0]
 have e:((SV.one (.c (.b (.z k (j*3))))).den (extE β 0 []))=.pointer (some ⟨(β k).b,j*3,none⟩):=by
  show Value.pointer ((β k).v (j*3))=_
  rw [hv]
 rw [e]
 have hz:((sizeOf (Tryz.prog.elem PLTS)).run Tryz.prog w)=.ok 3 w:=by
  have hs:=pls_s
  cases hq:Tryz.prog.info? (Tryz.prog.elem PLTS) with
  | none=>rw [hq] at hs; cases hs
  | some i =>
   have hs:i.size=3:=by rw [hq] at hs; simpa using hs
   simp [sizeOf,typeInfo,hq,hs]
 have h6:=run_indexAt_slice (P:=Tryz.prog) (w:=w) PLTS ⟨(β k).b,0,none⟩ n ((β k).c 0) .i64 (j:Int) pls_u
 rw [if_pos ⟨by omega,by omega⟩,hz] at h6
 simp only [Result.andThen_ok,Int.toNat_natCast,Addr.add_mid,Nat.zero_add] at h6
 simp [go_sem,h6]
def eKIx {n m j:Nat} (Q:Nat→Pt) (hj:j<n) (hm:n≤m):Ev Tryz.prog:=.dyn (fun o _ _=>match o.op with
 | .indexAddr t _ _=>Nat.beq t PLTS
 | _=>false) fun o xs _=>match o.op with
 | .indexAddr _ x y=>lit (lsYOf (xs.getD 0 undefS)) fun k=>.rd (o.dst.getD 0) (.indexAddr PLTS x y) (fun β=>[.slice ((β k).v 0) n ((β k).c 0),.int .i64 (j:Int)]) [(k,(plR m Q).ob)] 0 (.one (.c (.b (.z k (j*3))))) [] (fun β w h ρ o ho hx=>kr_ix hj hm k x y β w h ρ o ho hx)
 | _=>.cut
theorem plt_d:((Tryz.prog.underlying PLT).map fun d=>d.isRow)=some true:=by kernel_rfl
theorem plt_s:(Tryz.prog.info? PLT).map (·.size)=some 3:=by kernel_rfl
theorem kr_ld {m j:Nat} {Q:Nat→Pt} (hj:j<m) (k N:Nat) (x:Operand) (β:Env) (w:World) (h:holdsAll β w [(k,(plR m Q).ob)]) (ρ:Operand→Value) (o:Oper) (ho:o.op=.load PLT x)
  (hx:(Op.load PLT x).operands.toList.map ρ=[.pointer ((β k).v (j*3))]):∃ ys w',fresh β w [(k,(plR m Q).ob)] ys∧(execOp ρ o).run Tryz.prog w=.ok (.value ((SV.one (.a (pL N (Q j)))).den (extE β N ys))) w'∧newHold w' (pM (Q j)) ys∧Below w.heap.size w w':=by
 obtain ⟨_,_,hv,⟨h0,hl⟩,E,h5,h6⟩:KrD 3 PLT m (plL Q) (plTs Q) w (β k):=h _ (List.mem_singleton.2 rfl)
 have h3:ρ x=.pointer ((β k).v (j*3)):=by simpa [Op.operands] using hx
 have t0:=h5 j hj 0 (ratM (pG (Q j)).re) rfl
 have t1:=h5 j hj 1 (ratM (pG (Q j)).im) rfl
 refine ⟨[E j 0,E j 1],w,fun g hg c hc=>.inr ⟨(k,(plR m Q).ob),List.mem_singleton.2 rfl,rfl,?_⟩,?_,⟨t0.1,t1.1,trivial⟩,Below.refl _ _⟩
 · rcases List.mem_cons.1 hg with rfl | hg
   · exact (t0.2 c hc).1
   · obtain rfl:=List.mem_singleton.1 hg
     exact (t1.2 c hc).1
 · obtain ⟨d,hd1,hd2⟩:∃ d,Tryz.prog.underlying PLT=some d∧d.isRow=true:=by
    have h:=plt_d
    cases h2:Tryz.prog.underlying PLT with
    | none=>rw [h2] at h; cases h
    | some d=>rw [h2] at h; exact ⟨d,rfl,Option.some.inj h⟩
   obtain ⟨cur,c1,_,_,_,c5⟩:=KrD.cells h6
   have hc:w.rangeAt (β k).b (j*3) ((plL Q j).map (Lf.den (E j))):=fun e v hv=>by
    rw [cell_of_row _ _ _ _ _ _ c1]
    have he:e<3:=(List.getElem?_eq_some_iff.1 hv).1
    have h1:=krCs_get hv m hl hj
    rw [← c5,List.getElem?_take_of_lt (by omega)] at h1
    rw [← Array.getElem?_toList]
    exact h1
   have h6:=run_loadAt_mid (P:=Tryz.prog) w (β k).b (j*3) PLT _ d hc hd1 hd2 plt_s
   have e:(SV.one (.a (pL N (Q j)))).den (extE β N [E j 0,E j 1])=.agg ((plL Q j).map (Lf.den (E j))).toArray:=by
    rw [pL,den_three]
    rfl
   rw [e]
   unfold execOp
   rw [ho]
   dsimp only
   rw [h3,hv]
   simp only [Sem.run_bind,h6,Result.andThen_ok]
   rfl
def eKLd {m j:Nat} (Q:Nat→Pt) (hj:j<m):Ev Tryz.prog:=.dyn (fun o xs _=>match o.op with
 | .load t _=>Nat.beq t PLT
 | _=>false) fun o xs ob=>match o.op with
 | .load _ x=>lit (lsZOf (xs.getD 0 undefS)) fun k=>lit ob.length fun N=>.rd (o.dst.getD 0) (.load PLT x) (fun β=>[.pointer ((β k).v (j*3))]) [(k,(plR m Q).ob)] N (.one (.a (pL N (Q j)))) (pM (Q j)) (fun β w h ρ o ho hx=>kr_ld hj k N x β w h ρ o ho hx)
 | _=>.cut
abbrev RNG:TypeId:=235
abbrev onB (r:RQ) (p:Pt):Bool:=!((sidQ r p).num.sign==0)
def rgPk (ob:List Ob) (b:Nat):Nat × Nat × Nat × Nat:=match ob[b]? with
 | some (.box [.b (.z p _),.b (.z q _),.b (.z r _),.b (.z s _)] _)=>(p,q,r,s)
 | _=>(0,0,0,0)
def fnPk2:List SV→Nat
 | []=>0
 | .one (.c (.f _ _ [.p b _]))::_=>b
 | _::r=>fnPk2 r
def slPk2:List SV→Nat
 | []=>0
 | .one (.c (.b (.y k _ _)))::_=>k
 | _::r=>slPk2 r
def env6 (g0 g1 g2 g3 g4 g5:Pl):Env:=fun i=>match i with
 | 0=>g0
 | 1=>g1
 | 2=>g2
 | 3=>g3
 | 4=>g4
 | _=>g5
section
variable {p:Cq} {n N:Nat} (P:Nat→Pp) (hN:n≤N) (hn:n≤4096)
theorem spQ_fit {P:Nat→Pp} {n:Nat} (h:∀ i,i<n→(P i).B=true) (i:Nat) (hi:i<n):FitP (spQ P i):=(plQ_ok (h i hi)).1
end
noncomputable def sTg1 {r:RQ} {p:Pt} (h:RSz KC r) (hp:FitP p) {t:Bool} (ht:(!((sidQ r p).num.sign==0))=t):OSpec Tryz.prog :=
 OSpec.auto Tryz.call193 [pV 0 p,.one (.c (.b (.p 6 0)))] [(ratM (pG p).re).ob,(ratM (pG p).im).ob,(ratT r.a).ob,(ratT r.b.re).ob,(ratT r.b.im).ob,(ratT r.c).ob,.box [.b (.z 2 0),.b (.z 3 0),.b (.z 4 0),.b (.z 5 0)] 235] (tB' t) []
  [(sESide h hp).e,.eqv 7 (.bool (!((sidQ r p).num.sign==0))) (.bool t) (sgn_ne ht)] [] 400 Tryz.func193 hmA (by cases p<;>kernel_rfl) (fun β=>by cases p<;>kernel_rfl)
abbrev tgF2:SV:=.one (.c (.f (.func 193) [] [.p 5 0]))
noncomputable abbrev tyF:Func:=Tryz.f309
abbrev tyS (n:Nat):SV:=.one (.c (.b (.y 0 0 n)))
abbrev tyA (n:Nat):List SV:=[tyS n,tgF2]
abbrev tyO (m:Nat) (Q:Nat→Pt) (r:RQ):List Ob:=[(plR m Q).ob,(ratT r.a).ob,(ratT r.b.re).ob,(ratT r.b.im).ob,(ratT r.c).ob,.box [.b (.z 1 0),.b (.z 2 0),.b (.z 3 0),.b (.z 4 0)] RNG]
section
variable (n:Nat) (Q:Nat→Pt) (r:RQ)
noncomputable abbrev tyN:Nat:=sizeS tyF (tyA n)
abbrev tySl (j:Nat):List (Nat × SV):=[(0,tyS n),(1,tgF2),(7,.one (nI' (n:Int))),(8,.one (nI' (j:Int)))]
noncomputable abbrev tyC (j:Nat) (ev:List (Ev Tryz.prog)):Cf Tryz.prog:=mkC Tryz.prog (tyN n) 6 (tySl n j) (tyO n Q r++[.dead]) ev
abbrev tyH (k:Int) (β0:Env) (w:World) (c:Cf Tryz.prog):Prop:=HdOk Tryz.prog 6 (tyN n) w.heap.size w β0 (bodyPost Tryz.prog tyF (Said Tryz.prog tyF 6 (.one (nI' k)) [] β0 w)) c (lpAt tyF 0)
variable (β0:Env) (w:World) {j:Nat} (hr:RSz KC r)
noncomputable def tyE (hj:j<n):List (Ev Tryz.prog):=[.eqv 9 (.bool (decide ((j:Int)<(n:Int)))) (.bool true) (by rw [decide_eq_true (by omega)]),eKIx Q hj (Nat.le_refl n),eKLd (m:=n) Q hj]
theorem ty_step (k:Int) (hj:j<n) (hq:FitP (Q j)) (h:onB r (Q j)=false) {j2:Int} (hj2:IntKind.i64.wrap ((j:Int)+1)=j2) (e2:j2=((j+1:Nat):Int)) (kk:tyH n k β0 w (tyC n Q r (j+1) [])):tyH n k β0 w (tyC n Q r j (tyE n Q hj++[(sTg1 hr hq h).e,.eqv 18 (.int .i64 (IntKind.i64.wrap ((j:Int)+1))) (.int .i64 ((j+1:Nat):Int)) (by rw [hj2,e2]),.cut])) :=
 piece_ok (Ns:=[]) (m:=400) [] [0,1,2,3,4,5,0] hmA (by kernel_rfl) (fun β=>ok_of_maps (by kernel_rfl)) kk
theorem ty_no (hj:j<n) (hq:FitP (Q j)) (h:onB r (Q j)=true):tyH n (j:Int) β0 w (tyC n Q r j (tyE n Q hj++[(sTg1 hr hq h).e])) :=
 last_ok (Ns:=[]) (m:=400) hmA (fun β=>ok_of_maps (by kernel_rfl))
theorem ty_end:tyH n (-1) β0 w (tyC n Q r n [.eqv 9 (.bool (decide ((n:Int)<(n:Int)))) (.bool false) (by rw [decide_eq_false (by omega)])]) :=
 last_ok (Ns:=[]) (m:=400) hmA (fun β=>ok_of_maps (by kernel_rfl))
include hr in
theorem ty_loop (hn:n≤1048576) (hq:∀ i,i<n→FitP (Q i)) (h:∀ i,i<n→onB r (Q i)=false):∀ (d j:Nat),j+d=n→tyH n (-1) β0 w (tyC n Q r j [])
 | 0,j,e=>by
  obtain rfl:j=n:=by omega
  exact cx_hd (ty_end j Q r β0 w)
 | d+1,j,e=>cx_hd (ty_step n Q r β0 w hr _ (by omega) (hq j (by omega)) (h j (by omega)) (j2:=((j+1:Nat):Int)) (by rw [IntKind.wrap_i64]; omega) rfl (ty_loop hn hq h d (j+1) (by omega)))
include hr in
theorem ty_loopN (hn:n≤1048576) (hq:∀ i,i<n→FitP (Q i)) {i:Nat} (hi:i<n) (h:onB r (Q i)=true) (h2:∀ k,k<i→onB r (Q k)=false):∀ (d j:Nat),j+d=i→tyH n (i:Int) β0 w (tyC n Q r j [])
 | 0,j,e=>by
  obtain rfl:j=i:=by omega
  exact cx_hd (ty_no n Q r β0 w hr hi (hq _ hi) h)
 | d+1,j,e=>cx_hd (ty_step n Q r β0 w hr _ (by omega) (hq j (by omega)) (h2 j (by omega)) (j2:=((j+1:Nat):Int)) (by rw [IntKind.wrap_i64]; omega) rfl (ty_loopN hn hq hi h h2 d (j+1) (by omega)))
theorem ty_start (k:Int) (hh:∀ (i:Nat) (o:Ob),(tyO n Q r)[i]?=some o→o.holds β0 w (β0 i)) (h:tyH n k β0 w (tyC n Q r 0 [])):Calls Tryz.prog 309 ((tyA n).map (SV.den β0)).toArray w (Said Tryz.prog tyF 6 (.one (nI' k)) [] β0 w) :=
 sx_cut (P:=Tryz.prog) (tyA n) (tyO n Q r) [.cut] [] [] 400 (.one (nI' k)) [] Tryz.func309 hmA (u:=6) (sl:=tySl n 0) (ob:=tyO n Q r++[.dead]) (σ:=[0,1,2,3,4,5,0]) (p':=lpAt tyF 0) (by kernel_rfl) (fun β=>ok_of_maps (by kernel_rfl)) (by kernel_rfl) (by kernel_rfl) β0 w hh h
end
def tyEv (f:FuncId) (en:Enters Tryz.prog f) (n:Nat) (Q:Nat→Pt) (r:RQ) (v:Value) (hv:∀ β,(tag v).den β=v) (ok:∀ (β0:Env) (w:World),(∀ (i:Nat) (o:Ob),(tyO n Q r)[i]?=some o→o.holds β0 w (β0 i))→Calls Tryz.prog f ((tyA n).map (SV.den β0)).toArray w fun e w'=>e=.returned v∧Below w.heap.size w w'):Ev Tryz.prog :=
 .dyn (fun o _ _=>isCallB o) fun _ xs ob=>lit (slPk2 xs) fun k=>lit (fnPk2 xs) fun b=>lit (rgPk ob b).1 fun p=>lit (rgPk ob b).2.1 fun q=>lit (rgPk ob b).2.2.1 fun s=>lit (rgPk ob b).2.2.2 fun u =>
  .call f en (fun β=>((tyA n).map (SV.den (env6 (β k) (β p) (β q) (β s) (β u) (β b)))).toArray) [(k,(plR n Q).ob),(p,(ratT r.a).ob),(q,(ratT r.b.re).ob),(s,(ratT r.b.im).ob),(u,(ratT r.c).ob),(b,.box [.b (.z p 0),.b (.z q 0),.b (.z s 0),.b (.z u 0)] RNG)] 0 (tag v) [] (fun β w h=>of_pure0 (ok (env6 (β k) (β p) (β q) (β s) (β u) (β b)) w fun i o ho=>by
   match i,ho with
   | 0,ho=>obtain rfl:=Option.some.inj ho; exact h (k,(plR n Q).ob) (by simp)
   | 1,ho=>obtain rfl:=Option.some.inj ho; exact h (p,(ratT r.a).ob) (by simp)
   | 2,ho=>obtain rfl:=Option.some.inj ho; exact h (q,(ratT r.b.re).ob) (by simp)
   | 3,ho=>obtain rfl:=Option.some.inj ho; exact h (s,(ratT r.b.im).ob) (by simp)
   | 4,ho=>obtain rfl:=Option.some.inj ho; exact h (u,(ratT r.c).ob) (by simp)
   | 5,ho=>obtain rfl:=Option.some.inj ho; exact h (b,.box [.b (.z p 0),.b (.z q 0),.b (.z s 0),.b (.z u 0)] RNG) (by simp)
   | i+6,ho=>cases ho) hv)
theorem ty_fin {v:Value} {β0:Env} {w:World} {e:Ending} {w':World} (res:SV) (hr:∀ β,res.den β=v) (fn:Func) (h:Said Tryz.prog fn 6 res [] β0 w e w'):e=.returned v∧Below w.heap.size w w':=by
 obtain ⟨β',q,obj,_,rfl,_,_,_,g⟩:=h
 exact ⟨by rw [hr],g.bel⟩
section
variable {n:Nat} (Q:Nat→Pt) {r:RQ} (hr:RSz KC r) (hn:n≤1048576) (hq:∀ i,i<n→FitP (Q i))
noncomputable def tyIx (h:∀ i,i<n→onB r (Q i)=false):Ev Tryz.prog :=
 tyEv 309 Tryz.call309 n Q r (.int .i64 (-1)) (fun β=>rfl) fun β0 w hh=>(ty_start n Q r β0 w _ hh (ty_loop n Q r β0 w hr hn hq h n 0 (by omega))).mono fun e w' k=>ty_fin _ (fun β=>rfl) tyF k
noncomputable def tyIxN {i:Nat} (hi:i<n) (h:onB r (Q i)=true) (h2:∀ k,k<i→onB r (Q k)=false):Ev Tryz.prog :=
 tyEv 309 Tryz.call309 n Q r (.int .i64 (i:Int)) (fun β=>rfl) fun β0 w hh=>(ty_start n Q r β0 w _ hh (ty_loopN n Q r β0 w hr hn hq hi h h2 i 0 (by omega))).mono fun e w' k=>ty_fin _ (fun β=>rfl) tyF k
include hr hn hq in
theorem ty_has (h:∀ i,i<n→onB r (Q i)=false) (β0:Env) (w:World) (hh:∀ (i:Nat) (o:Ob),(tyO n Q r)[i]?=some o→o.holds β0 w (β0 i)) :
  Calls Tryz.prog 192 ((tyA n).map (SV.den β0)).toArray w fun e w'=>e=.returned (.bool false)∧Below w.heap.size w w' :=
 (sx (P:=Tryz.prog) (tyA n) (tyO n Q r) [tyIx Q hr hn hq h] [] 400 (tB' false) [] Tryz.func192 hmA (fun β=>ok_of_maps (by kernel_rfl)) (by kernel_rfl) (by kernel_rfl) β0 w hh).mono fun e w' ⟨β',q,obj,_,he,_,_,_,g⟩=>⟨by rw [he]; rfl,g.bel⟩
include hr hn hq in
theorem ty_hasN {i:Nat} (hi:i<n) (h:onB r (Q i)=true) (h2:∀ k,k<i→onB r (Q k)=false) (β0:Env) (w:World) (hh:∀ (i:Nat) (o:Ob),(tyO n Q r)[i]?=some o→o.holds β0 w (β0 i)) :
  Calls Tryz.prog 192 ((tyA n).map (SV.den β0)).toArray w fun e w'=>e=.returned (.bool true)∧Below w.heap.size w w' :=
 (sx (P:=Tryz.prog) (tyA n) (tyO n Q r) [tyIxN Q hr hn hq hi h h2,.eqv 8 (.bool (decide ((0:Int)≤(i:Int)))) (.bool true) (by rw [decide_eq_true (by omega)])] [] 400 (tB' true) [] Tryz.func192 hmA (fun β=>ok_of_maps (by kernel_rfl)) (by kernel_rfl) (by kernel_rfl) β0 w hh).mono fun e w' ⟨β',q,obj,_,he,_,_,_,g⟩=>⟨by rw [he]; rfl,g.bel⟩
noncomputable def tyHas (h:∀ i,i<n→onB r (Q i)=false):Ev Tryz.prog :=
 tyEv 192 Tryz.call192 n Q r (.bool false) (fun β=>rfl) (ty_has Q hr hn hq h)
noncomputable def tyHasN {i:Nat} (hi:i<n) (h:onB r (Q i)=true) (h2:∀ k,k<i→onB r (Q k)=false):Ev Tryz.prog :=
 tyEv 192 Tryz.call192 n Q r (.bool true) (fun β=>rfl) (ty_hasN Q hr hn hq hi h h2)
end
noncomputable def sTgSame {p q:Pt} (hp:FitP p) (hq:FitP q) {b:Bool} (e:sameP p q=b):Spec Tryz.prog:=(sSameP p q (hp.sz.mono (by decide)) (hq.sz.mono (by decide))).conv (tB' b) (by
 show SV.one (.c (.b (.v (.bool (sameP p q)))))=_
 rw [e])
noncomputable abbrev tgF:Func:=Tryz.f56
abbrev tgAr (n:Nat):List SV:=[lpS0 n]
abbrev tgNs:List (Nat × Nat):=[(20,11)]
abbrev tgC0:List Lf:=c0C
section
variable (n N:Nat) (P:Nat→Pp)
noncomputable abbrev tgN (n:Nat):Nat:=sizeS tgF (tgAr n)
abbrev tgSl (three:SV) (j:Nat):List (Nat × SV):=[(2,.one (.c (.b (.p 2 0)))),(5,.one (.c (.b (.y 3 0 n)))),(7,three),(29,.one (.c (.b (.y 3 0 n)))),(30,.one (nI' (n:Int))),(31,.one (nI' (j:Int)))]
abbrev tgSlI (three:SV) (k b:Nat) (i j:Nat):List (Nat × SV):=tgSl n three j++[(9,.one (.c (.b (.p b 0)))),(35,three),(36,.one (nI' (k:Int))),(37,.one (nI' (i:Int)))]
noncomputable abbrev tgO:List Ob:=[(lpT N P).ob,.dead,.box tgC0 TCi,(plR n (spQ P)).ob]
noncomputable abbrev tgO1 (p:Pt):List Ob:=tgO n N P++[.row (pL 5 p) PLT 1 3,(ratM (pG p).re).ob,(ratM (pG p).im).ob]
noncomputable abbrev tgO2 (p q:Pt):List Ob:=tgO n N P++[.row (pL 5 p++pL 7 q) PLT 2 3,(ratM (pG p).re).ob,(ratM (pG p).im).ob,(ratM (pG q).re).ob,(ratM (pG q).im).ob]
abbrev tgEl (k:Nat) (p:Pt):List Ob:=[(ratM (pG p).re).ob,(ratM (pG p).im).ob,.box (pL k p) PLT]
abbrev tgNil:SV:=.one (.c (.b (.v (.slice none 0 0))))
noncomputable abbrev tg0 (j:Nat) (ev:List (Ev Tryz.prog)):Cf Tryz.prog:=mkC Tryz.prog (tgN n) 1 (tgSl n tgNil j) (tgO n N P) ev
noncomputable abbrev tg1 (p:Pt) (j:Nat) (ev:List (Ev Tryz.prog)):Cf Tryz.prog:=mkC Tryz.prog (tgN n) 1 (tgSl n (.one (.c (.b (.r 4 1)))) j) (tgO1 n N P p) ev
noncomputable abbrev tg2 (p q:Pt) (j:Nat) (ev:List (Ev Tryz.prog)):Cf Tryz.prog:=mkC Tryz.prog (tgN n) 1 (tgSl n (.one (.c (.b (.r 4 2)))) j) (tgO2 n N P p q) ev
noncomputable abbrev tg0I (j:Nat) (ev:List (Ev Tryz.prog)):Cf Tryz.prog:=mkC Tryz.prog (tgN n) 1 (tgSlI n tgNil 0 6 0 j) (tgO n N P++tgEl 4 (spQ P j)) ev
noncomputable abbrev tg1I (p:Pt) (i j:Nat) (ev:List (Ev Tryz.prog)):Cf Tryz.prog:=mkC Tryz.prog (tgN n) 1 (tgSlI n (.one (.c (.b (.r 4 1)))) 1 9 i j) (tgO1 n N P p++tgEl 7 (spQ P j)) ev
noncomputable abbrev tg2I (p q:Pt) (i j:Nat) (ev:List (Ev Tryz.prog)):Cf Tryz.prog:=mkC Tryz.prog (tgN n) 1 (tgSlI n (.one (.c (.b (.r 4 2)))) 2 11 i j) (tgO2 n N P p q++tgEl 9 (spQ P j)) ev
noncomputable abbrev tgH (r:SV) (i:Nat) (β0:Env) (w:World) (c:Cf Tryz.prog):Prop:=HdOk Tryz.prog 1 (tgN n) w.heap.size w β0 (bodyPost Tryz.prog tgF (Said Tryz.prog tgF 1 r [] β0 w)) c (lpAt tgF i)
variable (r:SV) (β0:Env) (w:World) {j:Nat}
noncomputable def tgE0 (hj:j<n):List (Ev Tryz.prog):=[.eqv 32 (.bool (decide ((j:Int)<(n:Int)))) (.bool true) (by rw [decide_eq_true (by omega)]),eKIx (spQ P) hj (Nat.le_refl n),eKLd (m:=n) (spQ P) hj,.cut]
noncomputable def tgEn (j:Nat) {j2:Int} (hj2:IntKind.i64.wrap ((j:Int)+1)=j2) (e2:j2=((j+1:Nat):Int)):List (Ev Tryz.prog):=[.eqv 52 (.int .i64 (IntKind.i64.wrap ((j:Int)+1))) (.int .i64 ((j+1:Nat):Int)) (by rw [hj2,e2]),.cut]
theorem tg_a0 (hj:j<n) (k:tgH n r 1 β0 w (tg0I n N P j [])):tgH n r 0 β0 w (tg0 n N P j (tgE0 n P hj)) :=
 piece_ok (Ns:=tgNs) (m:=800) [] [0,0,2,3,4,5,6] hmA (by kernel_rfl) (fun β=>ok_of_maps (by kernel_rfl)) k
theorem tg_b0 {j2:Int} (hj2:IntKind.i64.wrap ((j:Int)+1)=j2) (e2:j2=((j+1:Nat):Int)) (k:tgH n r 0 β0 w (tg1 n N P (spQ P j) (j+1) [])):tgH n r 1 β0 w (tg0I n N P j ([.app appP]++tgEn j hj2 e2)) :=
 piece_ok (Ns:=tgNs) (m:=800) [] [0,0,2,3,8,4,5] hmA (by kernel_rfl) (fun β=>ok_of_maps (by kernel_rfl)) k
theorem tg_a1 (p:Pt) (hj:j<n) (k:tgH n r 1 β0 w (tg1I n N P p 0 j [])):tgH n r 0 β0 w (tg1 n N P p j (tgE0 n P hj)) :=
 piece_ok (Ns:=tgNs) (m:=800) [] [0,0,2,3,4,5,6,7,8,9] hmA (by kernel_rfl) (fun β=>ok_of_maps (by kernel_rfl)) k
theorem tg_c1 {p:Pt} (hp:FitP p) (hq:FitP (spQ P j)) (h:sameP (spQ P j) p=true) {j2:Int} (hj2:IntKind.i64.wrap ((j:Int)+1)=j2) (e2:j2=((j+1:Nat):Int)) (k:tgH n r 0 β0 w (tg1 n N P p (j+1) [])):tgH n r 1 β0 w (tg1I n N P p 0 j ([(sTgSame hq hp h).e]++tgEn j hj2 e2)) :=
 piece_ok (Ns:=tgNs) (m:=800) [] [0,0,2,3,4,5,6] hmA (by kernel_rfl) (fun β=>ok_of_maps (by kernel_rfl)) k
theorem tg_d1 {p:Pt} (hp:FitP p) (hq:FitP (spQ P j)) (h:sameP (spQ P j) p=false) (k:tgH n r 1 β0 w (tg1I n N P p 1 j [])):tgH n r 1 β0 w (tg1I n N P p 0 j [(sTgSame hq hp h).e,.cut]) :=
 piece_ok (Ns:=tgNs) (m:=800) [] [0,0,2,3,4,5,6,7,8,9] hmA (by kernel_rfl) (fun β=>ok_of_maps (by kernel_rfl)) k
theorem tg_e1 (p:Pt) {j2:Int} (hj2:IntKind.i64.wrap ((j:Int)+1)=j2) (e2:j2=((j+1:Nat):Int)) (k:tgH n r 0 β0 w (tg2 n N P p (spQ P j) (j+1) [])):tgH n r 1 β0 w (tg1I n N P p 1 j ([.app appP]++tgEn j hj2 e2)) :=
 piece_ok (Ns:=tgNs) (m:=800) [] [0,0,2,3,11,5,6,7,8] hmA (by kernel_rfl) (fun β=>ok_of_maps (by kernel_rfl)) k
theorem tg_a2 (p q:Pt) (hj:j<n) (k:tgH n r 1 β0 w (tg2I n N P p q 0 j [])):tgH n r 0 β0 w (tg2 n N P p q j (tgE0 n P hj)) :=
 piece_ok (Ns:=tgNs) (m:=800) [] [0,0,2,3,4,5,6,7,8,9,10,11] hmA (by kernel_rfl) (fun β=>ok_of_maps (by kernel_rfl)) k
theorem tg_c2 {p q:Pt} (hp:FitP p) (hq:FitP (spQ P j)) (h:sameP (spQ P j) p=true) {j2:Int} (hj2:IntKind.i64.wrap ((j:Int)+1)=j2) (e2:j2=((j+1:Nat):Int)) (k:tgH n r 0 β0 w (tg2 n N P p q (j+1) [])):tgH n r 1 β0 w (tg2I n N P p q 0 j ([(sTgSame hq hp h).e]++tgEn j hj2 e2)) :=
 piece_ok (Ns:=tgNs) (m:=800) [] [0,0,2,3,4,5,6,7,8] hmA (by kernel_rfl) (fun β=>ok_of_maps (by kernel_rfl)) k
theorem tg_d2 {p q:Pt} (hp:FitP p) (hq:FitP (spQ P j)) (h:sameP (spQ P j) p=false) (k:tgH n r 1 β0 w (tg2I n N P p q 1 j [])):tgH n r 1 β0 w (tg2I n N P p q 0 j [(sTgSame hq hp h).e,.cut]) :=
 piece_ok (Ns:=tgNs) (m:=800) [] [0,0,2,3,4,5,6,7,8,9,10,11] hmA (by kernel_rfl) (fun β=>ok_of_maps (by kernel_rfl)) k
theorem tg_c3 {p q:Pt} (hp:FitP q) (hq:FitP (spQ P j)) (h:sameP (spQ P j) q=true) {j2:Int} (hj2:IntKind.i64.wrap ((j:Int)+1)=j2) (e2:j2=((j+1:Nat):Int)) (k:tgH n r 0 β0 w (tg2 n N P p q (j+1) [])):tgH n r 1 β0 w (tg2I n N P p q 1 j ([(sTgSame hq hp h).e]++tgEn j hj2 e2)) :=
 piece_ok (Ns:=tgNs) (m:=800) [] [0,0,2,3,4,5,6,7,8] hmA (by kernel_rfl) (fun β=>ok_of_maps (by kernel_rfl)) k
theorem tg_d3 {p q:Pt} (hp:FitP q) (hq:FitP (spQ P j)) (h:sameP (spQ P j) q=false) (k:tgH n r 1 β0 w (tg2I n N P p q 2 j [])):tgH n r 1 β0 w (tg2I n N P p q 1 j [(sTgSame hq hp h).e,.cut]) :=
 piece_ok (Ns:=tgNs) (m:=800) [] [0,0,2,3,4,5,6,7,8,9,10,11] hmA (by kernel_rfl) (fun β=>ok_of_maps (by kernel_rfl)) k
end
abbrev tgR (l:List Lf) (b:Bool) (k:Int):SV:=.tup [.a l,.c (.b (.v (.bool b))),nI' k]
section
variable (n N:Nat) (P:Nat→Pp) (β0:Env) (w:World) {j:Nat}
noncomputable def tgLt:List (Ev Tryz.prog):=[.eqv 32 (.bool (decide ((n:Int)<(n:Int)))) (.bool false) (by rw [decide_eq_false (by omega)])]
theorem tg_z1 (p:Pt):tgH n (tgR c0C false 7) 0 β0 w (tg1 n N P p n (tgLt n)) :=
 last_ok (Ns:=tgNs) (m:=800) hmA (fun β=>ok_of_maps (by kernel_rfl))
theorem tg_z2 (p q:Pt):tgH n (tgR c0C false 7) 0 β0 w (tg2 n N P p q n (tgLt n)) :=
 last_ok (Ns:=tgNs) (m:=800) hmA (fun β=>ok_of_maps (by kernel_rfl))
end
section
variable {r:RQ} (h:MayC r)
theorem tl_val (r:RQ) (z:GQ):(r.a*gnorm z+((gmul r.b z).re+(gmul r.b z).re))+r.c=valQ r z:=by
 unfold valQ
 grind
end
structure LgP (p:Pp) (r:Bool):Prop where
 is:∃ a b:Bool,Lg1 p.w.x a∧Lg1 p.w.y b∧(a||b)=r
theorem LgP.all (p:Pp):∃ r,LgP p r:=by
 obtain ⟨a,ha⟩:=Lg1.all p.w.x
 obtain ⟨b,hb⟩:=Lg1.all p.w.y
 exact ⟨_,⟨a,b,ha,hb,rfl⟩⟩
def sLongP {p:Pp} {r:Bool} (h:LgP p r):BSpec Tryz.prog :=
 ⟨61,Tryz.call61,[.one (.c (.b (.s 0 0 1 1)))],p.w.x.L++p.w.y.L,46,.bool r,fun β w hh=>by
  obtain ⟨a,b,ha,hb,e⟩:=h.is
  exact (sLongG1 ha hb e).ok β w hh,by kernel_rfl,fun _=>rfl⟩
noncomputable abbrev ogF:Func:=Tryz.f53
theorem tgg11_d:((Tryz.prog.underlying 46).map fun d=>d.isRow)=some true:=by kernel_rfl
noncomputable def tlFz {n j:Nat} (P:Nat→Pp) (hj:j<n):Ev Tryz.prog:=eFa (T:=PTT) (sz:=9) (I:=1) (off:=1) (lsP P) (by kernel_rfl) hj
noncomputable def tlPz {n j:Nat} (P:Nat→Pp) (hj:j<n):Ev Tryz.prog:=ePt (rwDesc_u tgg11_d).1 (rwDesc_u tgg11_d).2 9 1 (L:=lsP P) (cs:=(P j).w.x.L++(P j).w.y.L) (m:=8) rfl (by kernel_rfl) (fun β=>rfl) hj
section
variable (n:Nat) (P:Nat→Pp)
noncomputable abbrev oGN:Nat:=sizeS ogF [lpS0 n]
abbrev oGSl (j:Nat):List (Nat × SV):=[(0,lpS0 n),(2,.one (.c (.b (.v (.bool false))))),(3,.one (nI' (j:Int)))]
noncomputable abbrev oGC (j:Nat) (ev:List (Ev Tryz.prog)):Cf Tryz.prog:=mkC Tryz.prog (oGN n) 1 (oGSl n j) [(lpT n P).ob,.dead] ev
abbrev oGH (r:Bool) (β0:Env) (w:World) (c:Cf Tryz.prog):Prop:=HdOk Tryz.prog 1 (oGN n) w.heap.size w β0 (bodyPost Tryz.prog ogF (Said Tryz.prog ogF 1 (tB' r) [] β0 w)) c (lpAt ogF 0)
variable (β0:Env) (w:World) {j:Nat}
noncomputable def oGE (hj:j<n):List (Ev Tryz.prog):=[.eqv 7 (.bool (decide ((j:Int)<(n:Int)))) (.bool true) (by rw [decide_eq_true (by omega)]),pIx0 P hj (Nat.le_refl n),tlFz P hj,tlPz P hj]
theorem og_step (hj:j<n) (h:LgP (P j) false) {j2:Int} (hj2:IntKind.i64.wrap ((j:Int)+1)=j2) (e2:j2=((j+1:Nat):Int)) (r:Bool) (k:oGH n r β0 w (oGC n P (j+1) [])) :
  oGH n r β0 w (oGC n P j (oGE n P hj++[(sLongP h).e,.eqv 9 (.int .i64 (IntKind.i64.wrap ((j:Int)+1))) (.int .i64 ((j+1:Nat):Int)) (by rw [hj2,e2]),.cut])) :=
 piece_ok (Ns:=[]) (m:=800) [] [0,0] hmA (by kernel_rfl) (fun β=>ok_of_maps (by kernel_rfl)) k
theorem og_yes (hj:j<n) (h:LgP (P j) true):oGH n true β0 w (oGC n P j (oGE n P hj++[(sLongP h).e])) :=
 last_ok (Ns:=[]) (m:=800) hmA (fun β=>ok_of_maps (by kernel_rfl))
theorem og_end:oGH n false β0 w (oGC n P n [.eqv 7 (.bool (decide ((n:Int)<(n:Int)))) (.bool false) (by rw [decide_eq_false (by omega)])]) :=
 last_ok (Ns:=[]) (m:=400) hmA (fun β=>ok_of_maps (by kernel_rfl))
theorem og_loopY (hn:n≤maxLen) {i:Nat} (hi:i<n) (h:LgP (P i) true) (h2:∀ k,k<i→LgP (P k) false):∀ (d j:Nat),j+d=i→oGH n true β0 w (oGC n P j [])
 | 0,j,e=>by
  obtain rfl:j=i:=by omega
  exact cx_hd (og_yes n P β0 w hi h)
 | d+1,j,e=>cx_hd (og_step n P β0 w (by omega) (h2 j (by omega)) (j2:=((j+1:Nat):Int)) (by rw [IntKind.wrap_i64]; simp only [maxLen] at hn; omega) rfl true (og_loopY hn hi h h2 d (j+1) (by omega)))
theorem og_loopN (hn:n≤maxLen) (h:∀ i,i<n→LgP (P i) false):∀ (d j:Nat),j+d=n→oGH n false β0 w (oGC n P j [])
 | 0,j,e=>by
  obtain rfl:j=n:=by omega
  exact cx_hd (og_end j P β0 w)
 | d+1,j,e=>cx_hd (og_step n P β0 w (by omega) (h j (by omega)) (j2:=((j+1:Nat):Int)) (by rw [IntKind.wrap_i64]; simp only [maxLen] at hn; omega) rfl false (og_loopN hn h d (j+1) (by omega)))
theorem og_start (r:Bool) (hh:(lpT n P).D w (β0 0)) (h:oGH n r β0 w (oGC n P 0 [])):Calls Tryz.prog 53 (([lpS0 n]:List SV).map (SV.den β0)).toArray w (Said Tryz.prog ogF 1 (tB' r) [] β0 w) :=
 sx_cut (P:=Tryz.prog) [lpS0 n] [(lpT n P).ob] [.cut] [] [] 400 (tB' r) [] Tryz.func53 hmA (u:=1) (sl:=oGSl n 0) (ob:=[(lpT n P).ob,.dead]) (σ:=[0,0]) (p':=lpAt ogF 0) (by kernel_rfl) (fun β=>ok_of_maps (by kernel_rfl)) (by kernel_rfl) (by kernel_rfl) β0 w (fun i o ho=>by
  cases i with
  | zero=>simp only [List.getElem?_cons_zero] at ho; obtain rfl:=Option.some.inj ho; exact hh
  | succ i=>simp at ho) h
end
theorem tl_first {f:Nat→Bool} {n:Nat} (h:∃ i,i<n∧f i=true):∃ i,i<n∧f i=true∧∀ k,k<i→f k=false:=by
 induction n with
 | zero=>obtain ⟨i,hi,_⟩:=h; exact absurd hi (Nat.not_lt_zero i)
 | succ n ih =>
  by_cases h3:∃ i,i<n∧f i=true
  · obtain ⟨i,k1,k2,k3⟩:=ih h3
    exact ⟨i,by omega,k2,k3⟩
  · obtain ⟨i,hi,hf⟩:=h
    have e:i=n:=by
     rcases Nat.lt_succ_iff_lt_or_eq.1 hi with h4 | h4
     · exact absurd ⟨i,h4,hf⟩ h3
     · exact h4
    subst e
    exact ⟨i,hi,hf,fun k hk=>by
     rw [Bool.eq_false_iff]
     intro e
     exact h3 ⟨k,hk,e⟩⟩
def TlOff (n:Nat) (P:Nat→Pp) (r:Bool):Prop:=∀ (β0:Env) (w:World),(lpT n P).D w (β0 0)→Calls Tryz.prog 53 (([lpS0 n]:List SV).map (SV.den β0)).toArray w (Said Tryz.prog ogF 1 (tB' r) [] β0 w)
noncomputable def sTlOff {n:Nat} {P:Nat→Pp} {r:Bool} (h:TlOff n P r):Spec Tryz.prog :=
 ⟨53,Tryz.call53,[lpS0 n],[lpT n P],tB' r,[],fun β w hh=>(h β w (hh 0 _ rfl)).mono fun e w' h=>cx_said0 h fun β' _=>rfl,by kernel_rfl⟩
theorem toff_all {n:Nat} (P:Nat→Pp) (hn:n≤maxLen):∃ r,TlOff n P r:=by
 have hW:∀ i,∃ r,LgP (P i) r:=fun i=>LgP.all _
 obtain ⟨f,hf⟩:∃ f:Nat→Bool,∀ i,LgP (P i) (f i):=⟨fun i=>(hW i).choose,fun i=>(hW i).choose_spec⟩
 by_cases h:∃ i,i<n∧f i=true
 · obtain ⟨i,h1,h2,h3⟩:=tl_first h
   exact ⟨true,fun β0 w hh=>og_start n P β0 w true hh (og_loopY n P β0 w hn h1 (by rw [← h2]; exact hf i) (fun k hk=>by rw [← h3 k hk]; exact hf k) i 0 (by omega))⟩
 · exact ⟨false,fun β0 w hh=>og_start n P β0 w false hh (og_loopN n P β0 w hn (fun i hi=>by
    have:=hf i
    cases e:f i with
    | true=>exact absurd ⟨i,hi,e⟩ h
    | false=>rw [e] at this; exact this) n 0 (by omega))⟩
theorem gz_sub {z w:GQ}:gzero (gsub z w)=true↔z=w:=by
 rw [gz_true]
 constructor
 · intro e
   have e1:=congrArg GQ.re e
   have e2:=congrArg GQ.im e
   simp only [gsub,g0] at e1 e2
   exact GQ.ext2 (by grind) (by grind)
 · intro e
   rw [e]
   refine GQ.ext2 ?_ ?_<;>(simp only [gsub,g0]; grind)
theorem sameP_iff {p q:Pt}:sameP p q=true↔p=q:=by
 cases p<;>cases q
 · exact ⟨fun _=>rfl,fun _=>rfl⟩
 · exact ⟨(fun h=>by cases h),(fun h=>by cases h)⟩
 · exact ⟨(fun h=>by cases h),(fun h=>by cases h)⟩
 · show gzero (gsub _ _)=true↔_
   rw [gz_sub]
   exact ⟨fun h=>by rw [h],fun h=>by cases h; rfl⟩
theorem sameP_no {p q:Pt} (h:p≠q):sameP p q=false:=by
 rw [Bool.eq_false_iff]
 exact fun e=>h (sameP_iff.1 e)
section
variable {p q r:Pt} (hp:FitP p) (hq:FitP q) (hr:FitP r) (h0:rby (thrQ p q r)≠0)
noncomputable def tgTY (hF:FitC (rone (thrQ p q r))):Spec Tryz.prog:=(sRTold2 hp hq hr h0).conv (.tup [.a (cC (rone (thrQ p q r))),nI' 0]) (by
 show ciA (rone (thrQ p q r))=_
 unfold ciA
 rw [(ci_fit hF).1,(ci_fit hF).2])
noncomputable def tgTN (hF:¬ FitC (rone (thrQ p q r))):Spec Tryz.prog:=(sRTold2 hp hq hr h0).conv (.tup [.a c0C,nI' 4]) (by
 show ciA (rone (thrQ p q r))=_
 unfold ciA
 rw [(ci_not hF).1,(ci_not hF).2])
end
section
variable (n N:Nat) (P:Nat→Pp) (β0:Env) (w:World) {j:Nat} {p q:Pt} (hp:FitP p) (hq:FitP q) (hr:FitP (spQ P j)) (h0:rby (thrQ p q (spQ P j))≠0)
theorem tg_f0 (hF:¬ FitC (rone (thrQ p q (spQ P j)))):tgH n (tgR c0C false 4) 1 β0 w (tg2I n N P p q 2 j [.app appP,(sEThrough hp hq hr h0).e,(tgTN hp hq hr h0 hF).e]) :=
 last_ok (Ns:=tgNs) (m:=800) hmA (fun β=>ok_of_maps (by kernel_rfl))
theorem tg_f1 (hF:FitC (rone (thrQ p q (spQ P j)))) (hn:n≤1048576) (hQ:∀ i,i<n→FitP (spQ P i)) (hs:∀ i,i<n→onB (rone (thrQ p q (spQ P j))) (spQ P i)=false) :
  tgH n (tgR (cC (rone (thrQ p q (spQ P j)))) true 0) 1 β0 w (tg2I n N P p q 2 j [.app appP,(sEThrough hp hq hr h0).e,(tgTY hp hq hr h0 hF).e,tyHas (spQ P) (thr1_sz hp hq hr h0) hn hQ hs]) :=
 last_ok (Ns:=tgNs) (m:=800) hmA (fun β=>ok_of_maps (by kernel_rfl))
theorem tg_f2 (hF:FitC (rone (thrQ p q (spQ P j)))) (hn:n≤1048576) (hQ:∀ i,i<n→FitP (spQ P i)) {i:Nat} (hi:i<n) (hs:onB (rone (thrQ p q (spQ P j))) (spQ P i)=true) (hs2:∀ k,k<i→onB (rone (thrQ p q (spQ P j))) (spQ P k)=false) :
  tgH n (tgR c0C false 0) 1 β0 w (tg2I n N P p q 2 j [.app appP,(sEThrough hp hq hr h0).e,(tgTY hp hq hr h0 hF).e,tyHasN (spQ P) (thr1_sz hp hq hr h0) hn hQ hi hs hs2]) :=
 last_ok (Ns:=tgNs) (m:=800) hmA (fun β=>ok_of_maps (by kernel_rfl))
end
inductive TgCase (Q:Nat→Pt) (n:Nat):Prop where
 | one (h:∀ i,i<n→Q i=Q 0)
 | two (a:Nat) (h0:0<a) (ha:a<n) (h:∀ i,i<a→Q i=Q 0) (h1:Q a≠Q 0) (h2:∀ i,a<i→i<n→Q i=Q 0∨Q i=Q a)
 | three (a b:Nat) (h0:0<a) (hab:a<b) (hb:b<n) (h:∀ i,i<a→Q i=Q 0) (h1:Q a≠Q 0) (h2:∀ i,a<i→i<b→Q i=Q 0∨Q i=Q a) (h3:Q b≠Q 0) (h4:Q b≠Q a)
theorem tg_case (Q:Nat→Pt) (n:Nat):TgCase Q n:=by
 by_cases hA:∃ i,i<n∧(!(sameP (Q i) (Q 0)))=true
 · obtain ⟨a,a1,a2,a3⟩:=tl_first hA
   have h1:Q a≠Q 0:=fun e=>by rw [sameP_iff.2 e] at a2; cases a2
   have h0:0<a:=by
    rcases Nat.eq_zero_or_pos a with rfl | h
    · exact absurd rfl h1
    · exact h
   have h:∀ i,i<a→Q i=Q 0:=fun i hi=>by
    have:=a3 i hi
    rw [Bool.not_eq_false'] at this
    exact sameP_iff.1 this
   by_cases hB:∃ i,i<n∧(decide (a<i)&&(!(sameP (Q i) (Q 0))&&!(sameP (Q i) (Q a))))=true
   · obtain ⟨b,b1,b2,b3⟩:=tl_first hB
     rw [Bool.and_eq_true,Bool.and_eq_true,decide_eq_true_eq] at b2
     refine .three a b h0 b2.1 b1 h h1 (fun i i1 i2=>?_) (fun e=>?_) (fun e=>?_)
     · have:=b3 i i2
       rw [decide_eq_true i1,Bool.true_and,Bool.and_eq_false_iff,Bool.not_eq_false',Bool.not_eq_false'] at this
       exact this.imp sameP_iff.1 sameP_iff.1
     · have:=b2.2.1; rw [sameP_iff.2 e] at this; cases this
     · have:=b2.2.2; rw [sameP_iff.2 e] at this; cases this
   · refine .two a h0 a1 h h1 fun i i1 i2=>?_
     by_cases e:Q i=Q 0
     · exact .inl e
     · refine .inr (Classical.byContradiction fun e2=>hB ⟨i,i2,?_⟩)
       rw [decide_eq_true i1,sameP_no e,sameP_no e2]; rfl
 · refine .one fun i hi=>Classical.byContradiction fun e=>hA ⟨i,hi,?_⟩
   rw [sameP_no e]; rfl
section
variable (n N:Nat) (P:Nat→Pp) (r:SV) (β0:Env) (w:World) (hn:n≤4096) (hQ:∀ i,i<n→FitP (spQ P i))
include hn hQ in
theorem tg_run1 {t:Nat} (ht:t≤n) (h0:0<n) (h:∀ i,i<t→spQ P i=spQ P 0) (k:tgH n r 0 β0 w (tg1 n N P (spQ P 0) t [])):∀ d j,j+d=t→tgH n r 0 β0 w (tg1 n N P (spQ P 0) j [])
 | 0,j,e=>by
  obtain rfl:j=t:=by omega
  exact k
 | d+1,j,e=>cx_hd (tg_a1 n N P r β0 w (spQ P 0) (by omega) (cx_hd (tg_c1 n N P r β0 w (hQ 0 h0) (hQ j (by omega)) (sameP_iff.2 (h j (by omega))) (j2:=((j+1:Nat):Int)) (by rw [IntKind.wrap_i64]; omega) rfl (tg_run1 ht h0 h k d (j+1) (by omega)))))
include hn hQ in
theorem tg_run2 {a t:Nat} (ht:t≤n) (h0:0<n) (ha:a<n) (h2:∀ i,a<i→i<t→spQ P i=spQ P 0∨spQ P i=spQ P a) (h1:spQ P a≠spQ P 0) (k:tgH n r 0 β0 w (tg2 n N P (spQ P 0) (spQ P a) t [])):∀ d j,j+d=t→a<j→tgH n r 0 β0 w (tg2 n N P (spQ P 0) (spQ P a) j [])
 | 0,j,e,_=>by
  obtain rfl:j=t:=by omega
  exact k
 | d+1,j,e,hj=>by
  have next:=tg_run2 ht h0 ha h2 h1 k d (j+1) (by omega) (by omega)
  refine cx_hd (tg_a2 n N P r β0 w (spQ P 0) (spQ P a) (by omega) ?_)
  by_cases e0:spQ P j=spQ P 0
  · exact cx_hd (tg_c2 n N P r β0 w (hQ 0 h0) (hQ j (by omega)) (sameP_iff.2 e0) (j2:=((j+1:Nat):Int)) (by rw [IntKind.wrap_i64]; omega) rfl next)
  · exact cx_hd (tg_d2 n N P r β0 w (hQ 0 h0) (hQ j (by omega)) (sameP_no e0) (cx_hd (tg_c3 n N P r β0 w (hQ a ha) (hQ j (by omega)) (sameP_iff.2 ((h2 j hj (by omega)).resolve_left e0)) (j2:=((j+1:Nat):Int)) (by rw [IntKind.wrap_i64]; omega) rfl next)))
include hn hQ in
theorem tg_to1 (h0:0<n) {t:Nat} (ht:t≤n) (h1:0<t) (h:∀ i,i<t→spQ P i=spQ P 0) (k:tgH n r 0 β0 w (tg1 n N P (spQ P 0) t [])):tgH n r 0 β0 w (tg0 n N P 0 []) :=
 cx_hd (tg_a0 n N P r β0 w h0 (cx_hd (tg_b0 n N P r β0 w (j2:=((0+1:Nat):Int)) (by rw [IntKind.wrap_i64]; omega) rfl (tg_run1 n N P r β0 w hn hQ ht h0 h k (t-1) 1 (by omega)))))
include hn hQ in
theorem tg_to2 (h0:0<n) {a t:Nat} (ha0:0<a) (ht:t≤n) (ha:a<t) (h:∀ i,i<a→spQ P i=spQ P 0) (h1:spQ P a≠spQ P 0) (h2:∀ i,a<i→i<t→spQ P i=spQ P 0∨spQ P i=spQ P a) (k:tgH n r 0 β0 w (tg2 n N P (spQ P 0) (spQ P a) t [])):tgH n r 0 β0 w (tg0 n N P 0 []) :=
 tg_to1 n N P r β0 w hn hQ h0 (t:=a) (by omega) ha0 h (cx_hd (tg_a1 n N P r β0 w (spQ P 0) (by omega) (cx_hd (tg_d1 n N P r β0 w (hQ 0 h0) (hQ a (by omega)) (sameP_no h1) (cx_hd (tg_e1 n N P r β0 w (spQ P 0) (j2:=((a+1:Nat):Int)) (by rw [IntKind.wrap_i64]; omega) rfl
  (tg_run2 n N P r β0 w hn hQ ht h0 (by omega) h2 h1 k (t-(a+1)) (a+1) (by omega) (by omega))))))))
end
theorem tg_start (n N:Nat) (P:Nat→Pp) (r:SV) (β0:Env) (w:World) (hN:n≤N) (hn:n≤4096) (h0:0<n) (h:∀ i,i<n→(P i).B=true) (hh:(lpT N P).D w (β0 0)) (k:tgH n r 0 β0 w (tg0 n N P 0 [])) :
  Calls Tryz.prog 56 ((tgAr n).map (SV.den β0)).toArray w (Said Tryz.prog tgF 1 r [] β0 w) :=
 sx_cut (P:=Tryz.prog) (tgAr n) [(lpT N P).ob] [(sSpL P hN (Nat.le_trans hn (by decide)) h0 h).e,.eqv 27 (.bool (decide ((4096:Int)<(n:Int)))) (.bool false) (by rw [decide_eq_false (by omega)]),.cut] [] tgNs 800 r [] Tryz.func56 hmA (u:=1) (sl:=tgSl n tgNil 0) (ob:=tgO n N P) (σ:=[0,0,1,2]) (p':=lpAt tgF 0) (by kernel_rfl) (fun β=>ok_of_maps (by kernel_rfl)) (by kernel_rfl) (by kernel_rfl) β0 w (fun i o ho=>by
   cases i with
   | zero=>simp only [List.getElem?_cons_zero] at ho; obtain rfl:=Option.some.inj ho; exact hh
   | succ i=>simp at ho) k
abbrev tg4 (a b b' c:R4):List Lf:=rL a++rL b++rL b'++rL c
def TgIs (n N:Nat) (P:Nat→Pp) (a b b' c:R4) (ok:Bool) (k:Int):Prop:=∀ (β:Env) (w:World),(∀ (i:Nat) (t:Thing),[lpT N P][i]?=some t→t.D w (β i))→Calls Tryz.prog 56 ((tgAr n).map (SV.den β)).toArray w fun e w'=>∃ xs:List Pl,freshS β w 1 xs∧e=.returned ((tgR (tg4 a b b' c) ok k).den (extE β 1 xs))∧newHold w' [] xs∧Below w.heap.size w w'
def tgS {n N:Nat} {P:Nat→Pp} {a b b' c:R4} {ok:Bool} {k:Int} (h:TgIs n N P a b b' c ok k):Spec Tryz.prog:=⟨56,Tryz.call56,tgAr n,[lpT N P],tgR (tg4 a b b' c) ok k,[],h,by kernel_rfl⟩
theorem Spec.tg (S:Spec Tryz.prog) {n N:Nat} {P:Nat→Pp} {a b b' c:R4} {ok:Bool} {k:Int} (hf:S.f=56) (ha:S.args=tgAr n) (ho:S.obs=[lpT N P]) (hr:S.res=tgR (tg4 a b b' c) ok k) (hw:S.news=[]):TgIs n N P a b b' c ok k:=by
 obtain ⟨f,en,args,obs,res,news,h,oa⟩:=S
 subst hf ha ho hr hw
 exact h
noncomputable def sTg0 {N:Nat} (P:Nat→Pp):Spec Tryz.prog :=
 Spec.auto Tryz.call56 (tgAr 0) [lpT N P] (tgR c0C false 7) [] [(sSpL0 (N:=N) P).e] tgNs 800 Tryz.func56 hmA (by kernel_rfl) (fun β=>by kernel_rfl)
noncomputable def sTgNo {n N:Nat} (P:Nat→Pp) (hN:n≤N) (hn:n≤4096) {i:Nat} (hi:i<n) (h:(P i).B=false) (h2:∀ k,k<i→(P k).B=true):Spec Tryz.prog :=
 Spec.auto Tryz.call56 (tgAr n) [lpT N P] (tgR c0C false 2) [] [(sSpLNo P hN (Nat.le_trans hn (by decide)) hi h h2).e] tgNs 800 Tryz.func56 hmA (by kernel_rfl) (fun β=>by kernel_rfl)
inductive TgTold (Q:Nat→Pt) (n:Nat):R4→R4→R4→R4→Bool→Int→Prop where
 | none (h:n=0∨(∀ i,i<n→Q i=Q 0)∨∃ a,0<a∧a<n∧(∀ i,i<a→Q i=Q 0)∧Q a≠Q 0∧∀ i,a<i→i<n→Q i=Q 0∨Q i=Q a):TgTold Q n r40 r40 r40 r40 false 7
 | big (a b:Nat) (h0:0<a) (hab:a<b) (hb:b<n) (h:∀ i,i<a→Q i=Q 0) (h1:Q a≠Q 0) (h2:∀ i,a<i→i<b→Q i=Q 0∨Q i=Q a) (h3:Q b≠Q 0) (h4:Q b≠Q a) (hF:¬ FitC (rone (thrQ (Q 0) (Q a) (Q b)))):TgTold Q n r40 r40 r40 r40 false 4
 | yes (a b:Nat) (h0:0<a) (hab:a<b) (hb:b<n) (h:∀ i,i<a→Q i=Q 0) (h1:Q a≠Q 0) (h2:∀ i,a<i→i<b→Q i=Q 0∨Q i=Q a) (h3:Q b≠Q 0) (h4:Q b≠Q a) (hF:FitC (rone (thrQ (Q 0) (Q a) (Q b)))) (hs:∀ i,i<n→onB (rone (thrQ (Q 0) (Q a) (Q b))) (Q i)=false) :
   TgTold Q n (fR (rone (thrQ (Q 0) (Q a) (Q b))).a) (fR (rone (thrQ (Q 0) (Q a) (Q b))).b.re) (fR (rone (thrQ (Q 0) (Q a) (Q b))).b.im) (fR (rone (thrQ (Q 0) (Q a) (Q b))).c) true 0
 | off (a b:Nat) (h0:0<a) (hab:a<b) (hb:b<n) (h:∀ i,i<a→Q i=Q 0) (h1:Q a≠Q 0) (h2:∀ i,a<i→i<b→Q i=Q 0∨Q i=Q a) (h3:Q b≠Q 0) (h4:Q b≠Q a) (hF:FitC (rone (thrQ (Q 0) (Q a) (Q b)))) (i:Nat) (hi:i<n) (hs:onB (rone (thrQ (Q 0) (Q a) (Q b))) (Q i)=true) (hs2:∀ k,k<i→onB (rone (thrQ (Q 0) (Q a) (Q b))) (Q k)=false) :
   TgTold Q n r40 r40 r40 r40 false 0
theorem tg_told (Q:Nat→Pt) (n:Nat):∃ a b b' c ok k,TgTold Q n a b b' c ok k:=by
 rcases tg_case Q n with h | ⟨a,h0,ha,h,h1,h2⟩ | ⟨a,b,h0,hab,hb,h,h1,h2,h3,h4⟩
 · exact ⟨_,_,_,_,_,_,.none (.inr (.inl h))⟩
 · exact ⟨_,_,_,_,_,_,.none (.inr (.inr ⟨a,h0,ha,h,h1,h2⟩))⟩
 · by_cases hF:FitC (rone (thrQ (Q 0) (Q a) (Q b)))
   · by_cases hS:∃ i,i<n∧onB (rone (thrQ (Q 0) (Q a) (Q b))) (Q i)=true
     · obtain ⟨i,i1,i2,i3⟩:=tl_first hS
       exact ⟨_,_,_,_,_,_,.off a b h0 hab hb h h1 h2 h3 h4 hF i i1 i2 i3⟩
     · refine ⟨_,_,_,_,_,_,.yes a b h0 hab hb h h1 h2 h3 h4 hF fun i hi=>?_⟩
       cases e:onB (rone (thrQ (Q 0) (Q a) (Q b))) (Q i) with
       | false=>rfl
       | true=>exact absurd ⟨i,hi,e⟩ hS
   · exact ⟨_,_,_,_,_,_,.big a b h0 hab hb h h1 h2 h3 h4 hF⟩
theorem tg_is {n N:Nat} {P:Nat→Pp} (hN:n≤N) (hn:n≤4096) (h:∀ i,i<n→(P i).B=true) {a b b' c:R4} {ok:Bool} {k:Int} (ht:TgTold (spQ P) n a b b' c ok k):TgIs n N P a b b' c ok k:=by
 have hQ:=spQ_fit h
 rcases Nat.eq_zero_or_pos n with rfl | hp
 · cases ht with
   | none=>exact (sTg0 P).tg rfl rfl rfl rfl rfl
   | big a b h0 hab hb=>omega
   | yes a b h0 hab hb=>omega
   | off a b h0 hab hb=>omega
 · intro β w hh
   have h00:(lpT N P).D w (β 0):=hh 0 _ rfl
   have fin:∀ {l:List Lf},(∀ β':Env,(∀ k,k<1→β' k=β k)→(tgR l ok k).den β'=(tgR l ok k).den β)→Calls Tryz.prog 56 ((tgAr n).map (SV.den β)).toArray w (Said Tryz.prog tgF 1 (tgR l ok k) [] β w)→Calls Tryz.prog 56 ((tgAr n).map (SV.den β)).toArray w fun e w'=>∃ xs:List Pl,freshS β w 1 xs∧e=.returned ((tgR l ok k).den (extE β 1 xs))∧newHold w' [] xs∧Below w.heap.size w w':=fun hr hc=>hc.mono fun e w' h=>cx_said0 h hr
   cases ht with
   | none h' =>
    refine fin (fun β' _=>rfl) (tg_start n N P _ β w hN hn hp h h00 ?_)
    rcases h' with h' | h' | ⟨a,h0,ha,h',h1,h2⟩
    · omega
    · exact tg_to1 n N P _ β w hn hQ hp (Nat.le_refl n) hp h' (cx_hd (tg_z1 n N P β w (spQ P 0)))
    · exact tg_to2 n N P _ β w hn hQ hp h0 (Nat.le_refl n) ha h' h1 h2 (cx_hd (tg_z2 n N P β w (spQ P 0) (spQ P a)))
   | big a b h0 hab hb h' h1 h2 h3 h4 hF =>
    have hne:=thr_ne (p:=spQ P 0) (q:=spQ P a) (r:=spQ P b) (Ne.symm h1) (Ne.symm h4) (Ne.symm h3)
    refine fin (fun β' _=>rfl) (tg_start n N P _ β w hN hn hp h h00 (tg_to2 n N P _ β w hn hQ hp h0 (Nat.le_of_lt hb) hab h' h1 h2 ?_))
    exact cx_hd (tg_a2 n N P _ β w (spQ P 0) (spQ P a) hb (cx_hd (tg_d2 n N P _ β w (hQ 0 hp) (hQ b hb) (sameP_no h3) (cx_hd (tg_d3 n N P _ β w (hQ a (by omega)) (hQ b hb) (sameP_no h4) (cx_hd (tg_f0 n N P β w (hQ 0 hp) (hQ a (by omega)) (hQ b hb) hne hF)))))))
   | yes a b h0 hab hb h' h1 h2 h3 h4 hF hs =>
    have hne:=thr_ne (p:=spQ P 0) (q:=spQ P a) (r:=spQ P b) (Ne.symm h1) (Ne.symm h4) (Ne.symm h3)
    refine fin (fun β' _=>rfl) (tg_start n N P _ β w hN hn hp h h00 (tg_to2 n N P _ β w hn hQ hp h0 (Nat.le_of_lt hb) hab h' h1 h2 ?_))
    exact cx_hd (tg_a2 n N P _ β w (spQ P 0) (spQ P a) hb (cx_hd (tg_d2 n N P _ β w (hQ 0 hp) (hQ b hb) (sameP_no h3) (cx_hd (tg_d3 n N P _ β w (hQ a (by omega)) (hQ b hb) (sameP_no h4) (cx_hd (tg_f1 n N P β w (hQ 0 hp) (hQ a (by omega)) (hQ b hb) hne hF (by omega) hQ hs)))))))
   | off a b h0 hab hb h' h1 h2 h3 h4 hF i hi hs hs2 =>
    have hne:=thr_ne (p:=spQ P 0) (q:=spQ P a) (r:=spQ P b) (Ne.symm h1) (Ne.symm h4) (Ne.symm h3)
    refine fin (fun β' _=>rfl) (tg_start n N P _ β w hN hn hp h h00 (tg_to2 n N P _ β w hn hQ hp h0 (Nat.le_of_lt hb) hab h' h1 h2 ?_))
    exact cx_hd (tg_a2 n N P _ β w (spQ P 0) (spQ P a) hb (cx_hd (tg_d2 n N P _ β w (hQ 0 hp) (hQ b hb) (sameP_no h3) (cx_hd (tg_d3 n N P _ β w (hQ a (by omega)) (hQ b hb) (sameP_no h4) (cx_hd (tg_f2 n N P β w (hQ 0 hp) (hQ a (by omega)) (hQ b hb) hne hF (by omega) hQ hi hs hs2)))))))
theorem pw_rw {p q:Pp} (hp:p.B=true) (hq:q.B=true):rwB p.w.i q.w.i p.w.x p.w.y q.w.x q.w.y=ptB (plQ p) (plQ q):=by
 rw [(plQ_ok hp).2,(plQ_ok hq).2]
 rfl
theorem pw_eq {p q:Pp} (hp:p.B=true) (hq:q.B=true) (e:plQ p=plQ q):rwB p.w.i q.w.i p.w.x p.w.y q.w.x q.w.y=true:=by
 rw [pw_rw hp hq]
 exact ptB_iff.2 e
theorem pw_ne {p q:Pp} (hp:p.B=true) (hq:q.B=true) (e:plQ p≠plQ q):rwB p.w.i q.w.i p.w.x p.w.y q.w.x q.w.y=false:=by
 rw [pw_rw hp hq]
 exact ptB_ne' e
def ukEq {p q:Pp} {b:Bool} (h:rwB p.w.i q.w.i p.w.x p.w.y q.w.x q.w.y=b):Ev Tryz.prog:=eqEvP p.w.i q.w.i p.w.x p.w.y q.w.x q.w.y b h
noncomputable abbrev ukF:Func:=Tryz.f195
abbrev ukAr (n:Nat):List SV:=[lpS0 n]
abbrev ukNs:List (Nat × Nat):=[(6,24)]
abbrev A3T:TypeId:=81
abbrev ukZ:List Lf:=.b (.v (.bool false))::(rL r40++rL r40)
abbrev ukL (p:Pp):List Lf:=lsX p.w.C
section
variable (n N:Nat) (P:Nat→Pp)
noncomputable abbrev ukN (n:Nat):Nat:=sizeS ukF (ukAr n)
abbrev ukSl (k j:Nat):List (Nat × SV):=[(0,lpS0 n),(2,.one (.c (.b (.p 2 0)))),(4,.one (.c (.b (.p 3 0)))),(5,.one (nI' (k:Int))),(6,.one (nI' (j:Int)))]
noncomputable abbrev ukC (l:List Lf) (k j:Nat) (ev:List (Ev Tryz.prog)):Cf Tryz.prog:=mkC Tryz.prog (ukN n) 1 (ukSl n k j) [(lpT N P).ob,.dead,.box (ukZ++ukZ++ukZ) A3T,.box l A3T] ev
noncomputable abbrev ukH (r:SV) (β0:Env) (w:World) (c:Cf Tryz.prog):Prop:=HdOk Tryz.prog 1 (ukN n) w.heap.size w β0 (bodyPost Tryz.prog ukF (Said Tryz.prog ukF 1 r [] β0 w)) c (lpAt ukF 0)
variable (r:SV) (β0:Env) (w:World) {j:Nat}
noncomputable def ukE0 (hj:j<n):List (Ev Tryz.prog):=[.eqv 10 (.bool (decide ((j:Int)<(n:Int)))) (.bool true) (by rw [decide_eq_true (by omega)])]
noncomputable def ukEn (j:Nat) {j2:Int} (hj2:IntKind.i64.wrap ((j:Int)+1)=j2) (e2:j2=((j+1:Nat):Int)):List (Ev Tryz.prog):=[.eqv 16 (.int .i64 (IntKind.i64.wrap ((j:Int)+1))) (.int .i64 ((j+1:Nat):Int)) (by rw [hj2,e2]),.cut]
variable (hN:n≤N)
noncomputable def ukIp (hj:j<n):List (Ev Tryz.prog):=[pIx0 P hj hN,pLd P (Nat.lt_of_lt_of_le hj hN)]
theorem uk_0 (hj:j<n) {j2:Int} (hj2:IntKind.i64.wrap ((j:Int)+1)=j2) (e2:j2=((j+1:Nat):Int)) (k:ukH n r β0 w (ukC n N P (ukL (P j)++ukZ++ukZ) 1 (j+1) [])) :
  ukH n r β0 w (ukC n N P (ukZ++ukZ++ukZ) 0 j (ukE0 n hj++ukIp n N P hN hj++ukEn j hj2 e2)) :=
 piece_ok (Ns:=ukNs) (m:=800) [] [0,0,2,3] hmA (by kernel_rfl) (fun β=>ok_of_maps (by kernel_rfl)) k
theorem uk_1y (p:Pp) (hj:j<n) (h:rwB (P j).w.i p.w.i (P j).w.x (P j).w.y p.w.x p.w.y=true) {j2:Int} (hj2:IntKind.i64.wrap ((j:Int)+1)=j2) (e2:j2=((j+1:Nat):Int)) (k:ukH n r β0 w (ukC n N P (ukL p++ukZ++ukZ) 1 (j+1) [])) :
  ukH n r β0 w (ukC n N P (ukL p++ukZ++ukZ) 1 j (ukE0 n hj++ukIp n N P hN hj++[ukEq h]++ukEn j hj2 e2)) :=
 piece_ok (Ns:=ukNs) (m:=800) [] [0,0,2,3] hmA (by kernel_rfl) (fun β=>ok_of_maps (by kernel_rfl)) k
theorem uk_1n (p:Pp) (hj:j<n) (h:rwB (P j).w.i p.w.i (P j).w.x (P j).w.y p.w.x p.w.y=false) {j2:Int} (hj2:IntKind.i64.wrap ((j:Int)+1)=j2) (e2:j2=((j+1:Nat):Int)) (k:ukH n r β0 w (ukC n N P (ukL p++ukL (P j)++ukZ) 2 (j+1) [])) :
  ukH n r β0 w (ukC n N P (ukL p++ukZ++ukZ) 1 j (ukE0 n hj++ukIp n N P hN hj++[ukEq h]++ukIp n N P hN hj++ukEn j hj2 e2)) :=
 piece_ok (Ns:=ukNs) (m:=800) [] [0,0,2,3] hmA (by kernel_rfl) (fun β=>ok_of_maps (by kernel_rfl)) k
theorem uk_2a (p q:Pp) (hj:j<n) (h:rwB (P j).w.i p.w.i (P j).w.x (P j).w.y p.w.x p.w.y=true) {j2:Int} (hj2:IntKind.i64.wrap ((j:Int)+1)=j2) (e2:j2=((j+1:Nat):Int)) (k:ukH n r β0 w (ukC n N P (ukL p++ukL q++ukZ) 2 (j+1) [])) :
  ukH n r β0 w (ukC n N P (ukL p++ukL q++ukZ) 2 j (ukE0 n hj++ukIp n N P hN hj++[ukEq h]++ukEn j hj2 e2)) :=
 piece_ok (Ns:=ukNs) (m:=800) [] [0,0,2,3] hmA (by kernel_rfl) (fun β=>ok_of_maps (by kernel_rfl)) k
theorem uk_2b (p q:Pp) (hj:j<n) (h:rwB (P j).w.i p.w.i (P j).w.x (P j).w.y p.w.x p.w.y=false) (h2:rwB (P j).w.i q.w.i (P j).w.x (P j).w.y q.w.x q.w.y=true) {j2:Int} (hj2:IntKind.i64.wrap ((j:Int)+1)=j2) (e2:j2=((j+1:Nat):Int)) (k:ukH n r β0 w (ukC n N P (ukL p++ukL q++ukZ) 2 (j+1) [])) :
  ukH n r β0 w (ukC n N P (ukL p++ukL q++ukZ) 2 j (ukE0 n hj++ukIp n N P hN hj++[ukEq h]++ukIp n N P hN hj++[ukEq h2]++ukEn j hj2 e2)) :=
 piece_ok (Ns:=ukNs) (m:=800) [] [0,0,2,3] hmA (by kernel_rfl) (fun β=>ok_of_maps (by kernel_rfl)) k
theorem uk_2n (p q:Pp) (hj:j<n) (h:rwB (P j).w.i p.w.i (P j).w.x (P j).w.y p.w.x p.w.y=false) (h2:rwB (P j).w.i q.w.i (P j).w.x (P j).w.y q.w.x q.w.y=false) {j2:Int} (hj2:IntKind.i64.wrap ((j:Int)+1)=j2) (e2:j2=((j+1:Nat):Int)) (k:ukH n r β0 w (ukC n N P (ukL p++ukL q++ukL (P j)) 3 (j+1) [])) :
  ukH n r β0 w (ukC n N P (ukL p++ukL q++ukZ) 2 j (ukE0 n hj++ukIp n N P hN hj++[ukEq h]++ukIp n N P hN hj++[ukEq h2]++ukIp n N P hN hj++ukEn j hj2 e2)) :=
 piece_ok (Ns:=ukNs) (m:=800) [] [0,0,2,3] hmA (by kernel_rfl) (fun β=>ok_of_maps (by kernel_rfl)) k
end
abbrev ukR (l:List Lf) (b:Bool):SV:=.tup [.a l,.c (.b (.v (.bool b)))]
section
variable (n N:Nat) (P:Nat→Pp) (β0:Env) (w:World)
noncomputable def ukLt (j n:Nat) {b:Bool} (h:decide ((j:Int)<(n:Int))=b):List (Ev Tryz.prog):=[.eqv 10 (.bool (decide ((j:Int)<(n:Int)))) (.bool b) (by rw [h])]
theorem uk_z0:ukH 0 (ukR (ukZ++ukZ++ukZ) false) β0 w (ukC 0 N P (ukZ++ukZ++ukZ) 0 0 (ukLt 0 0 (b:=false) (by decide))) :=
 last_ok (Ns:=ukNs) (m:=800) hmA (fun β=>ok_of_maps (by kernel_rfl))
theorem uk_z1 (p:Pp) (h:decide ((n:Int)<(n:Int))=false):ukH n (ukR (ukL p++ukZ++ukZ) false) β0 w (ukC n N P (ukL p++ukZ++ukZ) 1 n (ukLt n n h)) :=
 last_ok (Ns:=ukNs) (m:=800) hmA (fun β=>ok_of_maps (by kernel_rfl))
theorem uk_z2 (p q:Pp) (h:decide ((n:Int)<(n:Int))=false):ukH n (ukR (ukL p++ukL q++ukZ) false) β0 w (ukC n N P (ukL p++ukL q++ukZ) 2 n (ukLt n n h)) :=
 last_ok (Ns:=ukNs) (m:=800) hmA (fun β=>ok_of_maps (by kernel_rfl))
theorem uk_z3 (p q s:Pp) (j:Nat) {b:Bool} (h:decide ((j:Int)<(n:Int))=b):ukH n (ukR (ukL p++ukL q++ukL s) true) β0 w (ukC n N P (ukL p++ukL q++ukL s) 3 j (ukLt j n h)):=by
 cases b
 · exact last_ok (Ns:=ukNs) (m:=800) hmA (fun β=>ok_of_maps (by kernel_rfl))
 · exact last_ok (Ns:=ukNs) (m:=800) hmA (fun β=>ok_of_maps (by kernel_rfl))
end
section
variable (n N:Nat) (P:Nat→Pp) (r:SV) (β0:Env) (w:World) (hN:n≤N) (hn:n≤4096) (hB:∀ i,i<n→(P i).B=true)
include hN hn hB in
theorem uk_run1 {t:Nat} (ht:t≤n) (h0:0<n) (h:∀ i,i<t→spQ P i=spQ P 0) (k:ukH n r β0 w (ukC n N P (ukL (P 0)++ukZ++ukZ) 1 t [])):∀ d j,j+d=t→ukH n r β0 w (ukC n N P (ukL (P 0)++ukZ++ukZ) 1 j [])
 | 0,j,e=>by
  obtain rfl:j=t:=by omega
  exact k
 | d+1,j,e=>cx_hd (uk_1y n N P r β0 w hN (P 0) (by omega) (pw_eq (hB j (by omega)) (hB 0 h0) (h j (by omega))) (j2:=((j+1:Nat):Int)) (by rw [IntKind.wrap_i64]; omega) rfl (uk_run1 ht h0 h k d (j+1) (by omega)))
include hN hn hB in
theorem uk_run2 {a t:Nat} (ht:t≤n) (h0:0<n) (ha:a<n) (h2:∀ i,a<i→i<t→spQ P i=spQ P 0∨spQ P i=spQ P a) (k:ukH n r β0 w (ukC n N P (ukL (P 0)++ukL (P a)++ukZ) 2 t [])):∀ d j,j+d=t→a<j→ukH n r β0 w (ukC n N P (ukL (P 0)++ukL (P a)++ukZ) 2 j [])
 | 0,j,e,_=>by
  obtain rfl:j=t:=by omega
  exact k
 | d+1,j,e,hj=>by
  have next:=uk_run2 ht h0 ha h2 k d (j+1) (by omega) (by omega)
  by_cases e0:spQ P j=spQ P 0
  · exact cx_hd (uk_2a n N P r β0 w hN (P 0) (P a) (by omega) (pw_eq (hB j (by omega)) (hB 0 h0) e0) (j2:=((j+1:Nat):Int)) (by rw [IntKind.wrap_i64]; omega) rfl next)
  · exact cx_hd (uk_2b n N P r β0 w hN (P 0) (P a) (by omega) (pw_ne (hB j (by omega)) (hB 0 h0) e0) (pw_eq (hB j (by omega)) (hB a ha) ((h2 j hj (by omega)).resolve_left e0)) (j2:=((j+1:Nat):Int)) (by rw [IntKind.wrap_i64]; omega) rfl next)
include hN hn hB in
theorem uk_to1 (h0:0<n) {t:Nat} (ht:t≤n) (h1:0<t) (h:∀ i,i<t→spQ P i=spQ P 0) (k:ukH n r β0 w (ukC n N P (ukL (P 0)++ukZ++ukZ) 1 t [])):ukH n r β0 w (ukC n N P (ukZ++ukZ++ukZ) 0 0 []) :=
 cx_hd (uk_0 n N P r β0 w hN h0 (j2:=((0+1:Nat):Int)) (by rw [IntKind.wrap_i64]; omega) rfl (uk_run1 n N P r β0 w hN hn hB ht h0 h k (t-1) 1 (by omega)))
include hN hn hB in
theorem uk_to2 (h0:0<n) {a t:Nat} (ha0:0<a) (ht:t≤n) (ha:a<t) (h:∀ i,i<a→spQ P i=spQ P 0) (h1:spQ P a≠spQ P 0) (h2:∀ i,a<i→i<t→spQ P i=spQ P 0∨spQ P i=spQ P a) (k:ukH n r β0 w (ukC n N P (ukL (P 0)++ukL (P a)++ukZ) 2 t [])):ukH n r β0 w (ukC n N P (ukZ++ukZ++ukZ) 0 0 []) :=
 uk_to1 n N P r β0 w hN hn hB h0 (t:=a) (by omega) ha0 h (cx_hd (uk_1n n N P r β0 w hN (P 0) (by omega) (pw_ne (hB a (by omega)) (hB 0 h0) h1) (j2:=((a+1:Nat):Int)) (by rw [IntKind.wrap_i64]; omega) rfl
  (uk_run2 n N P r β0 w hN hn hB ht h0 (by omega) h2 k (t-(a+1)) (a+1) (by omega) (by omega))))
end
theorem uk_start (n N:Nat) (P:Nat→Pp) (r:SV) (β0:Env) (w:World) (hh:(lpT N P).D w (β0 0)) (k:ukH n r β0 w (ukC n N P (ukZ++ukZ++ukZ) 0 0 [])) :
  Calls Tryz.prog 195 ((ukAr n).map (SV.den β0)).toArray w (Said Tryz.prog ukF 1 r [] β0 w) :=
 sx_cut (P:=Tryz.prog) (ukAr n) [(lpT N P).ob] [.cut] [] ukNs 800 r [] Tryz.func195 hmA (u:=1) (sl:=ukSl n 0 0) (ob:=[(lpT N P).ob,.dead,.box (ukZ++ukZ++ukZ) A3T,.box (ukZ++ukZ++ukZ) A3T]) (σ:=[0,0,1,2]) (p':=lpAt ukF 0) (by kernel_rfl) (fun β=>ok_of_maps (by kernel_rfl)) (by kernel_rfl) (by kernel_rfl) β0 w (fun i o ho=>by
   cases i with
   | zero=>simp only [List.getElem?_cons_zero] at ho; obtain rfl:=Option.some.inj ho; exact hh
   | succ i=>simp at ho) k
noncomputable def sUkY {n N:Nat} (P:Nat→Pp) (hN:n≤N) (hn:n≤4096) (hB:∀ i,i<n→(P i).B=true) {a b:Nat} (h0:0<a) (hab:a<b) (hb:b<n) (h:∀ i,i<a→spQ P i=spQ P 0) (h1:spQ P a≠spQ P 0) (h2:∀ i,a<i→i<b→spQ P i=spQ P 0∨spQ P i=spQ P a) (h3:spQ P b≠spQ P 0) (h4:spQ P b≠spQ P a):Spec Tryz.prog :=
 ⟨195,Tryz.call195,ukAr n,[lpT N P],ukR (ukL (P 0)++ukL (P a)++ukL (P b)) true,[],fun β w hh=>(uk_start n N P _ β w (hh 0 _ rfl) (uk_to2 n N P _ β w hN hn hB (by omega) h0 (Nat.le_of_lt hb) hab h h1 h2
  (cx_hd (uk_2n n N P _ β w hN (P 0) (P a) hb (pw_ne (hB b hb) (hB 0 (by omega)) h3) (pw_ne (hB b hb) (hB a (by omega)) h4) (j2:=((b+1:Nat):Int)) (by rw [IntKind.wrap_i64]; omega) rfl (cx_hd (uk_z3 n N P β w (P 0) (P a) (P b) (b+1) rfl)))))).mono fun e w' h=>cx_said0 h fun β' _=>rfl,by kernel_rfl⟩
def UkNo (n N:Nat) (P:Nat→Pp):Prop:=∃ p q s:R4 × R4 × Bool,∀ (β:Env) (w:World),(∀ (i:Nat) (t:Thing),[lpT N P][i]?=some t→t.D w (β i))→Calls Tryz.prog 195 ((ukAr n).map (SV.den β)).toArray w fun e w'=>∃ xs:List Pl,freshS β w 1 xs∧e=.returned ((ukR ((.b (.v (.bool p.2.2))::(rL p.1++rL p.2.1))++(.b (.v (.bool q.2.2))::(rL q.1++rL q.2.1))++(.b (.v (.bool s.2.2))::(rL s.1++rL s.2.1))) false).den (extE β 1 xs))∧newHold w' [] xs∧Below w.heap.size w w'
theorem uk_no {n N:Nat} (P:Nat→Pp) (hN:n≤N) (hn:n≤4096) (hB:∀ i,i<n→(P i).B=true) (h:n=0∨(∀ i,i<n→spQ P i=spQ P 0)∨∃ a,0<a∧a<n∧(∀ i,i<a→spQ P i=spQ P 0)∧spQ P a≠spQ P 0∧∀ i,a<i→i<n→spQ P i=spQ P 0∨spQ P i=spQ P a):UkNo n N P:=by
 have hlt:decide ((n:Int)<(n:Int))=false:=decide_eq_false (by omega)
 rcases Nat.eq_zero_or_pos n with rfl | hp
 · exact ⟨(r40,r40,false),(r40,r40,false),(r40,r40,false),fun β w hh=>(uk_start 0 N P _ β w (hh 0 _ rfl) (cx_hd (uk_z0 N P β w))).mono fun e w' h=>cx_said0 h fun β' _=>rfl⟩
 · rcases h with h | h | ⟨a,h0,ha,h,h1,h2⟩
   · omega
   · exact ⟨((P 0).w.x,(P 0).w.y,(P 0).w.i),(r40,r40,false),(r40,r40,false),fun β w hh=>(uk_start n N P _ β w (hh 0 _ rfl) (uk_to1 n N P _ β w hN hn hB hp (Nat.le_refl n) hp h (cx_hd (uk_z1 n N P β w (P 0) hlt)))).mono fun e w' h=>cx_said0 h fun β' _=>rfl⟩
   · exact ⟨((P 0).w.x,(P 0).w.y,(P 0).w.i),((P a).w.x,(P a).w.y,(P a).w.i),(r40,r40,false),fun β w hh=>(uk_start n N P _ β w (hh 0 _ rfl) (uk_to2 n N P _ β w hN hn hB hp h0 (Nat.le_refl n) ha h h1 h2 (cx_hd (uk_z2 n N P β w (P 0) (P a) hlt)))).mono fun e w' h=>cx_said0 h fun β' _=>rfl⟩
noncomputable def sRValF {r:RQ} (hF:FitC r) {z:GQ} (hz:FitG z):Spec Tryz.prog :=
 (Spec.auto Tryz.call76 [.one (.a (cC r)),gS z] [] (.one (.a (fC ((r.a*gnorm z+((gmul r.b z).re+(gmul r.b z).re))+r.c)))) []
  [(sR4Norm (hz.gsz.mono (by decide))).e,(sR3Times ((fitC_1024 hF).a.mono (by decide)) (hz.gsz.norm.mono (by decide))).e,(sR4Times ((fitC_1024 hF).b.mono (by decide)) (hz.gsz.mono (by decide))).e,(sCTwice (((fitC_1024 hF).b.mul hz.gsz).1.mono (by decide))).e,(sR3Plus (((fitC_1024 hF).a.mul hz.gsz.norm).mono (by decide)) ((((fitC_1024 hF).b.mul hz.gsz).1.add ((fitC_1024 hF).b.mul hz.gsz).1).mono (by decide))).e,
   (sR3Plus ((((fitC_1024 hF).a.mul hz.gsz.norm).add (((fitC_1024 hF).b.mul hz.gsz).1.add ((fitC_1024 hF).b.mul hz.gsz).1)).mono (by decide)) ((fitC_1024 hF).c.mono (by decide))).e] [(1,13)] 800 Tryz.func76 hmA (by kernel_rfl) (fun β=>by kernel_rfl)).conv (.one (.a (fC (valQ r z)))) (by
  show SV.one (.a (fC ((r.a*gnorm z+((gmul r.b z).re+(gmul r.b z).re))+r.c)))=_
  rw [tl_val])
noncomputable def sRSideF {r:RQ} (hF:FitC r) {p:Pt} (hp:FitP p):Spec Tryz.prog :=
 ⟨70,Tryz.call70,[.one (.a (cC r)),svP p],[],.one (nI' (sidQ r p).num.sign),[],fun β w hh=>by
  cases p with
  | inf=>exact spec_auto (evs:=[(sR3Sign (x:=r.a) rfl).e]) (Ns:=[]) (m:=800) Tryz.func70 hmA (fun β=>by kernel_rfl) (by kernel_rfl) β w hh
  | fin z=>exact spec_auto (evs:=[(sRValF hF hp).e,(sR3Sign (x:=valQ r z) rfl).e]) (Ns:=[]) (m:=800) Tryz.func70 hmA (fun β=>by kernel_rfl) (by kernel_rfl) β w hh,by kernel_rfl⟩
noncomputable def tgrSide {r:RQ} (hF:FitC r) {q:Pp} (hq:q.B=true):Spec Tryz.prog:=(sRSideF hF (plQ_ok hq).1).as [.one (.a (cC r)),.one (.a (lsX q.w.C))] (.one (nI' (sidQ r (plQ q)).num.sign)) (by
 show [SV.one (.a (cC r)),svP (plQ q)]=_
 rw [show svP (plQ q)=SV.one (.a (lsX (plQ q).w.C)) from rfl,(plQ_ok hq).2]) rfl
noncomputable def tgrThr {p q s:Pp} (hp:p.B=true) (hq:q.B=true) (hs:s.B=true) (h1:plQ p≠plQ q) (h2:plQ q≠plQ s) (h3:plQ p≠plQ s):Spec Tryz.prog :=
 (sCThrough (plQ_ok hp).1 (plQ_ok hq).1 (plQ_ok hs).1 (ptB_ne' h1) (ptB_ne' h2) (ptB_ne' h3) (by rw [thrR_eq]; exact thr_ne h1 h2 h3)).as [.one (.a (ukL p)),.one (.a (ukL q)),.one (.a (ukL s))] (.tup [.a (cC (rone (thrQ (plQ p) (plQ q) (plQ s)))),nI' 0]) (by
  show [svP (plQ p),svP (plQ q),svP (plQ s)]=_
  show _=[SV.one (.a (lsX p.w.C)),SV.one (.a (lsX q.w.C)),SV.one (.a (lsX s.w.C))]
  rw [show svP (plQ p)=SV.one (.a (lsX (plQ p).w.C)) from rfl,show svP (plQ q)=SV.one (.a (lsX (plQ q).w.C)) from rfl,show svP (plQ s)=SV.one (.a (lsX (plQ s).w.C)) from rfl,(plQ_ok hp).2,(plQ_ok hq).2,(plQ_ok hs).2]) rfl
noncomputable abbrev tgrF:Func:=Tryz.f59
abbrev tgrNs:List (Nat × Nat):=[(10,7)]
section
variable (n N:Nat) (P:Nat→Pp) (m:RQ)
noncomputable abbrev tgrN (n:Nat):Nat:=sizeS tgrF (ukAr n)
abbrev tgrSl (j:Nat):List (Nat × SV):=[(0,lpS0 n),(2,.one (.c (.b (.p 2 0)))),(7,.one (.c (.b (.p 3 0)))),(9,.one (nI' (j:Int)))]
noncomputable abbrev tgrC (j:Nat) (ev:List (Ev Tryz.prog)):Cf Tryz.prog:=mkC Tryz.prog (tgrN n) 1 (tgrSl n j) [(lpT N P).ob,.dead,.box c0C TCi,.box (cC m) TCi] ev
noncomputable abbrev tgrH (r:SV) (β0:Env) (w:World) (c:Cf Tryz.prog):Prop:=HdOk Tryz.prog 1 (tgrN n) w.heap.size w β0 (bodyPost Tryz.prog tgrF (Said Tryz.prog tgrF 1 r [] β0 w)) c (lpAt tgrF 0)
variable (r:SV) (β0:Env) (w:World) {j:Nat} (hN:n≤N) (hF:FitC m)
noncomputable def tgrE (hj:j<n) (h:(P j).B=true) {b:Bool} (hs:onB m (spQ P j)=b):List (Ev Tryz.prog):=[.eqv 35 (.bool (decide ((j:Int)<(n:Int)))) (.bool true) (by rw [decide_eq_true (by omega)]),pIx0 P hj hN,pLd P (Nat.lt_of_lt_of_le hj hN),(tgrSide hF h).e,.eqv 44 (.bool (!((sidQ m (plQ (P j))).num.sign==0))) (.bool b) (sgn_ne hs)]
theorem tgr_step (hj:j<n) (h:(P j).B=true) (hs:onB m (spQ P j)=false) {j2:Int} (hj2:IntKind.i64.wrap ((j:Int)+1)=j2) (e2:j2=((j+1:Nat):Int)) (k:tgrH n r β0 w (tgrC n N P m (j+1) [])) :
  tgrH n r β0 w (tgrC n N P m j (tgrE n N P m hN hF hj h hs++[.eqv 37 (.int .i64 (IntKind.i64.wrap ((j:Int)+1))) (.int .i64 ((j+1:Nat):Int)) (by rw [hj2,e2]),.cut])) :=
 piece_ok (Ns:=tgrNs) (m:=800) [] [0,0,2,3] hmA (by kernel_rfl) (fun β=>ok_of_maps (by kernel_rfl)) k
theorem tgr_off (hj:j<n) (h:(P j).B=true) (hs:onB m (spQ P j)=true):tgrH n (tgR c0C false 0) β0 w (tgrC n N P m j (tgrE n N P m hN hF hj h hs)) :=
 last_ok (Ns:=tgrNs) (m:=800) hmA (fun β=>ok_of_maps (by kernel_rfl))
theorem tgr_end:tgrH n (tgR (cC m) true 0) β0 w (tgrC n N P m n [.eqv 35 (.bool (decide ((n:Int)<(n:Int)))) (.bool false) (by rw [decide_eq_false (by omega)])]) :=
 last_ok (Ns:=tgrNs) (m:=800) hmA (fun β=>ok_of_maps (by kernel_rfl))
include hN hF in
theorem tgr_run (hn:n≤4096) (hB:∀ i,i<n→(P i).B=true) {t:Nat} (ht:t≤n) (hs:∀ i,i<t→onB m (spQ P i)=false) (k:tgrH n r β0 w (tgrC n N P m t [])):∀ d j,j+d=t→tgrH n r β0 w (tgrC n N P m j [])
 | 0,j,e=>by
  obtain rfl:j=t:=by omega
  exact k
 | d+1,j,e=>cx_hd (tgr_step n N P m r β0 w hN hF (by omega) (hB j (by omega)) (hs j (by omega)) (j2:=((j+1:Nat):Int)) (by rw [IntKind.wrap_i64]; omega) rfl (tgr_run hn hB ht hs k d (j+1) (by omega)))
end
def RtIs (n N:Nat) (P:Nat→Pp) (a b b' c:R4) (ok:Bool) (k:Int):Prop:=∀ (β:Env) (w:World),(∀ (i:Nat) (t:Thing),[lpT N P][i]?=some t→t.D w (β i))→Calls Tryz.prog 59 ((ukAr n).map (SV.den β)).toArray w fun e w'=>∃ xs:List Pl,freshS β w 1 xs∧e=.returned ((tgR (tg4 a b b' c) ok k).den (extE β 1 xs))∧newHold w' [] xs∧Below w.heap.size w w'
def tgrS {n N:Nat} {P:Nat→Pp} {a b b' c:R4} {ok:Bool} {k:Int} (h:RtIs n N P a b b' c ok k):Spec Tryz.prog:=⟨59,Tryz.call59,ukAr n,[lpT N P],tgR (tg4 a b b' c) ok k,[],h,by kernel_rfl⟩
theorem Spec.rt (S:Spec Tryz.prog) {n N:Nat} {P:Nat→Pp} {a b b' c:R4} {ok:Bool} {k:Int} (hf:S.f=59) (ha:S.args=ukAr n) (ho:S.obs=[lpT N P]) (hr:S.res=tgR (tg4 a b b' c) ok k) (hw:S.news=[]):RtIs n N P a b b' c ok k:=by
 obtain ⟨f,en,args,obs,res,news,h,oa⟩:=S
 subst hf ha ho hr hw
 exact h
abbrev ukPt (p:R4 × R4 × Bool):List Lf:=.b (.v (.bool p.2.2))::(rL p.1++rL p.2.1)
def ukNoS {n N:Nat} {P:Nat→Pp} {p q s:R4 × R4 × Bool} (h:∀ (β:Env) (w:World),(∀ (i:Nat) (t:Thing),[lpT N P][i]?=some t→t.D w (β i))→Calls Tryz.prog 195 ((ukAr n).map (SV.den β)).toArray w fun e w'=>∃ xs:List Pl,freshS β w 1 xs∧e=.returned ((ukR (ukPt p++ukPt q++ukPt s) false).den (extE β 1 xs))∧newHold w' [] xs∧Below w.heap.size w w'):Spec Tryz.prog :=
 ⟨195,Tryz.call195,ukAr n,[lpT N P],ukR (ukPt p++ukPt q++ukPt s) false,[],h,by kernel_rfl⟩
section
variable {n N:Nat} (P:Nat→Pp) (hN:n≤N) (hn:n≤4096) (hB:∀ i,i<n→(P i).B=true)
theorem tgr_none (h:UkNo n N P):RtIs n N P r40 r40 r40 r40 false 7:=by
 obtain ⟨p,q,s,h⟩:=h
 exact (Spec.auto Tryz.call59 (ukAr n) [lpT N P] (tgR c0C false 7) [] [(ukNoS h).e] tgrNs 800 Tryz.func59 hmA (by kernel_rfl) (fun β=>by kernel_rfl)).rt rfl rfl rfl rfl rfl
variable {a b:Nat} (h0:0<a) (hab:a<b) (hb:b<n) (h:∀ i,i<a→spQ P i=spQ P 0) (h1:spQ P a≠spQ P 0) (h2:∀ i,a<i→i<b→spQ P i=spQ P 0∨spQ P i=spQ P a) (h3:spQ P b≠spQ P 0) (h4:spQ P b≠spQ P a)
noncomputable def tgrE0 {t:Bool} (hF:t=true↔FitC (rone (thrQ (spQ P 0) (spQ P a) (spQ P b)))):List (Ev Tryz.prog) :=
 [(sUkY P hN hn hB h0 hab hb h h1 h2 h3 h4).e,(tgrThr (hB 0 (by omega)) (hB a (by omega)) (hB b hb) (Ne.symm h1) (Ne.symm h4) (Ne.symm h3)).e,(sCFits (rone (thrQ (spQ P 0) (spQ P a) (spQ P b))) hF).e]
include hN hn hB h0 hab hb h h1 h2 h3 h4 in
theorem tgr_big (hF:¬ FitC (rone (thrQ (spQ P 0) (spQ P a) (spQ P b)))):RtIs n N P r40 r40 r40 r40 false 4 :=
 (Spec.auto Tryz.call59 (ukAr n) [lpT N P] (tgR c0C false 4) [] (tgrE0 P hN hn hB h0 hab hb h h1 h2 h3 h4 (t:=false) (iff_false_of hF)) tgrNs 800 Tryz.func59 hmA (by kernel_rfl) (fun β=>by kernel_rfl)).rt rfl rfl rfl rfl rfl
include hN hn hB h0 hab hb h h1 h2 h3 h4 in
theorem tgr_start (r:SV) (β0:Env) (w:World) (hF:FitC (rone (thrQ (spQ P 0) (spQ P a) (spQ P b)))) (hh:(lpT N P).D w (β0 0)) (k:tgrH n r β0 w (tgrC n N P (rone (thrQ (spQ P 0) (spQ P a) (spQ P b))) 0 [])) :
  Calls Tryz.prog 59 ((ukAr n).map (SV.den β0)).toArray w (Said Tryz.prog tgrF 1 r [] β0 w) :=
 sx_cut (P:=Tryz.prog) (ukAr n) [(lpT N P).ob] (tgrE0 P hN hn hB h0 hab hb h h1 h2 h3 h4 (t:=true) (iff_true_of hF)++[.cut]) [] tgrNs 800 r [] Tryz.func59 hmA (u:=1) (sl:=tgrSl n 0) (ob:=[(lpT N P).ob,.dead,.box c0C TCi,.box (cC (rone (thrQ (spQ P 0) (spQ P a) (spQ P b)))) TCi]) (σ:=[0,0,1,3]) (p':=lpAt tgrF 0) (by kernel_rfl) (fun β=>ok_of_maps (by kernel_rfl)) (by kernel_rfl) (by kernel_rfl) β0 w (fun i o ho=>by
   cases i with
   | zero=>simp only [List.getElem?_cons_zero] at ho; obtain rfl:=Option.some.inj ho; exact hh
   | succ i=>simp at ho) k
end
theorem tgr_is {n N:Nat} {P:Nat→Pp} (hN:n≤N) (hn:n≤4096) (hB:∀ i,i<n→(P i).B=true) {a b b' c:R4} {ok:Bool} {k:Int} (ht:TgTold (spQ P) n a b b' c ok k):RtIs n N P a b b' c ok k:=by
 cases ht with
 | none h=>exact tgr_none P (uk_no P hN hn hB h)
 | big a b h0 hab hb h h1 h2 h3 h4 hF=>exact tgr_big P hN hn hB h0 hab hb h h1 h2 h3 h4 hF
 | yes a b h0 hab hb h h1 h2 h3 h4 hF hs =>
  exact fun β w hh=>(tgr_start P hN hn hB h0 hab hb h h1 h2 h3 h4 _ β w hF (hh 0 _ rfl) (tgr_run n N P _ _ β w hN hF hn hB (Nat.le_refl n) hs (cx_hd (tgr_end n N P _ β w)) n 0 (by omega))).mono fun e w' h=>cx_said0 h fun β' _=>rfl
 | off a b h0 hab hb h h1 h2 h3 h4 hF i hi hs hs2 =>
  exact fun β w hh=>(tgr_start P hN hn hB h0 hab hb h h1 h2 h3 h4 _ β w hF (hh 0 _ rfl) (tgr_run n N P _ _ β w hN hF hn hB (Nat.le_of_lt hi) hs2 (cx_hd (tgr_off n N P _ β w hN hF hi (hB i hi) hs)) i 0 (by omega))).mono fun e w' h=>cx_said0 h fun β' _=>rfl
theorem tl77_ne:¬ (fR (gint 7 7).re=⟨false,⟨#[]⟩,false,⟨#[]⟩⟩∧fR (gint 7 7).im=⟨false,⟨#[]⟩,false,⟨#[]⟩⟩):=fun h=>by
 have h1:=congrArg R4.t h.1
 exact absurd h1 (by decide +kernel)
def tl77:Pp:=.odd (fR (gint 7 7).re) (fR (gint 7 7).im) tl77_ne
theorem tl_rself (r:Rw):((r.i==r.i)&&((r.x.eq r.x&&(r.y.eq r.y&&true))&&true))=true:=rwB_iff.2 ⟨rfl,rfl,rfl⟩
def tlEq (r:Rw):Ev Tryz.prog:=eqEvP r.i r.i r.x r.y r.x r.y true (tl_rself r)
def sTlMay (p:Pp) {b:Bool} (h:p.B=b):Spec Tryz.prog :=
 Spec.auto Tryz.call57 [.one (.a (lsX p.w.C))] [] (tB' b) [] [(sR7May p h).e] [] 400 Tryz.func57 hmA (by kernel_rfl) (fun β=>by kernel_rfl)
structure Tg where
 i:Bool
 x:R4
 y:R4
 k1:Int
 s:R4
 k2:Int
 q:R4
 k3:Int
 v:R4
 k4:Int
theorem tl_hL {n:Nat} {P:Nat→Pp} (hP:P n=tl77):lsP P n=lsX tl77.w.C:=by
 show lsX (P n).w.C=_
 rw [hP]
end Go.Proofs.YtbepimnlleilfaaGreat.Y
end
