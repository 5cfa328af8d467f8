/- LsR, LsF, CxB, LsK, PlK, LsB, LsO, LsQ, PlS, PlR, OnL, TlA, TlB, TlC, TlL. -/
import Derived.Deep.Upon
import Derived.Test.YtbepimnlleilfaaGreatQk12
set_option linter.unnecessarySimpa false
set_option linter.unusedVariables false
set_option linter.unusedSimpArgs false
section
namespace Go.Proofs.YtbepimnlleilfaaGreat.Y
open Go Go.RowKit
set_option maxRecDepth 100000
theorem app_core {P:Program} (A:AppT P) (w:World) (ty:TypeId) {n m:Nat} {xs news:List Value} (old:Option (Nat × Nat)) (v:Value)
  (hold:(old=none∧n=0∧xs=[]∧v=.slice none 0 0)∨∃ b c,old=some (b,c)∧v=.slice (some ⟨b,0,none⟩) n c∧w.ownsRow 0 A.e A.sz v n xs)
  (ad:Addr) (cc:Nat) (hl:news.length=m*A.sz) (hnews:∀ j u,news[j]?=some u→w.cell? (ad.add j)=some u) (h1:∀ u∈news,u.oneCell'=true) (hm:0<m) (h63:n+m≤maxLen) (hb:(n+m)*A.bytes≤140737488355328) :
  ∃ g cap w',(Builtin.append_ #[A.t,A.t] ty #[v,.slice (some ad) m cc]).run P w=.ok (.slice (some ⟨g,0,none⟩) (n+m) cap) w'∧w'.ownsRow 0 A.e A.sz (.slice (some ⟨g,0,none⟩) (n+m) cap) (n+m) (xs++news) ∧
   ((w.heap.size≤g∧Below w.heap.size w w')∨∃ c,old=some (g,c)∧∃ N,Slot w g 0 N∧Touch w w' g 0 N):=by
 have hsmall:n+m≤9223372036854775807:=by simp only [maxLen] at h63; omega
 have grown:∀ (o:Nat),o<n+m→xs.length=n*A.sz →
   (w.drew.alloc (.cells (xs.toArray++news.toArray++Builtin.zeroCells A.z.cells (grownCap w (n+m) o A.e-(n+m))) A.e)).ownsRow 0 A.e A.sz
    (.slice (some ⟨w.heap.size,0,none⟩) (n+m) (grownCap w (n+m) o A.e)) (n+m) (xs++news) ∧
   Below w.heap.size w (w.drew.alloc (.cells (xs.toArray++news.toArray++Builtin.zeroCells A.z.cells (grownCap w (n+m) o A.e-(n+m))) A.e)):=by
  intro o ho hx
  have hge:=grownCap_ge w (n+m) o A.e
  have hcm:grownCap w (n+m) o A.e≤maxLen:=grownCap_le_maxLen w (n+m) o A.e h63
  have hlen:(xs++news).length=(n+m)*A.sz:=by rw [List.length_append,hx,hl,Nat.add_mul]
  refine ⟨⟨hlen,.inr ⟨w.heap.size,_,_,rfl,Nat.zero_le _,heap_alloc_new w.drew _,hge,hcm,?_,?_⟩⟩,⟨rfl,rfl,rfl,by simp,fun k hk=>Below.heap_alloc w.drew _ k hk⟩⟩
  · simp only [Array.size_append,List.size_toArray,size_zeroCells,A.hzs,hx,hl,← Nat.add_mul]
    congr 1
    omega
  · simp only [Array.toList_append,List.append_assoc]
    rw [← List.append_assoc,← hlen]
    exact List.take_left
 rcases hold with ⟨rfl,rfl,rfl,rfl⟩ | ⟨b,c,rfl,rfl,hown⟩
 · obtain ⟨g1,g2⟩:=grown 0 (by omega) (by simp)
   refine ⟨w.heap.size,grownCap w (0+m) 0 A.e,_,?_,g1,.inl ⟨Nat.le_refl _,g2⟩⟩
   have:=run_append_nil (P:=P) w A.t ty A.e A.i A.z A.ht A.hi A.hz ad m cc news (by rw [A.hsize]; exact hl) hnews hm (by omega) (by rw [A.hby]; rw [Nat.zero_add] at hb; omega)
   simpa using this
 · have hown2:=hown
   obtain ⟨hxl,h2⟩:=hown
   rcases h2 with ⟨e,_⟩ | ⟨g,cap,cur,e,_,hh,hnc,hcm,hcs,ht⟩
   · cases e
   injection e with e1 e2 e3
   injection e1 with e1
   injection e1 with e1
   subst e1 e3
   by_cases hroom:n+m≤c
   · have hfit:n*A.i.size+news.length≤cur.size:=by rw [hl,hcs,A.hsize,← Nat.add_mul]; exact Nat.mul_le_mul_right _ hroom
     have hr:=run_append_room (P:=P) w A.t ty A.e A.i A.ht A.hi b n c cur hh ad m cc news (by rw [A.hsize]; exact hl) hnews h1 hroom hfit
     have hsize:(cur.toList.take (n*A.i.size)++news++cur.toList.drop (n*A.i.size+news.length)).toArray.size=cur.size:=by
      simp only [List.size_toArray,List.length_append,List.length_take,List.length_drop,Array.length_toList]
      omega
     refine ⟨b,c,_,hr,⟨by rw [List.length_append,hxl,hl,Nat.add_mul],.inr ⟨b,c,_,rfl,Nat.zero_le _,setRow_heap w b cur _ A.e _ hh,hroom,hcm,by rw [hsize]; exact hcs,?_⟩⟩,.inr ⟨c,rfl,cur.size,⟨cur,A.e,hh,A.he,by omega⟩,?_⟩⟩
     · rw [A.hsize,ht]
       have hlen:(xs++news).length=(n+m)*A.sz:=by rw [List.length_append,hxl,hl,Nat.add_mul]
       rw [← hlen]
       exact List.take_left
     · exact ⟨rfl,rfl,rfl,by simp,fun k hk hne=>setRow_other w _ k _ hne,fun cs2 t2 fr2 h2=>by
        rw [hh] at h2
        obtain ⟨rfl,rfl,rfl⟩:=Obj.cells.inj (Option.some.inj h2)
        refine ⟨_,setRow_heap w _ _ _ _ _ hh,hsize,fun j hj=>?_⟩
        have hj2:cur.size≤j:=by omega
        rw [Array.getElem?_eq_none (by rw [hsize]; exact hj2),Array.getElem?_eq_none hj2]⟩
   · obtain ⟨g1,g2⟩:=grown c (by omega) hxl
     refine ⟨w.heap.size,grownCap w (n+m) c A.e,_,?_,g1,.inl ⟨Nat.le_refl _,g2⟩⟩
     exact run_append_grow (P:=P) w A.t ty A.e A.i A.z A.ht A.hi A.hz ⟨b,0,none⟩ n c xs (by rw [A.hsize]; exact hxl) (fun j u hu=>by
      have hj:j<n*A.sz:=by have:=(List.getElem?_eq_some_iff.1 hu).1; omega
      have:=hown2.cellAt j hj
      rw [Addr.add_mid,Nat.zero_add,this]
      exact hu) ad m cc news (by rw [A.hsize]; exact hl) hnews (by omega) (by omega) (growslice_fits (by omega) (by rw [A.hby]; exact hb))
def rwCs (L:Nat→List Lf) (n:Nat):List Value:=(List.range n).flatMap fun j=>(L j).map (Lf.den idE)
theorem rwCs_succ (L:Nat→List Lf) (n:Nat):rwCs L (n+1)=rwCs L n++(L n).map (Lf.den idE):=by
 unfold rwCs
 rw [List.range_succ,List.flatMap_append,List.flatMap_cons,List.flatMap_nil,List.append_nil]
theorem rwCs_len {sz:Nat} {L:Nat→List Lf}:∀ n,(∀ j,j<n→(L j).length=sz)→(rwCs L n).length=n*sz
 | 0,_=>by simp [rwCs]
 | n+1,h=>by rw [rwCs_succ,List.length_append,rwCs_len n fun j hj=>h j (by omega),List.length_map,h n (by omega),Nat.add_mul,Nat.one_mul]
theorem rwCs_get {sz:Nat} {L:Nat→List Lf} {i e:Nat} {v:Value} (hv:((L i).map (Lf.den idE))[e]?=some v):∀ n,(∀ j,j<n→(L j).length=sz)→i<n→(rwCs L n)[i*sz+e]?=some v
 | 0,_,h=>absurd h (Nat.not_lt_zero i)
 | n+1,hs,h=>by
  have he:e<(L i).length:=by have:=(List.getElem?_eq_some_iff.1 hv).1; rwa [List.length_map] at this
  have hl:(rwCs L n).length=n*sz:=rwCs_len n fun j hj=>hs j (by omega)
  rw [rwCs_succ]
  rcases Nat.lt_succ_iff_lt_or_eq.1 h with h1 | rfl
  · have:i*sz+sz≤n*sz:=by rw [← Nat.succ_mul]; exact Nat.mul_le_mul_right _ h1
    rw [List.getElem?_append_left (by rw [hl]; have:=hs i (by omega); omega)]
    exact rwCs_get hv n (fun j hj=>hs j (by omega)) h1
  · rw [List.getElem?_append_right (by rw [hl]; omega),hl,show i*sz+e-i*sz=e by omega]
    exact hv
theorem rwCs_at {sz:Nat} {L:Nat→List Lf} {k:Nat} {v:Value}:∀ n,(∀ j,j<n→(L j).length=sz)→(rwCs L n)[k]?=some v→∃ i e,i<n∧k=i*sz+e∧((L i).map (Lf.den idE))[e]?=some v
 | 0,_,h=>by simp [rwCs] at h
 | n+1,hs,h=>by
  have hl:(rwCs L n).length=n*sz:=rwCs_len n fun j hj=>hs j (by omega)
  rw [rwCs_succ] at h
  by_cases hk:k<n*sz
  · rw [List.getElem?_append_left (by omega)] at h
    obtain ⟨i,e,h1,h2,h3⟩:=rwCs_at n (fun j hj=>hs j (by omega)) h
    exact ⟨i,e,by omega,h2,h3⟩
  · rw [List.getElem?_append_right (by omega),hl] at h
    exact ⟨n,k-n*sz,by omega,by omega,h⟩
theorem rwCs_add (L:Nat→List Lf) (n:Nat):∀ m,rwCs L (n+m)=rwCs L n++rwCs (fun j=>L (n+j)) m
 | 0=>by simp [rwCs]
 | m+1=>by rw [← Nat.add_assoc,rwCs_succ,rwCs_succ,rwCs_add L n m,List.append_assoc]
def OrD (sz:Nat) (e:TypeId) (n:Nat) (L:Nat→List Lf) (w:World) (g:Pl):Prop :=
 (∀ c,g.F c↔c=g.b)∧(∀ m,g.v m=some ⟨g.b,m,none⟩)∧(0<n∧∀ j,j<n→(L j).length=sz)∧w.ownsRow 0 e sz (.slice (some ⟨g.b,0,none⟩) n (g.c 0)) n (rwCs L n)
theorem OrD.cells {sz:Nat} {e:TypeId} {n:Nat} {L:Nat→List Lf} {w:World} {g:Pl} (h:OrD sz e n L w g):∃ cur,w.heap[g.b]?=some (.cells cur e (0,0))∧n≤g.c 0∧g.c 0≤maxLen∧cur.size=g.c 0*sz∧cur.toList.take (n*sz)=rwCs L n:=by
 rcases h.2.2.2.2 with ⟨e1,_⟩ | ⟨g',cap,cur,e1,_,hh,h1,h2,h3,h4⟩
 · cases e1
 · injection e1 with e1 e2 e3
   injection e1 with e1
   injection e1 with e1
   subst e1 e3
   exact ⟨cur,hh,h1,h2,h3,h4⟩
theorem OrD.heap {sz:Nat} {e:TypeId} {n:Nat} {L:Nat→List Lf} {w w':World} {g:Pl} (h:OrD sz e n L w g) (k:w'.heap[g.b]?=w.heap[g.b]?):OrD sz e n L w' g:=by
 obtain ⟨cur,hh,h1,h2,h3,h4⟩:=h.cells
 exact ⟨h.1,h.2.1,h.2.2.1,h.2.2.2.1,.inr ⟨g.b,g.c 0,cur,rfl,Nat.zero_le _,by rw [k]; exact hh,h1,h2,h3,h4⟩⟩
theorem lr_stable (sz:Nat) (e:TypeId) (n:Nat) (L:Nat→List Lf):Stable (OrD sz e n L) :=
 ⟨fun w g h c hc=>by rw [(h.1 c).1 hc]; obtain ⟨cur,hh,_⟩:=h.cells; exact heap_some_lt hh,
  fun w w' g h k=>h.heap (k.block _ (by obtain ⟨cur,hh,_⟩:=h.cells; exact heap_some_lt hh)),
  fun w w' g b o m s h hs ht hF=>h.heap (ht.block _ (by obtain ⟨cur,hh,_⟩:=h.cells; exact heap_some_lt hh) fun e=>hF ((h.1 b).2 e.symm))⟩
theorem OrD.rw {sz:Nat} {e:TypeId} {n:Nat} {L:Nat→List Lf} (w:World) (g:Pl) (h:OrD sz e n L w g):RwD sz n L w g:=by
 obtain ⟨cur,hh,h1,h2,h3,h4⟩:=h.cells
 refine .inr ⟨h.2.2.1.1,g.b,0,cur,e,(0,0),fun m=>by rw [h.2.1,Nat.zero_add],h.1,hh,fun j hj i v hv=>?_⟩
 rw [cell_of_row _ _ _ _ _ _ hh,Nat.zero_add]
 have hi:i<(L j).length:=by have:=(List.getElem?_eq_some_iff.1 hv).1; rwa [List.length_map] at this
 have h5:=rwCs_get hv n h.2.2.1.2 hj
 have hlt:j*sz+i<n*sz:=by
  have:j*sz+sz≤n*sz:=by rw [← Nat.succ_mul]; exact Nat.mul_le_mul_right _ hj
  have:=h.2.2.1.2 j hj
  omega
 rw [← h4,List.getElem?_take_of_lt hlt] at h5
 rw [← Array.getElem?_toList]
 exact h5
def orT (sz:Nat) (e:TypeId) (n:Nat) (L:Nat→List Lf):Thing :=
 ⟨OrD sz e n L,lr_stable sz e n L,1,RwD sz n L,lsRw_stable sz n L,OrD.rw,false,fun h=>(Bool.noConfusion h),false,fun h=>(Bool.noConfusion h),false,fun h=>(Bool.noConfusion h),false,fun h=>(Bool.noConfusion h)⟩
def orO (sz:Nat) (e:TypeId) (n:Nat) (L:Nat→List Lf):Ob:=.ow (orT sz e n L) e
inductive OrB (β:Env) (sz:Nat) (e:TypeId) (n0:Nat) (L:Nat→List Lf):Option (Nat × Ob)→Value→Prop where
 | nil (h:n0=0):OrB β sz e n0 L none (.slice none 0 0)
 | row (K:Nat) (h:n0=0):OrB β sz e n0 L (some (K,.row [] e 0 sz)) (.slice (some ⟨(β K).b,0,none⟩) 0 ((β K).c 0))
 | own (K:Nat):OrB β sz e n0 L (some (K,orO sz e n0 L)) (.slice ((β K).v 0) n0 ((β K).c 0))
structure OrL (A:AppT Tryz.prog) (L:Nat→List Lf) (n:Nat):Prop where
 len:∀ j,j<n→(L j).length=A.sz
 one:∀ j,j<n→∀ u∈(L j).map (Lf.den idE),u.oneCell'=true
 max:n≤maxLen
 bytes:n*A.bytes≤140737488355328
theorem or_core (A:AppT Tryz.prog) {L:Nat→List Lf} {n0 m:Nat} (h:OrL A L (n0+m)) (hm:0<m) {β:Env} {w:World} {old:Option (Nat × Ob)} {v:Value} (hold:oldHolds β w old) (hk:OrB β A.sz A.e n0 L old v) (b of cc M:Nat)
  (hnews:∀ i,i<m→w.rangeAt b (of+i*A.sz) ((L (n0+i)).map (Lf.den idE))) (s y:Operand) (ρ:Operand→Value) (o:Oper) (ho:o.op=.call ⟨.builtin .append,#[s,y],#[A.t,A.t]⟩) (h1:ρ s=v) (h2:ρ y=.slice (some ⟨b,of,none⟩) m cc) :
  ∃ (g:Pl) (w':World),(execOp ρ o).run Tryz.prog w=.ok (.value ((SV.one (.c (.b (.y M 0 (n0+m))))).den (extE β M [g]))) w'∧(orO A.sz A.e (n0+m) L).holds (extE β M [g]) w' g∧Grow β w w' old g∧(∀ c,g.F c→c=g.b):=by
 have hnl:(rwCs (fun j=>L (n0+j)) m).length=m*A.sz:=rwCs_len m fun j hj=>h.len _ (by omega)
 have hnc:∀ j u,(rwCs (fun j=>L (n0+j)) m)[j]?=some u→w.cell? ((⟨b,of,none⟩:Addr).add j)=some u:=fun j u hu=>by
  obtain ⟨i,e,h3,h4,h5⟩:=rwCs_at m (fun j hj=>h.len (n0+j) (by omega)) hu
  have:=hnews i h3 e u h5
  rw [Addr.add_mid,h4,← Nat.add_assoc]
  exact this
 have hone:∀ u∈rwCs (fun j=>L (n0+j)) m,u.oneCell'=true:=fun u hu=>by
  obtain ⟨j,hj,hu⟩:=List.mem_flatMap.1 hu
  exact h.one _ (by have:=List.mem_range.1 hj; omega) u hu
 obtain ⟨ol,hol,hol2⟩:∃ ol:Option (Nat × Nat),((ol=none∧n0=0∧rwCs L n0=[]∧v=.slice none 0 0)∨∃ b c,ol=some (b,c)∧v=.slice (some ⟨b,0,none⟩) n0 c∧w.ownsRow 0 A.e A.sz v n0 (rwCs L n0)) ∧
   ∀ g c,ol=some (g,c)→∃ p,old=some p∧g=(β p.1).b:=by
  cases hk with
  | nil h0=>subst h0; exact ⟨none,.inl ⟨rfl,rfl,rfl,rfl⟩,fun g c e=>by cases e⟩
  | row K h0 =>
   subst h0
   obtain ⟨ho1,cur,hc1,hc2,hc3,hc4,hc5,hc6⟩:(Ob.row [] A.e 0 A.sz).holds β w (β K):=hold
   exact ⟨some ((β K).b,(β K).c 0),.inr ⟨_,_,rfl,rfl,by simp [rwCs],.inr ⟨_,_,cur,rfl,Nat.zero_le _,hc1,hc3,hc4,hc5,by simp [rwCs]⟩⟩,fun g c e=>by
    injection e with e
    injection e with e1 e2
    exact ⟨_,rfl,e1.symm⟩⟩
  | own K =>
   obtain ⟨_,hd⟩:(orO A.sz A.e n0 L).holds β w (β K):=hold
   have hd:OrD A.sz A.e n0 L w (β K):=hd
   have hv:=hd.2.1 0
   exact ⟨some ((β K).b,(β K).c 0),.inr ⟨_,_,rfl,by rw [hv],by rw [hv]; exact hd.2.2.2⟩,fun g c e=>by
    injection e with e
    injection e with e1 e2
    exact ⟨_,rfl,e1.symm⟩⟩
 obtain ⟨g,cap,w',hr,hown,hgr⟩:=app_core A w o.type ol v hol ⟨b,of,none⟩ cc hnl hnc hone hm h.max h.bytes
 rw [← rwCs_add] at hown
 obtain ⟨cur,hcur⟩:∃ cur,w'.heap[g]?=some (.cells cur A.e (0,0)):=by
  rcases hown.2 with ⟨e1,_⟩ | ⟨g',cap,cur,e1,_,hh,_⟩
  · cases e1
  · injection e1 with e1 e2 e3
    injection e1 with e1
    injection e1 with e1
    subst e1
    exact ⟨cur,hh⟩
 refine ⟨⟨g,fun m=>some ⟨g,m,none⟩,fun _=>cap,fun c=>c=g,fun _=>undef⟩,w',?_,⟨⟨rfl,A.he,_,hcur⟩,fun c=>Iff.rfl,fun m=>rfl,⟨by omega,h.len⟩,hown⟩,?_,fun c hc=>hc⟩
 · have e:(SV.one (.c (.b (.y M 0 (n0+m))))).den (extE β M [(⟨g,fun m=>some ⟨g,m,none⟩,fun _=>cap,fun c=>c=g,fun _=>undef⟩:Pl)])=.slice (some ⟨g,0,none⟩) (n0+m) cap:=by
    have:=extE_in (β:=β) (n:=M) (xs:=[(⟨g,fun m=>some ⟨g,m,none⟩,fun _=>cap,fun c=>c=g,fun _=>undef⟩:Pl)]) (i:=0) rfl
    simp only [Nat.add_zero] at this
    simp only [SV.den,SC.den,Lf.den,Lf0.den,this]
   rw [e]
   exact exec_append s y A.t ho h1 h2 hr
 · rcases hgr with ⟨k1,k2⟩ | ⟨c,k1,N,k2,k3⟩
   · exact .inl ⟨k1,k2⟩
   · obtain ⟨p,p1,p2⟩:=hol2 g c k1
     exact .inr ⟨p,p1,p2,N,k2,k3⟩
def isApT (t:TypeId) (o:Oper):Bool:=match o.op,o.dst with
 | .call ⟨.builtin .append,#[_,_],#[u,u']⟩,some _=>Nat.beq u t&&Nat.beq u' t
 | _,_=>false
def lsKOf:SV→Nat
 | .one (.c (.b (.y k _ _)))=>k
 | .one (.c (.b (.r k _)))=>k
 | .one (.c (.b (.s k _ _ _)))=>k
 | _=>0
inductive OrK where
 | nil
 | row
 | own
def OrK.old (k:OrK) (sz:Nat) (e:TypeId) (n0:Nat) (L:Nat→List Lf) (K:Nat):Option (Nat × Ob):=match k with
 | .nil=>none
 | .row=>some (K,.row [] e 0 sz)
 | .own=>some (K,orO sz e n0 L)
def OrK.val (k:OrK) (n0:Nat) (g:Pl):Value:=match k with
 | .nil=>.slice none 0 0
 | .row=>.slice (some ⟨g.b,0,none⟩) 0 (g.c 0)
 | .own=>.slice (g.v 0) n0 (g.c 0)
def OrK.ok (k:OrK) (n0:Nat):Prop:=match k with
 | .nil=>n0=0
 | .row=>n0=0
 | .own=>True
theorem OrK.orB {k:OrK} {n0:Nat} (h:k.ok n0) (β:Env) (sz:Nat) (e:TypeId) (L:Nat→List Lf) (K:Nat):OrB β sz e n0 L (k.old sz e n0 L K) (k.val n0 (β K)):=by
 cases k
 · exact .nil h
 · exact .row K h
 · exact .own K
def eApL (A:AppT Tryz.prog) (k:OrK) {n0 m N t:Nat} {L L':Nat→List Lf} (hk:k.ok n0) (ht:n0+m=t) (h:OrL A L t) (hm:0<m) (hN:m≤N) (hL:∀ i,i<m→L (n0+i)=L' i):Ev Tryz.prog:=.dynU (fun o _ _=>isApT A.t o) fun o xs ob=>match o.op,o.dst with
 | .call ⟨.builtin .append,#[s,y],_⟩,some d=>lit (lsKOf (xs.getD 0 undefS)) fun K=>lit (lsKOf (xs.getD 1 undefS)) fun a=>lit ob.length fun M =>
   .upd (some d) (.call ⟨.builtin .append,#[s,y],#[A.t,A.t]⟩) (fun β=>[k.val n0 (β K),.slice ((β a).v 0) m ((β a).c 0)]) [(a,(rwT A.sz N L').ob)] (k.old A.sz A.e n0 L K) M (orO A.sz A.e t L) (.one (.c (.b (.y M 0 t)))) (fun β w hh hold ρ o ho hx=>by
    subst ht
    have h3:ρ s=k.val n0 (β K)∧ρ y=.slice ((β a).v 0) m ((β a).c 0):=by simpa [Op.operands,Call.operands] using hx
    have hd:RwD A.sz N L' w (β a):=hh (a,(rwT A.sz N L').ob) (List.mem_singleton.2 rfl)
    rcases hd with hd | ⟨h0,b,of,cs,t,fr,d1,d2,d3,d4⟩
    · omega
    obtain ⟨g,w',r1,r2,r3,r4⟩:=or_core A h hm hold (OrK.orB hk β A.sz A.e L K) b of ((β a).c 0) M (fun i hi=>by rw [hL i hi]; exact d4 i (by omega)) s y ρ o ho h3.1 (by rw [h3.2,d1]; rfl)
    exact ⟨g,w',r1,r2,r3,fun c hc=>.inl (r4 c hc)⟩)
 | _,_=>.cut
def eAp1 (A:AppT Tryz.prog) (k:OrK) {n0:Nat} {L:Nat→List Lf} {cs:List Lf} (hk:k.ok n0) (h:OrL A L (n0+1)) (hL:L n0=cs) (hc:∀ β,cs.map (Lf.den β)=cs.map (Lf.den idE)):Ev Tryz.prog:=.dynU (fun o _ _=>isApT A.t o) fun o xs ob=>match o.op,o.dst with
 | .call ⟨.builtin .append,#[s,y],_⟩,some d=>lit (lsKOf (xs.getD 0 undefS)) fun K=>lit (lsKOf (xs.getD 1 undefS)) fun a=>lit ob.length fun M =>
   .upd (some d) (.call ⟨.builtin .append,#[s,y],#[A.t,A.t]⟩) (fun β=>[k.val n0 (β K),.slice (some ⟨(β a).b,0,none⟩) 1 1]) [(a,.box cs A.e)] (k.old A.sz A.e n0 L K) M (orO A.sz A.e (n0+1) L) (.one (.c (.b (.y M 0 (n0+1))))) (fun β w hh hold ρ o ho hx=>by
    have h3:ρ s=k.val n0 (β K)∧ρ y=.slice (some ⟨(β a).b,0,none⟩) 1 1:=by simpa [Op.operands,Call.operands] using hx
    have hd:(Ob.box cs A.e).holds β w (β a):=hh (a,.box cs A.e) (List.mem_singleton.2 rfl)
    obtain ⟨g,w',r1,r2,r3,r4⟩:=or_core A h (Nat.zero_lt_one) hold (OrK.orB hk β A.sz A.e L K) (β a).b 0 1 M (fun i hi=>by
     obtain rfl:i=0:=by omega
     rw [Nat.add_zero,hL,← hc β]
     intro j v hv
     rw [cell_of_row _ _ _ _ _ _ hd.2,Nat.zero_mul]
     simpa using hv) s y ρ o ho h3.1 h3.2
    exact ⟨g,w',r1,r2,r3,fun c hc=>.inl (r4 c hc)⟩)
 | _,_=>.cut
theorem ap_none (A:AppT Tryz.prog) (s y:Operand) (w:World) (v0:Option Addr) (c0:Nat) (v:Option Addr) (c:Nat) (ρ:Operand→Value) (o:Oper) (ho:o.op=.call ⟨.builtin .append,#[s,y],#[A.t,A.t]⟩) (h1:ρ s=.slice v0 0 c0) (h2:ρ y=.slice v 0 c):(execOp ρ o).run Tryz.prog w=.ok (.value (.slice v0 0 c0)) w:=by
 refine exec_append s y A.t ho h1 h2 (run_append_nothing w A.t A.t o.type A.e A.i A.ht A.hi v0 0 c0 (Nat.zero_le _) _ ?_)
 cases v with
 | none=>exact Src.ofNil w A.ht c
 | some a=>exact Src.ofSlice w A.ht a 0 c [] (by simp) (fun j u hu=>by simp at hu) (fun u hu=>by cases hu)
def eAp0 (A:AppT Tryz.prog) (k:OrK) (hk:k.ok 0) {N:Nat} {L':Nat→List Lf}:Ev Tryz.prog:=.dyn (fun o _ _=>isApT A.t o) fun o xs ob=>match o.op,o.dst with
 | .call ⟨.builtin .append,#[s,y],_⟩,some d=>lit (lsKOf (xs.getD 0 undefS)) fun K=>lit (lsKOf (xs.getD 1 undefS)) fun a =>
   .rd d (.call ⟨.builtin .append,#[s,y],#[A.t,A.t]⟩) (fun β=>[k.val 0 (β K),.slice ((β a).v 0) 0 ((β a).c 0)]) [] 0 (match k with
    | .nil=>.one (.c (.b (.v (.slice none 0 0))))
    | .row=>.one (.c (.b (.r K 0)))
    | .own=>.one (.c (.b (.y K 0 0)))) [] (fun β w hh ρ o ho hx=>by
    have h3:ρ s=k.val 0 (β K)∧ρ y=.slice ((β a).v 0) 0 ((β a).c 0):=by simpa [Op.operands,Call.operands] using hx
    refine ⟨[],w,(fun _ h=>by cases h),?_,trivial,Below.refl _ _⟩
    cases k
    · exact ap_none A s y w _ _ _ _ ρ o ho h3.1 h3.2
    · exact ap_none A s y w _ _ _ _ ρ o ho h3.1 h3.2
    · exact ap_none A s y w _ _ _ _ ρ o ho h3.1 h3.2)
 | _,_=>.cut
def lsOwAt:List Ob→Nat→Nat
 | [],_=>0
 | .ow _ _::_,k=>k
 | _::r,k=>lsOwAt r (k+1)
def eFrz:Ev Tryz.prog:=.frz fun ob=>lsOwAt ob 0
def eSl {T:TypeId} (hu:Tryz.prog.underlying T=some (.slice (Tryz.prog.elem T))) {sz:Nat} (hs:(Tryz.prog.info? (Tryz.prog.elem T)).map (·.size)=some sz) {N n:Nat} (hN:n≤N) (e:TypeId) (L:Nat→List Lf):Ev Tryz.prog:=.dyn (fun o _ _=>match o.op with
 | .slice t _ none (some _) none=>Nat.beq t T
 | _=>false) fun o xs _=>match o.op with
 | .slice _ x none (some y) none=>lit (lsKOf (xs.getD 0 undefS)) fun k=>.rd (o.dst.getD 0) (.slice T x none (some y) none) (fun β=>[.slice ((β k).v 0) N ((β k).c 0),.int .i64 (n:Int)]) [(k,.th (orT sz e N L))] 0 (.one (.c (.b (.y k 0 n)))) [] (fun β w h ρ o ho hx=>by
   have h3:ρ x=.slice ((β k).v 0) N ((β k).c 0)∧ρ y=.int .i64 (n:Int):=by simpa [Op.operands] using hx
   have hd:OrD sz e N L w (β k):=h (k,.th (orT sz e N L)) (List.mem_singleton.2 rfl)
   obtain ⟨cur,_,h1,_⟩:=hd.cells
   refine ⟨[],w,(fun _ h=>by cases h),?_,trivial,Below.refl _ _⟩
   have hz:((sizeOf (Tryz.prog.elem T)).run Tryz.prog w)=.ok sz w:=by
    cases hq:Tryz.prog.info? (Tryz.prog.elem T) with
    | none=>simp [hq] at hs
    | some i =>
     have hs:i.size=sz:=by simpa [hq] using hs
     simp [sizeOf,typeInfo,hq,hs]
   have h6:=run_slice_h (P:=Tryz.prog) (w:=w) T ((β k).v 0) N ((β k).c 0) hu .i64 (n:Int) (by omega) (by omega)
   rw [hz] at h6
   have e:((SV.one (.c (.b (.y k 0 n)))).den (extE β 0 []))=.slice ((β k).v 0) n ((β k).c 0):=rfl
   rw [e]
   unfold execOp
   rw [ho]
   dsimp only
   simp only [Option.map_none,Option.map_some,h3.1,h3.2]
   have h7:(Instr.sliceAt T (.slice ((β k).v 0) N ((β k).c 0)) none (some (.int .i64 (n:Int))) none).run Tryz.prog w=.ok (.slice ((β k).v 0) n ((β k).c 0)) w:=by
    rw [run_sliceAt_slice (P:=Tryz.prog) (w:=w) T _ _ _ _ hu,h6,hd.2.1 0]
    simp [sliced,Addr.add]
   simp only [Sem.run_bind,h7,Result.andThen_ok]
   rfl)
 | _=>.cut
noncomputable def rwDesc (T:TypeId):TypeDesc:=(Tryz.prog.underlying T).getD (.slice 0)
theorem rwDesc_u {T:TypeId} (h:((Tryz.prog.underlying T).map fun d=>d.isRow)=some true):Tryz.prog.underlying T=some (rwDesc T)∧(rwDesc T).isRow=true:=by
 unfold rwDesc
 cases h2:Tryz.prog.underlying T with
 | none=>rw [h2] at h; cases h
 | some d =>
  rw [h2] at h
  exact ⟨rfl,Option.some.inj h⟩
noncomputable def faB (T:TypeId) (i off:Nat):Bool:=match Tryz.prog.underlying T with
 | some (.struct fs)=>match fs[i]? with
  | some f=>Nat.beq f.offset off&&match Tryz.prog.info? f.type with
   | some n=>!Nat.beq n.size 0
   | none=>false
  | none=>false
 | _=>false
theorem fa_run {T:TypeId} {i off:Nat} (h:faB T i off=true) (a:Addr) (w:World):(Instr.fieldAt T (.pointer (some a)) i).run Tryz.prog w=.ok (.pointer (some (a.add off))) w:=by
 unfold faB at h
 split at h
 · rename_i fs hu
   split at h
   · rename_i f hf
     rw [Bool.and_eq_true] at h
     obtain ⟨h1,h2⟩:=h
     split at h2
     · rename_i inf hi
       have hs:inf.size≠0:=by
        intro e
        rw [e] at h2
        cases h2
       obtain rfl:=Nat.eq_of_beq_eq_true h1
       simp [Instr.fieldAt,run_underlying hu,Instr.sureAddr,fieldPlace,sizeOf,typeInfo,hf,hi,hs]
     · cases h2
   · cases h
 · cases h
theorem rw_part {w:World} {b o k n:Nat} {cs:List Value} (h:w.rangeAt b o cs):w.rangeAt b (o+k) ((cs.drop k).take n):=fun i v hv=>by
 have h1:cs[k+i]?=some v:=by
  rw [List.getElem?_take] at hv
  split at hv
  · rw [List.getElem?_drop] at hv
    exact hv
  · cases hv
 have:=h (k+i) v h1
 rw [Nat.add_assoc]
 exact this
def eFa {T:TypeId} {sz I off n j:Nat} (L:Nat→List Lf) (hf:faB T I off=true) (hj:j<n):Ev Tryz.prog:=.dyn (fun o _ _=>match o.op with
 | .fieldAddr t _ i=>Nat.beq t T&&Nat.beq i I
 | _=>false) fun o xs _=>match o.op with
 | .fieldAddr _ x _=>lit (lsZOf (xs.getD 0 undefS)) fun k=>.rd (o.dst.getD 0) (.fieldAddr T x I) (fun β=>[.pointer ((β k).v (j*sz))]) [(k,(rwT sz n L).ob)] 0 (.one (.c (.b (.z k (j*sz+off))))) [] (fun β w h ρ o ho hx=>by
   have h1:RwD sz n L w (β k):=h _ (List.mem_singleton.2 rfl)
   have h3:ρ x=.pointer ((β k).v (j*sz)):=by simpa [Op.operands] using hx
   rcases h1 with h1 | ⟨h0,b,of,cs,t,fr,h1,h2,h4,h5⟩
   · omega
   refine ⟨[],w,(fun _ h=>by cases h),?_,trivial,Below.refl _ _⟩
   unfold execOp
   rw [ho]
   dsimp only
   have e:((SV.one (.c (.b (.z k (j*sz+off))))).den (extE β 0 []))=.pointer (some ((⟨b,of+j*sz,none⟩:Addr).add off)):=by
    show Value.pointer ((β k).v (j*sz+off))=_
    rw [h1,Addr.add_mid,Nat.add_assoc]
   have h6:=fa_run hf (⟨b,of+j*sz,none⟩:Addr) w
   rw [e,h3,h1]
   simp only [Sem.run_bind,h6,Result.andThen_ok]
   rfl)
 | _=>.cut
def ePt {T:TypeId} {d:TypeDesc} (hu:Tryz.prog.underlying T=some d) (hd:d.isRow=true) (sz off:Nat) {n j:Nat} {L:Nat→List Lf} {cs:List Lf} {m:Nat} (hc:((L j).drop off).take m=cs) (hs:(Tryz.prog.info? T).map (·.size)=some cs.length) (hL:∀ β,cs.map (Lf.den β)=cs.map (Lf.den idE)) (hj:j<n):Ev Tryz.prog:=.dyn (fun o xs _=>match o.op with
 | .load t _=>Nat.beq t T
 | _=>false) fun o xs _=>match o.op with
 | .load _ x=>lit (lsZOf (xs.getD 0 undefS)) fun k=>.rd (o.dst.getD 0) (.load T x) (fun β=>[.pointer ((β k).v (j*sz+off))]) [(k,(rwT sz n L).ob)] 0 (.one (.a cs)) [] (fun β w h ρ o ho hx=>by
   have h1:RwD sz n L w (β k):=h _ (List.mem_singleton.2 rfl)
   have h3:ρ x=.pointer ((β k).v (j*sz+off)):=by simpa [Op.operands] using hx
   rcases h1 with h1 | ⟨h0,b,of,cl,t,fr,h1,h2,h4,h5⟩
   · omega
   refine ⟨[],w,(fun _ h=>by cases h),?_,trivial,Below.refl _ _⟩
   unfold execOp
   rw [ho]
   dsimp only
   rw [h3,h1]
   have h7:w.rangeAt b (of+j*sz+off) (cs.map (Lf.den idE)):=by
    rw [← hc,List.map_take,List.map_drop]
    exact rw_part (h5 j hj)
   have h6:=run_loadAt_mid (P:=Tryz.prog) w b (of+j*sz+off) T (cs.map (Lf.den idE)) d h7 hu hd (by rw [List.length_map]; exact hs)
   have e:((SV.one (.a cs)).den (extE β 0 []))=.agg (cs.map (Lf.den idE)).toArray:=by
    show Value.agg (cs.map (Lf.den (extE β 0 []))).toArray=_
    rw [hL]
   rw [e]
   rw [Nat.add_assoc] at h6
   simp only [Sem.run_bind,h6,Result.andThen_ok]
   rfl)
 | _=>.cut
def eSlG {T:TypeId} (hu:Tryz.prog.underlying T=some (.slice (Tryz.prog.elem T))) {sz:Nat} (hs:(Tryz.prog.info? (Tryz.prog.elem T)).map (·.size)=some sz) {N l n:Nat} (hN:n≤N) (e:TypeId) (L:Nat→List Lf):Ev Tryz.prog:=.dyn (fun o _ _=>match o.op with
 | .slice t _ none (some _) none=>Nat.beq t T
 | _=>false) fun o xs _=>match o.op with
 | .slice _ x none (some y) none=>lit (lsKOf (xs.getD 0 undefS)) fun k=>.rd (o.dst.getD 0) (.slice T x none (some y) none) (fun β=>[.slice ((β k).v 0) l ((β k).c 0),.int .i64 (n:Int)]) [(k,.th (orT sz e N L))] 0 (.one (.c (.b (.y k 0 n)))) [] (fun β w h ρ o ho hx=>by
   have h3:ρ x=.slice ((β k).v 0) l ((β k).c 0)∧ρ y=.int .i64 (n:Int):=by simpa [Op.operands] using hx
   have hd:OrD sz e N L w (β k):=h (k,.th (orT sz e N L)) (List.mem_singleton.2 rfl)
   obtain ⟨cur,_,h1,_⟩:=hd.cells
   refine ⟨[],w,(fun _ h=>by cases h),?_,trivial,Below.refl _ _⟩
   have hz:((sizeOf (Tryz.prog.elem T)).run Tryz.prog w)=.ok sz w:=by
    cases hq:Tryz.prog.info? (Tryz.prog.elem T) with
    | none=>simp [hq] at hs
    | some i =>
     have hs:i.size=sz:=by simpa [hq] using hs
     simp [sizeOf,typeInfo,hq,hs]
   have h6:=run_slice_h (P:=Tryz.prog) (w:=w) T ((β k).v 0) l ((β k).c 0) hu .i64 (n:Int) (by omega) (by omega)
   rw [hz] at h6
   have e:((SV.one (.c (.b (.y k 0 n)))).den (extE β 0 []))=.slice ((β k).v 0) n ((β k).c 0):=rfl
   rw [e]
   unfold execOp
   rw [ho]
   dsimp only
   simp only [Option.map_none,Option.map_some,h3.1,h3.2]
   have h7:(Instr.sliceAt T (.slice ((β k).v 0) l ((β k).c 0)) none (some (.int .i64 (n:Int))) none).run Tryz.prog w=.ok (.slice ((β k).v 0) n ((β k).c 0)) w:=by
    rw [run_sliceAt_slice (P:=Tryz.prog) (w:=w) T _ _ _ _ hu,h6,hd.2.1 0]
    simp [sliced,Addr.add]
   simp only [Sem.run_bind,h7,Result.andThen_ok]
   rfl)
 | _=>.cut
theorem cx_said0 {P:Program} {fn:Func} {m0:Nat} {res res':SV} {β:Env} {w:World} {e:Ending} {w':World} (h:Said P fn m0 res [] β w e w') (hr:∀ β':Env,(∀ k,k<m0→β' k=β k)→res.den β'=res'.den β):∃ xs:List Pl,freshS β w m0 xs∧e=.returned (res'.den (extE β m0 xs))∧newHold w' [] xs∧Below w.heap.size w w':=by
 obtain ⟨β',q,obj,hb,rfl,_,_,_,g⟩:=h
 exact ⟨[],(fun _ h=>by cases h),by rw [hr β' hb,extE_nil],trivial,g.bel⟩
theorem cx_hd {m0 N B0:Nat} {w0:World} {β0:Env} {Q:Exit→Act→World→Prop} {u:Nat} {sl:List (Nat × SV)} {ob:List Ob} {ev ev':List (Ev Tryz.prog)} {p:Code × List Kf} (h:HdOk Tryz.prog m0 N B0 w0 β0 Q (mkC Tryz.prog N u sl ob ev) p):HdOk Tryz.prog m0 N B0 w0 β0 Q (mkC Tryz.prog N u sl ob ev') p :=
 fun β a w hβ hs=>h β a w hβ (hs.ev ev)
abbrev TCi:TypeId:=95
abbrev TFr:TypeId:=25
inductive Cq where
 | ok (r:RQ) (h:MayC r)
 | no (a b b' c:R4) (h:CkNo (cbC a b b' c)) (hw:WheelNo (cbC a b b' c))
def Cq.B:Cq→Bool
 | .ok ..=>true
 | .no ..=>false
def Cq.a:Cq→R4
 | .ok r _=>fR r.a
 | .no a _ _ _ _ _=>a
def Cq.b:Cq→R4
 | .ok r _=>fR r.b.re
 | .no _ b _ _ _ _=>b
def Cq.b':Cq→R4
 | .ok r _=>fR r.b.im
 | .no _ _ b _ _ _=>b
def Cq.c:Cq→R4
 | .ok r _=>fR r.c
 | .no _ _ _ c _ _=>c
abbrev cqL (p:Cq):List Lf:=cbC p.a p.b p.b' p.c
theorem cqNum (x:Fn) (z:Gn) (y:Fn) (h:(x.B&&(z.B&&y.B))=false):WheelNo (cbC x.r z.x z.y y.r):=wheelNum x z y h
theorem cqOf {r:RQ} (h:WheelNo (cC r)):WheelNo (cbC (fR r.a) (fR r.b.re) (fR r.b.im) (fR r.c)):=by
 rw [cC_eq] at h
 exact h
theorem cq_mk {r:RQ} (h:WheelNo (cC r)) (k:∀ (β:Env) (w:World),Calls Tryz.prog 67 (([.one (.a (cC r))]:List SV).map (SV.den β)).toArray w fun e w'=>e=.returned (.int .i64 2)∧Below w.heap.size w w'):∃ p:Cq,p.a=fR r.a∧p.b=fR r.b.re∧p.b'=fR r.b.im∧p.c=fR r.c:=by
 have c1:=ckNoOf h k
 have c2:=cqOf h
 exact ⟨.no _ _ _ _ c1 c2,rfl,rfl,rfl,rfl⟩
theorem cq_of (a b b' c:R4) (ha:a.s.size≤maxLen∧a.t.size≤maxLen) (hb:b.s.size≤maxLen∧b.t.size≤maxLen) (hb':b'.s.size≤maxLen∧b'.t.size≤maxLen) (hc:c.s.size≤maxLen∧c.t.size≤maxLen):∃ p:Cq,p.a=a∧p.b=b∧p.b'=b'∧p.c=c:=by
 obtain ⟨x,rfl⟩:=fn_of a ha
 obtain ⟨z,rfl,rfl⟩:=gn_of b b' hb hb'
 obtain ⟨y,rfl⟩:=fn_of c hc
 cases h:(x.B&&(z.B&&y.B)) with
 | false=>exact ⟨.no x.r z.x z.y y.r (ckNoNum x z y h) (cqNum x z y h),rfl,rfl,rfl,rfl⟩
 | true =>
  cases x with
  | no=>cases h
  | ok x hx=>cases z with
   | no=>cases h
   | ok z hz=>cases y with
    | no=>cases h
    | ok y hy =>
     have hf:FitC ⟨x,z,y⟩:=⟨hx,hz,hy⟩
     cases hp:decide ((rpow ⟨x,z,y⟩).num.sign≤0) with
     | true=>exact cq_mk (r:=⟨x,z,y⟩) (wheelPow hf hp) (ckPow hf hp)
     | false =>
      by_cases hne:rone ⟨x,z,y⟩=⟨x,z,y⟩
      · exact ⟨.ok ⟨x,z,y⟩ ⟨hf,hp,hne⟩,rfl,rfl,rfl,rfl⟩
      · exact cq_mk (r:=⟨x,z,y⟩) (wheelOne hf hp hne) (ckOne hf hp hne)
theorem cq_no {p:Cq} (h:p.B=false):CkNo (cqL p)∧WheelNo (cqL p):=by
 cases p with
 | ok=>cases h
 | no a b b' c hk hw=>exact ⟨hk,hw⟩
noncomputable def cqR (p:Cq):RQ:=match p with
 | .ok r _=>r
 | .no ..=>⟨0,⟨0,0⟩,0⟩
theorem cqR_ok {p:Cq} (h:p.B=true):MayC (cqR p)∧cqL p=cC (cqR p):=by
 cases p with
 | ok r hr=>exact ⟨hr,(cC_eq r).symm⟩
 | no=>cases h
def krCs (L:Nat→List Lf) (E:Nat→Env) (n:Nat):List Value:=(List.range n).flatMap fun j=>(L j).map (Lf.den (E j))
theorem krCs_succ (L:Nat→List Lf) (E:Nat→Env) (n:Nat):krCs L E (n+1)=krCs L E n++(L n).map (Lf.den (E n)):=by
 unfold krCs
 rw [List.range_succ,List.flatMap_append,List.flatMap_cons,List.flatMap_nil,List.append_nil]
theorem krCs_len {sz:Nat} {L:Nat→List Lf} {E:Nat→Env}:∀ n,(∀ j,j<n→(L j).length=sz)→(krCs L E n).length=n*sz
 | 0,_=>by simp [krCs]
 | n+1,h=>by rw [krCs_succ,List.length_append,krCs_len n fun j hj=>h j (by omega),List.length_map,h n (by omega),Nat.add_mul,Nat.one_mul]
theorem krCs_get {sz:Nat} {L:Nat→List Lf} {E:Nat→Env} {i e:Nat} {v:Value} (hv:((L i).map (Lf.den (E i)))[e]?=some v):∀ n,(∀ j,j<n→(L j).length=sz)→i<n→(krCs L E n)[i*sz+e]?=some v
 | 0,_,h=>absurd h (Nat.not_lt_zero i)
 | n+1,hs,h=>by
  have he:e<(L i).length:=by have:=(List.getElem?_eq_some_iff.1 hv).1; rwa [List.length_map] at this
  have hl:(krCs L E n).length=n*sz:=krCs_len n fun j hj=>hs j (by omega)
  rw [krCs_succ]
  rcases Nat.lt_succ_iff_lt_or_eq.1 h with h1 | rfl
  · have:i*sz+sz≤n*sz:=by rw [← Nat.succ_mul]; exact Nat.mul_le_mul_right _ h1
    rw [List.getElem?_append_left (by rw [hl]; have:=hs i (by omega); omega)]
    exact krCs_get hv n (fun j hj=>hs j (by omega)) h1
  · rw [List.getElem?_append_right (by rw [hl]; omega),hl,show i*sz+e-i*sz=e by omega]
    exact hv
theorem krCs_congr {L:Nat→List Lf} {E E':Nat→Env}:∀ n,(∀ i,i<n→E i=E' i)→krCs L E n=krCs L E' n
 | 0,_=>rfl
 | n+1,h=>by rw [krCs_succ,krCs_succ,krCs_congr n fun i hi=>h i (by omega),h n (by omega)]
def KrD (sz:Nat) (e:TypeId) (n:Nat) (L:Nat→List Lf) (T:Nat→List Thing) (w:World) (g:Pl):Prop :=
 g.F g.b∧(∀ c,g.F c→c<w.heap.size)∧(∀ m,g.v m=some ⟨g.b,m,none⟩)∧(0<n∧∀ j,j<n→(L j).length=sz)∧∃ E:Nat→Env,
  (∀ j,j<n→∀ (k:Nat) (t:Thing),(T j)[k]?=some t→t.D w (E j k)∧∀ c,(E j k).F c→g.F c∧c≠g.b) ∧
  w.ownsRow 0 e sz (.slice (some ⟨g.b,0,none⟩) n (g.c 0)) n (krCs L E n)
theorem KrD.cells {sz:Nat} {e:TypeId} {w:World} {b n c:Nat} {l:List Value} (h:w.ownsRow 0 e sz (.slice (some ⟨b,0,none⟩) n c) n l):∃ cur,w.heap[b]?=some (.cells cur e (0,0))∧n≤c∧c≤maxLen∧cur.size=c*sz∧cur.toList.take (n*sz)=l:=by
 rcases h.2 with ⟨e1,_⟩ | ⟨g',cap,cur,e1,_,hh,h1,h2,h3,h4⟩
 · cases e1
 · injection e1 with e1 e2 e3
   injection e1 with e1
   injection e1 with e1
   subst e1 e3
   exact ⟨cur,hh,h1,h2,h3,h4⟩
theorem kr_own {sz:Nat} {e:TypeId} {w w':World} {b n c:Nat} {l:List Value} (h:w.ownsRow 0 e sz (.slice (some ⟨b,0,none⟩) n c) n l) (k:w'.heap[b]?=w.heap[b]?):w'.ownsRow 0 e sz (.slice (some ⟨b,0,none⟩) n c) n l:=by
 obtain ⟨cur,hh,h1,h2,h3,h4⟩:=KrD.cells h
 exact ⟨h.1,.inr ⟨b,c,cur,rfl,Nat.zero_le _,by rw [k]; exact hh,h1,h2,h3,h4⟩⟩
theorem kr_stable (sz:Nat) (e:TypeId) (n:Nat) (L:Nat→List Lf) (T:Nat→List Thing):Stable (KrD sz e n L T):=by
 refine ⟨fun w g h c hc=>h.2.1 c hc,fun w w' g h k=>?_,fun w w' g b o m s h hs ht hF=>?_⟩
 · obtain ⟨h1,h2,h3,h4,E,h5,h6⟩:=h
   exact ⟨h1,fun c hc=>Nat.lt_of_lt_of_le (h2 c hc) k.size,h3,h4,E,fun j hj i t ht=>⟨t.st.below w w' _ (h5 j hj i t ht).1 k,(h5 j hj i t ht).2⟩,kr_own h6 (k.block g.b (h2 _ h1))⟩
 · obtain ⟨h1,h2,h3,h4,E,h5,h6⟩:=h
   exact ⟨h1,fun c hc=>Nat.lt_of_lt_of_le (h2 c hc) ht.size,h3,h4,E,fun j hj i t htt=>⟨t.st.touch w w' _ b o m s (h5 j hj i t htt).1 hs ht fun hc=>hF ((h5 j hj i t htt).2 _ hc).1,(h5 j hj i t htt).2⟩,kr_own h6 (ht.block g.b (h2 _ h1) fun e=>hF (e▸h1))⟩
def krT (sz:Nat) (e:TypeId) (n:Nat) (L:Nat→List Lf) (T:Nat→List Thing):Thing:=thing (KrD sz e n L T) (kr_stable sz e n L T)
def krO (sz:Nat) (e:TypeId) (n:Nat) (L:Nat→List Lf) (T:Nat→List Thing):Ob:=.ow (krT sz e n L T) e
def krOld (k:Bool) (sz:Nat) (e:TypeId) (n:Nat) (L:Nat→List Lf) (T:Nat→List Thing) (K:Nat):Option (Nat × Ob):=bif k then some (K,krO sz e n L T) else none
def krVal (k:Bool) (n:Nat) (g:Pl):Value:=bif k then .slice (g.v 0) n (g.c 0) else .slice none 0 0
theorem kr_app (A:AppT Tryz.prog) {L:Nat→List Lf} {T:Nat→List Thing} {n:Nat} {k:Bool} (hk:k=false→n=0) (hL:∀ j,j<n+1→(L j).length=A.sz) (h63:n+1≤maxLen) (hb:(n+1)*A.bytes≤140737488355328)
  (K a M:Nat) (ps:List Nat) (cs:List Lf) {β:Env} {w:World} (hcs:∀ E:Env,(∀ (i p:Nat),ps[i]?=some p→E i=β p)→(L n).map (Lf.den E)=cs.map (Lf.den β)) (h1:∀ u∈cs.map (Lf.den β),u.oneCell'=true) (hl:cs.length=A.sz)
  (hps:(T n).length=ps.length) (hT:∀ (i:Nat) (t:Thing) (p:Nat),(T n)[i]?=some t→ps[i]?=some p→t.D w (β p))
  (hno:∀ cur,w.heap[(β K).b]?=some (.cells cur A.e (0,0))→k=true→∀ (i:Nat) (t:Thing) (p:Nat),(T n)[i]?=some t→ps[i]?=some p→¬ (β p).F (β K).b)
  (hold:oldHolds β w (krOld k A.sz A.e n L T K)) (ha:(Ob.box cs A.e).holds β w (β a)) (s y:Operand) (ρ:Operand→Value) (o:Oper) (ho:o.op=.call ⟨.builtin .append,#[s,y],#[A.t,A.t]⟩) (e1:ρ s=krVal k n (β K)) (e2:ρ y=.slice (some ⟨(β a).b,0,none⟩) 1 1) :
  ∃ (g:Pl) (w':World),(execOp ρ o).run Tryz.prog w=.ok (.value ((SV.one (.c (.b (.y M 0 (n+1))))).den (extE β M [g]))) w'∧(krO A.sz A.e (n+1) L T).holds (extE β M [g]) w' g∧Grow β w w' (krOld k A.sz A.e n L T K) g∧(∀ c,g.F c→c=g.b∨(∃ p,krOld k A.sz A.e n L T K=some p∧(β p.1).F c)∨∃ (i p:Nat),ps[i]?=some p∧i<(T n).length∧(β p).F c):=by
 obtain ⟨En,hEn⟩:∃ En:Env,∀ (i p:Nat),ps[i]?=some p→En i=β p:=⟨fun i=>β (ps[i]?.getD 0),fun i p hp=>by show β (ps[i]?.getD 0)=β p; rw [hp]; rfl⟩
 have hnl:((L n).map (Lf.den En)).length=1*A.sz:=by rw [List.length_map,hL n (by omega),Nat.one_mul]
 have hnc:∀ j u,((L n).map (Lf.den En))[j]?=some u→w.cell? ((⟨(β a).b,0,none⟩:Addr).add j)=some u:=fun j u hu=>by
  rw [hcs En hEn] at hu
  rw [Addr.add_mid,Nat.zero_add,cell_of_row _ _ _ _ _ _ ha.2]
  simpa using hu
 have hone:∀ u∈(L n).map (Lf.den En),u.oneCell'=true:=fun u hu=>h1 u (by rw [← hcs En hEn]; exact hu)
 obtain ⟨ol,E,hol,hol2,hKl,hE⟩:∃ (ol:Option (Nat × Nat)) (E:Nat→Env),((ol=none∧n=0∧krCs L E n=[]∧krVal k n (β K)=.slice none 0 0)∨∃ b c,ol=some (b,c)∧krVal k n (β K)=.slice (some ⟨b,0,none⟩) n c∧w.ownsRow 0 A.e A.sz (krVal k n (β K)) n (krCs L E n)) ∧
   (∀ b c,ol=some (b,c)→k=true∧b=(β K).b)∧((k=true→∀ c,(β K).F c→c<w.heap.size)∧(k=true→∀ j,j<n→∀ (i:Nat) (t:Thing),(T j)[i]?=some t→t.D w (E j i)∧∀ c,(E j i).F c→(β K).F c∧c≠(β K).b)):=by
  cases k with
  | false =>
   obtain rfl:=hk rfl
   exact ⟨none,fun _=>β,.inl ⟨rfl,rfl,rfl,rfl⟩,(fun b c e=>by cases e),(fun e=>by cases e),(fun e=>by cases e)⟩
  | true =>
   obtain ⟨_,hd⟩:(krO A.sz A.e n L T).holds β w (β K):=hold
   obtain ⟨d1,d2,d3,d4,E,d5,d6⟩:KrD A.sz A.e n L T w (β K):=hd
   refine ⟨some ((β K).b,(β K).c 0),E,.inr ⟨_,_,rfl,?_,?_⟩,(fun b c e=>by injection e with e; injection e with e3 e4; exact ⟨rfl,e3.symm⟩),fun _=>d2,fun _=>d5⟩
   · show Value.slice ((β K).v 0) n ((β K).c 0)=_
     rw [d3 0]
   · show w.ownsRow 0 A.e A.sz (.slice ((β K).v 0) n ((β K).c 0)) n _
     rw [d3 0]
     exact d6
 obtain ⟨g,cap,w',hr,hown,hgr⟩:=app_core A w o.type ol (krVal k n (β K)) hol ⟨(β a).b,0,none⟩ 1 hnl hnc hone Nat.zero_lt_one h63 hb
 obtain ⟨E',hE'⟩:∃ E':Nat→Env,E'=fun j=>if j=n then En else E j:=⟨_,rfl⟩
 have hn1:E' n=En:=by rw [hE']; exact if_pos rfl
 have hn2:∀ j,j<n→E' j=E j:=fun j hj=>by rw [hE']; exact if_neg (by omega)
 have hcr:krCs L E n++(L n).map (Lf.den En)=krCs L E' (n+1):=by
  rw [krCs_succ,hn1,krCs_congr n fun i hi=>(hn2 i hi).symm]
 rw [hcr] at hown
 obtain ⟨cur,hcur,_⟩:=KrD.cells hown
 have hTn:∀ (i:Nat) (t:Thing),(T n)[i]?=some t→∃ p,ps[i]?=some p∧En i=β p∧t.D w (β p):=fun i t ht=>by
  have hi:i<ps.length:=by rw [← hps]; exact (List.getElem?_eq_some_iff.1 ht).1
  exact ⟨ps[i],List.getElem?_eq_getElem hi,hEn i _ (List.getElem?_eq_getElem hi),hT i t _ ht (List.getElem?_eq_getElem hi)⟩
 have key:∀ (t:Thing) (p:Pl),t.D w p→(k=true→¬ p.F (β K).b)→t.D w' p∧∀ c,p.F c→c≠g:=fun t p hd hp=>by
  have hlt:=t.st.lt w p hd
  rcases hgr with ⟨k1,k2⟩ | ⟨c,k1,N,k2,k3⟩
  · exact ⟨t.st.below w w' p hd k2,fun c hc e=>by have:=hlt c hc; omega⟩
  · obtain ⟨kk,rfl⟩:=hol2 _ _ k1
    obtain ⟨cw,tw,hw1,hw2,hw3⟩:=k2
    have hN:NW w (β K).b:=fun cs fr e=>by
     rw [hw1] at e
     injection e with e
     injection e with _ e
     exact hw2 e
    exact ⟨t.st.touch w w' p _ 0 N 0 hd hN k3 (hp kk),fun c hc e=>hp kk (e▸hc)⟩
 have hsz:w.heap.size≤w'.heap.size:=by
  rcases hgr with ⟨_,k2⟩ | ⟨c,_,N,_,k3⟩
  · exact k2.size
  · exact k3.size
 have hnoT:k=true→∀ (i:Nat) (t:Thing) (p:Nat),(T n)[i]?=some t→ps[i]?=some p→¬ (β p).F (β K).b:=fun hk=>by
  subst hk
  obtain ⟨_,hd⟩:(krO A.sz A.e n L T).holds β w (β K):=hold
  obtain ⟨_,_,_,_,_,_,d6⟩:KrD A.sz A.e n L T w (β K):=hd
  obtain ⟨c0,hc0,_⟩:=KrD.cells d6
  exact hno c0 hc0 rfl
 refine ⟨⟨g,fun m=>some ⟨g,m,none⟩,fun _=>cap,fun c=>c=g∨(k=true∧(β K).F c)∨∃ (i:Nat) (t:Thing) (p:Nat),(T n)[i]?=some t∧ps[i]?=some p∧(β p).F c,fun _=>undef⟩,w',?_,⟨⟨.inl rfl,A.he,_,hcur⟩,.inl rfl,fun c hc=>?_,fun m=>rfl,⟨by omega,hL⟩,E',fun j hj i t ht=>?_,hown⟩,?_,fun c hc=>?_⟩
 · have e:(SV.one (.c (.b (.y M 0 (n+1))))).den (extE β M [(⟨g,fun m=>some ⟨g,m,none⟩,fun _=>cap,fun c=>c=g∨(k=true∧(β K).F c)∨∃ (i:Nat) (t:Thing) (p:Nat),(T n)[i]?=some t∧ps[i]?=some p∧(β p).F c,fun _=>undef⟩:Pl)])=.slice (some ⟨g,0,none⟩) (n+1) cap:=by
    have:=extE_in (β:=β) (n:=M) (xs:=[(⟨g,fun m=>some ⟨g,m,none⟩,fun _=>cap,fun c=>c=g∨(k=true∧(β K).F c)∨∃ (i:Nat) (t:Thing) (p:Nat),(T n)[i]?=some t∧ps[i]?=some p∧(β p).F c,fun _=>undef⟩:Pl)]) (i:=0) rfl
    simp only [Nat.add_zero] at this
    simp only [SV.den,SC.den,Lf.den,Lf0.den,this]
   rw [e]
   exact exec_append s y A.t ho e1 e2 hr
 · rcases hc with rfl | ⟨kk,hc⟩ | ⟨i,t,p,ht,hp,hc⟩
   · exact heap_some_lt hcur
   · exact Nat.lt_of_lt_of_le (hKl kk c hc) hsz
   · exact Nat.lt_of_lt_of_le (t.st.lt w _ (hT i t p ht hp) c hc) hsz
 · rcases Nat.lt_succ_iff_lt_or_eq.1 hj with h2 | rfl
   · have hkk:k=true:=by
      cases k with
      | true=>rfl
      | false=>have:=hk rfl; omega
     obtain ⟨q1,q2⟩:=hE hkk j h2 i t ht
     obtain ⟨q3,q4⟩:=key t (E j i) q1 fun _ hc=>(q2 _ hc).2 rfl
     rw [hn2 j h2]
     exact ⟨q3,fun c hc=>⟨.inr (.inl ⟨hkk,(q2 c hc).1⟩),q4 c hc⟩⟩
   · obtain ⟨p,p1,p2,p3⟩:=hTn i t ht
     obtain ⟨q3,q4⟩:=key t (β p) p3 fun hkk=>hnoT hkk i t p ht p1
     rw [hn1,p2]
     exact ⟨q3,fun c hc=>⟨.inr (.inr ⟨i,t,p,ht,p1,hc⟩),q4 c hc⟩⟩
 · rcases hgr with ⟨k1,k2⟩ | ⟨c,k1,N,k2,k3⟩
   · exact .inl ⟨k1,k2⟩
   · obtain ⟨kk,hb⟩:=hol2 _ _ k1
     subst kk
     exact .inr ⟨_,rfl,hb,N,k2,k3⟩
 · rcases hc with rfl | ⟨kk,hc⟩ | ⟨i,t,p,ht,hp,hc⟩
   · exact .inl rfl
   · subst kk
     exact .inr (.inl ⟨_,rfl,hc⟩)
   · exact .inr (.inr ⟨i,p,hp,(List.getElem?_eq_some_iff.1 ht).1,hc⟩)
abbrev plL (Q:Nat→Pt) (j:Nat):List Lf:=pL 0 (Q j)
abbrev plTs (Q:Nat→Pt) (j:Nat):List Thing:=pM (Q j)
abbrev plR (n:Nat) (Q:Nat→Pt):Thing:=krT 3 PLT n (plL Q) (plTs Q)
abbrev plO (n:Nat) (Q:Nat→Pt):Ob:=krO 3 PLT n (plL Q) (plTs Q)
theorem or_no {x:Rat} {w:World} {g:Pl} {b:Nat} {cur:Array Value} {t:TypeId} {q:Option Addr} (h:(ratM x).D w g) (hc:w.heap[b]?=some (.cells cur t (0,0))) (hq:cur[1]?=some (.pointer q)):¬ g.F b:=fun hF=>by
 have h:OR0 x w g:=h
 rcases h with h | ⟨d,h1,h2⟩
 · exact h.2.1 b hF
 · obtain rfl:=(h1.2 b).1 hF
   exact ptr_no_rat hc hq h2
theorem pl_cell1 {Q:Nat→Pt} {n:Nat} {w:World} {g:Pl} (h:KrD 3 PLT n (plL Q) (plTs Q) w g) {cur:Array Value} (hc:w.heap[g.b]?=some (.cells cur PLT (0,0))):∃ q,cur[1]?=some (.pointer q):=by
 obtain ⟨_,_,_,⟨h0,hl⟩,E,_,h6⟩:=h
 obtain ⟨cur',e1,e2,e3,e4,e5⟩:=KrD.cells h6
 rw [hc] at e1
 injection e1 with e1
 injection e1 with e1
 subst e1
 have h1:=krCs_get (L:=plL Q) (E:=E) (sz:=3) (i:=0) (e:=1) (v:=.pointer ((E 0 0).v 0)) rfl n hl h0
 rw [← e5,List.getElem?_take_of_lt (by omega)] at h1
 exact ⟨_,by rw [← Array.getElem?_toList]; exact h1⟩
def plPQ (ob:List Ob) (a:Nat):Nat × Nat:=match ob[a]? with
 | some (.box [_,.b (.z p _),.b (.z q _)] _)=>(p,q)
 | _=>(0,0)
abbrev plNeed (a p q:Nat) (Q:Pt):List (Nat × Ob):=[(a,.box [.b (.v (.bool (pI Q))),.b (.z p 0),.b (.z q 0)] PLT),(p,(ratM (pG Q).re).ob),(q,(ratM (pG Q).im).ob)]
theorem pl_app {Q:Nat→Pt} {n:Nat} {k:Bool} (hk:k=false→n=0) (hn:n+1≤1048576) (K a p q M:Nat) (s y:Operand) (β:Env) (w:World) (hh:holdsAll β w (plNeed a p q (Q n))) (hold:oldHolds β w (krOld k 3 PLT n (plL Q) (plTs Q) K)) (ρ:Operand→Value) (o:Oper)
  (ho:o.op=.call ⟨.builtin .append,#[s,y],#[appP.t,appP.t]⟩) (hx:(Op.call ⟨.builtin .append,#[s,y],#[appP.t,appP.t]⟩).operands.toList.map ρ=[krVal k n (β K),.slice (some ⟨(β a).b,0,none⟩) 1 1]) :
  ∃ (g:Pl) (w':World),(execOp ρ o).run Tryz.prog w=.ok (.value ((SV.one (.c (.b (.y M 0 (n+1))))).den (extE β M [g]))) w'∧(plO (n+1) Q).holds (extE β M [g]) w' g∧Grow β w w' (krOld k 3 PLT n (plL Q) (plTs Q) K) g∧owF β (plNeed a p q (Q n)) (krOld k 3 PLT n (plL Q) (plTs Q) K) g:=by
 have ha:(Ob.box [.b (.v (.bool (pI (Q n)))),.b (.z p 0),.b (.z q 0)] PLT).holds β w (β a):=hh (a,_) (by simp [plNeed])
 have hp:(ratM (pG (Q n)).re).D w (β p):=hh (p,(ratM (pG (Q n)).re).ob) (by simp [plNeed])
 have hq:(ratM (pG (Q n)).im).D w (β q):=hh (q,(ratM (pG (Q n)).im).ob) (by simp [plNeed])
 have h3:ρ s=krVal k n (β K)∧ρ y=.slice (some ⟨(β a).b,0,none⟩) 1 1:=by simpa [Op.operands,Call.operands] using hx
 have hT:∀ (i:Nat) (t:Thing) (r:Nat),(plTs Q n)[i]?=some t→[p,q][i]?=some r→t.D w (β r)∧(t=ratM (pG (Q n)).re∨t=ratM (pG (Q n)).im):=fun i t r ht hr=>by
  match i,ht,hr with
  | 0,ht,hr =>
   obtain rfl:=Option.some.inj ht
   obtain rfl:=Option.some.inj hr
   exact ⟨hp,.inl rfl⟩
  | 1,ht,hr =>
   obtain rfl:=Option.some.inj ht
   obtain rfl:=Option.some.inj hr
   exact ⟨hq,.inr rfl⟩
  | i+2,ht,hr=>cases hr
 obtain ⟨g,w',r1,r2,r3,r4⟩:=kr_app appP (L:=plL Q) (T:=plTs Q) (n:=n) (k:=k) hk (fun j _=>rfl) (by simp only [maxLen]; omega) (Nat.le_trans (Nat.mul_le_mul_right _ hn) (by show 1048576*24≤_; decide)) K a M [p,q] [.b (.v (.bool (pI (Q n)))),.b (.z p 0),.b (.z q 0)] (fun E hE=>by
   have e0:=hE 0 p rfl
   have e1:=hE 1 q rfl
   show [Value.bool (pI (Q n)),.pointer ((E 0).v 0),.pointer ((E 1).v 0)]=[Value.bool (pI (Q n)),.pointer ((β p).v 0),.pointer ((β q).v 0)]
   rw [e0,e1]) (fun u hu=>by
   have e:([Lf.b (.v (.bool (pI (Q n)))),.b (.z p 0),.b (.z q 0)]:List Lf).map (Lf.den β)=[Value.bool (pI (Q n)),.pointer ((β p).v 0),.pointer ((β q).v 0)]:=rfl
   rw [e] at hu
   simp only [List.mem_cons,List.not_mem_nil,or_false] at hu
   rcases hu with rfl | rfl | rfl<;>rfl) rfl rfl (fun i t r ht hr=>(hT i t r ht hr).1) (fun cur hcur kk i t r ht hr=>by
   subst kk
   obtain ⟨_,hd⟩:(plO n Q).holds β w (β K):=hold
   obtain ⟨u,hu⟩:=pl_cell1 (Q:=Q) (n:=n) hd hcur
   obtain ⟨h5,h6⟩:=hT i t r ht hr
   rcases h6 with rfl | rfl
   · exact or_no h5 hcur hu
   · exact or_no h5 hcur hu) hold ha s y ρ o ho h3.1 h3.2
 refine ⟨g,w',r1,r2,r3,fun c hc=>?_⟩
 rcases r4 c hc with h | h | ⟨i,r,h1,h2,h3⟩
 · exact .inl h
 · exact .inr (.inl h)
 · refine .inr (.inr ?_)
   match i,h1 with
   | 0,h1=>obtain rfl:=Option.some.inj h1; exact ⟨(p,(ratM (pG (Q n)).re).ob),by simp [plNeed],rfl,h3⟩
   | 1,h1=>obtain rfl:=Option.some.inj h1; exact ⟨(q,(ratM (pG (Q n)).im).ob),by simp [plNeed],rfl,h3⟩
   | i+2,h1=>cases h1
noncomputable def eKApp {Q:Nat→Pt} {n:Nat} (k:Bool) (hk:k=false→n=0) (hn:n+1≤1048576):Ev Tryz.prog:=.dynU (fun o _ _=>isApT appP.t o) fun o xs ob=>match o.op,o.dst with
 | .call ⟨.builtin .append,#[s,y],_⟩,some d=>lit (lsKOf (xs.getD 0 undefS)) fun K=>lit (lsKOf (xs.getD 1 undefS)) fun a=>lit (plPQ ob a).1 fun p=>lit (plPQ ob a).2 fun q=>lit ob.length fun M =>
   .upd (some d) (.call ⟨.builtin .append,#[s,y],#[appP.t,appP.t]⟩) (fun β=>[krVal k n (β K),.slice (some ⟨(β a).b,0,none⟩) 1 1]) (plNeed a p q (Q n)) (krOld k 3 PLT n (plL Q) (plTs Q) K) M (plO (n+1) Q) (.one (.c (.b (.y M 0 (n+1))))) (fun β w hh hold ρ o ho hx=>pl_app hk hn K a p q M s y β w hh hold ρ o ho hx)
 | _,_=>.cut
abbrev TG:TypeId:=46
theorem said_0 {P:Program} {fn:Func} {m0:Nat} {res res':SV} {β:Env} {w:World} {e:Ending} {w':World} (h:Said P fn m0 res [] β w e w') (hr:∀ β':Env,(∀ k,k<m0→β' k=β k)→res.den β'=res'.den β):∃ xs:List Pl,freshS β w m0 xs∧e=.returned (res'.den (extE β m0 xs))∧newHold w' [] xs∧Below w.heap.size w w':=by
 obtain ⟨β',q,obj,hb,rfl,_,_,_,g⟩:=h
 exact ⟨[],(fun _ h=>by cases h),by rw [hr β' hb,extE_nil],trivial,g.bel⟩
theorem said_1 {P:Program} {fn:Func} {m0 k:Nat} {res res':SV} {t:Thing} {β:Env} {w:World} {e:Ending} {w':World} (h:Said P fn m0 res [(k,t.ob)] β w e w') (hr:∀ β':Env,(∀ k,k<m0→β' k=β k)→res.den β'=res'.den (extE β m0 [β' k])):∃ xs:List Pl,freshS β w m0 xs∧e=.returned (res'.den (extE β m0 xs))∧newHold w' [t] xs∧Below w.heap.size w w':=by
 obtain ⟨β',q,obj,hb,rfl,_,hF,hh,g⟩:=h
 refine ⟨[β' k],fun x hx c hc=>?_,by rw [hr β' hb],⟨hh _ (List.mem_singleton.2 rfl),trivial⟩,g.bel⟩
 obtain rfl:=List.mem_singleton.1 hx
 exact hF _ (List.mem_singleton.2 rfl) c hc
theorem hd_ev' {m0 N B0:Nat} {w0:World} {β0:Env} {Q:Exit→Act→World→Prop} {u:Nat} {sl:List (Nat × SV)} {ob:List Ob} {ev ev':List (Ev Tryz.prog)} {p:Code × List Kf} (h:HdOk Tryz.prog m0 N B0 w0 β0 Q (mkC Tryz.prog N u sl ob ev) p):HdOk Tryz.prog m0 N B0 w0 β0 Q (mkC Tryz.prog N u sl ob ev') p :=
 fun β a w hβ hs=>h β a w hβ (hs.ev ev)
abbrev TPs:TypeId:=70
theorem tps_u:Tryz.prog.underlying TPs=some (.slice (Tryz.prog.elem TPs)):=by kernel_rfl
theorem tps_s:(Tryz.prog.info? (Tryz.prog.elem TPs)).map (·.size)=some 9:=by kernel_rfl
theorem tpt_d:((Tryz.prog.underlying PTT).map fun d=>d.isRow)=some true:=by kernel_rfl
noncomputable def tptD:TypeDesc:=(Tryz.prog.underlying PTT).getD (.slice 0)
theorem tptD_u:Tryz.prog.underlying PTT=some tptD∧tptD.isRow=true:=by
 have h:=tpt_d
 unfold tptD
 cases h2:Tryz.prog.underlying PTT with
 | none=>rw [h2] at h; cases h
 | some d =>
  rw [h2] at h
  exact ⟨rfl,Option.some.inj h⟩
abbrev lsP (P:Nat→Pp) (j:Nat):List Lf:=lsX (P j).w.C
abbrev lpT (N:Nat) (P:Nat→Pp):Thing:=rwT 9 N (lsP P)
noncomputable def pLd {N j:Nat} (P:Nat→Pp) (hj:j<N):Ev Tryz.prog:=eLd tptD_u.1 tptD_u.2 9 (L:=lsP P) (by kernel_rfl) (fun β=>rfl) hj
noncomputable def pIx0 {n N j:Nat} (P:Nat→Pp) (hj:j<n) (hN:n≤N):Ev Tryz.prog:=eIx tps_u tps_s (lsP P) hj hN
theorem lpSome:(Tryz.prog.info? 61).isSome=true:=by kernel_rfl
noncomputable def lpApp:AppT Tryz.prog :=
 ⟨TPs,PTT,(Tryz.prog.info? 61).get lpSome,.agg #[.bool false,.bool false,.string ⟨#[]⟩,.bool false,.string ⟨#[]⟩,.bool false,.string ⟨#[]⟩,.bool false,.string ⟨#[]⟩],9,104,Tryz.underlying70,(Option.some_get lpSome).symm,by kernel_rfl,by kernel_rfl,by kernel_rfl,rfl,by decide,by decide⟩
theorem lp_one (r:Rw):∀ u∈(lsX r.C).map (Lf.den idE),u.oneCell'=true:=fun u hu=>by
 have e:(lsX r.C).map (Lf.den idE)=[.bool r.i,.bool r.x.b,.string r.x.s,.bool r.x.c,.string r.x.t,.bool r.y.b,.string r.y.s,.bool r.y.c,.string r.y.t]:=rfl
 rw [e] at hu
 simp only [List.mem_cons,List.not_mem_nil,or_false] at hu
 rcases hu with rfl | rfl | rfl | rfl | rfl | rfl | rfl | rfl | rfl<;>rfl
theorem lpOrL (P:Nat→Pp) {n:Nat} (hn:n≤10000):OrL lpApp (lsP P) n :=
 ⟨fun j _=>rfl,fun j _=>lp_one _,Nat.le_trans hn (by decide),Nat.le_trans (Nat.mul_le_mul_right _ hn) (by show 10000*104≤_; decide)⟩
abbrev lpS0 (n:Nat):SV:=.one (.c (.b (.y 0 0 n)))
noncomputable def plQ:Pp→Pt
 | .fin (.ok x _) (.ok y _)=>.fin ⟨x,y⟩
 | _=>.inf
theorem plQ_ok {p:Pp} (h:p.B=true):FitP (plQ p)∧p.w=(plQ p).w:=by
 cases p with
 | inf=>exact ⟨trivial,rfl⟩
 | odd=>cases h
 | fin a b =>
  cases a with
  | no=>cases h
  | ok x hx=>cases b with
   | no=>cases h
   | ok y hy=>exact ⟨⟨hx,hy⟩,rfl⟩
noncomputable def sPlSpot {p:Pp} (h:p.B=true):Spec Tryz.prog:=(sSpotP (plQ p) (plQ_ok h).1).as [.one (.a (lsX p.w.C))] (.tup [.a (pL 0 (plQ p)),.c (.b (.v (.bool true)))]) (by
 show [SV.one (.a (lsX (plQ p).w.C))]=_
 rw [(plQ_ok h).2]) rfl
noncomputable abbrev spF:Func:=Tryz.f188
noncomputable abbrev spQ (P:Nat→Pp) (j:Nat):Pt:=plQ (P j)
abbrev spNil:SV:=.one (.c (.b (.v (.slice none 0 0))))
section
variable (n N:Nat) (P:Nat→Pp)
noncomputable abbrev spN:Nat:=sizeS spF [lpS0 n]
abbrev spSl (o:SV) (j:Nat):List (Nat × SV):=[(4,o),(9,lpS0 n),(10,.one (nI' (n:Int))),(11,.one (nI' (j:Int)))]
noncomputable abbrev spC0 (ev:List (Ev Tryz.prog)):Cf Tryz.prog:=mkC Tryz.prog (spN n) 1 (spSl n spNil 0) [(lpT N P).ob,.dead] ev
noncomputable abbrev spC (j:Nat) (ev:List (Ev Tryz.prog)):Cf Tryz.prog:=mkC Tryz.prog (spN n) 1 (spSl n (.one (.c (.b (.y 2 0 j)))) j) [(lpT N P).ob,.dead,plO j (spQ P)] ev
abbrev spH (r:SV) (l:List (Nat × Ob)) (β0:Env) (w:World) (c:Cf Tryz.prog):Prop:=HdOk Tryz.prog 1 (spN n) w.heap.size w β0 (bodyPost Tryz.prog spF (Said Tryz.prog spF 1 r l β0 w)) c (lpAt spF 0)
abbrev spRY:SV:=.tup [.c (.b (.y 2 0 n)),.c (.b (.v (.bool true)))]
abbrev spRN (b:Bool):SV:=.tup [.c (.b (.v (.slice none 0 0))),.c (.b (.v (.bool b)))]
variable (β0:Env) (w:World) (r:SV) (l:List (Nat × Ob)) {j:Nat} (hN:n≤N)
noncomputable def spE (hj:j<n):List (Ev Tryz.prog):=[.eqv 12 (.bool (decide ((j:Int)<(n:Int)))) (.bool true) (by rw [decide_eq_true (by omega)]),pIx0 P hj hN,pLd P (j:=j) (N:=N) (Nat.lt_of_lt_of_le hj hN)]
theorem sp_first (hj:0<n) (h:(P 0).B=true) (k:spH n r l β0 w (spC n N P 1 [])):spH n r l β0 w (spC0 n N P (spE n N P hN hj++[(sPlSpot h).e,eKApp (Q:=spQ P) (n:=0) false (fun _=>rfl) (by decide),.cut])) :=
 piece_ok (Ns:=[]) (m:=800) [] [0,0,7] hmA (by kernel_rfl) (fun β=>ok_of_maps (by kernel_rfl)) k
theorem sp_step (hj:j<n) (hn:n≤1048575) (h:(P j).B=true) {j2:Int} (hj2:IntKind.i64.wrap ((j:Int)+1)=j2) (e2:j2=((j+1:Nat):Int)) (k:spH n r l β0 w (spC n N P (j+1) [])):spH n r l β0 w (spC n N P j (spE n N P hN hj++[(sPlSpot h).e,eKApp (Q:=spQ P) (n:=j) true (fun e=>by cases e) (by omega),.eqv 26 (.int .i64 (IntKind.i64.wrap ((j:Int)+1))) (.int .i64 ((j+1:Nat):Int)) (by rw [hj2,e2]),.cut])) :=
 piece_ok (Ns:=[]) (m:=800) [] [0,0,8] hmA (by kernel_rfl) (fun β=>ok_of_maps (by kernel_rfl)) k
theorem sp_no0 (hj:0<n) (h:(P 0).B=false):spH n (spRN false) [] β0 w (spC0 n N P (spE n N P hN hj++[(sSpotW (P 0) h).e])) :=
 last_ok (Ns:=[]) (m:=800) hmA (fun β=>ok_of_maps (by kernel_rfl))
theorem sp_no (hj:j<n) (h:(P j).B=false):spH n (spRN false) [] β0 w (spC n N P j (spE n N P hN hj++[(sSpotW (P j) h).e])) :=
 last_ok (Ns:=[]) (m:=800) hmA (fun β=>ok_of_maps (by kernel_rfl))
theorem sp_end0:spH 0 (spRN true) [] β0 w (spC0 0 N P [.eqv 12 (.bool (decide ((0:Int)<(0:Int)))) (.bool false) (by rw [decide_eq_false (by decide)])]) :=
 last_ok (Ns:=[]) (m:=400) hmA (fun β=>ok_of_maps (by kernel_rfl))
theorem sp_end:spH n (spRY n) [(2,(plR n (spQ P)).ob)] β0 w (spC n N P n [eFrz,.eqv 12 (.bool (decide ((n:Int)<(n:Int)))) (.bool false) (by rw [decide_eq_false (by omega)])]) :=
 last_ok (Ns:=[]) (m:=400) hmA (fun β=>ok_of_maps (by kernel_rfl))
theorem sp_start (hh:(lpT N P).D w (β0 0)) (k:spH n r l β0 w (spC0 n N P [])):Calls Tryz.prog 188 (([lpS0 n]:List SV).map (SV.den β0)).toArray w (Said Tryz.prog spF 1 r l β0 w) :=
 sx_cut (P:=Tryz.prog) [lpS0 n] [(lpT N P).ob] [.cut] [] [] 400 r l Tryz.func188 hmA (u:=1) (sl:=spSl n spNil 0) (ob:=[(lpT N P).ob,.dead]) (σ:=[0,0]) (p':=lpAt spF 0) (by kernel_rfl) (fun β=>ok_of_maps (by kernel_rfl)) (by kernel_rfl) (by kernel_rfl) β0 w (fun i o ho=>by
  cases i with
  | zero=>simp only [List.getElem?_cons_zero] at ho; obtain rfl:=Option.some.inj ho; exact hh
  | succ i=>simp at ho) k
include hN in
theorem sp_run (hn:n≤1048575) (h:∀ i,i<n→(P i).B=true) {t:Nat} (ht:t≤n) (k:spH n r l β0 w (spC n N P t [])):∀ (d j:Nat),j+d=t→spH n r l β0 w (spC n N P j [])
 | 0,j,e=>by
  obtain rfl:j=t:=by omega
  exact k
 | d+1,j,e=>hd_ev' (sp_step n N P β0 w r l hN (by omega) hn (h j (by omega)) (j2:=((j+1:Nat):Int)) (by rw [IntKind.wrap_i64]; omega) rfl (sp_run hn h ht k d (j+1) (by omega)))
end
noncomputable def sSpL {n N:Nat} (P:Nat→Pp) (hN:n≤N) (hn:n≤1048575) (h0:0<n) (h:∀ i,i<n→(P i).B=true):Spec Tryz.prog :=
 ⟨188,Tryz.call188,[lpS0 n],[lpT N P],.tup [.c (.b (.y 1 0 n)),.c (.b (.v (.bool true)))],[plR n (spQ P)],fun β w hh=>(sp_start n N P β w _ _ (hh 0 _ rfl) (hd_ev' (sp_first n N P β w _ _ hN h0 (h 0 h0) (sp_run n N P β w _ _ hN hn h (Nat.le_refl n) (hd_ev' (sp_end n N P β w)) (n-1) 1 (by omega))))).mono fun e w' h=>said_1 h fun β' _=>rfl,by kernel_rfl⟩
noncomputable def sSpL0 {N:Nat} (P:Nat→Pp):Spec Tryz.prog :=
 ⟨188,Tryz.call188,[lpS0 0],[lpT N P],spRN true,[],fun β w hh=>(sp_start 0 N P β w _ _ (hh 0 _ rfl) (hd_ev' (sp_end0 N P β w))).mono fun e w' h=>said_0 h fun β' _=>rfl,by kernel_rfl⟩
theorem sp_noAt {n N:Nat} (P:Nat→Pp) (β0:Env) (w:World) (hN:n≤N) (hn:n≤1048575) {i:Nat} (hi:i<n) (h:(P i).B=false) (h2:∀ k,k<i→(P k).B=true) (hh:(lpT N P).D w (β0 0)):Calls Tryz.prog 188 (([lpS0 n]:List SV).map (SV.den β0)).toArray w (Said Tryz.prog spF 1 (spRN false) [] β0 w):=by
 refine sp_start n N P β0 w _ _ hh ?_
 rcases Nat.eq_zero_or_pos i with rfl | h0
 · exact hd_ev' (sp_no0 n N P β0 w hN hi h)
 · refine hd_ev' (sp_first n N P β0 w _ _ hN (by omega) (h2 0 h0) ?_)
   have key:∀ (d j:Nat),j+d=i→spH n (spRN false) [] β0 w (spC n N P j []):=fun d=>by
    induction d with
    | zero =>
     intro j e
     obtain rfl:j=i:=by omega
     exact hd_ev' (sp_no n N P β0 w hN hi h)
    | succ d ih=>intro j e; exact hd_ev' (sp_step n N P β0 w _ _ hN (by omega) hn (h2 j (by omega)) (j2:=((j+1:Nat):Int)) (by rw [IntKind.wrap_i64]; omega) rfl (ih (j+1) (by omega)))
   exact key (i-1) 1 (by omega)
noncomputable def sSpLNo {n N:Nat} (P:Nat→Pp) (hN:n≤N) (hn:n≤1048575) {i:Nat} (hi:i<n) (h:(P i).B=false) (h2:∀ k,k<i→(P k).B=true):Spec Tryz.prog :=
 ⟨188,Tryz.call188,[lpS0 n],[lpT N P],spRN false,[],fun β w hh=>(sp_noAt P β w hN hn hi h h2 (hh 0 _ rfl)).mono fun e w' h=>said_0 h fun β' _=>rfl,by kernel_rfl⟩
abbrev PLTS:TypeId:=230
theorem pls_u:Tryz.prog.underlying PLTS=some (.slice (Tryz.prog.elem PLTS)):=by kernel_rfl
theorem pls_s:(Tryz.prog.info? (Tryz.prog.elem PLTS)).map (·.size)=some 3:=by kernel_rfl
theorem kr_ix {n m j:Nat} {Q:Nat→Pt} (hj:j<n) (hm:n≤m) (k:Nat) (x y:Operand) (β:Env) (w:World) (h:holdsAll β w [(k,(plR m Q).ob)]) (ρ:Operand→Value) (o:Oper) (ho:o.op=.indexAddr PLTS x y)
  (hx:(Op.indexAddr PLTS x y).operands.toList.map ρ=[.slice ((β k).v 0) n ((β k).c 0),.int .i64 (j:Int)]):∃ ys w',fresh β w [(k,(plR m Q).ob)] ys∧(execOp ρ o).run Tryz.prog w=.ok (.value ((SV.one (.c (.b (.z k (j*3))))).den (extE β 0 ys))) w'∧newHold w' [] ys∧Below w.heap.size w w':=by
 have h1:KrD 3 PLT m (plL Q) (plTs Q) w (β k):=h _ (List.mem_singleton.2 rfl)
 have h3:ρ x=.slice ((β k).v 0) n ((β k).c 0)∧ρ y=.int .i64 (j:Int):=by simpa [Op.operands] using hx
 have hv:=h1.2.2.1
 refine ⟨[],w,(fun _ h=>by cases h),?_,trivial,Below.refl _ _⟩
 unfold execOp
 rw [ho]
 dsimp only
 rw [h3.1,h3.2,hv 0]
 have e:((SV.one (.c (.b (.z k (j*3))))).den (extE β 0 []))=.pointer (some ⟨(β k).b,j*3,none⟩):=by
  show Value.pointer ((β k).v (j*3))=_
  rw [hv]
 rw [e]
 have hz:((sizeOf (Tryz.prog.elem PLTS)).run Tryz.prog w)=.ok 3 w:=by
  have hs:=pls_s
  cases hq:Tryz.prog.info? (Tryz.prog.elem PLTS) with
  | none=>rw [hq] at hs; cases hs
  | some i =>
   have hs:i.size=3:=by rw [hq] at hs; simpa using hs
   simp [sizeOf,typeInfo,hq,hs]
 have h6:=run_indexAt_slice (P:=Tryz.prog) (w:=w) PLTS ⟨(β k).b,0,none⟩ n ((β k).c 0) .i64 (j:Int) pls_u
 rw [if_pos ⟨by omega,by omega⟩,hz] at h6
 simp only [Result.andThen_ok,Int.toNat_natCast,Addr.add_mid,Nat.zero_add] at h6
 simp [go_sem,h6]
def eKIx {n m j:Nat} (Q:Nat→Pt) (hj:j<n) (hm:n≤m):Ev Tryz.prog:=.dyn (fun o _ _=>match o.op with
 | .indexAddr t _ _=>Nat.beq t PLTS
 | _=>false) fun o xs _=>match o.op with
 | .indexAddr _ x y=>lit (lsYOf (xs.getD 0 undefS)) fun k=>.rd (o.dst.getD 0) (.indexAddr PLTS x y) (fun β=>[.slice ((β k).v 0) n ((β k).c 0),.int .i64 (j:Int)]) [(k,(plR m Q).ob)] 0 (.one (.c (.b (.z k (j*3))))) [] (fun β w h ρ o ho hx=>kr_ix hj hm k x y β w h ρ o ho hx)
 | _=>.cut
theorem plt_d:((Tryz.prog.underlying PLT).map fun d=>d.isRow)=some true:=by kernel_rfl
theorem plt_s:(Tryz.prog.info? PLT).map (·.size)=some 3:=by kernel_rfl
theorem kr_ld {m j:Nat} {Q:Nat→Pt} (hj:j<m) (k N:Nat) (x:Operand) (β:Env) (w:World) (h:holdsAll β w [(k,(plR m Q).ob)]) (ρ:Operand→Value) (o:Oper) (ho:o.op=.load PLT x)
  (hx:(Op.load PLT x).operands.toList.map ρ=[.pointer ((β k).v (j*3))]):∃ ys w',fresh β w [(k,(plR m Q).ob)] ys∧(execOp ρ o).run Tryz.prog w=.ok (.value ((SV.one (.a (pL N (Q j)))).den (extE β N ys))) w'∧newHold w' (pM (Q j)) ys∧Below w.heap.size w w':=by
 obtain ⟨_,_,hv,⟨h0,hl⟩,E,h5,h6⟩:KrD 3 PLT m (plL Q) (plTs Q) w (β k):=h _ (List.mem_singleton.2 rfl)
 have h3:ρ x=.pointer ((β k).v (j*3)):=by simpa [Op.operands] using hx
 have t0:=h5 j hj 0 (ratM (pG (Q j)).re) rfl
 have t1:=h5 j hj 1 (ratM (pG (Q j)).im) rfl
 refine ⟨[E j 0,E j 1],w,fun g hg c hc=>.inr ⟨(k,(plR m Q).ob),List.mem_singleton.2 rfl,rfl,?_⟩,?_,⟨t0.1,t1.1,trivial⟩,Below.refl _ _⟩
 · rcases List.mem_cons.1 hg with rfl | hg
   · exact (t0.2 c hc).1
   · obtain rfl:=List.mem_singleton.1 hg
     exact (t1.2 c hc).1
 · obtain ⟨d,hd1,hd2⟩:∃ d,Tryz.prog.underlying PLT=some d∧d.isRow=true:=by
    have h:=plt_d
    cases h2:Tryz.prog.underlying PLT with
    | none=>rw [h2] at h; cases h
    | some d=>rw [h2] at h; exact ⟨d,rfl,Option.some.inj h⟩
   obtain ⟨cur,c1,_,_,_,c5⟩:=KrD.cells h6
   have hc:w.rangeAt (β k).b (j*3) ((plL Q j).map (Lf.den (E j))):=fun e v hv=>by
    rw [cell_of_row _ _ _ _ _ _ c1]
    have he:e<3:=(List.getElem?_eq_some_iff.1 hv).1
    have h1:=krCs_get hv m hl hj
    rw [← c5,List.getElem?_take_of_lt (by omega)] at h1
    rw [← Array.getElem?_toList]
    exact h1
   have h6:=run_loadAt_mid (P:=Tryz.prog) w (β k).b (j*3) PLT _ d hc hd1 hd2 plt_s
   have e:(SV.one (.a (pL N (Q j)))).den (extE β N [E j 0,E j 1])=.agg ((plL Q j).map (Lf.den (E j))).toArray:=by
    rw [pL,den_three]
    rfl
   rw [e]
   unfold execOp
   rw [ho]
   dsimp only
   rw [h3,hv]
   simp only [Sem.run_bind,h6,Result.andThen_ok]
   rfl
def eKLd {m j:Nat} (Q:Nat→Pt) (hj:j<m):Ev Tryz.prog:=.dyn (fun o xs _=>match o.op with
 | .load t _=>Nat.beq t PLT
 | _=>false) fun o xs ob=>match o.op with
 | .load _ x=>lit (lsZOf (xs.getD 0 undefS)) fun k=>lit ob.length fun N=>.rd (o.dst.getD 0) (.load PLT x) (fun β=>[.pointer ((β k).v (j*3))]) [(k,(plR m Q).ob)] N (.one (.a (pL N (Q j)))) (pM (Q j)) (fun β w h ρ o ho hx=>kr_ld hj k N x β w h ρ o ho hx)
 | _=>.cut
abbrev RNG:TypeId:=235
noncomputable abbrev iyF:Func:=Tryz.f309
abbrev iyS (n:Nat):SV:=.one (.c (.b (.y 0 0 n)))
abbrev iyA (n:Nat):List SV:=[iyS n,onF]
abbrev iyO (m:Nat) (Q:Nat→Pt) (r:RQ):List Ob:=[(plR m Q).ob,(ratT r.a).ob,(ratT r.b.re).ob,(ratT r.b.im).ob,(ratT r.c).ob,.box [.b (.z 1 0),.b (.z 2 0),.b (.z 3 0),.b (.z 4 0)] RNG]
abbrev onB (r:RQ) (p:Pt):Bool:=!((sidQ r p).num.sign==0)
section
variable (n:Nat) (Q:Nat→Pt) (r:RQ)
noncomputable abbrev iyN:Nat:=sizeS iyF (iyA n)
abbrev iySl (j:Nat):List (Nat × SV):=[(0,iyS n),(1,onF),(7,.one (nI' (n:Int))),(8,.one (nI' (j:Int)))]
noncomputable abbrev iyC (j:Nat) (ev:List (Ev Tryz.prog)):Cf Tryz.prog:=mkC Tryz.prog (iyN n) 6 (iySl n j) (iyO n Q r++[.dead]) ev
abbrev iyH (k:Int) (β0:Env) (w:World) (c:Cf Tryz.prog):Prop:=HdOk Tryz.prog 6 (iyN n) w.heap.size w β0 (bodyPost Tryz.prog iyF (Said Tryz.prog iyF 6 (.one (nI' k)) [] β0 w)) c (lpAt iyF 0)
variable (β0:Env) (w:World) {j:Nat} (hr:RSz KC r)
noncomputable def iyE (hj:j<n):List (Ev Tryz.prog):=[.eqv 9 (.bool (decide ((j:Int)<(n:Int)))) (.bool true) (by rw [decide_eq_true (by omega)]),eKIx Q hj (Nat.le_refl n),eKLd (m:=n) Q hj]
theorem iy_step (k:Int) (hj:j<n) (hq:FitP (Q j)) (h:onB r (Q j)=false) {j2:Int} (hj2:IntKind.i64.wrap ((j:Int)+1)=j2) (e2:j2=((j+1:Nat):Int)) (kk:iyH n k β0 w (iyC n Q r (j+1) [])):iyH n k β0 w (iyC n Q r j (iyE n Q hj++[(sOn1 hr hq h).e,.eqv 18 (.int .i64 (IntKind.i64.wrap ((j:Int)+1))) (.int .i64 ((j+1:Nat):Int)) (by rw [hj2,e2]),.cut])) :=
 piece_ok (Ns:=[]) (m:=400) [] [0,1,2,3,4,5,0] hmA (by kernel_rfl) (fun β=>ok_of_maps (by kernel_rfl)) kk
theorem iy_no (hj:j<n) (hq:FitP (Q j)) (h:onB r (Q j)=true):iyH n (j:Int) β0 w (iyC n Q r j (iyE n Q hj++[(sOn1 hr hq h).e])) :=
 last_ok (Ns:=[]) (m:=400) hmA (fun β=>ok_of_maps (by kernel_rfl))
theorem iy_end:iyH n (-1) β0 w (iyC n Q r n [.eqv 9 (.bool (decide ((n:Int)<(n:Int)))) (.bool false) (by rw [decide_eq_false (by omega)])]) :=
 last_ok (Ns:=[]) (m:=400) hmA (fun β=>ok_of_maps (by kernel_rfl))
include hr in
theorem iy_loop (hn:n≤1048576) (hq:∀ i,i<n→FitP (Q i)) (h:∀ i,i<n→onB r (Q i)=false):∀ (d j:Nat),j+d=n→iyH n (-1) β0 w (iyC n Q r j [])
 | 0,j,e=>by
  obtain rfl:j=n:=by omega
  exact cx_hd (iy_end j Q r β0 w)
 | d+1,j,e=>cx_hd (iy_step n Q r β0 w hr _ (by omega) (hq j (by omega)) (h j (by omega)) (j2:=((j+1:Nat):Int)) (by rw [IntKind.wrap_i64]; omega) rfl (iy_loop hn hq h d (j+1) (by omega)))
include hr in
theorem iy_loopN (hn:n≤1048576) (hq:∀ i,i<n→FitP (Q i)) {i:Nat} (hi:i<n) (h:onB r (Q i)=true) (h2:∀ k,k<i→onB r (Q k)=false):∀ (d j:Nat),j+d=i→iyH n (i:Int) β0 w (iyC n Q r j [])
 | 0,j,e=>by
  obtain rfl:j=i:=by omega
  exact cx_hd (iy_no n Q r β0 w hr hi (hq _ hi) h)
 | d+1,j,e=>cx_hd (iy_step n Q r β0 w hr _ (by omega) (hq j (by omega)) (h2 j (by omega)) (j2:=((j+1:Nat):Int)) (by rw [IntKind.wrap_i64]; omega) rfl (iy_loopN hn hq hi h h2 d (j+1) (by omega)))
theorem iy_start (k:Int) (hh:∀ (i:Nat) (o:Ob),(iyO n Q r)[i]?=some o→o.holds β0 w (β0 i)) (h:iyH n k β0 w (iyC n Q r 0 [])):Calls Tryz.prog 309 ((iyA n).map (SV.den β0)).toArray w (Said Tryz.prog iyF 6 (.one (nI' k)) [] β0 w) :=
 sx_cut (P:=Tryz.prog) (iyA n) (iyO n Q r) [.cut] [] [] 400 (.one (nI' k)) [] Tryz.func309 hmA (u:=6) (sl:=iySl n 0) (ob:=iyO n Q r++[.dead]) (σ:=[0,1,2,3,4,5,0]) (p':=lpAt iyF 0) (by kernel_rfl) (fun β=>ok_of_maps (by kernel_rfl)) (by kernel_rfl) (by kernel_rfl) β0 w hh h
end
def rgPk (ob:List Ob) (b:Nat):Nat × Nat × Nat × Nat:=match ob[b]? with
 | some (.box [.b (.z p _),.b (.z q _),.b (.z r _),.b (.z s _)] _)=>(p,q,r,s)
 | _=>(0,0,0,0)
def fnPk2:List SV→Nat
 | []=>0
 | .one (.c (.f _ _ [.p b _]))::_=>b
 | _::r=>fnPk2 r
def slPk2:List SV→Nat
 | []=>0
 | .one (.c (.b (.y k _ _)))::_=>k
 | _::r=>slPk2 r
def env6 (g0 g1 g2 g3 g4 g5:Pl):Env:=fun i=>match i with
 | 0=>g0
 | 1=>g1
 | 2=>g2
 | 3=>g3
 | 4=>g4
 | _=>g5
def iyEv (f:FuncId) (en:Enters Tryz.prog f) (n:Nat) (Q:Nat→Pt) (r:RQ) (v:Value) (hv:∀ β,(tag v).den β=v) (ok:∀ (β0:Env) (w:World),(∀ (i:Nat) (o:Ob),(iyO n Q r)[i]?=some o→o.holds β0 w (β0 i))→Calls Tryz.prog f ((iyA n).map (SV.den β0)).toArray w fun e w'=>e=.returned v∧Below w.heap.size w w'):Ev Tryz.prog :=
 .dyn (fun o _ _=>isCallB o) fun _ xs ob=>lit (slPk2 xs) fun k=>lit (fnPk2 xs) fun b=>lit (rgPk ob b).1 fun p=>lit (rgPk ob b).2.1 fun q=>lit (rgPk ob b).2.2.1 fun s=>lit (rgPk ob b).2.2.2 fun u =>
  .call f en (fun β=>((iyA n).map (SV.den (env6 (β k) (β p) (β q) (β s) (β u) (β b)))).toArray) [(k,(plR n Q).ob),(p,(ratT r.a).ob),(q,(ratT r.b.re).ob),(s,(ratT r.b.im).ob),(u,(ratT r.c).ob),(b,.box [.b (.z p 0),.b (.z q 0),.b (.z s 0),.b (.z u 0)] RNG)] 0 (tag v) [] (fun β w h=>of_pure0 (ok (env6 (β k) (β p) (β q) (β s) (β u) (β b)) w fun i o ho=>by
   match i,ho with
   | 0,ho=>obtain rfl:=Option.some.inj ho; exact h (k,(plR n Q).ob) (by simp)
   | 1,ho=>obtain rfl:=Option.some.inj ho; exact h (p,(ratT r.a).ob) (by simp)
   | 2,ho=>obtain rfl:=Option.some.inj ho; exact h (q,(ratT r.b.re).ob) (by simp)
   | 3,ho=>obtain rfl:=Option.some.inj ho; exact h (s,(ratT r.b.im).ob) (by simp)
   | 4,ho=>obtain rfl:=Option.some.inj ho; exact h (u,(ratT r.c).ob) (by simp)
   | 5,ho=>obtain rfl:=Option.some.inj ho; exact h (b,.box [.b (.z p 0),.b (.z q 0),.b (.z s 0),.b (.z u 0)] RNG) (by simp)
   | i+6,ho=>cases ho) hv)
theorem iy_fin {v:Value} {β0:Env} {w:World} {e:Ending} {w':World} (res:SV) (hr:∀ β,res.den β=v) (fn:Func) (h:Said Tryz.prog fn 6 res [] β0 w e w'):e=.returned v∧Below w.heap.size w w':=by
 obtain ⟨β',q,obj,_,rfl,_,_,_,g⟩:=h
 exact ⟨by rw [hr],g.bel⟩
section
variable {n:Nat} (Q:Nat→Pt) {r:RQ} (hr:RSz KC r) (hn:n≤1048576) (hq:∀ i,i<n→FitP (Q i))
noncomputable def iyIx (h:∀ i,i<n→onB r (Q i)=false):Ev Tryz.prog :=
 iyEv 309 Tryz.call309 n Q r (.int .i64 (-1)) (fun β=>rfl) fun β0 w hh=>(iy_start n Q r β0 w _ hh (iy_loop n Q r β0 w hr hn hq h n 0 (by omega))).mono fun e w' k=>iy_fin _ (fun β=>rfl) iyF k
noncomputable def iyIxN {i:Nat} (hi:i<n) (h:onB r (Q i)=true) (h2:∀ k,k<i→onB r (Q k)=false):Ev Tryz.prog :=
 iyEv 309 Tryz.call309 n Q r (.int .i64 (i:Int)) (fun β=>rfl) fun β0 w hh=>(iy_start n Q r β0 w _ hh (iy_loopN n Q r β0 w hr hn hq hi h h2 i 0 (by omega))).mono fun e w' k=>iy_fin _ (fun β=>rfl) iyF k
include hr hn hq in
theorem iy_has (h:∀ i,i<n→onB r (Q i)=false) (β0:Env) (w:World) (hh:∀ (i:Nat) (o:Ob),(iyO n Q r)[i]?=some o→o.holds β0 w (β0 i)) :
  Calls Tryz.prog 192 ((iyA n).map (SV.den β0)).toArray w fun e w'=>e=.returned (.bool false)∧Below w.heap.size w w' :=
 (sx (P:=Tryz.prog) (iyA n) (iyO n Q r) [iyIx Q hr hn hq h] [] 400 (tB' false) [] Tryz.func192 hmA (fun β=>ok_of_maps (by kernel_rfl)) (by kernel_rfl) (by kernel_rfl) β0 w hh).mono fun e w' ⟨β',q,obj,_,he,_,_,_,g⟩=>⟨by rw [he]; rfl,g.bel⟩
include hr hn hq in
theorem iy_hasN {i:Nat} (hi:i<n) (h:onB r (Q i)=true) (h2:∀ k,k<i→onB r (Q k)=false) (β0:Env) (w:World) (hh:∀ (i:Nat) (o:Ob),(iyO n Q r)[i]?=some o→o.holds β0 w (β0 i)) :
  Calls Tryz.prog 192 ((iyA n).map (SV.den β0)).toArray w fun e w'=>e=.returned (.bool true)∧Below w.heap.size w w' :=
 (sx (P:=Tryz.prog) (iyA n) (iyO n Q r) [iyIxN Q hr hn hq hi h h2,.eqv 8 (.bool (decide ((0:Int)≤(i:Int)))) (.bool true) (by rw [decide_eq_true (by omega)])] [] 400 (tB' true) [] Tryz.func192 hmA (fun β=>ok_of_maps (by kernel_rfl)) (by kernel_rfl) (by kernel_rfl) β0 w hh).mono fun e w' ⟨β',q,obj,_,he,_,_,_,g⟩=>⟨by rw [he]; rfl,g.bel⟩
noncomputable def iyHas (h:∀ i,i<n→onB r (Q i)=false):Ev Tryz.prog :=
 iyEv 192 Tryz.call192 n Q r (.bool false) (fun β=>rfl) (iy_has Q hr hn hq h)
noncomputable def iyHasN {i:Nat} (hi:i<n) (h:onB r (Q i)=true) (h2:∀ k,k<i→onB r (Q k)=false):Ev Tryz.prog :=
 iyEv 192 Tryz.call192 n Q r (.bool true) (fun β=>rfl) (iy_hasN Q hr hn hq hi h h2)
end
abbrev onA (l:List Lf) (n:Nat):List SV:=[.one (.a l),lpS0 n]
abbrev onR (b:Bool) (k:Int):SV:=.tup [.c (.b (.v (.bool b))),nI' k]
section
variable {p:Cq} {n N:Nat} (P:Nat→Pp) (hN:n≤N) (hn:n≤4096)
theorem spQ_fit {P:Nat→Pp} {n:Nat} (h:∀ i,i<n→(P i).B=true) (i:Nat) (hi:i<n):FitP (spQ P i):=(plQ_ok (h i hi)).1
noncomputable def onW (hp:p.B=true):Spec Tryz.prog:=(sWheel (cqR_ok hp).1).as [.one (.a (cqL p))] (.tup [.a [.b (.z 0 0),.b (.z 1 0),.b (.z 2 0),.b (.z 3 0)],.c (.b (.v (.bool true)))]) (by
 show [SV.one (.a (cC (cqR p)))]=[SV.one (.a (cqL p))]
 rw [(cqR_ok hp).2]) rfl
noncomputable def sOnY (hp:p.B=true) (h0:0<n) (h:∀ i,i<n→(P i).B=true) (hs:∀ i,i<n→onB (cqR p) (spQ P i)=false):Spec Tryz.prog :=
 Spec.auto Tryz.call66 (onA (cqL p) n) [lpT N P] (onR true 0) [] [(onW hp).e,(sSpL P hN (Nat.le_trans hn (by decide)) h0 h).e,.eqv 30 (.bool (decide ((4096:Int)<(n:Int)))) (.bool false) (by rw [decide_eq_false (by omega)]),iyHas (spQ P) (cqR_ok hp).1.sz (Nat.le_trans hn (by decide)) (spQ_fit h) hs] [] 800 Tryz.func66 hmA (by kernel_rfl) (fun β=>by kernel_rfl)
noncomputable def sOnN (hp:p.B=true) (h:∀ i,i<n→(P i).B=true) {i:Nat} (hi:i<n) (hs:onB (cqR p) (spQ P i)=true) (hs2:∀ k,k<i→onB (cqR p) (spQ P k)=false):Spec Tryz.prog :=
 Spec.auto Tryz.call66 (onA (cqL p) n) [lpT N P] (onR false 0) [] [(onW hp).e,(sSpL P hN (Nat.le_trans hn (by decide)) (Nat.lt_of_le_of_lt (Nat.zero_le i) hi) h).e,.eqv 30 (.bool (decide ((4096:Int)<(n:Int)))) (.bool false) (by rw [decide_eq_false (by omega)]),iyHasN (spQ P) (cqR_ok hp).1.sz (Nat.le_trans hn (by decide)) (spQ_fit h) hi hs hs2] [] 800 Tryz.func66 hmA (by kernel_rfl) (fun β=>by kernel_rfl)
noncomputable def sOnP (hp:p.B=true) {i:Nat} (hi:i<n) (h:(P i).B=false) (h2:∀ k,k<i→(P k).B=true):Spec Tryz.prog :=
 Spec.auto Tryz.call66 (onA (cqL p) n) [lpT N P] (onR false 2) [] [(onW hp).e,(sSpLNo P hN (Nat.le_trans hn (by decide)) hi h h2).e] [] 800 Tryz.func66 hmA (by kernel_rfl) (fun β=>by kernel_rfl)
noncomputable def sOnCP (hp:p.B=false) {i:Nat} (hi:i<n) (h:(P i).B=false) (h2:∀ k,k<i→(P k).B=true):Spec Tryz.prog :=
 Spec.auto Tryz.call66 (onA (cqL p) n) [lpT N P] (onR false 2) [] [(sWheelNo (cq_no hp).2 (by kernel_rfl)).e,(sSpLNo P hN (Nat.le_trans hn (by decide)) hi h h2).e] [] 800 Tryz.func66 hmA (by kernel_rfl) (fun β=>by kernel_rfl)
noncomputable def sOnC (hp:p.B=false) (h0:0<n) (h:∀ i,i<n→(P i).B=true):Spec Tryz.prog :=
 Spec.auto Tryz.call66 (onA (cqL p) n) [lpT N P] (onR false 2) [] [(sWheelNo (cq_no hp).2 (by kernel_rfl)).e,(sSpL P hN (Nat.le_trans hn (by decide)) h0 h).e] [] 800 Tryz.func66 hmA (by kernel_rfl) (fun β=>by kernel_rfl)
end
noncomputable def sOnC0 {p:Cq} {N:Nat} (P:Nat→Pp) (hp:p.B=false):Spec Tryz.prog :=
 Spec.auto Tryz.call66 (onA (cqL p) 0) [lpT N P] (onR false 2) [] [(sWheelNo (cq_no hp).2 (by kernel_rfl)).e,(sSpL0 (N:=N) P).e] [] 800 Tryz.func66 hmA (by kernel_rfl) (fun β=>by kernel_rfl)
abbrev iz0A (b:Nat):List SV:=[.one (.c (.b (.v (.slice none 0 0)))),.one (.c (.f (.func 206) [] [.p b 0]))]
abbrev izO (r:RQ):List Ob:=[(ratT r.a).ob,(ratT r.b.re).ob,(ratT r.b.im).ob,(ratT r.c).ob,.box [.b (.z 0 0),.b (.z 1 0),.b (.z 2 0),.b (.z 3 0)] RNG]
def izEv (f:FuncId) (en:Enters Tryz.prog f) (r:RQ) (v:Value) (hv:∀ β,(tag v).den β=v) (ok:∀ (β0:Env) (w:World),(∀ (i:Nat) (o:Ob),(izO r)[i]?=some o→o.holds β0 w (β0 i))→Calls Tryz.prog f ((iz0A 4).map (SV.den β0)).toArray w fun e w'=>e=.returned v∧Below w.heap.size w w'):Ev Tryz.prog :=
 .dyn (fun o _ _=>isCallB o) fun _ xs ob=>lit (fnPk2 xs) fun b=>lit (rgPk ob b).1 fun p=>lit (rgPk ob b).2.1 fun q=>lit (rgPk ob b).2.2.1 fun s=>lit (rgPk ob b).2.2.2 fun u =>
  .call f en (fun β=>((iz0A 4).map (SV.den (env6 (β p) (β q) (β s) (β u) (β b) (β b)))).toArray) [(p,(ratT r.a).ob),(q,(ratT r.b.re).ob),(s,(ratT r.b.im).ob),(u,(ratT r.c).ob),(b,.box [.b (.z p 0),.b (.z q 0),.b (.z s 0),.b (.z u 0)] RNG)] 0 (tag v) [] (fun β w h=>of_pure0 (ok (env6 (β p) (β q) (β s) (β u) (β b) (β b)) w fun i o ho=>by
   match i,ho with
   | 0,ho=>obtain rfl:=Option.some.inj ho; exact h (p,(ratT r.a).ob) (by simp)
   | 1,ho=>obtain rfl:=Option.some.inj ho; exact h (q,(ratT r.b.re).ob) (by simp)
   | 2,ho=>obtain rfl:=Option.some.inj ho; exact h (s,(ratT r.b.im).ob) (by simp)
   | 3,ho=>obtain rfl:=Option.some.inj ho; exact h (u,(ratT r.c).ob) (by simp)
   | 4,ho=>obtain rfl:=Option.some.inj ho; exact h (b,.box [.b (.z p 0),.b (.z q 0),.b (.z s 0),.b (.z u 0)] RNG) (by simp)
   | i+5,ho=>cases ho) hv)
noncomputable def izIx (r:RQ):Ev Tryz.prog :=
 izEv 309 Tryz.call309 r (.int .i64 (-1)) (fun β=>rfl) fun β0 w hh =>
  (sx (P:=Tryz.prog) (iz0A 4) (izO r) [] [] 400 (.one (nI' (-1))) [] Tryz.func309 hmA (fun β=>ok_of_maps (by kernel_rfl)) (by kernel_rfl) (by kernel_rfl) β0 w hh).mono fun e w' ⟨β',q,obj,_,he,_,_,_,g⟩=>⟨by rw [he]; rfl,g.bel⟩
noncomputable def izHas (r:RQ):Ev Tryz.prog :=
 izEv 192 Tryz.call192 r (.bool false) (fun β=>rfl) fun β0 w hh =>
  (sx (P:=Tryz.prog) (iz0A 4) (izO r) [izIx r] [] 400 (tB' false) [] Tryz.func192 hmA (fun β=>ok_of_maps (by kernel_rfl)) (by kernel_rfl) (by kernel_rfl) β0 w hh).mono fun e w' ⟨β',q,obj,_,he,_,_,_,g⟩=>⟨by rw [he]; rfl,g.bel⟩
noncomputable def sOn0 {p:Cq} {N:Nat} (P:Nat→Pp) (hp:p.B=true):Spec Tryz.prog :=
 Spec.auto Tryz.call66 (onA (cqL p) 0) [lpT N P] (onR true 0) [] [(onW hp).e,(sSpL0 (N:=N) P).e,izHas (cqR p)] [] 800 Tryz.func66 hmA (by kernel_rfl) (fun β=>by kernel_rfl)
noncomputable abbrev tlA (x:Rat):SV:=.tup [.a (fA x),nI' (ansK x)]
abbrev tl0 (k:Int):SV:=.tup [.a (rL r40),nI' k]
theorem tl_psz {r:RQ} (h:MayC r):Sz 10000 (rpow r):=(rpow_sz (fitC_1024 h.fit)).mono (by decide)
section
variable {r:RQ} (h:MayC r)
noncomputable def sTlPow:Spec Tryz.prog :=
 Spec.auto Tryz.call64 [.one (.a (cC r))] [] (tlA (rpow r)) [] [(sWheel h).e,(sPower h.sz).e,(sFrac ((tl_psz h).mono (by decide))).e] [] 800 Tryz.func64 hmA (by kernel_rfl) (fun β=>by kernel_rfl)
noncomputable def sTlSqY (h0:(r.a.num.sign==0)=false):Spec Tryz.prog :=
 Spec.auto Tryz.call63 [.one (.a (cC r))] [] (tlA (rpow r)) [] [(sWheel h).e,nSign (x:=r.a) rfl,.eqv 19 (.bool (r.a.num.sign==0)) (.bool false) (by rw [h0]),(sPower h.sz).e,(sFrac ((tl_psz h).mono (by decide))).e] [] 800 Tryz.func63 hmA (by kernel_rfl) (fun β=>by kernel_rfl)
noncomputable def sTlSqN (h0:(r.a.num.sign==0)=true):Spec Tryz.prog :=
 Spec.auto Tryz.call63 [.one (.a (cC r))] [] (tl0 7) [] [(sWheel h).e,nSign (x:=r.a) rfl,.eqv 19 (.bool (r.a.num.sign==0)) (.bool true) (by rw [h0])] [] 800 Tryz.func63 hmA (by kernel_rfl) (fun β=>by kernel_rfl)
theorem tl_vsz {z:GQ} (h:MayC r) (hz:FitG z):Sz 100000 (valQ r z):=by
 have hr:=fitC_1024 h.fit
 exact (((hr.a.mul hz.gsz.norm).add ((hr.b.mul hz.gsz).1.add (hr.b.mul hz.gsz).1)).add hr.c |> fun k=>(by
  refine Sz.mono ?_ (by decide:90000≤100000)
  have:valQ r z=r.a*gnorm z+((gmul r.b z).re+(gmul r.b z).re)+r.c:=by
   unfold valQ
   grind
  rw [this]
  exact k.mono (by decide)))
noncomputable def sTlVal {z:GQ} (hz:FitG z):Spec Tryz.prog :=
 Spec.auto Tryz.call65 [.one (.a (cC r)),gS z] [] (tlA (valQ r z)) [] [(sWheel h).e,(ofG hz).e,(sValue h.sz (hz.gsz.mono (by decide))).e,(sFrac ((tl_vsz h hz).mono (by decide))).e] [] 800 Tryz.func65 hmA (by kernel_rfl) (fun β=>by kernel_rfl)
noncomputable def sTlValZ (g:Gp) (hg:g.B=false):Spec Tryz.prog :=
 Spec.auto Tryz.call65 [.one (.a (cC r)),.one (.a (g.a.r.L++g.b.r.L))] [] (tl0 2) [] [(sWheel h).e,(sOfW g.a g.b (r:=false) hg).e] [] 800 Tryz.func65 hmA (by kernel_rfl) (fun β=>by kernel_rfl)
end
theorem tl_eq0:(r40.eq r40)=true:=R4.eq_iff.2 rfl
noncomputable def sTlPart (x:Rat):Spec Tryz.prog :=
 ⟨71,Tryz.call71,[.one (.a (fA x)),.one (nI' (ansK x)),.one (.a (fC x))],[],tB' true,[],fun β w hh=>by
  by_cases h:Fit x
  · rw [(fA_fit h).1,(fA_fit h).2]
    exact spec_auto (evs:=[eFFit (iff_true_of h),eqEvF (fR x) (fR x) true (R4.eq_iff.2 rfl),(sNum11 0).e]) (Ns:=[]) (m:=400) Tryz.func71 hmA (fun β=>by kernel_rfl) (by kernel_rfl) β w hh
  · rw [(fA_not h).1,(fA_not h).2]
    exact spec_auto (evs:=[eFFit (iff_false_of h),eqEvF r40 r40 true tl_eq0,(sNum11 4).e]) (Ns:=[]) (m:=400) Tryz.func71 hmA (fun β=>by kernel_rfl) (by kernel_rfl) β w hh,by kernel_rfl⟩
abbrev tlC (r:RQ):GQ:=gneg (gconj r.b)
theorem tl_neg {x:Rat} (h:Fit x):Fit (-x):=by
 refine ⟨?_,?_⟩
 · have:(-x).num.natAbs=x.num.natAbs:=by rw [show (-x).num = -x.num from rfl,Int.natAbs_neg]
   rw [this]
   exact h.1
 · exact h.2
theorem tl_cfit {r:RQ} (h:MayC r):FitG (tlC r):=⟨tl_neg h.fit.2.1.1,tl_neg (tl_neg h.fit.2.1.2)⟩
section
variable {r:RQ} (h:MayC r)
noncomputable def sTlCenY (h0:(r.a.num.sign==0)=false):Spec Tryz.prog :=
 (Spec.auto Tryz.call62 [.one (.a (cC r))] [] (.tup [.a (.b (.v (.bool false))::lsX (gaC (tlC r))),nI' (gaK (tlC r))]) [] [(sWheel h).e,nSign (x:=r.a) rfl,.eqv 19 (.bool (r.a.num.sign==0)) (.bool false) (by rw [h0]),(sConj r.b).e,(sNeg (gconj r.b)).e,(sToldP (.fin (tlC r)) ((tl_cfit h).gsz.mono (by decide))).e] [] 800 Tryz.func62 hmA (by kernel_rfl) (fun β=>by kernel_rfl)).conv (.tup [.a (lsX (Pt.fin (tlC r)).w.C),nI' 0]) (by
  show SV.tup [.a (.b (.v (.bool false))::lsX (gaC (tlC r))),nI' (gaK (tlC r))]=_
  rw [(ga_fit (tl_cfit h)).1,(ga_fit (tl_cfit h)).2]
  rfl)
noncomputable def sTlCenN (h0:(r.a.num.sign==0)=true):Spec Tryz.prog :=
 Spec.auto Tryz.call62 [.one (.a (cC r))] [] (.tup [.a (lsX (Pt.w .inf).C),nI' 0]) [] [(sWheel h).e,nSign (x:=r.a) rfl,.eqv 19 (.bool (r.a.num.sign==0)) (.bool true) (by rw [h0])] [] 800 Tryz.func62 hmA (by kernel_rfl) (fun β=>by kernel_rfl)
noncomputable def sTlRCenY (h0:(r.a.num.sign==0)=false):Spec Tryz.prog :=
 Spec.auto Tryz.call73 [.one (.a (cC r))] [] (.one (.a (lsX (Pt.fin (tlC r)).w.C))) [] [(sR3Sign (x:=r.a) rfl).e,.eqv 6 (.bool (r.a.num.sign==0)) (.bool false) (by rw [h0]),(sR4Conj r.b).e,(sR4Neg (gconj r.b)).e] [] 800 Tryz.func73 hmA (by kernel_rfl) (fun β=>by kernel_rfl)
noncomputable def sTlRCenN (h0:(r.a.num.sign==0)=true):Spec Tryz.prog :=
 Spec.auto Tryz.call73 [.one (.a (cC r))] [] (.one (.a (lsX (Pt.w .inf).C))) [] [(sR3Sign (x:=r.a) rfl).e,.eqv 6 (.bool (r.a.num.sign==0)) (.bool true) (by rw [h0])] [] 800 Tryz.func73 hmA (by kernel_rfl) (fun β=>by kernel_rfl)
theorem tl_val (r:RQ) (z:GQ):(r.a*gnorm z+((gmul r.b z).re+(gmul r.b z).re))+r.c=valQ r z:=by
 unfold valQ
 grind
noncomputable def sTlRVal {z:GQ} (hz:FitG z):Spec Tryz.prog :=
 (Spec.auto Tryz.call76 [.one (.a (cC r)),gS z] [] (.one (.a (fC ((r.a*gnorm z+((gmul r.b z).re+(gmul r.b z).re))+r.c)))) []
  [(sR4Norm (hz.gsz.mono (by decide))).e,(sR3Times ((fitC_1024 h.fit).a.mono (by decide)) (hz.gsz.norm.mono (by decide))).e,(sR4Times ((fitC_1024 h.fit).b.mono (by decide)) (hz.gsz.mono (by decide))).e,(sCTwice (((fitC_1024 h.fit).b.mul hz.gsz).1.mono (by decide))).e,(sR3Plus (((fitC_1024 h.fit).a.mul hz.gsz.norm).mono (by decide)) ((((fitC_1024 h.fit).b.mul hz.gsz).1.add ((fitC_1024 h.fit).b.mul hz.gsz).1).mono (by decide))).e,
   (sR3Plus ((((fitC_1024 h.fit).a.mul hz.gsz.norm).add (((fitC_1024 h.fit).b.mul hz.gsz).1.add ((fitC_1024 h.fit).b.mul hz.gsz).1)).mono (by decide)) ((fitC_1024 h.fit).c.mono (by decide))).e] [(1,13)] 800 Tryz.func76 hmA (by kernel_rfl) (fun β=>by kernel_rfl)).conv (.one (.a (fC (valQ r z)))) (by
  show SV.one (.a (fC ((r.a*gnorm z+((gmul r.b z).re+(gmul r.b z).re))+r.c)))=_
  rw [tl_val])
noncomputable def sTlRSide {p:Pt} (hp:FitP p):Spec Tryz.prog :=
 ⟨70,Tryz.call70,[.one (.a (cC r)),svP p],[],.one (nI' (sidQ r p).num.sign),[],fun β w hh=>by
  cases p with
  | inf=>exact spec_auto (evs:=[(sR3Sign (x:=r.a) rfl).e]) (Ns:=[]) (m:=800) Tryz.func70 hmA (fun β=>by kernel_rfl) (by kernel_rfl) β w hh
  | fin z=>exact spec_auto (evs:=[(sTlRVal h hp).e,(sR3Sign (x:=valQ r z) rfl).e]) (Ns:=[]) (m:=800) Tryz.func70 hmA (fun β=>by kernel_rfl) (by kernel_rfl) β w hh,by kernel_rfl⟩
noncomputable def sTlSide {p:Pt} (hp:FitP p):Spec Tryz.prog :=
 ⟨69,Tryz.call69,[.one (.a (cC r)),svP p],[],.tup [nI' (sidQ r p).num.sign,nI' 0],[],fun β w hh=>by
  rcases Int.lt_trichotomy (sidQ r p).num 0 with k | k | k
  · have e:(sidQ r p).num.sign = -1:=Int.sign_eq_neg_one_of_neg k
    rw [e]
    exact (sCSideN h hp (by rw [e]; rfl)).ok β w hh
  · have e:(sidQ r p).num.sign=0:=by rw [k]; rfl
    rw [e]
    exact spec_auto (args:=[.one (.a (cC r)),svP p]) (res:=.tup [nI' 0,nI' 0]) (evs:=sdE h hp++[.eqv 32 (.bool (decide ((sidQ r p).num.sign<0))) (.bool false) (sgn_lt (by rw [e]; rfl)),.eqv 35 (.bool (decide (0<(sidQ r p).num.sign))) (.bool false) (sgn_gt (by rw [e]; rfl))]) (Ns:=[]) (m:=800) Tryz.func69 hmA (fun β=>by kernel_rfl) (by kernel_rfl) β w hh
  · have e:(sidQ r p).num.sign=1:=Int.sign_eq_one_of_pos k
    rw [e]
    exact spec_auto (args:=[.one (.a (cC r)),svP p]) (res:=.tup [nI' 1,nI' 0]) (evs:=sdE h hp++[.eqv 32 (.bool (decide ((sidQ r p).num.sign<0))) (.bool false) (sgn_lt (by rw [e]; rfl)),.eqv 35 (.bool (decide (0<(sidQ r p).num.sign))) (.bool true) (sgn_gt (by rw [e]; rfl))]) (Ns:=[]) (m:=800) Tryz.func69 hmA (fun β=>by kernel_rfl) (by kernel_rfl) β w hh,by kernel_rfl⟩
end
section
variable {p:Cq}
noncomputable def tlNo (hp:p.B=false):Spec Tryz.prog:=sWheelNo (cq_no hp).2 (by kernel_rfl)
noncomputable def sTlPowNo (hp:p.B=false):Spec Tryz.prog :=
 Spec.auto Tryz.call64 [.one (.a (cqL p))] [] (tl0 2) [] [(tlNo hp).e] [] 800 Tryz.func64 hmA (by kernel_rfl) (fun β=>by kernel_rfl)
noncomputable def sTlSqNo (hp:p.B=false):Spec Tryz.prog :=
 Spec.auto Tryz.call63 [.one (.a (cqL p))] [] (tl0 2) [] [(tlNo hp).e] [] 800 Tryz.func63 hmA (by kernel_rfl) (fun β=>by kernel_rfl)
noncomputable def sTlCenNo (hp:p.B=false):Spec Tryz.prog :=
 Spec.auto Tryz.call62 [.one (.a (cqL p))] [] (.tup [.a (.b (.v (.bool false))::lsX g0C),nI' 2]) [] [(tlNo hp).e] [] 800 Tryz.func62 hmA (by kernel_rfl) (fun β=>by kernel_rfl)
noncomputable def sTlValNo (hp:p.B=false) (z:Gn):Spec Tryz.prog :=
 ⟨65,Tryz.call65,[.one (.a (cqL p)),.one (.a (rL z.x++rL z.y))],[],tl0 2,[],fun β w hh=>by
  cases z with
  | ok z hz=>exact spec_auto (evs:=[(tlNo hp).e,(ofGn (.ok z hz)).e]) (Ns:=[]) (m:=800) Tryz.func65 hmA (fun β=>by kernel_rfl) (by kernel_rfl) β w hh
  | no g hg=>exact spec_auto (evs:=[(tlNo hp).e,(sOfW g.a g.b (r:=false) hg).e]) (Ns:=[]) (m:=800) Tryz.func65 hmA (fun β=>by kernel_rfl) (by kernel_rfl) β w hh,by kernel_rfl⟩
noncomputable def sTlSideNo (hp:p.B=false) (q:Pp):Spec Tryz.prog :=
 ⟨69,Tryz.call69,[.one (.a (cqL p)),.one (.a (lsX q.w.C))],[],.tup [nI' 0,nI' 2],[],fun β w hh=>by
  exact spec_auto (evs:=[(tlNo hp).e,(sSpotW q rfl).e]) (Ns:=[]) (m:=800) Tryz.func69 hmA (fun β=>by kernel_rfl) (by kernel_rfl) β w hh,by kernel_rfl⟩
noncomputable def sTlSideP (hp:p.B=true) {q:Pp} (hq:q.B=false):Spec Tryz.prog :=
 Spec.auto Tryz.call69 [.one (.a (cqL p)),.one (.a (lsX q.w.C))] [] (.tup [nI' 0,nI' 2]) [] [(onW hp).e,(sSpotW q hq).e] [] 800 Tryz.func69 hmA (by kernel_rfl) (fun β=>by kernel_rfl)
noncomputable abbrev tlS (p:Cq) (q:Pp):Int:=(sidQ (cqR p) (plQ q)).num.sign
noncomputable def sTlSideY (hp:p.B=true) {q:Pp} (hq:q.B=true):Spec Tryz.prog:=(sTlSide (cqR_ok hp).1 (plQ_ok hq).1).as [.one (.a (cqL p)),.one (.a (lsX q.w.C))] (.tup [nI' (tlS p q),nI' 0]) (by
 show [SV.one (.a (cC (cqR p))),svP (plQ q)]=_
 rw [show svP (plQ q)=SV.one (.a (lsX (plQ q).w.C)) from rfl,(plQ_ok hq).2,(cqR_ok hp).2]) rfl
noncomputable def sTlRSideY (hp:p.B=true) {q:Pp} (hq:q.B=true):Spec Tryz.prog:=(sTlRSide (cqR_ok hp).1 (plQ_ok hq).1).as [.one (.a (cqL p)),.one (.a (lsX q.w.C))] (.one (nI' (tlS p q))) (by
 show [SV.one (.a (cC (cqR p))),svP (plQ q)]=_
 rw [show svP (plQ q)=SV.one (.a (lsX (plQ q).w.C)) from rfl,(plQ_ok hq).2,(cqR_ok hp).2]) rfl
noncomputable def sTlCk {b:Bool} (hb:p.B=b):Spec Tryz.prog :=
 ⟨68,Tryz.call68,[.one (.a (cqL p))],[],.one (nI' (bif b then 0 else 2)),[],fun β w hh=>by
  cases b with
  | true =>
   rw [(cqR_ok hb).2]
   exact (sCCheck (cqR_ok hb).1).ok β w hh
  | false=>exact (sCkNo (cq_no hb).1).ok β w hh,by kernel_rfl⟩
noncomputable def sTlRk {b:Bool} (hb:p.B=b):Spec Tryz.prog :=
 ⟨67,Tryz.call67,[.one (.a (cqL p))],[],.one (nI' (bif b then 0 else 2)),[],fun β w hh=>by
  cases b with
  | true =>
   rw [(cqR_ok hb).2]
   exact (sRCk (cqR_ok hb).1).ok β w hh
  | false=>exact (sRCkNo (cq_no hb).1).ok β w hh,by kernel_rfl⟩
end
structure LgP (p:Pp) (r:Bool):Prop where
 is:∃ a b:Bool,Lg1 p.w.x a∧Lg1 p.w.y b∧(a||b)=r
theorem LgP.all (p:Pp):∃ r,LgP p r:=by
 obtain ⟨a,ha⟩:=Lg1.all p.w.x
 obtain ⟨b,hb⟩:=Lg1.all p.w.y
 exact ⟨_,⟨a,b,ha,hb,rfl⟩⟩
def sLongP {p:Pp} {r:Bool} (h:LgP p r):BSpec Tryz.prog :=
 ⟨61,Tryz.call61,[.one (.c (.b (.s 0 0 1 1)))],p.w.x.L++p.w.y.L,46,.bool r,fun β w hh=>by
  obtain ⟨a,b,ha,hb,e⟩:=h.is
  exact (sLongG1 ha hb e).ok β w hh,by kernel_rfl,fun _=>rfl⟩
noncomputable abbrev ogF:Func:=Tryz.f53
theorem tgg11_d:((Tryz.prog.underlying 46).map fun d=>d.isRow)=some true:=by kernel_rfl
noncomputable def tlFz {n j:Nat} (P:Nat→Pp) (hj:j<n):Ev Tryz.prog:=eFa (T:=PTT) (sz:=9) (I:=1) (off:=1) (lsP P) (by kernel_rfl) hj
noncomputable def tlPz {n j:Nat} (P:Nat→Pp) (hj:j<n):Ev Tryz.prog:=ePt (rwDesc_u tgg11_d).1 (rwDesc_u tgg11_d).2 9 1 (L:=lsP P) (cs:=(P j).w.x.L++(P j).w.y.L) (m:=8) rfl (by kernel_rfl) (fun β=>rfl) hj
section
variable (n:Nat) (P:Nat→Pp)
noncomputable abbrev oGN:Nat:=sizeS ogF [lpS0 n]
abbrev oGSl (j:Nat):List (Nat × SV):=[(0,lpS0 n),(2,.one (.c (.b (.v (.bool false))))),(3,.one (nI' (j:Int)))]
noncomputable abbrev oGC (j:Nat) (ev:List (Ev Tryz.prog)):Cf Tryz.prog:=mkC Tryz.prog (oGN n) 1 (oGSl n j) [(lpT n P).ob,.dead] ev
abbrev oGH (r:Bool) (β0:Env) (w:World) (c:Cf Tryz.prog):Prop:=HdOk Tryz.prog 1 (oGN n) w.heap.size w β0 (bodyPost Tryz.prog ogF (Said Tryz.prog ogF 1 (tB' r) [] β0 w)) c (lpAt ogF 0)
variable (β0:Env) (w:World) {j:Nat}
noncomputable def oGE (hj:j<n):List (Ev Tryz.prog):=[.eqv 7 (.bool (decide ((j:Int)<(n:Int)))) (.bool true) (by rw [decide_eq_true (by omega)]),pIx0 P hj (Nat.le_refl n),tlFz P hj,tlPz P hj]
theorem og_step (hj:j<n) (h:LgP (P j) false) {j2:Int} (hj2:IntKind.i64.wrap ((j:Int)+1)=j2) (e2:j2=((j+1:Nat):Int)) (r:Bool) (k:oGH n r β0 w (oGC n P (j+1) [])) :
  oGH n r β0 w (oGC n P j (oGE n P hj++[(sLongP h).e,.eqv 9 (.int .i64 (IntKind.i64.wrap ((j:Int)+1))) (.int .i64 ((j+1:Nat):Int)) (by rw [hj2,e2]),.cut])) :=
 piece_ok (Ns:=[]) (m:=800) [] [0,0] hmA (by kernel_rfl) (fun β=>ok_of_maps (by kernel_rfl)) k
theorem og_yes (hj:j<n) (h:LgP (P j) true):oGH n true β0 w (oGC n P j (oGE n P hj++[(sLongP h).e])) :=
 last_ok (Ns:=[]) (m:=800) hmA (fun β=>ok_of_maps (by kernel_rfl))
theorem og_end:oGH n false β0 w (oGC n P n [.eqv 7 (.bool (decide ((n:Int)<(n:Int)))) (.bool false) (by rw [decide_eq_false (by omega)])]) :=
 last_ok (Ns:=[]) (m:=400) hmA (fun β=>ok_of_maps (by kernel_rfl))
theorem og_loopY (hn:n≤maxLen) {i:Nat} (hi:i<n) (h:LgP (P i) true) (h2:∀ k,k<i→LgP (P k) false):∀ (d j:Nat),j+d=i→oGH n true β0 w (oGC n P j [])
 | 0,j,e=>by
  obtain rfl:j=i:=by omega
  exact cx_hd (og_yes n P β0 w hi h)
 | d+1,j,e=>cx_hd (og_step n P β0 w (by omega) (h2 j (by omega)) (j2:=((j+1:Nat):Int)) (by rw [IntKind.wrap_i64]; simp only [maxLen] at hn; omega) rfl true (og_loopY hn hi h h2 d (j+1) (by omega)))
theorem og_loopN (hn:n≤maxLen) (h:∀ i,i<n→LgP (P i) false):∀ (d j:Nat),j+d=n→oGH n false β0 w (oGC n P j [])
 | 0,j,e=>by
  obtain rfl:j=n:=by omega
  exact cx_hd (og_end j P β0 w)
 | d+1,j,e=>cx_hd (og_step n P β0 w (by omega) (h j (by omega)) (j2:=((j+1:Nat):Int)) (by rw [IntKind.wrap_i64]; simp only [maxLen] at hn; omega) rfl false (og_loopN hn h d (j+1) (by omega)))
theorem og_start (r:Bool) (hh:(lpT n P).D w (β0 0)) (h:oGH n r β0 w (oGC n P 0 [])):Calls Tryz.prog 53 (([lpS0 n]:List SV).map (SV.den β0)).toArray w (Said Tryz.prog ogF 1 (tB' r) [] β0 w) :=
 sx_cut (P:=Tryz.prog) [lpS0 n] [(lpT n P).ob] [.cut] [] [] 400 (tB' r) [] Tryz.func53 hmA (u:=1) (sl:=oGSl n 0) (ob:=[(lpT n P).ob,.dead]) (σ:=[0,0]) (p':=lpAt ogF 0) (by kernel_rfl) (fun β=>ok_of_maps (by kernel_rfl)) (by kernel_rfl) (by kernel_rfl) β0 w (fun i o ho=>by
  cases i with
  | zero=>simp only [List.getElem?_cons_zero] at ho; obtain rfl:=Option.some.inj ho; exact hh
  | succ i=>simp at ho) h
end
theorem tl_first {f:Nat→Bool} {n:Nat} (h:∃ i,i<n∧f i=true):∃ i,i<n∧f i=true∧∀ k,k<i→f k=false:=by
 induction n with
 | zero=>obtain ⟨i,hi,_⟩:=h; exact absurd hi (Nat.not_lt_zero i)
 | succ n ih =>
  by_cases h3:∃ i,i<n∧f i=true
  · obtain ⟨i,k1,k2,k3⟩:=ih h3
    exact ⟨i,by omega,k2,k3⟩
  · obtain ⟨i,hi,hf⟩:=h
    have e:i=n:=by
     rcases Nat.lt_succ_iff_lt_or_eq.1 hi with h4 | h4
     · exact absurd ⟨i,h4,hf⟩ h3
     · exact h4
    subst e
    exact ⟨i,hi,hf,fun k hk=>by
     rw [Bool.eq_false_iff]
     intro e
     exact h3 ⟨k,hk,e⟩⟩
def TlOff (n:Nat) (P:Nat→Pp) (r:Bool):Prop:=∀ (β0:Env) (w:World),(lpT n P).D w (β0 0)→Calls Tryz.prog 53 (([lpS0 n]:List SV).map (SV.den β0)).toArray w (Said Tryz.prog ogF 1 (tB' r) [] β0 w)
noncomputable def sTlOff {n:Nat} {P:Nat→Pp} {r:Bool} (h:TlOff n P r):Spec Tryz.prog :=
 ⟨53,Tryz.call53,[lpS0 n],[lpT n P],tB' r,[],fun β w hh=>(h β w (hh 0 _ rfl)).mono fun e w' h=>cx_said0 h fun β' _=>rfl,by kernel_rfl⟩
theorem toff_all {n:Nat} (P:Nat→Pp) (hn:n≤maxLen):∃ r,TlOff n P r:=by
 have hW:∀ i,∃ r,LgP (P i) r:=fun i=>LgP.all _
 obtain ⟨f,hf⟩:∃ f:Nat→Bool,∀ i,LgP (P i) (f i):=⟨fun i=>(hW i).choose,fun i=>(hW i).choose_spec⟩
 by_cases h:∃ i,i<n∧f i=true
 · obtain ⟨i,h1,h2,h3⟩:=tl_first h
   exact ⟨true,fun β0 w hh=>og_start n P β0 w true hh (og_loopY n P β0 w hn h1 (by rw [← h2]; exact hf i) (fun k hk=>by rw [← h3 k hk]; exact hf k) i 0 (by omega))⟩
 · exact ⟨false,fun β0 w hh=>og_start n P β0 w false hh (og_loopN n P β0 w hn (fun i hi=>by
    have:=hf i
    cases e:f i with
    | true=>exact absurd ⟨i,hi,e⟩ h
    | false=>rw [e] at this; exact this) n 0 (by omega))⟩
abbrev tlPt (i:Bool) (x y:R4):List Lf:=.b (.v (.bool i))::(x.L++y.L)
def TlIs (f:FuncId) (ar:List SV) (res:SV):Prop:=∀ (β:Env) (w:World),Calls Tryz.prog f (ar.map (SV.den β)).toArray w fun e w'=>∃ xs:List Pl,freshS β w 0 xs∧e=.returned (res.den (extE β 0 xs))∧newHold w' [] xs∧Below w.heap.size w w'
theorem Spec.tl (S:Spec Tryz.prog) (h0:S.obs=[]) (h1:S.news=[]):TlIs S.f S.args S.res:=fun β w=>by
 have:=S.ok β w (fun k t h=>by rw [h0] at h; simp at h)
 rw [h0,h1] at this
 exact this
def CenIs (p:Cq) (i:Bool) (x y:R4) (k:Int):Prop:=TlIs 62 [.one (.a (cqL p))] (.tup [.a (tlPt i x y),nI' k])
def SqIs (p:Cq) (s:R4) (k:Int):Prop:=TlIs 63 [.one (.a (cqL p))] (.tup [.a (rL s),nI' k])
def PowIs (p:Cq) (s:R4) (k:Int):Prop:=TlIs 64 [.one (.a (cqL p))] (.tup [.a (rL s),nI' k])
def ValIs (p:Cq) (z:Gn) (s:R4) (k:Int):Prop:=TlIs 65 [.one (.a (cqL p)),.one (.a (rL z.x++rL z.y))] (.tup [.a (rL s),nI' k])
def cenS {p:Cq} {i:Bool} {x y:R4} {k:Int} (h:CenIs p i x y k):Spec Tryz.prog:=⟨62,Tryz.call62,[.one (.a (cqL p))],[],.tup [.a (tlPt i x y),nI' k],[],fun β w _=>h β w,by kernel_rfl⟩
def sqS {p:Cq} {s:R4} {k:Int} (h:SqIs p s k):Spec Tryz.prog:=⟨63,Tryz.call63,[.one (.a (cqL p))],[],.tup [.a (rL s),nI' k],[],fun β w _=>h β w,by kernel_rfl⟩
def powS {p:Cq} {s:R4} {k:Int} (h:PowIs p s k):Spec Tryz.prog:=⟨64,Tryz.call64,[.one (.a (cqL p))],[],.tup [.a (rL s),nI' k],[],fun β w _=>h β w,by kernel_rfl⟩
def valS {p:Cq} {z:Gn} {s:R4} {k:Int} (h:ValIs p z s k):Spec Tryz.prog:=⟨65,Tryz.call65,[.one (.a (cqL p)),.one (.a (rL z.x++rL z.y))],[],.tup [.a (rL s),nI' k],[],fun β w _=>h β w,by kernel_rfl⟩
def OnIs (p:Cq) (n N:Nat) (P:Nat→Pp) (b:Bool) (k:Int):Prop:=∀ (β:Env) (w:World),(∀ (i:Nat) (t:Thing),[lpT N P][i]?=some t→t.D w (β i))→Calls Tryz.prog 66 ((onA (cqL p) n).map (SV.den β)).toArray w fun e w'=>∃ xs:List Pl,freshS β w 1 xs∧e=.returned ((onR b k).den (extE β 1 xs))∧newHold w' [] xs∧Below w.heap.size w w'
def onS {p:Cq} {n N:Nat} {P:Nat→Pp} {b:Bool} {k:Int} (h:OnIs p n N P b k):Spec Tryz.prog:=⟨66,Tryz.call66,onA (cqL p) n,[lpT N P],onR b k,[],h,by kernel_rfl⟩
theorem tl77_ne:¬ (fR (gint 7 7).re=⟨false,⟨#[]⟩,false,⟨#[]⟩⟩∧fR (gint 7 7).im=⟨false,⟨#[]⟩,false,⟨#[]⟩⟩):=fun h=>by
 have h1:=congrArg R4.t h.1
 exact absurd h1 (by decide +kernel)
def tl77:Pp:=.odd (fR (gint 7 7).re) (fR (gint 7 7).im) tl77_ne
theorem tl_rself (r:Rw):((r.i==r.i)&&((r.x.eq r.x&&(r.y.eq r.y&&true))&&true))=true:=rwB_iff.2 ⟨rfl,rfl,rfl⟩
def tlEq (r:Rw):Ev Tryz.prog:=eqEvP r.i r.i r.x r.y r.x r.y true (tl_rself r)
noncomputable abbrev tlF:Func:=Tryz.f10
abbrev tlAr (p:Cq) (z:Gn) (n:Nat):List SV:=[.one (.a (cqL p)),.one (.a (rL z.x++rL z.y)),lpS0 n]
abbrev tlNs:List (Nat × Nat):=[(10,20),(16,11),(17,9),(23,10),(24,13),(29,31),(35,24)]
def sTlMay (p:Pp) {b:Bool} (h:p.B=b):Spec Tryz.prog :=
 Spec.auto Tryz.call57 [.one (.a (lsX p.w.C))] [] (tB' b) [] [(sR7May p h).e] [] 400 Tryz.func57 hmA (by kernel_rfl) (fun β=>by kernel_rfl)
structure Tg where
 i:Bool
 x:R4
 y:R4
 k1:Int
 s:R4
 k2:Int
 q:R4
 k3:Int
 v:R4
 k4:Int
section
variable (p:Cq) (z:Gn) (n:Nat) (P:Nat→Pp) (t:Tg)
noncomputable abbrev tlN (p:Cq) (z:Gn) (n:Nat):Nat:=sizeS tlF (tlAr p z n)
abbrev tlSl (bad on:Bool) (e:Int) (all may:Bool) (j:Nat):List (Nat × SV):=[(2,lpS0 n),(3,.one (.c (.b (.p 2 0)))),(4,.one (.c (.b (.p 3 0)))),(7,.one (.c (.b (.p 4 0)))),(8,.one (nI' t.k1)),(9,.one (.c (.b (.p 5 0)))),(10,.one (nI' t.k2)),(11,.one (.c (.b (.p 6 0)))),(12,.one (nI' t.k3)),(13,.one (.c (.b (.p 7 0)))),(14,.one (nI' t.k4)),(15,.one (.c (.b (.y 8 0 n)))),(16,tB' on),(17,.one (nI' e)),(18,tB' bad),(19,tB' all),(20,tB' may),(21,.one (nI' (j:Int)))]
noncomputable abbrev tlOb:List Ob:=[(lpT n P).ob,.dead,.box (cqL p) TCi,.box (rL z.x++rL z.y) TG,.box (tlPt t.i t.x t.y) PTT,.box (rL t.s) TFr,.box (rL t.q) TFr,.box (rL t.v) TFr,(orT 9 PTT (n+1) (lsP P)).ob]
noncomputable abbrev tlCf (bad on:Bool) (e:Int) (all may:Bool) (j:Nat) (ev:List (Ev Tryz.prog)):Cf Tryz.prog:=mkC Tryz.prog (tlN p z n) 1 (tlSl n t bad on e all may j) (tlOb p z n P t) ev
abbrev tlH (β0:Env) (w:World) (c:Cf Tryz.prog):Prop:=HdOk Tryz.prog 1 (tlN p z n) w.heap.size w β0 (bodyPost Tryz.prog tlF (Said Tryz.prog tlF 1 (tB' true) [] β0 w)) c (lpAt tlF 0)
variable (β0:Env) (w:World) {j:Nat}
noncomputable def tlE0 (hj:j<n):List (Ev Tryz.prog):=[.eqv 107 (.bool (decide ((j:Int)<(n:Int)))) (.bool true) (by rw [decide_eq_true (by omega)]),pIx0 P hj (Nat.le_refl n),pLd P hj]
noncomputable def tlE1 (hj:j<n):List (Ev Tryz.prog):=[pIx0 (n:=n) (N:=n+1) P hj (Nat.le_succ n),pLd (N:=n+1) P (Nat.lt_succ_of_lt hj),pIx0 P hj (Nat.le_refl n),pLd P hj,tlEq (P j).w]
noncomputable def tlEn (j:Nat) {j2:Int} (hj2:IntKind.i64.wrap ((j:Int)+1)=j2) (e2:j2=((j+1:Nat):Int)):List (Ev Tryz.prog):=[.eqv 109 (.int .i64 (IntKind.i64.wrap ((j:Int)+1))) (.int .i64 ((j+1:Nat):Int)) (by rw [hj2,e2]),.cut]
noncomputable def tlIp (hj:j<n):List (Ev Tryz.prog):=[pIx0 P hj (Nat.le_refl n),pLd P hj]
theorem tl_badC (on:Bool) (e:Int) (all may:Bool) (hp:p.B=false) (hj:j<n) {j2:Int} (hj2:IntKind.i64.wrap ((j:Int)+1)=j2) (e2:j2=((j+1:Nat):Int)) (k:tlH p z n β0 w (tlCf p z n P t true on e all false (j+1) [])) :
  tlH p z n β0 w (tlCf p z n P t true on e all may j (tlE0 n P hj++[(sTlSideNo hp (P j)).e]++tlE1 n P hj++[(sNum11 2).e]++tlEn j hj2 e2)) :=
 piece_ok (Ns:=tlNs) (m:=800) [] [0,0,2,3,4,5,6,7,8] hmA (by kernel_rfl) (fun β=>ok_of_maps (by kernel_rfl)) k
theorem tl_badP (on:Bool) (e:Int) (all may:Bool) (hp:p.B=true) (hj:j<n) (h:(P j).B=false) {j2:Int} (hj2:IntKind.i64.wrap ((j:Int)+1)=j2) (e2:j2=((j+1:Nat):Int)) (k:tlH p z n β0 w (tlCf p z n P t false on e all false (j+1) [])) :
  tlH p z n β0 w (tlCf p z n P t false on e all may j (tlE0 n P hj++[(sTlSideP hp h).e]++tlE1 n P hj++tlIp n P hj++[(sTlMay (P j) h).e,(sNum11 2).e]++tlEn j hj2 e2)) :=
 piece_ok (Ns:=tlNs) (m:=800) [] [0,0,2,3,4,5,6,7,8] hmA (by kernel_rfl) (fun β=>ok_of_maps (by kernel_rfl)) k
theorem tl_eqz {k:Int} {b:Bool} (h:(k==0)=b):Value.bool (k==0)=.bool b:=by rw [h]
theorem tl_neq (k:Int):Value.bool (!(k==k))=.bool false:=by simp
noncomputable def tlG (hp:p.B=true) (hj:j<n) (h:(P j).B=true):List (Ev Tryz.prog):=tlE0 n P hj++[(sTlSideY hp h).e]++tlE1 n P hj++tlIp n P hj++[(sTlMay (P j) h).e]
noncomputable def tlG2 (hp:p.B=true) (hj:j<n) (h:(P j).B=true):List (Ev Tryz.prog):=tlIp n P hj++[(sTlRSideY hp h).e,.eqv 161 (.bool (!(tlS p (P j)==tlS p (P j)))) (.bool false) (tl_neq _),(sNum11 0).e]
end
end Go.Proofs.YtbepimnlleilfaaGreat.Y
end
