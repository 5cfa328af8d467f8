/- MtdA, GsE, MtI, MtJ, RRt, RRu, RRv, MpM, MpR, MtdB, CkN, MdC, Mpp, PwQ, SyW, MtdC, MpJ. -/
import Derived.Test.YtbepimnlleilfaaGreatNk14
set_option linter.unnecessarySimpa false
set_option linter.unusedVariables false
set_option linter.unusedSimpArgs false
section
namespace Go.Proofs.YtbepimnlleilfaaGreat.Y
open Go Go.RowKit
set_option maxRecDepth 100000
abbrev ER8:TypeId:=34
abbrev erL (k:Int):Lf:=.b (.v (.int .i64 k))
theorem okB0 (β:Env) (w:World) (hh:(Ob.box [erL 0] ER8).holds β w (β 0)):Calls Tryz.prog 46 (([.one (.c (.b (.s 0 0 1 1)))]:List SV).map (SV.den β)).toArray w fun x w'=>x=.returned (.bool true)∧Below w.heap.size w w' :=
 qJ2 [(zQ2 0).e] [] 2000 Tryz.func46 hmA (fun β=>by kernel_rfl) (by kernel_rfl) (fun β=>rfl) β w hh
def sOk0:BSpec Tryz.prog:=⟨46,Tryz.call46,[.one (.c (.b (.s 0 0 1 1)))],[erL 0],ER8,.bool true,okB0,by kernel_rfl,fun _=>rfl⟩
theorem okB2 (β:Env) (w:World) (hh:(Ob.box [erL 2] ER8).holds β w (β 0)):Calls Tryz.prog 46 (([.one (.c (.b (.s 0 0 1 1)))]:List SV).map (SV.den β)).toArray w fun x w'=>x=.returned (.bool false)∧Below w.heap.size w w' :=
 qJ2 [(zQ2 2).e] [] 2000 Tryz.func46 hmA (fun β=>by kernel_rfl) (by kernel_rfl) (fun β=>rfl) β w hh
def sOk2:BSpec Tryz.prog:=⟨46,Tryz.call46,[.one (.c (.b (.s 0 0 1 1)))],[erL 2],ER8,.bool false,okB2,by kernel_rfl,fun _=>rfl⟩
theorem okB4 (β:Env) (w:World) (hh:(Ob.box [erL 4] ER8).holds β w (β 0)):Calls Tryz.prog 46 (([.one (.c (.b (.s 0 0 1 1)))]:List SV).map (SV.den β)).toArray w fun x w'=>x=.returned (.bool false)∧Below w.heap.size w w' :=
 qJ2 [(zQ2 4).e] [] 2000 Tryz.func46 hmA (fun β=>by kernel_rfl) (by kernel_rfl) (fun β=>rfl) β w hh
def sOk4:BSpec Tryz.prog:=⟨46,Tryz.call46,[.one (.c (.b (.s 0 0 1 1)))],[erL 4],ER8,.bool false,okB4,by kernel_rfl,fun _=>rfl⟩
abbrev ok4A:List SV:=[.one (.c (.b (.s 0 0 4 4)))]
theorem okQ0 (a b c:Int) (β:Env) (w:World) (hh:(Ob.box [erL 4,erL a,erL b,erL c] ER8).holds β w (β 0)):Calls Tryz.prog 46 (ok4A.map (SV.den β)).toArray w fun x w'=>x=.returned (.bool false)∧Below w.heap.size w w' :=
 qJ2 [(zQ2 4).e] [] 2000 Tryz.func46 hmA (fun β=>by kernel_rfl) (by kernel_rfl) (fun β=>rfl) β w hh
def sOkQ0 (a b c:Int):BSpec Tryz.prog:=⟨46,Tryz.call46,ok4A,[erL 4,erL a,erL b,erL c],ER8,.bool false,okQ0 a b c,by kernel_rfl,fun _=>rfl⟩
theorem okQ1 (b c:Int) (β:Env) (w:World) (hh:(Ob.box [erL 0,erL 4,erL b,erL c] ER8).holds β w (β 0)):Calls Tryz.prog 46 (ok4A.map (SV.den β)).toArray w fun x w'=>x=.returned (.bool false)∧Below w.heap.size w w' :=
 qJ2 [(zQ2 0).e,(zQ2 4).e] [] 2000 Tryz.func46 hmA (fun β=>by kernel_rfl) (by kernel_rfl) (fun β=>rfl) β w hh
def sOkQ1 (b c:Int):BSpec Tryz.prog:=⟨46,Tryz.call46,ok4A,[erL 0,erL 4,erL b,erL c],ER8,.bool false,okQ1 b c,by kernel_rfl,fun _=>rfl⟩
theorem okQ2 (c:Int) (β:Env) (w:World) (hh:(Ob.box [erL 0,erL 0,erL 4,erL c] ER8).holds β w (β 0)):Calls Tryz.prog 46 (ok4A.map (SV.den β)).toArray w fun x w'=>x=.returned (.bool false)∧Below w.heap.size w w' :=
 qJ2 [(zQ2 0).e,(zQ2 0).e,(zQ2 4).e] [] 2000 Tryz.func46 hmA (fun β=>by kernel_rfl) (by kernel_rfl) (fun β=>rfl) β w hh
def sOkQ2 (c:Int):BSpec Tryz.prog:=⟨46,Tryz.call46,ok4A,[erL 0,erL 0,erL 4,erL c],ER8,.bool false,okQ2 c,by kernel_rfl,fun _=>rfl⟩
theorem okQ3 (β:Env) (w:World) (hh:(Ob.box [erL 0,erL 0,erL 0,erL 4] ER8).holds β w (β 0)):Calls Tryz.prog 46 (ok4A.map (SV.den β)).toArray w fun x w'=>x=.returned (.bool false)∧Below w.heap.size w w' :=
 qJ2 [(zQ2 0).e,(zQ2 0).e,(zQ2 0).e,(zQ2 4).e] [] 2000 Tryz.func46 hmA (fun β=>by kernel_rfl) (by kernel_rfl) (fun β=>rfl) β w hh
def sOkQ3:BSpec Tryz.prog:=⟨46,Tryz.call46,ok4A,[erL 0,erL 0,erL 0,erL 4],ER8,.bool false,okQ3,by kernel_rfl,fun _=>rfl⟩
theorem okQ (β:Env) (w:World) (hh:(Ob.box [erL 0,erL 0,erL 0,erL 0] ER8).holds β w (β 0)):Calls Tryz.prog 46 (ok4A.map (SV.den β)).toArray w fun x w'=>x=.returned (.bool true)∧Below w.heap.size w w' :=
 qJ2 [(zQ2 0).e,(zQ2 0).e,(zQ2 0).e,(zQ2 0).e] [] 2000 Tryz.func46 hmA (fun β=>by kernel_rfl) (by kernel_rfl) (fun β=>rfl) β w hh
def sOkQ:BSpec Tryz.prog:=⟨46,Tryz.call46,ok4A,[erL 0,erL 0,erL 0,erL 0],ER8,.bool true,okQ,by kernel_rfl,fun _=>rfl⟩
def Far2 (l l':List Lf) (r:Bool):Prop:=∀ (β:Env) (w:World),(Ob.box (l++l') MOB).holds β w (β 0)→Calls Tryz.prog 25 (([.one (.c (.b (.s 0 0 2 2)))]:List SV).map (SV.den β)).toArray w fun e w'=>e=.returned (.bool r)∧Below w.heap.size w w'
theorem far2_ok (a b c d:Gn) (t:Bool) (a' b' c' d':Gn) (t':Bool) {r r':Bool} (h:Lg4 a b c d r) (h':Lg4 a' b' c' d' r'):Far2 (mgL a b c d t) (mgL a' b' c' d' t') (r||r'):=fun β w hh=>by
 cases r with
 | true=>exact qJ2 [(sLong4 46 a b c d h).e] [(4,22)] 2400 Tryz.func25 hmA (fun β=>by kernel_rfl) (by kernel_rfl) (fun β=>rfl) β w hh
 | false=>cases r'<;>exact qJ2 [(sLong4 46 a b c d h).e,(sLong4 46 a' b' c' d' h').e] [(4,22)] 2400 Tryz.func25 hmA (fun β=>by kernel_rfl) (by kernel_rfl) (fun β=>rfl) β w hh
def far2M {m n:Mp} {r:Bool} (h:Far2 m.C n.C r):BSpec Tryz.prog:=⟨25,Tryz.call25,[.one (.c (.b (.s 0 0 2 2)))],m.C++n.C,MOB,.bool r,h,by kernel_rfl,fun _=>rfl⟩
def far2X {q:MQ} {n:Mp} {r:Bool} (h:Far2 (mCl q) n.C r):BSpec Tryz.prog:=⟨25,Tryz.call25,[.one (.c (.b (.s 0 0 2 2)))],mCl q++n.C,MOB,.bool r,h,by kernel_rfl,fun _=>rfl⟩
def far2Q {q n:MQ} {r:Bool} (h:Far2 (mCl q) (mCl n) r):BSpec Tryz.prog:=⟨25,Tryz.call25,[.one (.c (.b (.s 0 0 2 2)))],mCl q++mCl n,MOB,.bool r,h,by kernel_rfl,fun _=>rfl⟩
abbrev P3T8:TypeId:=81
def P3 (p q r:Pp):Nat→Pp
 | 0=>p
 | 1=>q
 | _=>r
abbrev p3L (p q r:Pp):List Lf:=lsX p.w.C++lsX q.w.C++lsX r.w.C
theorem pC_len (p:Pp):(lsX p.w.C).length=9:=rfl
theorem box_row {p q r:Pp} {T:TypeId} {β:Env} {w:World} (h:(Ob.box (p3L p q r) T).holds β w (β 0)):(lpT 3 (P3 p q r)).D w { β 0 with c:=fun _=>3 }:=by
 obtain ⟨⟨h1,h2⟩,h3⟩:=h
 refine .inr ⟨by decide,(β 0).b,0,_,T,(0,0),fun m=>by rw [Nat.zero_add]; exact h2 m,h1,h3,fun j hj i v hv=>?_⟩
 have hi:i<9:=by
  have:=(List.getElem?_eq_some_iff.1 hv).1
  rw [List.length_map] at this
  exact this
 have hc:(p3L p q r).map (Lf.den β)=(p3L p q r).map (Lf.den idE):=rfl
 have key:((p3L p q r).map (Lf.den idE))[0+j*9+i]?=some v:=by
  unfold p3L
  rw [List.map_append,List.map_append]
  match j,hj with
  | 0,_ =>
   have hv:((lsX p.w.C).map (Lf.den idE))[i]?=some v:=hv
   rw [List.getElem?_append_left (by rw [List.length_append,List.length_map,List.length_map,pC_len]; omega),List.getElem?_append_left (by rw [List.length_map,pC_len]; omega),show 0+0*9+i=i by omega]
   exact hv
  | 1,_ =>
   have hv:((lsX q.w.C).map (Lf.den idE))[i]?=some v:=hv
   rw [List.getElem?_append_left (by rw [List.length_append,List.length_map,List.length_map,pC_len,pC_len]; omega),List.getElem?_append_right (by rw [List.length_map,pC_len]; omega),List.length_map,pC_len,show 0+1*9+i-9=i by omega]
   exact hv
  | 2,_ =>
   have hv:((lsX r.w.C).map (Lf.den idE))[i]?=some v:=hv
   rw [List.getElem?_append_right (by rw [List.length_append,List.length_map,List.length_map,pC_len,pC_len]; omega),List.length_append,List.length_map,List.length_map,pC_len,pC_len,show 0+2*9+i-(9+9)=i by omega]
   exact hv
 rw [← hc] at key
 simp only [World.cell?,h3]
 simpa using key
section
variable {q:MQ} (hq:MayQ q) (p0 p1 p2:Pp)
abbrev igA (q:MQ):List SV:=[.one (.a (mCl q)),.one (.c (.b (.s 0 0 3 3)))]
theorem igA_den (q:MQ) {β:Env} {w:World} (h:(Ob.box (p3L p0 p1 p2) P3T8).holds β w (β 0)):((igA q).map (SV.den β)).toArray=((mgA q 3).map (SV.den fun _=>{ β 0 with c:=fun _=>3 })).toArray:=by
 have h2:=h.1.2
 show #[_,Value.slice (some ⟨(β 0).b,0,none⟩) 3 3]=#[_,Value.slice ((β 0).v 0) 3 3]
 rw [h2]
 rfl
noncomputable def cIgAll (h:∀ i,i<3→(P3 p0 p1 p2 i).B=true) (hF:∀ i,i<3→FitP (maR q (P3 p0 p1 p2 i))):CSpec Tryz.prog :=
 ⟨45,Tryz.call45,igA q,p3L p0 p1 p2,P3T8,.tup [.c (.b (.y 1 0 3)),nI' 0],[rwT 9 3 (maL q (P3 p0 p1 p2))],fun β w hh=>by
  rw [igA_den p0 p1 p2 q hh]
  have key:=mg_all 3 3 (P3 p0 p1 p2) hq (fun _=>{ β 0 with c:=fun _=>3 }) w (Nat.le_refl 3) (by decide) (by decide) h hF (box_row hh)
  refine key.mono fun e w' hs=>?_
  obtain ⟨β',_,rfl,⟨hr1,hr2⟩,hlow,g⟩:=hs
  have hr2:OrD 9 PTT 3 (maL q (P3 p0 p1 p2)) w' (β' 3):=hr2
  refine ⟨[β' 3],fun x hx c hc=>?_,?_,⟨OrD.rw w' _ hr2,trivial⟩,g.bel⟩
  · obtain rfl:=List.mem_singleton.1 hx
    rw [(hr2.1 c).1 hc]
    exact hlow
  · have e1:extE β 1 [β' 3] 1=β' 3:=by
     have:=qX7 (β:=β) (n:=1) (xs:=[β' 3]) (i:=0) rfl
     simpa using this
    show Ending.returned (Value.tuple #[.slice ((β' 3).v 0) 3 ((β' 3).c 0),.int .i64 0])=Ending.returned (Value.tuple #[.slice ((extE β 1 [β' 3] 1).v 0) 3 ((extE β 1 [β' 3] 1).c 0),.int .i64 0])
    rw [e1],by kernel_rfl⟩
theorem nil_of {w:World} {xs:List Pl} (h:qZ0 w [] xs):xs=[]:=by
 cases xs with
 | nil=>rfl
 | cons=>exact h.elim
noncomputable def cIgUnt (h:∀ i,i<3→(P3 p0 p1 p2 i).B=true) {i:Nat} (hi:i<3) (hF:¬ FitP (maR q (P3 p0 p1 p2 i))) (hF2:∀ k,k<i→FitP (maR q (P3 p0 p1 p2 k))):CSpec Tryz.prog :=
 ⟨45,Tryz.call45,igA q,p3L p0 p1 p2,P3T8,mgRN 4,[],fun β w hh=>by
  rw [igA_den p0 p1 p2 q hh]
  refine ((sMgUnt (N:=3) (P3 p0 p1 p2) hq (Nat.le_refl 3) (by decide) h hi hF hF2).ok (fun _=>{ β 0 with c:=fun _=>3 }) w (fun k t ht=>by
   match k,ht with
   | 0,ht=>obtain rfl:=Option.some.inj ht; exact box_row hh
   | k+1,ht=>cases ht)).mono fun e w' ⟨xs,_,he,hx,hb⟩=>⟨[],(fun x hx=>by cases hx),?_,trivial,hb⟩
  obtain rfl:=nil_of hx
  exact he,by kernel_rfl⟩
noncomputable def cIgNo {i:Nat} (hi:i<3) (h:(P3 p0 p1 p2 i).B=false) (h2:∀ k,k<i→(P3 p0 p1 p2 k).B=true):CSpec Tryz.prog :=
 ⟨45,Tryz.call45,igA q,p3L p0 p1 p2,P3T8,mgRN 2,[],fun β w hh=>by
  rw [igA_den p0 p1 p2 q hh]
  refine ((sMgNo (N:=3) (P3 p0 p1 p2) hq (Nat.le_refl 3) (by decide) hi h h2).ok (fun _=>{ β 0 with c:=fun _=>3 }) w (fun k t ht=>by
   match k,ht with
   | 0,ht=>obtain rfl:=Option.some.inj ht; exact box_row hh
   | k+1,ht=>cases ht)).mono fun e w' ⟨xs,_,he,hx,hb⟩=>⟨[],(fun x hx=>by cases hx),?_,trivial,hb⟩
  obtain rfl:=nil_of hx
  exact he,by kernel_rfl⟩
end
def absQ (x:Rat):Rat:=if 0≤x.num then x else -x
theorem absQ_nn (x:Rat):0≤(absQ x).num:=by
 unfold absQ
 split
 · assumption
 · rw [Rat.neg_num]; omega
theorem absQ_or (x:Rat):absQ x=x∨absQ x = -x:=by
 unfold absQ
 split
 · exact .inl rfl
 · exact .inr rfl
theorem absQ_sq (x:Rat):absQ x*absQ x=x*x:=by
 rcases absQ_or x with e | e<;>rw [e]<;>grind
theorem absQ_sz {k:Nat} {x:Rat} (h:Sz k x):Sz k (absQ x):=by
 rcases absQ_or x with e | e<;>rw [e]
 · exact h
 · exact h.neg
theorem half2:half12+half12=1:=of_decide_eq_true (by kernel_rfl:decide (half12+half12=1)=true)
theorem gnorm_nn (u:GQ):0≤(qW1 u).num:=by
 have:0≤qW1 u:=by
  unfold qW1
  have h1:∀ x:Rat,0≤x*x:=fun x=>by
   rcases Rat.le_total (a:=0) (b:=x) with h | h
   · exact Rat.mul_nonneg h h
   · have:=Rat.mul_nonneg (a:=-x) (b:=-x) (by grind) (by grind)
     grind
  exact Rat.add_nonneg (h1 _) (h1 _)
 exact Rat.num_nonneg.2 this
section
variable (u:GQ)
abbrev sqZ:GQ:=gmul u u
abbrev sqA:Rat:=absQ u.re
abbrev sqB:Rat:=absQ u.im
abbrev sqQ:GQ:=⟨(sqZ u).im*half12/sqA u,0⟩
def sqW:GQ:=if sqA u=0 then gmul ⟨sqB u,0⟩ i01 else gadd ⟨sqA u,0⟩ (gmul (sqQ u) i01)
theorem sq_mid:(qW1 u+(sqZ u).re)*half12=sqA u*sqA u:=by
 have:=half2
 rw [absQ_sq]
 simp only [sqZ,gmul,qW1]
 generalize half12=h at this
 grind
theorem i01_parts:i01=⟨0,1⟩:=by
 have h1:decide (Rat.divInt 0 1=0)=true:=by kernel_rfl
 have h2:decide (Rat.divInt 1 1=1)=true:=by kernel_rfl
 exact congr (congrArg GQ.mk (of_decide_eq_true h1)) (of_decide_eq_true h2)
theorem sqW_or:sqW u=u∨sqW u=gneg u:=by
 have hh:=half2
 unfold sqW
 rw [i01_parts]
 split
 · rename_i h0
   have h0:absQ u.re=0:=h0
   have h0:u.re=0:=by rcases absQ_or u.re with e | e<;>rw [e] at h0<;>grind
   rcases absQ_or u.im with e | e
   · refine .inl (GQ.ext2 ?_ ?_)<;>(simp only [gmul,sqB,e]; grind)
   · refine .inr (GQ.ext2 ?_ ?_)<;>(simp only [gmul,gneg,sqB,e]; grind)
 · rename_i h0
   rcases absQ_or u.re with e | e
   · simp only [sqA,e] at h0 ⊢
     refine .inl (GQ.ext2 ?_ ?_)
     · simp only [gadd,gmul,sqQ]; grind
     · simp only [gadd,gmul,sqQ,sqZ,sqA,e]
       generalize half12=h at hh ⊢
       grind
   · simp only [sqA,e] at h0 ⊢
     refine .inr (GQ.ext2 ?_ ?_)
     · simp only [gadd,gmul,gneg,sqQ]; grind
     · simp only [gadd,gmul,gneg,sqQ,sqZ,sqA,e]
       generalize half12=h at hh ⊢
       grind
end
theorem sign_neG {x:Rat} {t:Bool} (h:decide (x=0)=!t):Value.bool (!(x.num.sign==0))=.bool t:=by
 have:=sign_num x (b:=!t) h
 rw [Value.bool.injEq] at this
 rw [this,Bool.not_not]
section
variable {u:GQ} (hu:GSz 64 u)
include hu
end
theorem sq_b {u:GQ} (h:sqA u=0):qW1 u=sqB u*sqB u:=by
 have h:absQ u.re=0:=h
 have h0:u.re=0:=by rcases absQ_or u.re with e | e<;>rw [e] at h<;>grind
 rw [absQ_sq]
 simp only [qW1,h0]
 grind
abbrev rg (x:Rat):GQ:=⟨x,0⟩
def wy0 (f:RQ):GQ:=gadd (rg f.b.re) (gmul (rg f.b.im) (gint 0 1))
def wayQ (f:RQ):GQ:=qW6 (wy0 f)
abbrev KI:Nat:=300
def cuN (l:RQ):Rat:=qW1 (wayQ l)
structure RNew (P:Program) where
 f:FuncId
 en:qY8 P f
 args:List SV
 src:Ob
 res:SV
 news:List Thing
 ok:∀ β w,src.holds β w (β 0)→Calls P f (args.map (SV.den β)).toArray w fun e w'=>∃ xs:List Pl,(∀ x∈xs,∀ c,x.F c→w.heap.size≤c)∧e=.returned (res.den (extE β 1 xs))∧qZ0 w' news xs∧Below w.heap.size w w'
 cl:(src.of (fun _=>false)&&(args.all (SV.of fun k=>Nat.beq k 0)&&res.of fun k=>Nat.ble 1 k&&Nat.blt k (1+news.length)))=true
def RNew.e {P:Program} (S:RNew P):Ev P:=.dyn (fun o _ _=>qY3 o) fun _ xs ob=>lit (bkOfR xs) fun i=>lit ob.length fun n =>
 .call S.f S.en (fun β=>(S.args.map (SV.den fun _=>β i)).toArray) [(i,S.src)] n (S.res.ren fun k=>n+(k-1)) S.news (fun β w h=>by
  have hc:=S.cl
  simp only [Bool.and_eq_true] at hc
  obtain ⟨c1,c2,c3⟩:=hc
  have h1:S.src.holds β w (β i):=h _ (List.mem_singleton.2 rfl)
  refine (S.ok (fun _=>β i) w (Ob.holds_congr (q:=fun _=>false) (fun k hk=>by cases hk) _ c1 h1)).mono fun e w' ⟨xs,k1,k2,k3,k4⟩=>⟨xs,fun x hx c hc=>.inl (k1 x hx c hc),?_,k3,k4⟩
  rw [k2,SV.den_ren]
  congr 1
  refine SV.den_congr (fun k hk=>?_) _ c3
  have hlen:=(qX9 k3).1
  rw [Bool.and_eq_true,Nat.ble_eq,Nat.blt_eq] at hk
  have h5:k-1<xs.length:=by omega
  rw [qX7 (List.getElem?_eq_getElem h5)]
  have:=qX7 (β:=fun _=>β i) (n:=1) (List.getElem?_eq_getElem h5)
  rw [show 1+(k-1)=k by omega] at this
  exact this)
abbrev dgL (n:Nat):Nat:=(dig n).length
def WD (n:Nat) (w:World) (g:Pl):Prop:=Words w (.slice (g.v 0) (dgL n) (g.c 0)) (dig n)∧∀ c,¬ g.F c
theorem wd_stable (n:Nat):Stable (WD n) :=
 ⟨fun w g h c hc=>absurd hc (h.2 c),fun w w' g h hb=>⟨h.1.below hb,h.2⟩,fun w w' g b o k m h hs ht _=>⟨h.1.touchN hs ht,h.2⟩⟩
def wdT (n:Nat):Thing:=thing (WD n) (wd_stable n)
abbrev wdPl (A:Option Addr) (c:Nat):Pl:=⟨0,fun _=>A,fun _=>c,fun _=>False,fun _=>undef⟩
abbrev wdS (k n:Nat):SV:=.one (.c (.b (.y k 0 (dgL n))))
theorem wd_of {w:World} {v:Value} {n:Nat} (h:Words w v (dig n)):∃ A c,v=.slice A (dgL n) c∧WD n w (wdPl A c):=by
 obtain ⟨A,c,rfl,_⟩:=h.shape
 exact ⟨A,c,rfl,h,fun _ h=>h⟩
theorem wd_fresh {β:Env} {w:World} {n:Nat} {A:Option Addr} {c:Nat}:qK2 β w n [wdPl A c]:=fun x hx c hc=>by
 obtain rfl:=List.mem_singleton.1 hx
 exact hc.elim
def sRWords (n:Nat) (hm:(mag n).size≤4294967296):Spec Tryz.prog :=
 ⟨279,Tryz.call279,[.one (.c (.b (.v (.string (mag n)))))],[],wdS 0 n,[wdT n],fun β w _=>(qW8 (mag n) n rfl hm).mono fun e w' ⟨A,c,he,h,hb⟩=>⟨[wdPl A c],wd_fresh,by rw [he]; rfl,⟨⟨h,fun _ h=>h⟩,trivial⟩,hb⟩,by kernel_rfl⟩
theorem bits_uniq {m L K:Nat} (h:Bits m L) (k:Bits m K):L=K:=by
 have key:∀ {a b:Nat},Bits m a→Bits m b→a≤b:=fun {a b} ha hb=>by
  rcases Nat.lt_or_ge b a with hlt | hge
  · exfalso
    have h1:=ha.2 (by omega)
    have h2:2^b≤2^(a-1):=Nat.pow_le_pow_right (by decide) (by omega)
    have:=hb.1
    omega
  · exact hge
 exact Nat.le_antisymm (key h k) (key k h)
def sRBits {n L:Nat} (hL:Bits n L):Spec Tryz.prog :=
 ⟨353,Tryz.call353,[wdS 0 n],[wdT n],.one (.c (.b (.v (.int .i64 (L:Int))))),[],fun β w hh=>by
  have h0:WD n w (β 0):=hh 0 _ rfl
  refine (rbits_any h0.1).mono fun e w' ⟨K,he,hK,_,hb⟩=>⟨[],(fun _ h=>by cases h),?_,trivial,hb⟩
  obtain rfl:=bits_uniq hK hL
  rw [he]
  rfl,by kernel_rfl⟩
section
variable {x y:Nat} (hx:dgL x≤8589934592) (hy:dgL y≤8589934592)
def sRMore:Spec Tryz.prog :=
 ⟨347,Tryz.call347,[wdS 0 x,wdS 1 y],[wdT x,wdT y],wdS 2 (x+y),[wdT (x+y)],fun β w hh=>by
  have h0:WD x w (β 0):=hh 0 _ rfl
  have h1:WD y w (β 1):=hh 1 _ rfl
  refine (rmore_any h0.1 h1.1 hx hy).mono fun e w' ⟨v,he,hv,hb⟩=>?_
  rw [qQ3,qQ3] at hv
  obtain ⟨A,c,rfl,h2⟩:=wd_of hv
  exact ⟨[wdPl A c],wd_fresh,by rw [he]; rfl,⟨h2,trivial⟩,hb⟩,by kernel_rfl⟩
abbrev nilW:SV:=.one (.c (.b (.v (.slice none 0 0))))
def sRMore0:Spec Tryz.prog :=
 ⟨347,Tryz.call347,[nilW,wdS 0 y],[wdT y],wdS 1 y,[wdT y],fun β w hh=>by
  have h1:WD y w (β 0):=hh 0 _ rfl
  refine (rmore_any (Words.nil w) h1.1 (by decide) hy).mono fun e w' ⟨v,he,hv,hb⟩=>?_
  rw [qQ3,show val []=0 from rfl,Nat.zero_add] at hv
  obtain ⟨A,c,rfl,h2⟩:=wd_of hv
  exact ⟨[wdPl A c],wd_fresh,by rw [he]; rfl,⟨h2,trivial⟩,hb⟩,by kernel_rfl⟩
def sRProd:Spec Tryz.prog :=
 ⟨280,Tryz.call280,[wdS 0 x,wdS 0 x],[wdT x],wdS 1 (x*x),[wdT (x*x)],fun β w hh=>by
  have h0:WD x w (β 0):=hh 0 _ rfl
  refine (zX6 h0.1 h0.1 hx hx).mono fun e w' ⟨v,he,hv,hb⟩=>?_
  rw [qQ3] at hv
  obtain ⟨A,c,rfl,h2⟩:=wd_of hv
  exact ⟨[wdPl A c],wd_fresh,by rw [he]; rfl,⟨h2,trivial⟩,hb⟩,by kernel_rfl⟩
def sRUnder (x y:Nat):Spec Tryz.prog :=
 ⟨278,Tryz.call278,[wdS 0 x,wdS 1 y],[wdT x,wdT y],.one (.c (.b (.v (.int .i64 (cmpN x y))))),[],fun β w hh=>by
  have h0:WD x w (β 0):=hh 0 _ rfl
  have h1:WD y w (β 1):=hh 1 _ rfl
  exact (zJ1 h0.1 h1.1).mono fun e w' ⟨he,hd⟩=>⟨[],(fun _ h=>by cases h),by rw [he]; rfl,trivial,hd.below _⟩,by kernel_rfl⟩
def sRLess (hle:y≤x):Spec Tryz.prog :=
 ⟨348,Tryz.call348,[wdS 0 x,wdS 1 y],[wdT x,wdT y],wdS 2 (x-y),[wdT (x-y)],fun β w hh=>by
  have h0:WD x w (β 0):=hh 0 _ rfl
  have h1:WD y w (β 1):=hh 1 _ rfl
  refine (rless_any h0.1 h1.1 hx (by rw [qQ3,qQ3]; exact hle) (qJ0 _ _ hle)).mono fun e w' ⟨v,he,hv,hb⟩=>?_
  rw [qQ3,qQ3] at hv
  obtain ⟨A,c,rfl,h2⟩:=wd_of hv
  exact ⟨[wdPl A c],wd_fresh,by rw [he]; rfl,⟨h2,trivial⟩,hb⟩,by kernel_rfl⟩
end
abbrev whS (m:Nat):SV:=.one (.a [.b (.v (.bool false)),.b (.v (.string (mag m)))])
theorem whole_nat (m:Nat):qZ9 (m:Int)=.agg #[.bool false,.string (mag m)]:=by
 unfold qZ9
 rw [decide_eq_false (by omega:¬ ((m:Int)<0)),Int.natAbs_natCast]
def sRMade {x:Nat} (hx:dgL x≤4294967296):Spec Tryz.prog :=
 ⟨253,Tryz.call253,[.one (.c (.b (.v (.bool false)))),wdS 0 x],[wdT x],whS x,[],fun β w hh=>by
  have h0:WD x w (β 0):=hh 0 _ rfl
  refine (qH3 false h0.1 hx).mono fun e w' ⟨he,hb⟩=>⟨[],(fun _ h=>by cases h),?_,trivial,hb⟩
  rw [he,qQ3,show sg false x=(x:Int) from rfl,whole_nat]
  rfl,by kernel_rfl⟩
def sRUp1 (k:Nat) (hk:k≤137438953472):CSpec Tryz.prog :=
 ⟨354,Tryz.call354,[.one (.c (.b (.s 0 0 1 1))),.one (.c (.b (.v (.int .i64 (k:Int)))))],[.b (.v (.int .u32 1))],299,wdS 1 (2^k),[wdT (2^k)],fun β w hh=>by
  have hw:Words w (.slice (some ⟨(β 0).b,0,none⟩) 1 1) [1]:=⟨by intro x hx; obtain rfl:=List.mem_singleton.1 hx; decide,by decide,some ⟨(β 0).b,0,none⟩,1,rfl,Nat.le_refl _,fun _=>⟨(β 0).b,0,_,_,rfl,hh.2,fun i hi=>by
   obtain rfl:i=0:=by simp only [List.length_singleton] at hi; omega
   rfl⟩⟩
  refine (up_any hw (by decide) k hk).mono fun e w' ⟨v,he,hv,hb⟩=>?_
  rw [show val [1]*2^k=2^k by rw [show val [1]=1 from rfl,Nat.one_mul]] at hv
  obtain ⟨A,c,rfl,h2⟩:=wd_of hv
  refine ⟨[wdPl A c],fun x hx c hc=>?_,by rw [he]; rfl,⟨h2,trivial⟩,hb⟩
  obtain rfl:=List.mem_singleton.1 hx
  exact hc.elim,by kernel_rfl⟩
noncomputable abbrev rtF:Func:=Tryz.f300
noncomputable abbrev rtN:Nat:=qV4 rtF [whS 0]
abbrev WHT:TypeId:=23
abbrev wh0:List Lf:=[.b (.v (.bool false)),.b (.v (.string ⟨#[]⟩))]
abbrev rtI (i:Int):SV:=.one (.c (.b (.v (.int .i64 i))))
abbrev rtSl (n:Nat) (root:SV) (i:Int):List (Nat × SV):=[(2,.one (.c (.b (.p 1 0)))),(3,.one (.c (.b (.p 2 0)))),(4,wdS 3 n),(5,root),(6,rtI i)]
abbrev rtOb (n:Nat) (l:List Ob):List Ob:=[.dead,.box wh0 WHT,.box wh0 WHT,(wdT n).ob]++l
noncomputable abbrev rtc0 (n:Nat) (i:Int) (ev:List (Ev Tryz.prog)):Cf Tryz.prog:=mkC Tryz.prog rtN 0 (rtSl n nilW i) (rtOb n []) ev
noncomputable abbrev rtc1 (n r:Nat) (i:Int) (ev:List (Ev Tryz.prog)):Cf Tryz.prog:=mkC Tryz.prog rtN 0 (rtSl n (wdS 4 r) i) (rtOb n [(wdT r).ob]) ev
abbrev rtRes (r m:Nat):SV:=.tup [.a [.b (.v (.bool false)),.b (.v (.string (mag r)))],.a [.b (.v (.bool false)),.b (.v (.string (mag m)))]]
abbrev rtH (β0:Env) (w:World) (r m:Nat) (C:Cf Tryz.prog):Prop:=HdOk Tryz.prog 0 rtN w.heap.size w β0 (bodyPost Tryz.prog rtF (Said Tryz.prog rtF 0 (rtRes r m) [] β0 w)) C (lpAt rtF 0)
section
variable (β0:Env) (w:World) (R M:Nat)
theorem rt_geq {i:Int} (h:0≤i):Value.bool (decide (0≤i))=.bool true:=by rw [decide_eq_true h]
theorem rt_leq {a:Int} {t:Bool} (h:decide (a≤0)=t):Value.bool (decide (a≤0))=.bool t:=by rw [h]
noncomputable def rootE (n k x:Nat) (hk:k≤137438953472) (more:Ev Tryz.prog) (hx:dgL x≤8589934592) {t:Bool} (ht:decide (cmpN (x*x) n≤0)=t) (j:Int) (hj:IntKind.i64.wrap ((k:Int)-1)=j):List (Ev Tryz.prog) :=
 [.eqv 15 (.bool (decide (0≤(k:Int)))) (.bool true) (rt_geq (Int.natCast_nonneg k)),(sRUp1 k hk).e,more,(sRProd hx).e,(sRUnder (x*x) n).e,.eqv 28 (.bool (decide (cmpN (x*x) n≤0))) (.bool t) (rt_leq ht),.eqv 17 (.int .i64 (IntKind.i64.wrap ((k:Int)-1))) (.int .i64 j) (by rw [hj]),.cut]
variable {n k:Nat} (hk:k≤137438953472) {j:Int} (hj:IntKind.i64.wrap ((k:Int)-1)=j)
theorem rt0_yes (h2:dgL (2^k)≤8589934592) (ht:decide (cmpN (2^k*2^k) n≤0)=true) (h:rtH β0 w R M (rtc1 n (2^k) j [])) :
  rtH β0 w R M (rtc0 n k (rootE n k (2^k) hk (sRMore0 h2).e h2 ht j hj)):=qQ7 (Ns:=[]) (m:=300) [] [0,1,2,3,6] hmA (by kernel_rfl) (fun β=>qQ0 (by kernel_rfl)) h
theorem rt0_no (h2:dgL (2^k)≤8589934592) (ht:decide (cmpN (2^k*2^k) n≤0)=false) (h:rtH β0 w R M (rtc0 n j [])) :
  rtH β0 w R M (rtc0 n k (rootE n k (2^k) hk (sRMore0 h2).e h2 ht j hj)):=qQ7 (Ns:=[]) (m:=300) [] [0,1,2,3] hmA (by kernel_rfl) (fun β=>qQ0 (by kernel_rfl)) h
variable {r:Nat}
theorem rt1_yes (h1:dgL r≤8589934592) (h2:dgL (2^k)≤8589934592) (h3:dgL (r+2^k)≤8589934592) (ht:decide (cmpN ((r+2^k)*(r+2^k)) n≤0)=true) (h:rtH β0 w R M (rtc1 n (r+2^k) j [])) :
  rtH β0 w R M (rtc1 n r k (rootE n k (r+2^k) hk (sRMore h1 h2).e h3 ht j hj)):=qQ7 (Ns:=[]) (m:=300) [] [0,1,2,3,7] hmA (by kernel_rfl) (fun β=>qQ0 (by kernel_rfl)) h
theorem rt1_no (h1:dgL r≤8589934592) (h2:dgL (2^k)≤8589934592) (h3:dgL (r+2^k)≤8589934592) (ht:decide (cmpN ((r+2^k)*(r+2^k)) n≤0)=false) (h:rtH β0 w R M (rtc1 n r j [])) :
  rtH β0 w R M (rtc1 n r k (rootE n k (r+2^k) hk (sRMore h1 h2).e h3 ht j hj)):=qQ7 (Ns:=[]) (m:=300) [] [0,1,2,3,4] hmA (by kernel_rfl) (fun β=>qQ0 (by kernel_rfl)) h
theorem rt_end (h1:dgL r≤4294967296) (hn:dgL n≤8589934592) (hle:r*r≤n) (hm:dgL (n-r*r)≤4294967296) :
  rtH β0 w r (n-r*r) (rtc1 n r (-1) [(sRMade h1).e,(sRProd (x:=r) (Nat.le_trans h1 (by decide))).e,(sRLess (x:=n) (y:=r*r) hn hle).e,(sRMade hm).e]):=qJ9 (Ns:=[]) (m:=300) hmA (fun β=>qQ0 (by kernel_rfl))
end
theorem hd_ev {P:Program} {m0 n B0:Nat} {w0:World} {β0:Env} {Q:Exit→Act→World→Prop} {u:Nat} {sl:List (Nat × SV)} {ob:List Ob} {ev ev':List (Ev P)} {p:Code × List Kf} (h:HdOk P m0 n B0 w0 β0 Q (mkC P n u sl ob ev) p):HdOk P m0 n B0 w0 β0 Q (mkC P n u sl ob ev') p :=
 fun β a w hβ hs=>h β a w hβ (hs.ev ev)
theorem sqrt_uniq {n r s:Nat} (h1:r*r≤n) (h2:n<(r+1)*(r+1)) (k1:s*s≤n) (k2:n<(s+1)*(s+1)):r=s:=by
 rcases Nat.lt_trichotomy r s with h | h | h
 · have:=Nat.mul_le_mul (Nat.succ_le_of_lt h) (Nat.succ_le_of_lt h)
   simp only [Nat.succ_eq_add_one] at this
   omega
 · exact h
 · have:=Nat.mul_le_mul (Nat.succ_le_of_lt h) (Nat.succ_le_of_lt h)
   simp only [Nat.succ_eq_add_one] at this
   omega
theorem big_len {n m:Nat} (h:m≤3*n+1):dgL m≤dgL n+1:=by
 apply qX8
 have h1:=qV3 n
 rw [Nat.pow_succ]
 generalize (4294967296:Nat)^dgL n=z at h1
 omega
theorem cmp_dec {a n:Nat} {t:Bool} (h:decide (a≤n)=t):decide (cmpN a n≤0)=t:=by
 rw [← h]
 exact decide_eq_decide.2 cmpN_le
section
variable {β0:Env} {w:World} {n R:Nat} (hd:dgL n≤4294967290) (hR1:R*R≤n) (hR2:n<(R+1)*(R+1))
include hd hR1 hR2 in
theorem rt_done {r:Nat} (h1:r*r≤n) (h2:n<(r+1)*(r+1)):rtH β0 w R (n-R*R) (rtc1 n r (-1) []):=by
 obtain rfl:=sqrt_uniq h1 h2 hR1 hR2
 have hr:r≤n:=Nat.le_trans (Nat.le_mul_self r) h1
 exact hd_ev (rt_end β0 w (Nat.le_trans (qJ0 _ _ hr) (Nat.le_trans hd (by decide))) (Nat.le_trans hd (by decide)) h1 (Nat.le_trans (qJ0 _ _ (Nat.sub_le _ _)) (Nat.le_trans hd (by decide))))
theorem wrap_pred (k:Nat) (hk:k≤137438953472):IntKind.i64.wrap (((k+1:Nat):Int)-1)=(k:Int):=by
 rw [IntKind.wrap_i64]
 omega
include hd hR1 hR2 in
theorem rt_loop:∀ k:Nat,k≤137438953472→2^k≤2*n+1 →
  (1≤n→n<2^(k+1)*2^(k+1)→rtH β0 w R (n-R*R) (rtc0 n k []))∧∀ r,r*r≤n→n<(r+2^(k+1))*(r+2^(k+1))→rtH β0 w R (n-R*R) (rtc1 n r k [])
 | 0,hk,hp=>by
  have l2:dgL (2^0)≤8589934592:=Nat.le_trans (big_len (n:=n) (by omega)) (Nat.le_trans (Nat.add_le_add_right hd 1) (by decide))
  refine ⟨fun hn h=>?_,fun r hr h=>?_⟩
  · refine hd_ev (rt0_yes β0 w R (n-R*R) (k:=0) (j:=-1) hk (by decide) l2 (cmp_dec (decide_eq_true (by show 1*1≤n; omega))) ?_)
    exact rt_done hd hR1 hR2 (by show 1*1≤n; omega) h
  · have hrn:r≤n:=Nat.le_trans (Nat.le_mul_self r) hr
    have l1:dgL r≤8589934592:=Nat.le_trans (qJ0 _ _ hrn) (Nat.le_trans hd (by decide))
    have l3:dgL (r+2^0)≤8589934592:=Nat.le_trans (big_len (n:=n) (by omega)) (Nat.le_trans (Nat.add_le_add_right hd 1) (by decide))
    cases ht:decide ((r+2^0)*(r+2^0)≤n) with
    | true=>exact hd_ev (rt1_yes β0 w R (n-R*R) (k:=0) (j:=-1) hk (by decide) l1 l2 l3 (cmp_dec ht) (rt_done hd hR1 hR2 (of_decide_eq_true ht) h))
    | false=>exact hd_ev (rt1_no β0 w R (n-R*R) (k:=0) (j:=-1) hk (by decide) l1 l2 l3 (cmp_dec ht) (rt_done hd hR1 hR2 hr (Nat.lt_of_not_le (of_decide_eq_false ht))))
 | k+1,hk,hp=>by
  have hp':2^k≤2*n+1:=Nat.le_trans (Nat.pow_le_pow_right (by decide) (Nat.le_succ k)) hp
  obtain ⟨ih0,ih1⟩:=rt_loop k (by omega) hp'
  have l2:dgL (2^(k+1))≤8589934592:=Nat.le_trans (big_len (n:=n) (by omega)) (Nat.le_trans (Nat.add_le_add_right hd 1) (by decide))
  have hj:=wrap_pred k (by omega)
  have e2:2^(k+1+1)=2^(k+1)+2^(k+1):=by rw [Nat.pow_succ 2 (k+1)]; omega
  refine ⟨fun hn h=>?_,fun r hr h=>?_⟩
  · cases ht:decide (2^(k+1)*2^(k+1)≤n) with
    | true=>exact hd_ev (rt0_yes β0 w R (n-R*R) hk hj l2 (cmp_dec ht) (ih1 _ (of_decide_eq_true ht) (by rw [e2] at h; exact h)))
    | false=>exact hd_ev (rt0_no β0 w R (n-R*R) hk hj l2 (cmp_dec ht) (ih0 hn (Nat.lt_of_not_le (of_decide_eq_false ht))))
  · have hrn:r≤n:=Nat.le_trans (Nat.le_mul_self r) hr
    have l1:dgL r≤8589934592:=Nat.le_trans (qJ0 _ _ hrn) (Nat.le_trans hd (by decide))
    have l3:dgL (r+2^(k+1))≤8589934592:=Nat.le_trans (big_len (n:=n) (by omega)) (Nat.le_trans (Nat.add_le_add_right hd 1) (by decide))
    cases ht:decide ((r+2^(k+1))*(r+2^(k+1))≤n) with
    | true=>exact hd_ev (rt1_yes β0 w R (n-R*R) hk hj l1 l2 l3 (cmp_dec ht) (ih1 _ (of_decide_eq_true ht) (by rw [e2,← Nat.add_assoc] at h; exact h)))
    | false=>exact hd_ev (rt1_no β0 w R (n-R*R) hk hj l1 l2 l3 (cmp_dec ht) (ih1 _ hr (Nat.lt_of_not_le (of_decide_eq_false ht))))
end
theorem bits_ex {n:Nat} (hn:1≤n):∃ L,Bits n L:=⟨n.log2+1,Nat.lt_log2_self,fun _=>Nat.log2_self_le (by omega)⟩
theorem bits_len {n L:Nat} (h:Bits n L):L≤32*dgL n:=by
 show L≤32*(dig n).length
 rcases Nat.eq_zero_or_pos L with rfl | hp
 · exact Nat.zero_le _
 · have h1:=h.2 hp
   have h2:=qV3 n
   rw [show (4294967296:Nat)=2^32 by decide,← Nat.pow_mul] at h2
   have h3:=(Nat.pow_lt_pow_iff_right (by decide:1<2)).1 (Nat.lt_of_le_of_lt h1 h2)
   omega
theorem wrap_half (L:Nat) (h:L≤4611686018427387904):IntKind.i64.wrap (Int.tdiv (L:Int) 2)=((L/2:Nat):Int):=by
 have:Int.tdiv (L:Int) 2=((L/2:Nat):Int):=by
  rw [Int.tdiv_eq_ediv_of_nonneg (Int.natCast_nonneg L)]
  rfl
 rw [this,IntKind.wrap_i64]
 omega
noncomputable def rtStart {n L:Nat} (hm:(mag n).size≤4294967296) (hL:Bits n L) (hb:L≤4611686018427387904):List (Ev Tryz.prog) :=
 [(sRWords n hm).e,(sRBits hL).e,.eqv 13 (.int .i64 (IntKind.i64.wrap (Int.tdiv (L:Int) 2))) (.int .i64 ((L/2:Nat):Int)) (by rw [wrap_half L hb]),.cut]
theorem rroot_ok {n R:Nat} (hn:1≤n) (hm:(mag n).size≤4294967296) (hd:dgL n≤4294967290) (hR1:R*R≤n) (hR2:n<(R+1)*(R+1)) (β:Env) (w:World) :
  Calls Tryz.prog 300 (([whS n]:List SV).map (SV.den β)).toArray w (Said Tryz.prog rtF 0 (rtRes R (n-R*R)) [] β w):=by
 obtain ⟨L,hL⟩:=bits_ex hn
 have hl:L≤137438953472:=Nat.le_trans (bits_len hL) (Nat.le_trans (Nat.mul_le_mul_left 32 hd) (by decide))
 have hb:L≤4611686018427387904:=by omega
 have hp:2^(L/2)≤2*n+1:=by
  rcases Nat.eq_zero_or_pos L with rfl | hp
  · show 1≤2*n+1
    omega
  · have h1:=hL.2 hp
    have h2:2^(L/2)≤2^L:=Nat.pow_le_pow_right (by decide) (Nat.div_le_self _ _)
    have h3:2^L=2*2^(L-1):=by
     rw [← Nat.pow_succ']
     congr 1
     omega
    omega
 have hq:n<2^(L/2+1)*2^(L/2+1):=by
  rw [← Nat.pow_add]
  exact Nat.lt_of_lt_of_le hL.1 (Nat.pow_le_pow_right (by decide) (by omega))
 exact sx_cut (P:=Tryz.prog) [whS n] [] (rtStart hm hL hb) [] [] 300 (rtRes R (n-R*R)) [] Tryz.func300 hmA (u:=0) (sl:=rtSl n nilW ((L/2:Nat):Int)) (ob:=rtOb n []) (σ:=[0,1,2,3]) (p':=lpAt rtF 0) (by kernel_rfl) (fun β=>qQ0 (by kernel_rfl)) (by kernel_rfl) (by kernel_rfl) β w (fun k o ho=>by simp at ho)
  ((rt_loop hd hR1 hR2 (L/2) (by omega) hp).1 hn hq)
noncomputable def sRRoot {n R:Nat} (hn:1≤n) (hm:(mag n).size≤4294967296) (hd:dgL n≤4294967290) (hR1:R*R≤n) (hR2:n<(R+1)*(R+1)):Spec Tryz.prog :=
 ⟨300,Tryz.call300,[whS n],[],rtRes R (n-R*R),[],fun β w _=>(rroot_ok hn hm hd hR1 hR2 β w).mono fun e w' h=>by
  obtain ⟨β',q,obj,_,rfl,_,_,_,g⟩:=h
  exact ⟨[],(fun _ h=>by cases h),rfl,trivial,g.bel⟩,by kernel_rfl⟩
def sRMade0:Spec Tryz.prog :=
 ⟨253,Tryz.call253,[.one (.c (.b (.v (.bool false)))),nilW],[],whS 0,[],fun β w hh=>by
  refine (qH3 false (Words.nil w) (by decide)).mono fun e w' ⟨he,hb⟩=>⟨[],(fun _ h=>by cases h),?_,trivial,hb⟩
  rw [he,show sg false (val [])=((0:Nat):Int) from rfl,whole_nat]
  rfl,by kernel_rfl⟩
def sRProd0:Spec Tryz.prog :=
 ⟨280,Tryz.call280,[nilW,nilW],[],wdS 0 0,[wdT 0],fun β w hh=>by
  refine (zX6 (Words.nil w) (Words.nil w) (by decide) (by decide)).mono fun e w' ⟨v,he,hv,hb⟩=>?_
  obtain ⟨A,c,rfl,h2⟩:=wd_of hv
  exact ⟨[wdPl A c],wd_fresh,by rw [he]; rfl,⟨h2,trivial⟩,hb⟩,by kernel_rfl⟩
theorem bits0:Bits 0 0:=⟨by decide,fun h=>absurd h (by decide)⟩
theorem dl1:dgL (2^0)≤8589934592:=Nat.le_trans (qX8 1 1 (by decide)) (by decide)
theorem dl0:dgL 0≤4294967296:=Nat.le_trans (qX8 0 0 (by decide)) (by decide)
theorem mg0:(mag 0).size≤4294967296:=by rw [mag_zero]; decide
def sRRoot0:Spec Tryz.prog :=
 Spec.auto Tryz.call300 [whS 0] [] (rtRes 0 0) []
  [(sRWords 0 mg0).e,(sRBits bits0).e,(sRUp1 0 (by decide)).e,(sRMore0 dl1).e,(sRProd dl1).e,(sRUnder (2^0*2^0) 0).e,sRMade0.e,sRProd0.e,(sRLess (x:=0) (y:=0) (Nat.le_trans dl0 (by decide)) (Nat.le_refl 0)).e,(sRMade (x:=0-0) dl0).e] [] 800 Tryz.func300 hmA (by kernel_rfl) (fun β=>by kernel_rfl)
theorem rootA_ok {n R:Nat} (hm:(mag n).size≤4294967296) (hd:dgL n≤4294967290) (hR1:R*R≤n) (hR2:n<(R+1)*(R+1)) (β:Env) (w:World) (hh:∀ (k:Nat) (t:Thing),([]:List Thing)[k]?=some t→t.D w (β k)) :
  Calls Tryz.prog 300 (([whS n]:List SV).map (SV.den β)).toArray w fun e w'=>∃ xs:List Pl,qK2 β w 0 xs∧e=.returned ((rtRes R (n-R*R)).den (extE β 0 xs))∧qZ0 w' [] xs∧Below w.heap.size w w':=by
 rcases Nat.eq_zero_or_pos n with rfl | hn
 · obtain rfl:R=0:=by
    rcases Nat.eq_zero_or_pos R with h | h
    · exact h
    · have:=Nat.mul_pos h h
      omega
   exact sRRoot0.ok β w hh
 · exact (sRRoot hn hm hd hR1 hR2).ok β w hh
def sRRootA {n R:Nat} (b:Bool) (hb:b=false) (hm:(mag n).size≤4294967296) (hd:dgL n≤4294967290) (hR1:R*R≤n) (hR2:n<(R+1)*(R+1)):Spec Tryz.prog :=
 ⟨300,Tryz.call300,[.one (.a [.b (.v (.bool b)),.b (.v (.string (mag n)))])],[],rtRes R (n-R*R),[],fun β w hh=>by
  subst hb
  exact rootA_ok hm hd hR1 hR2 β w hh,by kernel_rfl⟩
def sRSgn (m:Nat) {b:Bool} (hb:decide (m=0)=b):Spec Tryz.prog :=
 ⟨255,Tryz.call255,[whS m],[],.one (.c (.b (.v (.int .i64 (bif b then 0 else 1))))),[],fun β w hh=>by
  have h1:=rsign_w (w:=w) (p:=false) (s:=mag m) (n:=(m:Int)) (whole_nat m).symm
  refine h1.mono fun e w' ⟨he,hbb⟩=>⟨[],(fun _ h=>by cases h),?_,trivial,hbb⟩
  rw [he]
  cases b with
  | true =>
   obtain rfl:m=0:=of_decide_eq_true hb
   rfl
  | false =>
   have:0<m:=Nat.pos_of_ne_zero (of_decide_eq_false hb)
   rw [Int.sign_eq_one_of_pos (by omega:(0:Int)<(m:Int))]
   rfl,by kernel_rfl⟩
section
variable {x:Rat} (h0:0≤x.num) {R S:Nat} (hm:(mag x.num.natAbs).size≤4294967296) (hd:dgL x.num.natAbs≤4294967290) (hm':(mag x.den).size≤4294967296) (hd':dgL x.den≤4294967290)
 (hR1:R*R≤x.num.natAbs) (hR2:x.num.natAbs<(R+1)*(R+1)) (hS1:S*S≤x.den) (hS2:x.den<(S+1)*(S+1))
noncomputable def sq3E:List (Ev Tryz.prog) :=
 [(sR3Sign (x:=x) rfl).e,.eqv 10 (.bool (decide (x.num.sign<0))) (.bool false) (nat_sign (n:=x.num.natAbs) (by omega)),(sRRootA (decide (x.num<0)) (decide_eq_false (by omega)) hm hd hR1 hR2).e,(sRRootA false rfl hm' hd' hS1 hS2).e]
noncomputable def sR3SqrtY (ha:decide (x.num.natAbs-R*R=0)=true) (hb:decide (x.den-S*S=0)=true):Spec Tryz.prog :=
 Spec.auto Tryz.call181 [.one (.a (fC x))] [] (.tup [.a [.b (.v (.bool false)),.b (.v (.string (mag R))),.b (.v (.bool false)),.b (.v (.string (mag S)))],.c (.b (.v (.bool true)))]) []
  (sq3E h0 hm hd hm' hd' hR1 hR2 hS1 hS2++[(sRSgn _ ha).e,(sRSgn _ hb).e]) [] 800 Tryz.func181 hmA (by kernel_rfl) (fun β=>by kernel_rfl)
end
theorem sq_pow (q:Rat):q*q=q^2:=by
 rw [Rat.pow_succ,Rat.pow_succ,Rat.pow_zero,Rat.one_mul]
theorem sq_num (q:Rat):(q*q).num=q.num*q.num∧(q*q).den=q.den*q.den:=by
 rw [sq_pow]
 refine ⟨?_,?_⟩
 · rw [Rat.num_pow,Int.pow_succ,Int.pow_succ,Int.pow_zero,Int.one_mul]
 · rw [Rat.den_pow,Nat.pow_succ,Nat.pow_succ,Nat.pow_zero,Nat.one_mul]
theorem nat_sq {a m:Nat} (h1:a*a≤m*m) (h2:m*m<(a+1)*(a+1)):a=m:=by
 rcases Nat.lt_trichotomy a m with h | h | h
 · have:=Nat.mul_le_mul (Nat.succ_le_of_lt h) (Nat.succ_le_of_lt h)
   simp only [Nat.succ_eq_add_one] at this
   omega
 · exact h
 · have:=Nat.mul_lt_mul'' h h
   omega
theorem root_of_sq {x q:Rat} (hq:q*q=x) (h0:0≤q) {a b:Nat} (a1:a*a≤x.num.natAbs) (a2:x.num.natAbs<(a+1)*(a+1)) (b1:b*b≤x.den) (b2:x.den<(b+1)*(b+1)):(a:Int)=q.num∧b=q.den:=by
 obtain ⟨h1,h2⟩:=sq_num q
 rw [hq] at h1 h2
 have hn:0≤q.num:=Rat.num_nonneg.2 h0
 have h3:x.num.natAbs=q.num.natAbs*q.num.natAbs:=by rw [h1,Int.natAbs_mul]
 rw [h3] at a1 a2
 rw [h2] at b1 b2
 have e1:=nat_sq a1 a2
 have e2:=nat_sq b1 b2
 exact ⟨by omega,e2⟩
structure OwnSp (P:Program) where
 f:FuncId
 en:qY8 P f
 args:List SV
 row:Ob
 res:SV
 ok:∀ β w,Calls P f (args.map (SV.den β)).toArray w fun e w'=>∃ g:Pl,w.heap.size≤g.b∧e=.returned (res.den (fun _=>g))∧row.holds (fun _=>g) w' g∧Below w.heap.size w w'
 cl:(row.of (fun _=>false)&&(args.all (SV.of fun _=>false)&&res.of fun k=>Nat.beq k 0))=true
def OwnSp.e {P:Program} (S:OwnSp P):Ev P:=.dyn (fun o _ _=>qY3 o) fun _ xs ob=>lit ob.length fun n =>
 .own S.f S.en (fun β=>(S.args.map (SV.den β)).toArray) [] n S.row (S.res.ren fun _=>n) [] (fun β w _=>by
  have hc:=S.cl
  simp only [Bool.and_eq_true] at hc
  obtain ⟨c2,c3,c4⟩:=hc
  refine (S.ok β w).mono ?_
  rintro e w' ⟨g,k1,rfl,k3,k4⟩
  have hg:extE β n [g] n=g:=qX7 (i:=0) (xs:=[g]) rfl
  refine ⟨g,[],⟨k1,(fun _ h=>by cases h),(fun _ h=>by cases h)⟩,?_,Ob.holds_congr (q:=fun _=>false) (fun k hk=>by cases hk) _ c2 k3,trivial,k4⟩
  rw [SV.den_ren]
  congr 1
  exact SV.den_congr (q:=fun k=>Nat.beq k 0) (fun k _=>hg.symm) _ c4)
abbrev KP:Nat:=100000
section
variable {x:Rat} (h0:0≤x.num) (hx:Sz KP x)
include hx in
theorem rq_sz:(mag x.num.natAbs).size≤4294967296∧dgL x.num.natAbs≤4294967290∧(mag x.den).size≤4294967296∧dgL x.den≤4294967290:=by
 have h1:(mag x.num.natAbs).size≤KP:=hx.1
 have h2:(mag x.den).size≤KP:=hx.2
 have d1:(dig x.num.natAbs).length≤(KP+3)/4:=zW2 h1
 have d2:(dig x.den).length≤(KP+3)/4:=zW2 h2
 exact ⟨Nat.le_trans h1 (by decide),Nat.le_trans d1 (by decide),Nat.le_trans h2 (by decide),Nat.le_trans d2 (by decide)⟩
include h0 hx in
theorem rqY_ok {q:Rat} (hq:q*q=x) (q0:0≤q) (β:Env) (w:World) (hh:∀ (k:Nat) (t:Thing),([]:List Thing)[k]?=some t→t.D w (β k)) :
  Calls Tryz.prog 181 (([fcS x]:List SV).map (SV.den β)).toArray w fun e w'=>∃ xs:List Pl,qK2 β w 0 xs∧e=.returned ((SV.tup [.a (fC q),.c (.b (.v (.bool true)))]).den (extE β 0 xs))∧qZ0 w' [] xs∧Below w.heap.size w w':=by
 have z:=rq_sz hx
 obtain ⟨e1,e2⟩:=root_of_sq hq q0 (Nat.sqrt_le _) (Nat.lt_succ_sqrt _) (Nat.sqrt_le _) (Nat.lt_succ_sqrt _)
 obtain ⟨n1,n2⟩:=sq_num q
 rw [hq] at n1 n2
 have hn:0≤q.num:=Rat.num_nonneg.2 q0
 have e3:fC q=[.b (.v (.bool false)),.b (.v (.string (mag x.num.natAbs.sqrt))),.b (.v (.bool false)),.b (.v (.string (mag x.den.sqrt)))]:=by
  unfold fC
  rw [decide_eq_false (by omega:¬ q.num<0),e2,show q.num.natAbs=x.num.natAbs.sqrt by omega]
 rw [e3]
 refine (sR3SqrtY h0 z.1 z.2.1 z.2.2.1 z.2.2.2 (Nat.sqrt_le _) (Nat.lt_succ_sqrt _) (Nat.sqrt_le _) (Nat.lt_succ_sqrt _) (decide_eq_true ?_) (decide_eq_true ?_)).ok β w hh
 · have:x.num.natAbs=x.num.natAbs.sqrt*x.num.natAbs.sqrt:=by
    have h5:x.num.natAbs.sqrt=q.num.natAbs:=by omega
    rw [h5,← Int.natAbs_mul,← n1]
   omega
 · rw [e2,n2]; omega
noncomputable def sRqY {q:Rat} (hq:q*q=x) (q0:0≤q):Spec Tryz.prog:=⟨181,Tryz.call181,[fcS x],[],.tup [.a (fC q),.c (.b (.v (.bool true)))],[],rqY_ok h0 hx hq q0,by kernel_rfl⟩
end
section
variable {u:GQ} (hu:GSz 1000 u)
theorem su_n (u:GQ):qW1 u*qW1 u=qW1 (sqZ u):=(gnorm_mul u u).symm
theorem su_p (u:GQ):0≤qW1 u:=Rat.num_nonneg.1 (gnorm_nn u)
theorem su_a (x:Rat):0≤absQ x:=Rat.num_nonneg.1 (absQ_nn x)
include hu
theorem su_z:GSz 4001 (sqZ u):=hu.mul hu
theorem su_nz:Sz KP (qW1 (sqZ u)):=(su_z hu).norm.mono (by decide)
theorem su_m:Sz KP ((qW1 u+(sqZ u).re)*half12):=((hu.norm.add (su_z hu).1).mul sz_half).mono (by decide)
noncomputable def suE {t:Bool} (ht:decide (sqA u=0)=!t):List (Ev Tryz.prog) :=
 [(sR4Norm ((su_z hu).mono (by decide))).e,(sRqY (gnorm_nn (sqZ u)) (su_nz hu) (su_n u) (su_p u)).e,(sR3Small 1 2 (by decide) (by decide) (by decide) (Nat.le_trans (zX5 (by decide)) (by decide)) (Nat.le_trans (zX5 (by decide)) (by decide))).e,
  (sR3Plus (hu.norm.mono (by decide)) ((su_z hu).1.mono (by decide))).e,(zQ5 ((hu.norm.add (su_z hu).1).mono (by decide)) (sz_half.mono (by decide))).e,
  (sRqY (x:=(qW1 u+(sqZ u).re)*half12) (by rw [sq_mid,absQ_sq]; exact Rat.num_nonneg.2 (by rw [← absQ_sq]; exact Rat.mul_nonneg (su_a _) (su_a _))) (su_m hu) (sq_mid u).symm (su_a u.re)).e,(sR3Sign (x:=sqA u) rfl).e,.eqv 36 (.bool (!((sqA u).num.sign==0))) (.bool t) (sign_neG ht)]
noncomputable def sSuA (h:sqA u≠0):Spec Tryz.prog :=
 Spec.auto Tryz.call52 [gS (sqZ u)] [] (.tup [.a (gC ⟨sqA u,(sqZ u).im*half12/sqA u⟩),.c (.b (.v (.bool true)))]) [] (suE hu (t:=true) (decide_eq_false h)++[(zQ5 ((su_z hu).2.mono (by decide)) (sz_half.mono (by decide))).e,(sR3Over (((su_z hu).2.mul sz_half).mono (by decide)) ((absQ_sz hu.1).mono (by decide)) h).e]) [(6,6011012),(10,8)] 800 Tryz.func52 hmA (by kernel_rfl) (fun β=>by kernel_rfl)
noncomputable def sSuB (h:sqA u=0):Spec Tryz.prog :=
 Spec.auto Tryz.call52 [gS (sqZ u)] [] (.tup [.a (gC ⟨sqA u,sqB u⟩),.c (.b (.v (.bool true)))]) [] (suE hu (t:=false) (decide_eq_true h)++[(sRqY (gnorm_nn u) (hu.norm.mono (by decide)) (sq_b h).symm (su_a u.im)).e]) [(6,6011012),(10,8)] 800 Tryz.func52 hmA (by kernel_rfl) (fun β=>by kernel_rfl)
end
theorem su_wA {u:GQ} (h:sqA u≠0):(⟨sqA u,(sqZ u).im*half12/sqA u⟩:GQ)=sqW u:=by
 rw [show sqW u=gadd ⟨sqA u,0⟩ (gmul (sqQ u) i01) from if_neg h,i01_parts]
 refine GQ.ext2 ?_ ?_<;>(simp only [gadd,gmul,sqQ]; grind)
theorem su_wB {u:GQ} (h:sqA u=0):(⟨sqA u,sqB u⟩:GQ)=sqW u:=by
 rw [show sqW u=gmul ⟨sqB u,0⟩ i01 from if_pos h,i01_parts,h]
 refine GQ.ext2 ?_ ?_<;>(simp only [gmul]; grind)
noncomputable def sSu {u:GQ} (hu:GSz 1000 u):Spec Tryz.prog :=
 ⟨52,Tryz.call52,[gS (sqZ u)],[],.tup [.a (gC (sqW u)),.c (.b (.v (.bool true)))],[],fun β w hh=>by
  by_cases h:sqA u=0
  · rw [← su_wB h]
    exact (sSuB hu h).ok β w hh
  · rw [← su_wA h]
    exact (sSuA hu h).ok β w hh,by kernel_rfl⟩
theorem su_sq (u:GQ):gmul (sqW u) (sqW u)=sqZ u:=by
 rcases sqW_or u with e | e<;>rw [e]
 refine GQ.ext2 ?_ ?_<;>(simp only [sqZ,gmul,gneg]; grind)
theorem su_wsz {u:GQ} (hu:GSz 1000 u):GSz 1000 (sqW u):=by
 rcases sqW_or u with e | e<;>rw [e]
 · exact hu
 · exact hu.neg
end Go.Proofs.YtbepimnlleilfaaGreat.Y
end
section
namespace Go.Proofs.YtbepimnlleilfaaGreat
open Go.Proofs.YtbepimnlleilfaaGreat.Y
def IZ (k n:Nat) (z:GQ):Prop:=∃ u v w:Int,w≠0∧u.natAbs<256^k∧v.natAbs<256^k∧w.natAbs<256^n∧z.re*w=u∧z.im*w=v
theorem g1re:(1:GQ).re=1:=by rw [← g1_def]; simp [gint,Rat.divInt_eq_div]<;>grind
theorem g1im:(1:GQ).im=0:=by rw [← g1_def]; simp [gint,Rat.divInt_eq_div]<;>grind
theorem IZ.one:IZ 1 1 (1:GQ):=⟨1,0,1,by decide,by decide,by decide,by decide,by simpa using g1re,by simpa using g1im⟩
end Go.Proofs.YtbepimnlleilfaaGreat
end
section
namespace Go.Proofs.YtbepimnlleilfaaGreat.Y
open Go Go.RowKit
set_option maxRecDepth 100000
theorem geq_z {z w:GQ}:geq (fR z.re) (fR z.im) (fR w.re) (fR w.im)=true↔z=w:=by
 unfold geq
 rw [Bool.and_eq_true,Bool.and_eq_true,R4.eq_iff,R4.eq_iff]
 constructor
 · rintro ⟨h1,h2,_⟩
   exact GQ.ext2 (fR_inj h1) (fR_inj h2)
 · intro e
   rw [e]
   exact ⟨rfl,rfl,rfl⟩
theorem mm_iff {m n:MQ} {r:Bool} (h:r=true↔m=n):(geq (fR m.a.re) (fR m.a.im) (fR n.a.re) (fR n.a.im)&&(geq (fR m.b.re) (fR m.b.im) (fR n.b.re) (fR n.b.im)&&(geq (fR m.c.re) (fR m.c.im) (fR n.c.re) (fR n.c.im)&&(geq (fR m.d.re) (fR m.d.im) (fR n.d.re) (fR n.d.im)&&((m.t==n.t)&&true)))))=r:=by
 rw [Bool.eq_iff_iff,h,Bool.and_eq_true,Bool.and_eq_true,Bool.and_eq_true,Bool.and_eq_true,Bool.and_eq_true,geq_z,geq_z,geq_z,geq_z,beq_iff_eq]
 constructor
 · rintro ⟨h1,h2,h3,h4,h5,_⟩
   exact MQ.ext2 h1 h2 h3 h4 h5
 · intro e
   rw [e]
   exact ⟨rfl,rfl,rfl,rfl,rfl,rfl⟩
def eqMM (m n:MQ) {r:Bool} (h:r=true↔m=n):Ev Tryz.prog :=
 eqEv 48 (Go.Proofs.YtbepimnlleilfaaGreat.mV (fR m.a.re) (fR m.a.im) (fR m.b.re) (fR m.b.im) (fR m.c.re) (fR m.c.im) (fR m.d.re) (fR m.d.im) m.t) (Go.Proofs.YtbepimnlleilfaaGreat.mV (fR n.a.re) (fR n.a.im) (fR n.b.re) (fR n.b.im) (fR n.c.re) (fR n.c.im) (fR n.d.re) (fR n.d.im) n.t) r (by kernel_rfl) (fun w=>by
  have k:=eqM (w:=w) 9995 (fR m.a.re) (fR m.a.im) (fR m.b.re) (fR m.b.im) (fR m.c.re) (fR m.c.im) (fR m.d.re) (fR m.d.im) m.t (fR n.a.re) (fR n.a.im) (fR n.b.re) (fR n.b.im) (fR n.c.re) (fR n.c.im) (fR n.d.re) (fR n.d.im) n.t
  rw [mm_iff h] at k
  exact k)
def PpFar (M:List Lf) (r:Bool):Prop:=∀ (β:Env) (w:World),(Ob.box M MOB).holds β w (β 0)→Calls Tryz.prog 25 (([.one (.c (.b (.s 0 0 1 1)))]:List SV).map (SV.den β)).toArray w fun e w'=>e=.returned (.bool r)∧Below w.heap.size w w'
def OrdS (q:MQ) (o:Int):Prop:=∀ (β:Env) (w:World),Calls Tryz.prog 28 (([.one (.a (mCl q))]:List SV).map (SV.den β)).toArray w fun e w'=>∃ xs:List Pl,qK2 β w 0 xs∧e=.returned ((SV.tup [nI' o,nI' 0]).den (extE β 0 xs))∧qZ0 w' [] xs∧Below w.heap.size w w'
def ordS {q:MQ} {o:Int} (h:OrdS q o):Spec Tryz.prog:=⟨28,Tryz.call28,[.one (.a (mCl q))],[],.tup [nI' o,nI' 0],[],fun β w _=>h β w,by kernel_rfl⟩
theorem ord_all {q:MQ} (h:MayQ q):∃ o:Nat,FirstP q o∧OrdS q (o:Int):=by
 obtain ⟨o,h1,S,hf,ha,ho,hr,hn⟩:=ord_ex h
 refine ⟨o,h1,fun β w=>?_⟩
 have:=S.ok β w (fun k t ht=>by rw [ho] at ht; simp at ht)
 rw [hf,ha,ho,hr,hn] at this
 exact this
section
variable {q:MQ} {n:Int} (h:PpFar (mCl q) false) (hq:MayQ q) (hc:∀ (β:Env) (w:World),Calls Tryz.prog 29 (([.one (.a (mCl q))]:List SV).map (SV.den β)).toArray w fun e w'=>∃ xs:List Pl,qK2 β w 0 xs∧e=.returned ((SV.one (nI' 0)).den (extE β 0 xs))∧qZ0 w' [] xs∧Below w.heap.size w w')
 (hs:MSz 120 q) {o:Nat} (ho:OrdS q (o:Int)) (hf:FirstP q o)
end
theorem LgF.sz {x:Rat} (h:LgF (fR x) false) (hf:Fit x):Sz 120 x:=by
 obtain ⟨a,b,ha,hb,e⟩:=h.is
 simp only [Bool.or_eq_false_iff] at e
 have h1:=hf.sz
 exact ⟨T3.few ha e.1 h1.1,by have:=T3.few hb e.2 (by have:=h1.2; rw [sz_nat] at this; exact this); rw [sz_nat]; exact this⟩
end Go.Proofs.YtbepimnlleilfaaGreat.Y
end
section
namespace Go.Proofs.YtbepimnlleilfaaGreat
open Go.Proofs.YtbepimnlleilfaaGreat.Y
abbrev cA (t:Bool) (p:Pt):GQ:=mcj t (byA p)
abbrev cB (t:Bool) (p:Pt):GQ:=mcj t (byB p)
theorem msN_ab (m:MQ) (p:Pt):msN m p=m.a*cA m.t p+m.b*cB m.t p:=by
 cases p with
 | inf =>
  show m.a=m.a*mcj m.t (gint 1 0)+m.b*mcj m.t (gint 0 0)
  rw [g1_def,gi0_def,mcj_one,mcj_zero]; grind
 | fin z =>
  show m.a*mcj m.t z+m.b=m.a*mcj m.t z+m.b*mcj m.t (gint 1 0)
  rw [g1_def,mcj_one]; grind
theorem msD_ab (m:MQ) (p:Pt):msD m p=m.c*cA m.t p+m.d*cB m.t p:=by
 cases p with
 | inf =>
  show m.c=m.c*mcj m.t (gint 1 0)+m.d*mcj m.t (gint 0 0)
  rw [g1_def,gi0_def,mcj_one,mcj_zero]; grind
 | fin z =>
  show m.c*mcj m.t z+m.d=m.c*mcj m.t z+m.d*mcj m.t (gint 1 0)
  rw [g1_def,mcj_one]; grind
theorem cD_ne {t:Bool} {p q:Pt} (h:p≠q):cA t p*cB t q-cB t p*cA t q≠0:=by
 have:cA t p*cB t q-cB t p*cA t q=mcj t (qZ1 p q):=by rw [gdef,mcj_sub,qJ7,qJ7]
 rw [this]
 exact mcj_ne t fun e=>h (across0.1 e)
theorem form0 {α β γ a1 b1 a2 b2 a3 b3:GQ} (h1:α*(a1*a1)+β*(a1*b1)+γ*(b1*b1)=0) (h2:α*(a2*a2)+β*(a2*b2)+γ*(b2*b2)=0) (h3:α*(a3*a3)+β*(a3*b3)+γ*(b3*b3)=0)
  (d12:a1*b2-b1*a2≠0) (d23:a2*b3-b2*a3≠0) (d13:a1*b3-b1*a3≠0):α=0∧β=0∧γ=0:=by
 have hD:(a1*b2-b1*a2)*(a2*b3-b2*a3)*(a1*b3-b1*a3)≠0:=qW0 (qW0 d12 d23) d13
 have k1:(a1*b2-b1*a2)*(a2*b3-b2*a3)*(a1*b3-b1*a3)*α=0:=by
  have:(a1*b2-b1*a2)*(a2*b3-b2*a3)*(a1*b3-b1*a3)*α=(α*(a1*a1)+β*(a1*b1)+γ*(b1*b1))*(a2*b2*(b3*b3)-b2*b2*(a3*b3))-(α*(a2*a2)+β*(a2*b2)+γ*(b2*b2))*(a1*b1*(b3*b3)-b1*b1*(a3*b3))+(α*(a3*a3)+β*(a3*b3)+γ*(b3*b3))*(a1*b1*(b2*b2)-b1*b1*(a2*b2)):=by grind
  rw [this,h1,h2,h3]; grind
 have k2:(a1*b2-b1*a2)*(a2*b3-b2*a3)*(a1*b3-b1*a3)*γ=0:=by
  have:(a1*b2-b1*a2)*(a2*b3-b2*a3)*(a1*b3-b1*a3)*γ=(α*(a1*a1)+β*(a1*b1)+γ*(b1*b1))*(a2*a2*(a3*b3)-a2*b2*(a3*a3))-(α*(a2*a2)+β*(a2*b2)+γ*(b2*b2))*(a1*a1*(a3*b3)-a1*b1*(a3*a3))+(α*(a3*a3)+β*(a3*b3)+γ*(b3*b3))*(a1*a1*(a2*b2)-a1*b1*(a2*a2)):=by grind
  rw [this,h1,h2,h3]; grind
 have k3:(a1*b2-b1*a2)*(a2*b3-b2*a3)*(a1*b3-b1*a3)*β=0:=by
  have:(a1*b2-b1*a2)*(a2*b3-b2*a3)*(a1*b3-b1*a3)*β=(α*(a2*a2)+β*(a2*b2)+γ*(b2*b2))*(a1*a1*(b3*b3)-b1*b1*(a3*a3))-(α*(a1*a1)+β*(a1*b1)+γ*(b1*b1))*(a2*a2*(b3*b3)-b2*b2*(a3*a3))-(α*(a3*a3)+β*(a3*b3)+γ*(b3*b3))*(a1*a1*(b2*b2)-b1*b1*(a2*a2)):=by grind
  rw [this,h1,h2,h3]; grind
 exact ⟨(mul0 k1).resolve_left hD,(mul0 k3).resolve_left hD,(mul0 k2).resolve_left hD⟩
theorem li_of {m n:MQ} (hm:Reg m) (hn:Reg n) (ht:m.t=n.t) {p q r:Pt} (h1:p≠q) (h2:q≠r) (h3:p≠r)
  (ep:msN n p*msD m p-msD n p*msN m p=0) (eq:msN n q*msD m q-msD n q*msN m q=0) (er:msN n r*msD m r-msD n r*msN m r=0):Mli m n:=by
 have hM:mdet m≠0:=fun e=>hm (e.trans g0_def.symm)
 have hN:mdet n≠0:=fun e=>hn (e.trans g0_def.symm)
 have form:∀ p,msN n p*msD m p-msD n p*msN m p=(n.a*m.c-n.c*m.a)*(cA m.t p*cA m.t p)+(n.a*m.d+n.b*m.c-n.c*m.b-n.d*m.a)*(cA m.t p*cB m.t p)+(n.b*m.d-n.d*m.b)*(cB m.t p*cB m.t p):=fun p=>by
  rw [msN_ab,msD_ab,msN_ab,msD_ab,← ht]
  generalize cA m.t p=x
  generalize cB m.t p=y
  grind
 rw [form] at ep eq er
 obtain ⟨k1,k2,k3⟩:=form0 ep eq er (cD_ne h1) (cD_ne h2) (cD_ne h3)
 have e1:mdet m=m.a*m.d-m.b*m.c:=rfl
 have e2:mdet n=n.a*n.d-n.b*n.c:=rfl
 have hl:mdet n*mdet m=(n.d*m.a-n.b*m.c)*(n.d*m.a-n.b*m.c):=by
  rw [e1,e2]
  have k1':n.a*m.c=n.c*m.a:=by grind
  have k3':n.b*m.d=n.d*m.b:=by grind
  have k2':n.a*m.d=n.c*m.b+n.d*m.a-n.b*m.c:=by grind
  have:(n.a*n.d-n.b*n.c)*(m.a*m.d-m.b*m.c)=(n.d*m.a)*(n.a*m.d)-(n.d*m.b)*(n.a*m.c)-(n.b*m.d)*(n.c*m.a)+(n.b*m.c)*(n.c*m.b):=by grind
  rw [this,k1',k2',k3']; grind
 have hl0:n.d*m.a-n.b*m.c≠0:=fun e=>qW0 hN hM (by rw [hl,e]; grind)
 have hz:gdiv (n.d*m.a-n.b*m.c) (mdet n)*mdet n=n.d*m.a-n.b*m.c:=zY6 hN
 have hz0:gdiv (n.d*m.a-n.b*m.c) (mdet n)≠0:=fun e=>hl0 (by rw [← hz,e]; grind)
 refine ⟨_,hz0,?_,?_,?_,?_,ht⟩
 all_goals
  refine mulc hN ?_
  generalize gdiv (n.d*m.a-n.b*m.c) (mdet n)=z at *
 · have:mdet n*(z*n.a)=(z*mdet n)*n.a:=by grind
   rw [this,hz,e2]; grind
 · have:mdet n*(z*n.b)=(z*mdet n)*n.b:=by grind
   rw [this,hz,e2]; grind
 · have:mdet n*(z*n.c)=(z*mdet n)*n.c:=by grind
   rw [this,hz,e2]; grind
 · have:mdet n*(z*n.d)=(z*mdet n)*n.d:=by grind
   rw [this,hz,e2]; grind
theorem sent {t:Bool} {S:MQ} (hS:S.t=false) (F:MQ) (hF:F.t=false) (p:Pt) (P:Pt) (hx:∃ x y k:GQ,k≠0∧msN F p=x∧msD F p=y∧msN S P=k*mcj t x∧msD S P=k*mcj t y) :
  msN (mbeh (qK1 S) (mbeh (mid t) F)) p*byB P-msD (mbeh (qK1 S) (mbeh (mid t) F)) p*byA P=0:=by
 obtain ⟨x,y,k,k0,h1,h2,h3,h4⟩:=hx
 have hu:(qK1 S).t=false:=hS
 have c0:∀ z,mcj false z=z:=fun _=>rfl
 have m1:(mid t).a=1:=g1_def
 have m2:(mid t).b=0:=g0_def
 have m3:(mid t).c=0:=g0_def
 have m4:(mid t).d=1:=g1_def
 have m5:(mid t).t=t:=rfl
 have ht:(mbeh (qK1 S) (mbeh (mid t) F)).t=t:=by
  show (S.t != (t != F.t))=t
  rw [hS,hF]
  cases t<;>rfl
 rw [msN_ab] at h1 h3
 rw [msD_ab] at h2 h4
 rw [hF] at h1 h2
 rw [hS] at h3 h4
 rw [msN_ab,msD_ab,ht]
 simp only [c0,cA,cB] at h1 h2 h3 h4
 have s1:(qK1 S).a=S.d:=rfl
 have s2:(qK1 S).b = -S.b:=rfl
 have s3:(qK1 S).c = -S.c:=rfl
 have s4:(qK1 S).d=S.a:=rfl
 simp only [beh_a,beh_b,beh_c,beh_d,hu,m1,m2,m3,m4,m5,s1,s2,s3,s4,c0,cA,cB]
 have hX:mcj t x=mcj t F.a*mcj t (byA p)+mcj t F.b*mcj t (byB p):=by rw [← h1,zK6,qJ7,qJ7]
 have hY:mcj t y=mcj t F.c*mcj t (byA p)+mcj t F.d*mcj t (byB p):=by rw [← h2,zK6,qJ7,qJ7]
 generalize mcj t (byA p)=u at *
 generalize mcj t (byB p)=v at *
 generalize byA P=U at *
 generalize byB P=V at *
 generalize mcj t F.a=a at *
 generalize mcj t F.b=b at *
 generalize mcj t F.c=c at *
 generalize mcj t F.d=d at *
 generalize mcj t x=X at *
 generalize mcj t y=Y at *
 refine mulc k0 ?_
 have e2:k*(((S.d*(1*a+0*c) + -S.b*(0*a+1*c))*u+(S.d*(1*b+0*d) + -S.b*(0*b+1*d))*v)*V-((-S.c*(1*a+0*c)+S.a*(0*a+1*c))*u+(-S.c*(1*b+0*d)+S.a*(0*b+1*d))*v)*U)=S.d*V*(k*(a*u+b*v))-S.b*V*(k*(c*u+d*v))+S.c*U*(k*(a*u+b*v))-S.a*U*(k*(c*u+d*v)):=by grind
 rw [e2,← hX,← hY,← h3,← h4]
 grind
theorem cht_n (p q r P:Pt):msN (qZ3 p q r) P=qZ1 q r*qZ1 P p∧msD (qZ3 p q r) P=qZ1 q p*qZ1 P r:=by
 have c0:∀ z,mcj false z=z:=fun _=>rfl
 have ht:(qZ3 p q r).t=false:=rfl
 have e1:(qZ3 p q r).a=byB p*qZ1 q r:=rfl
 have e2:(qZ3 p q r).b = -(byA p*qZ1 q r):=rfl
 have e3:(qZ3 p q r).c=byB r*qZ1 q p:=rfl
 have e4:(qZ3 p q r).d = -(byA r*qZ1 q p):=rfl
 rw [msN_ab,msD_ab,ht,e1,e2,e3,e4,gdef P p,gdef P r]
 simp only [c0]
 generalize qZ1 q r=X
 generalize qZ1 q p=Y
 exact ⟨by grind,by grind⟩
theorem jQ0 {p q:Pt} (h:p≠q):qZ1 p q≠0:=fun e=>h (across0.1 e)
theorem acr_self (p:Pt):qZ1 p p=0:=across0.2 rfl
theorem quo_ex {x y:GQ} (hx:x≠0) (hy:y≠0):∃ k,k≠0∧y=k*x:=by
 have h:=zY6 (z:=y) hx
 exact ⟨gdiv y x,fun e=>hy (by rw [← h,e]; grind),h.symm⟩
theorem mli_undo {m n:MQ}:Mli m n→Mli (qK1 m) (qK1 n):=fun ⟨z,h,h1,h2,h3,h4,h5⟩=>⟨z,h,h4,by
 show -m.b=z * -n.b
 rw [h2]; grind,by
 show -m.c=z * -n.c
 rw [h3]; grind,h1,h5⟩
theorem mof_is {m:MQ} (hm:Reg m) (hN:Nrm m) {p q r:Pt} (h1:p≠q) (h2:q≠r) (h3:r≠p):mof p q r (zV7 m p) (zV7 m q) (zV7 m r) m.t=m:=by
 have g1:zV7 m p≠zV7 m q:=fun e=>h1 (send_inj hm e)
 have g2:zV7 m q≠zV7 m r:=fun e=>h2 (send_inj hm e)
 have g3:zV7 m r≠zV7 m p:=fun e=>h3 (send_inj hm e)
 have six:Six p q r (zV7 m p) (zV7 m q) (zV7 m r):=⟨h1,h2,h3,g1,g2,g3⟩
 obtain ⟨a,a0,a1,a2⟩:=zV2 hm p
 obtain ⟨b,b0,b1,b2⟩:=zV2 hm q
 obtain ⟨c,c0,c1,c2⟩:=zV2 hm r
 generalize zV7 m p=s at *
 generalize zV7 m q=u at *
 generalize zV7 m r=v at *
 have hF:Reg (qZ3 p q r):=six.r1
 have hS:Reg (qZ3 s u v):=six.r2
 have hU:Reg (qK1 (qZ3 s u v)):=hS.undo0
 have hX:Reg (mbeh (qK1 (qZ3 s u v)) (mbeh (mid m.t) (qZ3 p q r))):=hU.beh ((Reg.id m.t).beh hF)
 have hl:Mli (mof p q r s u v m.t) (mbeh (qK1 (qZ3 s u v)) (mbeh (mid m.t) (qZ3 p q r))):=by
  have k1:Mli (mcha s u v) (qZ3 s u v):=(Mli.norm hS).sy
  have k2:Mli (mcha p q r) (qZ3 p q r):=(Mli.norm hF).sy
  have k3:Mli (minv (mcha s u v)) (qK1 (qZ3 s u v)):=by
   have e:minv0 (mcha s u v)=qK1 (mcha s u v):=by
    unfold minv0 zK5
    rfl
   have r1:Reg (minv0 (mcha s u v)):=six.r4
   refine (Mli.norm r1).sy.tr ?_
   rw [e]
   exact mli_undo k1
  have k4:Mli (mcmp (mid m.t) (mcha p q r)) (mbeh (mid m.t) (qZ3 p q r)):=(Mli.norm (six.r3 m.t)).sy.tr ((Mli.rf _).beh k2)
  exact (Mli.norm (six.r5 m.t)).sy.tr (k3.beh k4)
 have fin:∀ {P Q:Pt} {k:GQ},msN m P=k*byA Q→msD m P=k*byB Q→msN (mbeh (qK1 (qZ3 s u v)) (mbeh (mid m.t) (qZ3 p q r))) P*byB Q-msD (mbeh (qK1 (qZ3 s u v)) (mbeh (mid m.t) (qZ3 p q r))) P*byA Q=0 →
   msN (mbeh (qK1 (qZ3 s u v)) (mbeh (mid m.t) (qZ3 p q r))) P*msD m P-msD (mbeh (qK1 (qZ3 s u v)) (mbeh (mid m.t) (qZ3 p q r))) P*msN m P=0:=fun {P Q k} e1 e2 e3=>by
  rw [e1,e2]
  generalize msN (mbeh (qK1 (qZ3 s u v)) (mbeh (mid m.t) (qZ3 p q r))) P=X at *
  generalize msD (mbeh (qK1 (qZ3 s u v)) (mbeh (mid m.t) (qZ3 p q r))) P=Y at *
  have:X*(k*byB Q)-Y*(k*byA Q)=k*(X*byB Q-Y*byA Q):=by grind
  rw [this,e3]; grind
 have ht:m.t=(mbeh (qK1 (qZ3 s u v)) (mbeh (mid m.t) (qZ3 p q r))).t:=by
  show m.t=(false != (m.t != false))
  cases m.t<;>rfl
 have z0:mcj m.t 0=0:=mcj_zero _
 have lim:Mli m (mbeh (qK1 (qZ3 s u v)) (mbeh (mid m.t) (qZ3 p q r))):=by
  refine li_of hm hX ht h1 h2 (Ne.symm h3) (fin a1 a2 (sent rfl _ rfl p s ?_)) (fin b1 b2 (sent rfl _ rfl q u ?_)) (fin c1 c2 (sent rfl _ rfl r v ?_))
  · obtain ⟨k,k0,hk⟩:=quo_ex (x:=mcj m.t (qZ1 q p*qZ1 p r)) (y:=qZ1 u s*qZ1 s v) (mcj_ne _ (qW0 (jQ0 (Ne.symm h1)) (jQ0 (Ne.symm h3)))) (qW0 (jQ0 (Ne.symm g1)) (jQ0 (Ne.symm g3)))
    refine ⟨_,_,k,k0,rfl,rfl,?_,?_⟩
    · rw [(cht_n _ _ _ _).1,(cht_n _ _ _ _).1,acr_self,acr_self]
      have:qZ1 q r*0=0:=by grind
      rw [this,z0]; grind
    · rw [(cht_n _ _ _ _).2,(cht_n _ _ _ _).2]; exact hk
  · obtain ⟨k,k0,hk⟩:=quo_ex (x:=mcj m.t (qZ1 q r*qZ1 q p)) (y:=qZ1 u v*qZ1 u s) (mcj_ne _ (qW0 (jQ0 h2) (jQ0 (Ne.symm h1)))) (qW0 (jQ0 g2) (jQ0 (Ne.symm g1)))
    refine ⟨_,_,k,k0,rfl,rfl,?_,?_⟩
    · rw [(cht_n _ _ _ _).1,(cht_n _ _ _ _).1]; exact hk
    · rw [(cht_n _ _ _ _).2,(cht_n _ _ _ _).2]
      have e1:qZ1 q p*qZ1 q r=qZ1 q r*qZ1 q p:=by grind
      have e2:qZ1 u s*qZ1 u v=qZ1 u v*qZ1 u s:=by grind
      rw [e1,e2]; exact hk
  · obtain ⟨k,k0,hk⟩:=quo_ex (x:=mcj m.t (qZ1 q r*qZ1 r p)) (y:=qZ1 u v*qZ1 v s) (mcj_ne _ (qW0 (jQ0 h2) (jQ0 h3))) (qW0 (jQ0 g2) (jQ0 g3))
    refine ⟨_,_,k,k0,rfl,rfl,?_,?_⟩
    · rw [(cht_n _ _ _ _).1,(cht_n _ _ _ _).1]; exact hk
    · rw [(cht_n _ _ _ _).2,(cht_n _ _ _ _).2,acr_self,acr_self]
      have e1:qZ1 q p*0=0:=by grind
      rw [e1,z0]; grind
 have e1:mof p q r s u v m.t=mnorm (mof p q r s u v m.t):=(Nrm.id (Nrm.cmp (six.r4.mnorm) (six.r3 m.t).mnorm)).symm
 rw [e1,hl.eq hX,← lim.eq hX,hN.id]
end Go.Proofs.YtbepimnlleilfaaGreat
end
section
namespace Go.Proofs.YtbepimnlleilfaaGreat.Y
open Go Go.RowKit
inductive StopS (P:Program) where
 | ended (f:Cf P)
 | here (c:Code) (ks:List Kf) (f:Cf P)
def StopS.cf {P:Program}:StopS P→Cf P
 | .ended f=>f
 | .here _ _ f=>f
def runS (P:Program) (m0 n:Nat) (Ns:List (Nat × Nat)) (stop:Nat):Nat→Option Code→List Kf→Cf P→Option (StopS P)
 | 0,_,_,_=>none
 | m+1,oc,ks,f=>match oc with
  | none=>match ks with
   | []=>some (.ended f)
   | .sq c::r=>runS P m0 n Ns stop m (some c) r f
   | .bl _::r=>runS P m0 n Ns stop m none r f
   | .lp c::r=>runS P m0 n Ns stop m (some c) (.lp c::r) f
   | .sc::r=>runS P m0 n Ns stop m none r f
  | some c=>match c with
   | .skip=>runS P m0 n Ns stop m none ks f
   | .label _=>runS P m0 n Ns stop m none ks f
   | .region id ops d=>bif Nat.beq id stop then some (.here (.region id ops d) ks f) else match (bif d then drawS1 P m0 n Ns id ops.toList f else seqS P m0 n ops ops.toList f) with
    | some f'=>runS P m0 n Ns stop m none ks f'
    | none=>none
   | .seq a b=>runS P m0 n Ns stop m (some a) (.sq b::ks) f
   | .cond x a b=>match evS idE f.sl x with
    | .bool true=>runS P m0 n Ns stop m (some a) ks { f with cs:=(fun β=>[(.v (evS β f.sl x),.v (.bool true))])::f.cs }
    | .bool false=>runS P m0 n Ns stop m (some b) ks { f with cs:=(fun β=>[(.v (evS β f.sl x),.v (.bool false))])::f.cs }
    | _=>none
   | .block id c=>runS P m0 n Ns stop m (some c) (.bl id::ks) f
   | .loop c=>runS P m0 n Ns stop m (some c) (.lp c::ks) f
   | .scope c=>runS P m0 n Ns stop m (some c) (.sc::ks) f
   | .exit id=>match popTo id ks with
    | some r=>runS P m0 n Ns stop m none r f
    | none=>none
   | .ret=>some (.ended f)
   | _=>none
def StopS.after {P:Program} (Q:Exit→Act→World→Prop) (a:Act) (w:World):StopS P→Prop
 | .ended _=>Q .normal a w∧Q .ret a w
 | .here c ks _=>toShow P Q (some c) ks a w
theorem runS_ok {P:Program} {m0 n:Nat} {Ns:List (Nat × Nat)} {stop:Nat} (hm:P.follows .mixedOrders=true):∀ (m:Nat) (oc:Option Code) (ks:List Kf) (f:Cf P) (s:StopS P),runS P m0 n Ns stop m oc ks f=some s→f.full→(∀ x∈f.cs,x∈s.cf.cs)∧s.cf.full ∧
  (s.cf.good→∀ {B0:Bd} {w0:World} {β:Env} {a:Act} {w:World},Sync P m0 n B0 w0 f β a w→∀ (Q:Exit→Act→World→Prop),(∀ β' a' w',(∀ k,k<B0.k→β' k=β k)→Sync P m0 n B0 w0 s.cf β' a' w'→s.after Q a' w')→toShow P Q oc ks a w):=by
 intro m
 induction m with
 | zero=>intro oc ks f f' h; simp only [runS] at h; cases h
 | succ m ih =>
  intro oc ks f f' h hf
  simp only [runS] at h
  cases oc with
  | none =>
   dsimp only at h
   cases ks with
   | nil =>
    obtain rfl:=Option.some.inj h
    exact ⟨fun _ hx=>hx,hf,fun _ B0 w0 β a w s Q hQ=>(hQ β a w (fun _ _=>rfl) s).1⟩
   | cons x r =>
    cases x with
    | sq c=>obtain ⟨i1,i2,i3⟩:=ih _ _ _ _ h hf; exact ⟨i1,i2,fun hg B0 w0 β a w s Q hQ=>i3 hg s Q hQ⟩
    | bl j =>
     obtain ⟨i1,i2,i3⟩:=ih _ _ _ _ h hf
     exact ⟨i1,i2,fun hg B0 w0 β a w s Q hQ=>i3 hg s Q hQ⟩
    | lp c=>obtain ⟨i1,i2,i3⟩:=ih _ _ _ _ h hf; exact ⟨i1,i2,fun hg B0 w0 β a w s Q hQ=>qW5 (i3 hg s Q hQ)⟩
    | sc=>obtain ⟨i1,i2,i3⟩:=ih _ _ _ _ h hf; exact ⟨i1,i2,fun hg B0 w0 β a w s Q hQ=>i3 hg s Q hQ⟩
  | some c =>
   cases c with
   | skip=>obtain ⟨i1,i2,i3⟩:=ih _ _ _ _ h hf; exact ⟨i1,i2,fun hg B0 w0 β a w s Q hQ=>wp_skip (i3 hg s Q hQ)⟩
   | label l=>obtain ⟨i1,i2,i3⟩:=ih _ _ _ _ h hf; exact ⟨i1,i2,fun hg B0 w0 β a w s Q hQ=>wp_label (i3 hg s Q hQ)⟩
   | region rid ops d =>
    dsimp only at h
    rw [cond_eq_ite] at h
    split at h
    · obtain rfl:=Option.some.inj h
      exact ⟨fun _ hx=>hx,hf,fun _ B0 w0 β a w s Q hQ=>hQ β a w (fun _ _=>rfl) s⟩
    · split at h
      · rename_i f1 h1
        cases d with
        | true =>
         simp only [cond_true] at h1
         have hf1:=zH1 h1 hf
         obtain ⟨i1,i2,i3⟩:=ih _ _ _ _ h hf1
         obtain ⟨j1,j2⟩:=drawS1_ok hm h1 (fun k hk=>(hf.1 k).1 hk) hf.2
         refine ⟨fun x hx=>i1 x (j1 x hx),i2,fun hg B0 w0 β a w s Q hQ=>?_⟩
         have:=j2 (fun β x hx=>hg β x (i1 x hx)) s (post P Q ks) fun β' a' w' e s'=>i3 hg s' Q fun β2 a2 w2 e2 s2=>hQ β2 a2 w2 (fun k hk=>(e2 k hk).trans (e k hk)) s2
         unfold RegAny at this
         simp only [Array.toArray_toList] at this
         exact wp_region_any hm this
        | false =>
         simp only [cond_false] at h1
         have hf1:=zJ8 h1 hf
         obtain ⟨i1,i2,i3⟩:=ih _ _ _ _ h hf1
         obtain ⟨j1,j2⟩:=seqS_ok h1
         exact ⟨fun x hx=>i1 x (j1 x hx),i2,fun hg B0 w0 β a w s Q hQ=>wp_region_list (j2 (fun β x hx=>hg β x (i1 x hx)) s (post P Q ks) fun β' a' w' e s'=>i3 hg s' Q fun β2 a2 w2 e2 s2=>hQ β2 a2 w2 (fun k hk=>(e2 k hk).trans (e k hk)) s2)⟩
      · cases h
   | seq c d=>obtain ⟨i1,i2,i3⟩:=ih _ _ _ _ h hf; exact ⟨i1,i2,fun hg B0 w0 β a w s Q hQ=>wp_seq (i3 hg s Q hQ)⟩
   | cond x c d =>
    dsimp only at h
    split at h
    · obtain ⟨i1,i2,i3⟩:=ih _ _ _ _ h hf
      refine ⟨fun y hy=>i1 y (List.mem_cons_of_mem _ hy),i2,fun hg B0 w0 β a w s Q hQ=>?_⟩
      obtain ⟨e,_⟩:=Eqs.cons_ok (hg β _ (i1 _ (List.mem_cons_self ..)))
      injection e with e
      exact wp_cond_true (by rw [s.sl.eval]; exact e) (i3 hg (s.cs _) Q hQ)
    · obtain ⟨i1,i2,i3⟩:=ih _ _ _ _ h hf
      refine ⟨fun y hy=>i1 y (List.mem_cons_of_mem _ hy),i2,fun hg B0 w0 β a w s Q hQ=>?_⟩
      obtain ⟨e,_⟩:=Eqs.cons_ok (hg β _ (i1 _ (List.mem_cons_self ..)))
      injection e with e
      exact wp_cond_false (by rw [s.sl.eval]; exact e) (i3 hg (s.cs _) Q hQ)
    · cases h
   | block j c=>obtain ⟨i1,i2,i3⟩:=ih _ _ _ _ h hf; exact ⟨i1,i2,fun hg B0 w0 β a w s Q hQ=>wp_block (i3 hg s Q hQ)⟩
   | loop c=>obtain ⟨i1,i2,i3⟩:=ih _ _ _ _ h hf; exact ⟨i1,i2,fun hg B0 w0 β a w s Q hQ=>zY0 (qW5 (i3 hg s Q hQ))⟩
   | rangeFunc _ _ _ _=>cases h
   | exit j =>
    dsimp only at h
    split at h
    · rename_i r hr
      obtain ⟨i1,i2,i3⟩:=ih _ _ _ _ h hf
      exact ⟨i1,i2,fun hg B0 w0 β a w s Q hQ=>wp_exit (zJ9 hr (i3 hg s Q hQ))⟩
    · cases h
   | scope c=>obtain ⟨i1,i2,i3⟩:=ih _ _ _ _ h hf; exact ⟨i1,i2,fun hg B0 w0 β a w s Q hQ=>wp_scope_straight (i3 hg s Q hQ)⟩
   | goto _=>cases h
   | ret =>
    obtain rfl:=Option.some.inj h
    exact ⟨fun _ hx=>hx,hf,fun _ B0 w0 β a w s Q hQ=>wp_ret (zY1 (hQ β a w (fun _ _=>rfl) s).2 ks)⟩
   | refuse _=>cases h
def regsOf:Nat→Code→List Kf→List (Nat × Code × List Kf)
 | 0,_,_=>[]
 | m+1,c,ks=>match c with
  | .seq a b=>regsOf m a (.sq b::ks)++regsOf m b ks
  | .cond _ a b=>regsOf m a ks++regsOf m b ks
  | .block id c=>regsOf m c (.bl id::ks)
  | .loop c=>regsOf m c (.lp c::ks)
  | .scope c=>regsOf m c (.sc::ks)
  | .region id ops d=>[(id,.region id ops d,ks)]
  | _=>[]
def regAt (fn:Func) (i:Nat):Code × List Kf:=match fn.body with
 | some c=>match (regsOf 400 c []).find? (fun p=>Nat.beq p.1 i) with
  | some p=>p.2
  | none=>(.skip,[])
 | none=>(.skip,[])
def StopS.pos {P:Program}:StopS P→Option (Code × List Kf)
 | .ended _=>none
 | .here c ks _=>some (c,ks)
def pieceSE (P:Program) (m0 n:Nat) (s:Option (StopS P)) (u:Nat) (sl:List (Nat × SV)) (ob:List Ob) (σ:List Nat) (β:Env):Eqs :=
 match s with
 | some (.here c ks f)=>pieceE P m0 n (some (.head c ks f)) u sl ob σ β
 | _=>Eqs.no
def lastSE (P:Program) (fn:Func) (m0 n:Nat) (res:SV) (outs:List (Nat × Ob)) (s:Option (StopS P)) (β:Env):Eqs :=
 match s with
 | some (.ended f)=>fin1 P fn m0 n res outs f β
 | _=>Eqs.no
def AtOk (P:Program) (m0 n:Nat) (N:Nat) (w0:World) (β0:Env) (Q:Exit→Act→World→Prop) (C:Cf P) (p:Code × List Kf):Prop :=
 ∀ (β:Env) (a:Act) (w:World),(∀ k,k<m0→β k=β0 k)→Sync P m0 n (bd0 N m0) w0 C β a w→toShow P Q (some p.1) p.2 a w
theorem at_ev {m0 N B0:Nat} {P:Program} {w0:World} {β0:Env} {Q:Exit→Act→World→Prop} {u:Nat} {sl:List (Nat × SV)} {ob:List Ob} {ev ev':List (Ev P)} {p:Code × List Kf} (h:AtOk P m0 N B0 w0 β0 Q (mkC P N u sl ob ev) p):AtOk P m0 N B0 w0 β0 Q (mkC P N u sl ob ev') p :=
 fun β a w hβ hs=>h β a w hβ (hs.ev ev)
theorem piece_at {P:Program} {m0 n:Nat} {N:Nat} {w0:World} {β0:Env} {Q:Exit→Act→World→Prop} {Ns:List (Nat × Nat)} {m:Nat} {C:Cf P} {p p':Code × List Kf} {u:Nat} {sl:List (Nat × SV)} {ob:List Ob} (stop:Nat) (ev:List (Ev P)) (σ:List Nat) (hm:P.follows .mixedOrders=true)
  (hp:(runS P m0 n Ns stop m (some p.1) p.2 C).bind StopS.pos=some p') (he:∀ β,Eqs.ok (pieceSE P m0 n (runS P m0 n Ns stop m (some p.1) p.2 C) u sl ob σ β))
  (hH:AtOk P m0 n N w0 β0 Q (mkC P n u sl ob ev) p'):AtOk P m0 n N w0 β0 Q C p:=by
 intro β a w hβ hs
 cases hr:runS P m0 n Ns stop m (some p.1) p.2 C with
 | none=>rw [hr] at hp; cases hp
 | some s =>
  rw [hr] at hp he
  cases s with
  | ended f=>cases hp
  | here c ks f =>
   obtain rfl:(c,ks)=p':=Option.some.inj hp
   obtain ⟨hg,hw⟩:=zZ0 (c:=c) (ks:=ks) ev he
   obtain ⟨_,_,r3⟩:=runS_ok hm _ _ _ _ _ hr ⟨hs.q,hs.uq⟩
   refine r3 hg hs Q fun β' a' w' e s'=>?_
   obtain ⟨β'',e2,s2⟩:=hw s'
   exact hH β'' a' w' (fun k hk=>(e2 k hk).trans ((e k hk).trans (hβ k hk))) s2
theorem zY3 {P:Program} {fn:Func} {m0 n:Nat} {w:World} {β0:Env} {res:SV} {outs:List (Nat × Ob)} {Ns:List (Nat × Nat)} {m:Nat} {C:Cf P} {p:Code × List Kf} (stop:Nat) (hm:P.follows .mixedOrders=true)
  (he:∀ β,Eqs.ok (lastSE P fn m0 n res outs (runS P m0 n Ns stop m (some p.1) p.2 C) β)):AtOk P m0 n w.heap.size w β0 (bodyPost P fn (Said P fn m0 res outs β0 w)) C p:=by
 intro β a w1 hβ hs
 cases hr:runS P m0 n Ns stop m (some p.1) p.2 C with
 | none=>have:=he idE; rw [hr] at this; exact (Eqs.no_ok this).elim
 | some s =>
  rw [hr] at he
  cases s with
  | here c ks f=>exact (Eqs.no_ok (he idE)).elim
  | ended f =>
   obtain ⟨hg,hw⟩:=fin1_parts he
   obtain ⟨_,_,r3⟩:=runS_ok hm _ _ _ _ _ hr ⟨hs.q,hs.uq⟩
   exact r3 hg hs _ fun β' a' w' e s'=>hw (fun k hk=>(e k hk).trans (hβ k hk)) s'
def startR (P:Program) (fn:Func) (args:List SV) (obs:List Ob) (evs:List (Ev P)) (Ns:List (Nat × Nat)) (stop m:Nat):Option (StopS P):=match fn.body with
 | some c=>runS P obs.length (qV4 fn args) Ns stop m (some c) [] ⟨zJ7 args 0,fun k=>Nat.blt k obs.length,obs,evs,[]⟩
 | none=>none
theorem sx_at {P:Program} {f:FuncId} {fn:Func} (args:List SV) (obs:List Ob) (evs ev:List (Ev P)) (Ns:List (Nat × Nat)) (stop m:Nat) (res:SV) (outs:List (Nat × Ob)) (hf:P.funcs[f]?=some fn) (hm:P.follows .mixedOrders=true) {u:Nat} {sl:List (Nat × SV)} {ob:List Ob} {σ:List Nat} {p':Code × List Kf}
  (hp:(startR P fn args obs evs Ns stop m).bind StopS.pos=some p') (he:∀ β,Eqs.ok (pieceSE P obs.length (qV4 fn args) (startR P fn args obs evs Ns stop m) u sl ob σ β))
  (hargs:args.all (SV.of fun k=>Nat.blt k obs.length)=true) (hobs:obs.all (fun x=>x.of (fun k=>Nat.blt k obs.length)&&x.own)=true) (β:Env) (w:World) (hh:∀ (k:Nat) (o:Ob),obs[k]?=some o→o.holds β w (β k))
  (hH:AtOk P obs.length (qV4 fn args) w.heap.size w β (bodyPost P fn (Said P fn obs.length res outs β w)) (mkC P (qV4 fn args) u sl ob ev) p') :
  Calls P f (args.map (SV.den β)).toArray w (Said P fn obs.length res outs β w):=by
 have hnal:∀ (k r:Nat) (D:Thing),obs[k]?≠some (.al r D):=fun k r D ho=>by
  have:=List.all_eq_true.1 hobs _ (List.mem_of_getElem? ho)
  simp [Ob.own] at this
 have huq:UniqAl obs:=fun k j i D _ h1 _=>absurd h1 (hnal k i D)
 have hlt:∀ k,k<obs.length→∀ c,(β k).F c→c<w.heap.size:=fun k hk c hc=>by
  have h:=hh k _ (List.getElem?_eq_getElem hk)
  cases hx:obs[k] with
  | box cs t=>rw [hx] at h; rw [(h.1.1 c).1 hc]; exact qX6 h.2
  | th D=>rw [hx] at h; exact D.st.lt _ _ h c hc
  | al r D=>rw [hx] at h; exact D.st.lt _ _ h c hc
  | pl n=>rw [hx] at h; rw [(h.1.1 c).1 hc]; exact h.2.lt
  | row cs t n sz=>rw [hx] at h; rw [(h.1.1 c).1 hc]; exact qX6 h.2.choose_spec.1
  | ow D t=>rw [hx] at h; exact D.st.lt _ _ h.2 c hc
  | dead =>
   have:=List.all_eq_true.1 hobs _ (List.mem_of_getElem? (List.getElem?_eq_getElem hk))
   rw [hx] at this
   simp [Ob.own] at this
 cases hb:fn.body with
 | none=>unfold startR at hp; rw [hb] at hp; cases hp
 | some c =>
  have hst:startR P fn args obs evs Ns stop m=runS P obs.length (qV4 fn args) Ns stop m (some c) [] ⟨zJ7 args 0,fun k=>Nat.blt k obs.length,obs,evs,[]⟩:=by unfold startR; rw [hb]
  rw [hst] at hp he
  cases hr:runS P obs.length (qV4 fn args) Ns stop m (some c) [] ⟨zJ7 args 0,fun k=>Nat.blt k obs.length,obs,evs,[]⟩ with
  | none=>rw [hr] at hp; cases hp
  | some s =>
   rw [hr] at hp he
   cases s with
   | ended f=>cases hp
   | here c1 ks1 f1 =>
    obtain rfl:(c1,ks1)=p':=Option.some.inj hp
    obtain ⟨hg,hw⟩:=zZ0 (c:=c1) (ks:=ks1) ev he
    obtain ⟨_,_,r3⟩:=runS_ok hm _ _ _ _ _ hr ⟨fun k=>by dsimp only; rw [Nat.blt_eq],huq⟩
    refine calls_of_wp hf hb (r3 hg (B0:=bd0 w.heap.size obs.length) (w0:=w) (β:=β) ⟨⟨Keep.refl _ _,Nat.le_refl _,fun k o hk ho=>⟨hh k o ho,(Bool.and_eq_true _ _▸List.all_eq_true.1 hobs o (List.mem_of_getElem? ho)).1⟩,fun k hk=>hlt k (by simpa [Nat.blt_eq] using hk),fun k j hk _ _ hm=>?_,fun k _ hk hm=>?_,fun k hk hm=>?_,fun i hi=>by rw [Nat.blt_eq]; exact hi,fun k r D _ ho=>?_,fun k r D _ ho=>absurd ho (hnal k r D),fun k i _ hi _ hm=>by rw [Nat.blt_eq] at hi; omega⟩,fun k=>by dsimp only; rw [Nat.blt_eq],⟨?_,fun t=>?_⟩,fun t=>?_,⟨Nat.le_refl _,Nat.le_refl _⟩,rfl,huq⟩ _ fun β' a' w' e s=>?_)
    · rw [Nat.blt_eq] at hk; omega
    · rw [Nat.blt_eq] at hk; omega
    · rw [Nat.blt_eq] at hk; omega
    · exact absurd ho (hnal k r D)
    · simp [qV4]
    · rw [qV5,if_pos (Nat.zero_le _),Nat.sub_zero]
      simp only [Array.getD_eq_getD_getElem?,Array.getElem?_append,List.size_toArray,List.length_map,List.getElem?_toArray,List.getElem?_map]
      split
      · rename_i hlt2
        rw [List.getElem?_eq_getElem hlt2]
        rfl
      · rename_i hge
        rw [List.getElem?_eq_none (by omega)]
        simp [Array.getElem?_replicate]
        split<;>rfl
    · dsimp only
      rw [qV5,if_pos (Nat.zero_le _),Nat.sub_zero]
      cases hx:args[t]? with
      | none=>rfl
      | some x=>exact List.all_eq_true.1 hargs x (List.mem_of_getElem? hx)
    · obtain ⟨β'',e2,s2⟩:=hw s
      exact hH β'' a' w' (fun k hk=>(e2 k hk).trans (e k hk)) s2
end Go.Proofs.YtbepimnlleilfaaGreat.Y
end
section
namespace Go.Proofs.YtbepimnlleilfaaGreat.Y
open Go Go.RowKit
set_option maxRecDepth 100000
noncomputable abbrev tdF:Func:=Tryz.f8
abbrev tdA (l l':List Lf) (p0 p1 p2:Pp):List SV:=[.one (.a l),.one (.a l'),.one (.a (p3L p0 p1 p2))]
abbrev tdNs:List (Nat × Nat):=[(3,8),(7,7018019),(16,8),(24,6),(26,12)]
section
variable (p0 p1 p2:Pp)
noncomputable def tdFar {m n:Mp} (h:Far2 m.C n.C true):Spec Tryz.prog :=
 Spec.auto Tryz.call8 (tdA m.C n.C p0 p1 p2) [] (tB' true) [] [(far2M h).e,sWorks.e] tdNs 1200 Tryz.func8 hmA (by kernel_rfl) (fun β=>by kernel_rfl)
noncomputable def tdOff {m n:Mp} (h:Far2 m.C n.C false) (ho:Off3 p0.w p1.w p2.w true):Spec Tryz.prog :=
 Spec.auto Tryz.call8 (tdA m.C n.C p0 p1 p2) [] (tB' true) [] [(far2M h).e,(sOff3 P3T8 p0.w p1.w p2.w ho).e,sWorks.e] tdNs 1200 Tryz.func8 hmA (by kernel_rfl) (fun β=>by kernel_rfl)
noncomputable def tdCk1 {m n:Mp} {t:Bool} (h:Far2 m.C n.C false) (ho:Off3 p0.w p1.w p2.w false) (hm:OpenNo m t):Spec Tryz.prog :=
 Spec.auto Tryz.call8 (tdA m.C n.C p0 p1 p2) [] (tB' true) [] [(far2M h).e,(sOff3 P3T8 p0.w p1.w p2.w ho).e,(sMbChkNo hm).e,(zQ2 2).e,sWorks.e] tdNs 1200 Tryz.func8 hmA (by kernel_rfl) (fun β=>by kernel_rfl)
noncomputable def tdCk2 {q:MQ} {n:Mp} {t:Bool} (h:Far2 (mCl q) n.C false) (ho:Off3 p0.w p1.w p2.w false) (hq:MayQ q) (hn:OpenNo n t):Spec Tryz.prog :=
 Spec.auto Tryz.call8 (tdA (mCl q) n.C p0 p1 p2) [] (tB' true) [] [(far2X h).e,(sOff3 P3T8 p0.w p1.w p2.w ho).e,(sMbChk hq).e,(zQ2 0).e,(sMbChkNo hn).e,(zQ2 2).e,sWorks.e] tdNs 1200 Tryz.func8 hmA (by kernel_rfl) (fun β=>by kernel_rfl)
end
section
variable (q n:MQ) (p0 p1 p2:Pp)
noncomputable abbrev tdN:Nat:=qV4 tdF (tdA (mCl q) (mCl n) p0 p1 p2)
abbrev tdSl:List (Nat × SV):=[(3,.one (.c (.b (.p 1 0)))),(4,.one (.c (.b (.p 2 0))))]
abbrev tdO:List Ob:=[.dead,.box (mCl q) MOB,.box (mCl n) MOB]
noncomputable abbrev tdC (ev:List (Ev Tryz.prog)):Cf Tryz.prog:=mkC Tryz.prog (tdN q n p0 p1 p2) 0 tdSl (tdO q n) ev
noncomputable abbrev tdH (w:World) (id:Nat) (c:Cf Tryz.prog):Prop:=AtOk Tryz.prog 0 (tdN q n p0 p1 p2) w.heap.size w idE (bodyPost Tryz.prog tdF (Said Tryz.prog tdF 0 (tB' true) [] idE w)) c (regAt tdF id)
end
section
variable {q n:MQ} {p0 p1 p2:Pp} (hf:Far2 (mCl q) (mCl n) false) (ho:Off3 p0.w p1.w p2.w false) (hq:MayQ q) (hn:MayQ n) (w:World)
noncomputable def tdE0:List (Ev Tryz.prog):=[(far2Q hf).e,(sOff3 P3T8 p0.w p1.w p2.w ho).e,(sMbChk hq).e,(zQ2 0).e,(sMbChk hn).e,(zQ2 0).e]
include hf ho hq hn in
theorem td_stNo {i:Nat} (hi:i<3) (h:(P3 p0 p1 p2 i).B=false) (h2:∀ k,k<i→(P3 p0 p1 p2 k).B=true) (kk:tdH q n p0 p1 p2 w 11 (tdC q n p0 p1 p2 [])) :
  Calls Tryz.prog 8 ((tdA (mCl q) (mCl n) p0 p1 p2).map (SV.den idE)).toArray w (Said Tryz.prog tdF 0 (tB' true) [] idE w) :=
 sx_at (P:=Tryz.prog) (tdA (mCl q) (mCl n) p0 p1 p2) [] (tdE0 hf ho hq hn++[(cIgNo hq p0 p1 p2 hi h h2).e,sOk2.e]) [] tdNs 11 1200 (tB' true) [] Tryz.func8 hmA (u:=0) (sl:=tdSl) (ob:=tdO q n) (σ:=[0,0,1]) (p':=regAt tdF 11) (by kernel_rfl) (fun β=>qQ0 (by kernel_rfl)) (by kernel_rfl) (by kernel_rfl) idE w (fun i o ho=>by simp at ho) kk
include hf ho hq hn in
theorem td_stUnt (h:∀ i,i<3→(P3 p0 p1 p2 i).B=true) {i:Nat} (hi:i<3) (hF:¬ FitP (maR q (P3 p0 p1 p2 i))) (hF2:∀ k,k<i→FitP (maR q (P3 p0 p1 p2 k))) (kk:tdH q n p0 p1 p2 w 11 (tdC q n p0 p1 p2 [])) :
  Calls Tryz.prog 8 ((tdA (mCl q) (mCl n) p0 p1 p2).map (SV.den idE)).toArray w (Said Tryz.prog tdF 0 (tB' true) [] idE w) :=
 sx_at (P:=Tryz.prog) (tdA (mCl q) (mCl n) p0 p1 p2) [] (tdE0 hf ho hq hn++[(cIgUnt hq p0 p1 p2 h hi hF hF2).e,sOk4.e]) [] tdNs 11 1200 (tB' true) [] Tryz.func8 hmA (u:=0) (sl:=tdSl) (ob:=tdO q n) (σ:=[0,0,1]) (p':=regAt tdF 11) (by kernel_rfl) (fun β=>qQ0 (by kernel_rfl)) (by kernel_rfl) (by kernel_rfl) idE w (fun i o ho=>by simp at ho) kk
variable (h:∀ i,i<3→(P3 p0 p1 p2 i).B=true) (hF:∀ i,i<3→FitP (maR q (P3 p0 p1 p2 i)))
noncomputable def tdIx (q:MQ) (p0 p1 p2:Pp) {j:Nat} (hj:j<3):List (Ev Tryz.prog):=[eIx tps_u tps_s (maL q (P3 p0 p1 p2)) hj (Nat.le_refl 3),eLd tptD_u.1 tptD_u.2 9 (L:=maL q (P3 p0 p1 p2)) (by kernel_rfl) (fun β=>rfl) hj]
noncomputable def tdE1:List (Ev Tryz.prog):=tdE0 hf ho hq hn++[(cIgAll hq p0 p1 p2 h hF).e,sOk0.e]++tdIx q p0 p1 p2 (j:=0) (by decide)++tdIx q p0 p1 p2 (j:=1) (by decide)++tdIx q p0 p1 p2 (j:=2) (by decide)
noncomputable abbrev tdTo (q:MQ) (p0 p1 p2:Pp):List Lf:=lsX (maR q p0).w.C++lsX (maR q p1).w.C++lsX (maR q p2).w.C
noncomputable def TdOf (q:MQ) (p0 p1 p2:Pp) (l:List Lf) (k:Int):Prop:=∀ (β:Env) (w:World),Calls Tryz.prog 47 (([.one (.a (p3L p0 p1 p2)),.one (.a (tdTo q p0 p1 p2)),tB' q.t]:List SV).map (SV.den β)).toArray w fun e w'=>∃ xs:List Pl,qK2 β w 0 xs∧e=.returned ((SV.tup [.a l,nI' k]).den (extE β 0 xs))∧qZ0 w' [] xs∧Below w.heap.size w w'
noncomputable def tdOfY (h:TdOf q p0 p1 p2 (mCl q) 0):Spec Tryz.prog:=⟨47,Tryz.call47,[.one (.a (p3L p0 p1 p2)),.one (.a (tdTo q p0 p1 p2)),tB' q.t],[],.tup [.a (mCl q),nI' 0],[],fun β w _=>h β w,by kernel_rfl⟩
noncomputable def tdOfT (h:TdOf q p0 p1 p2 mob0L 181):Spec Tryz.prog:=⟨47,Tryz.call47,[.one (.a (p3L p0 p1 p2)),.one (.a (tdTo q p0 p1 p2)),tB' q.t],[],.tup [.a mob0L,nI' 181],[],fun β w _=>h β w,by kernel_rfl⟩
def tdPw (p r:Pp) (b:Bool):Prop:=rwB p.w.i r.w.i p.w.x p.w.y r.w.x r.w.y=b
def tdEq {p r:Pp} {b:Bool} (h:tdPw p r b):Ev Tryz.prog:=eqEvP p.w.i r.w.i p.w.x p.w.y r.w.x r.w.y b h
include hf ho hq hn h hF in
theorem td_stY (h1:tdPw p0 p1 false) (h2:tdPw p1 p2 false) (h3:tdPw p0 p2 false) (hO:TdOf q p0 p1 p2 (mCl q) 0) (kk:tdH q n p0 p1 p2 w 11 (tdC q n p0 p1 p2 [])) :
  Calls Tryz.prog 8 ((tdA (mCl q) (mCl n) p0 p1 p2).map (SV.den idE)).toArray w (Said Tryz.prog tdF 0 (tB' true) [] idE w) :=
 sx_at (P:=Tryz.prog) (tdA (mCl q) (mCl n) p0 p1 p2) [] (tdE1 hf ho hq hn h hF++[(tdOfY hO).e,tdEq h1,tdEq h2,tdEq h3,(zQ2 0).e,sOk0.e,eqMM q q (r:=true) (iff_of_true rfl rfl)]) [] tdNs 11 1200 (tB' true) [] Tryz.func8 hmA (u:=0) (sl:=tdSl) (ob:=tdO q n) (σ:=[0,0,1]) (p':=regAt tdF 11) (by kernel_rfl) (fun β=>qQ0 (by kernel_rfl)) (by kernel_rfl) (by kernel_rfl) idE w (fun i o ho=>by simp at ho) kk
include hf ho hq hn h hF in
theorem td_stT1 (h1:tdPw p0 p1 true) (hO:TdOf q p0 p1 p2 mob0L 181) (kk:tdH q n p0 p1 p2 w 11 (tdC q n p0 p1 p2 [])) :
  Calls Tryz.prog 8 ((tdA (mCl q) (mCl n) p0 p1 p2).map (SV.den idE)).toArray w (Said Tryz.prog tdF 0 (tB' true) [] idE w) :=
 sx_at (P:=Tryz.prog) (tdA (mCl q) (mCl n) p0 p1 p2) [] (tdE1 hf ho hq hn h hF++[(tdOfT hO).e,tdEq h1,(zQ2 181).e]) [] tdNs 11 1200 (tB' true) [] Tryz.func8 hmA (u:=0) (sl:=tdSl) (ob:=tdO q n) (σ:=[0,0,1]) (p':=regAt tdF 11) (by kernel_rfl) (fun β=>qQ0 (by kernel_rfl)) (by kernel_rfl) (by kernel_rfl) idE w (fun i o ho=>by simp at ho) kk
include hf ho hq hn h hF in
theorem td_stT2 (h1:tdPw p0 p1 false) (h2:tdPw p1 p2 true) (hO:TdOf q p0 p1 p2 mob0L 181) (kk:tdH q n p0 p1 p2 w 11 (tdC q n p0 p1 p2 [])) :
  Calls Tryz.prog 8 ((tdA (mCl q) (mCl n) p0 p1 p2).map (SV.den idE)).toArray w (Said Tryz.prog tdF 0 (tB' true) [] idE w) :=
 sx_at (P:=Tryz.prog) (tdA (mCl q) (mCl n) p0 p1 p2) [] (tdE1 hf ho hq hn h hF++[(tdOfT hO).e,tdEq h1,tdEq h2,(zQ2 181).e]) [] tdNs 11 1200 (tB' true) [] Tryz.func8 hmA (u:=0) (sl:=tdSl) (ob:=tdO q n) (σ:=[0,0,1]) (p':=regAt tdF 11) (by kernel_rfl) (fun β=>qQ0 (by kernel_rfl)) (by kernel_rfl) (by kernel_rfl) idE w (fun i o ho=>by simp at ho) kk
include hf ho hq hn h hF in
theorem td_stT3 (h1:tdPw p0 p1 false) (h2:tdPw p1 p2 false) (h3:tdPw p0 p2 true) (hO:TdOf q p0 p1 p2 mob0L 181) (kk:tdH q n p0 p1 p2 w 11 (tdC q n p0 p1 p2 [])) :
  Calls Tryz.prog 8 ((tdA (mCl q) (mCl n) p0 p1 p2).map (SV.den idE)).toArray w (Said Tryz.prog tdF 0 (tB' true) [] idE w) :=
 sx_at (P:=Tryz.prog) (tdA (mCl q) (mCl n) p0 p1 p2) [] (tdE1 hf ho hq hn h hF++[(tdOfT hO).e,tdEq h1,tdEq h2,tdEq h3,(zQ2 181).e]) [] tdNs 11 1200 (tB' true) [] Tryz.func8 hmA (u:=0) (sl:=tdSl) (ob:=tdO q n) (σ:=[0,0,1]) (p':=regAt tdF 11) (by kernel_rfl) (fun β=>qQ0 (by kernel_rfl)) (by kernel_rfl) (by kernel_rfl) idE w (fun i o ho=>by simp at ho) kk
end
section
variable {q n:MQ} {p0 p1 p2:Pp} (hq:MayQ q) (w:World) {o:Nat} (ho:OrdS q (o:Int)) (kk:tdH q n p0 p1 p2 w 18 (tdC q n p0 p1 p2 []))
noncomputable def tdOr {b:Bool} (hb:decide ((0:Int)<(o:Int))=b):List (Ev Tryz.prog):=[(ordS ho).e,sOk0.e,.eqv 126 (.bool (decide ((0:Int)<(o:Int)))) (.bool b) (by rw [hb])]
include ho kk in
theorem td_or0 (hb:decide ((0:Int)<(o:Int))=false):tdH q n p0 p1 p2 w 11 (tdC q n p0 p1 p2 (tdOr ho hb)) :=
 piece_at (Ns:=tdNs) (m:=1200) 18 [] [0,1,2] hmA (by kernel_rfl) (fun β=>qQ0 (by kernel_rfl)) kk
include ho kk in
theorem td_orY (hb:decide ((0:Int)<(o:Int))=true) (hF:PwFit (pwB q (o:Int)) (o:Int).natAbs) (h256:(o:Int).natAbs≤256) (he:mpw (pwB q (o:Int)) (o:Int).natAbs=mid false):tdH q n p0 p1 p2 w 11 (tdC q n p0 p1 p2 (tdOr ho hb++[(sPwY hq h256 hF).e,sOk0.e,sOne.e,eqMM (mpw (pwB q (o:Int)) (o:Int).natAbs) (mid false) (r:=true) (iff_of_true rfl he)])) :=
 piece_at (Ns:=tdNs) (m:=1200) 18 [] [0,1,2] hmA (by kernel_rfl) (fun β=>qQ0 (by kernel_rfl)) kk
include ho kk in
theorem td_orN (hb:decide ((0:Int)<(o:Int))=true) (h256:(o:Int).natAbs≤256) {i:Nat} (hi:i<(o:Int).natAbs) (hF:PwFit (pwB q (o:Int)) i) (hF2:¬ FitM (mpw (pwB q (o:Int)) (i+1))):tdH q n p0 p1 p2 w 11 (tdC q n p0 p1 p2 (tdOr ho hb++[(sPwN hq h256 hi hF hF2).e,sOk4.e])) :=
 piece_at (Ns:=tdNs) (m:=1200) 18 [] [0,1,2] hmA (by kernel_rfl) (fun β=>qQ0 (by kernel_rfl)) kk
end
end Go.Proofs.YtbepimnlleilfaaGreat.Y
end
section
namespace Go.Proofs.YtbepimnlleilfaaGreat.Y
open Go Go.RowKit
set_option maxRecDepth 100000
theorem rl_app {x y:R4} {l l':List Lf} (h:rL x++l=rL y++l'):x=y∧l=l':=by
 obtain ⟨b,s,c,t⟩:=x
 obtain ⟨b',s',c',t'⟩:=y
 simp only [rL,List.cons_append,List.nil_append,List.cons.injEq,Lf.b.injEq,Lf0.v.injEq,Value.bool.injEq,Value.string.injEq] at h
 obtain ⟨rfl,rfl,rfl,rfl,h⟩:=h
 exact ⟨rfl,h⟩
theorem mg_mCl (q:MQ):mCl q=rL (fR q.a.re)++(rL (fR q.a.im)++(rL (fR q.b.re)++(rL (fR q.b.im)++(rL (fR q.c.re)++(rL (fR q.c.im)++(rL (fR q.d.re)++(rL (fR q.d.im)++[.b (.v (.bool q.t))]))))))):=rfl
theorem pp_sz {a b c d:Gn} {t:Bool} {q:MQ} (h:Lg4 a b c d false) (hC:mgL a b c d t=mCl q) (hf:FitM q):MSz 120 q:=by
 rw [mg_mCl] at hC
 have e0:mgL a b c d t=rL a.x++(rL a.y++(rL b.x++(rL b.y++(rL c.x++(rL c.y++(rL d.x++(rL d.y++[.b (.v (.bool t))]))))))):=by simp only [mgL,List.append_assoc]
 rw [e0] at hC
 obtain ⟨e1,hC⟩:=rl_app hC
 obtain ⟨e2,hC⟩:=rl_app hC
 obtain ⟨e3,hC⟩:=rl_app hC
 obtain ⟨e4,hC⟩:=rl_app hC
 obtain ⟨e5,hC⟩:=rl_app hC
 obtain ⟨e6,hC⟩:=rl_app hC
 obtain ⟨e7,hC⟩:=rl_app hC
 obtain ⟨e8,hC⟩:=rl_app hC
 obtain ⟨x0,y0,x1,y1,x2,y2,x3,y3,h0,k0,h1,k1,h2,k2,h3,k3,e⟩:=h.is
 simp only [Bool.or_eq_false_iff] at e
 obtain ⟨rfl,rfl,rfl,rfl,rfl,rfl,rfl,rfl⟩:=e
 rw [e1] at h0
 rw [e2] at k0
 rw [e3] at h1
 rw [e4] at k1
 rw [e5] at h2
 rw [e6] at k2
 rw [e7] at h3
 rw [e8] at k3
 exact ⟨⟨LgF.sz h0 hf.1.1,LgF.sz k0 hf.1.2⟩,⟨LgF.sz h1 hf.2.1.1,LgF.sz k1 hf.2.1.2⟩,⟨LgF.sz h2 hf.2.2.1.1,LgF.sz k2 hf.2.2.1.2⟩,⟨LgF.sz h3 hf.2.2.2.1,LgF.sz k3 hf.2.2.2.2⟩⟩
end Go.Proofs.YtbepimnlleilfaaGreat.Y
namespace Go.Proofs.YtbepimnlleilfaaGreat
open Go.Proofs.YtbepimnlleilfaaGreat.Y Go Go.RowKit
end Go.Proofs.YtbepimnlleilfaaGreat
end
