/- PwM, PwN, PwO, MdA, SyC, SyR. -/
import Derived.RangeFuncKeeps
import Derived.OrdersIn
import Derived.TacticsIn
import Derived.Test.YtbepimnlleilfaaGreatNk11
set_option linter.unnecessarySimpa false
set_option linter.unusedVariables false
set_option linter.unusedSimpArgs false
section
namespace Go.Proofs.YtbepimnlleilfaaGreat
open Go.Proofs.YtbepimnlleilfaaGreat.Y
def Cg (q a b:Int):Prop:=∃ k,a=b+q*k
theorem Cg.rfl' {q:Int} (a:Int):Cg q a a:=⟨0,by grind⟩
theorem Cg.add {q a b c d:Int}:Cg q a b→Cg q c d→Cg q (a+c) (b+d):=fun ⟨k,h⟩ ⟨l,g⟩=>⟨k+l,by rw [h,g]; grind⟩
theorem Cg.sub {q a b c d:Int}:Cg q a b→Cg q c d→Cg q (a-c) (b-d):=fun ⟨k,h⟩ ⟨l,g⟩=>⟨k-l,by rw [h,g]; grind⟩
theorem Cg.mul {q a b c d:Int}:Cg q a b→Cg q c d→Cg q (a*c) (b*d):=fun ⟨k,h⟩ ⟨l,g⟩=>⟨b*l+k*d+q*k*l,by rw [h,g]; grind⟩
theorem Cg.mod (q a:Int):Cg q a (a % q):=⟨a/q,(Int.emod_add_mul_ediv a q).symm⟩
theorem Cg.zero {q a:Int} (h:Cg q 0 a):a % q=0:=by
 obtain ⟨k,h⟩:=h
 have:a=q*(-k):=by grind
 rw [this]
 exact Int.mul_emod_right _ _
abbrev ZZ:=Int × Int
abbrev zzM (x y:ZZ):ZZ:=(x.1*y.1-x.2*y.2,x.1*y.2+x.2*y.1)
abbrev zzS (k:Int) (x:ZZ):ZZ:=(k*x.1,k*x.2)
abbrev zzA (x y:ZZ):ZZ:=(x.1+y.1,x.2+y.2)
def CgZ (q:Int) (x y:ZZ):Prop:=Cg q x.1 y.1∧Cg q x.2 y.2
theorem CgZ.mul {q:Int} {x y z w:ZZ} (h:CgZ q x y) (k:CgZ q z w):CgZ q (zzM x z) (zzM y w):=⟨(h.1.mul k.1).sub (h.2.mul k.2),(h.1.mul k.2).add (h.2.mul k.1)⟩
theorem CgZ.scale {q a b:Int} {x y:ZZ} (h:Cg q a b) (k:CgZ q x y):CgZ q (zzS a x) (zzS b y):=⟨h.mul k.1,h.mul k.2⟩
theorem CgZ.add {q:Int} {x y z w:ZZ} (h:CgZ q x y) (k:CgZ q z w):CgZ q (zzA x z) (zzA y w):=⟨h.1.add k.1,h.2.add k.2⟩
def frm:List Int→ZZ→Int→ZZ × Int
 | [],_,_=>((0,0),1)
 | c::r,x,w=>(zzA (zzM (frm r x w).1 x) (zzS (c*(frm r x w).2) (1,0)),(frm r x w).2*w)
theorem frm_cg {q:Int} {x y:ZZ} {w v:Int} (h:CgZ q x y) (k:Cg q w v):∀ l,CgZ q (frm l x w).1 (frm l y v).1∧Cg q (frm l x w).2 (frm l y v).2
 | []=>⟨⟨Cg.rfl' _,Cg.rfl' _⟩,Cg.rfl' _⟩
 | c::r=>⟨CgZ.add ((frm_cg h k r).1.mul h) (CgZ.scale ((Cg.rfl' _).mul (frm_cg h k r).2) ⟨Cg.rfl' _,Cg.rfl' _⟩),(frm_cg h k r).2.mul k⟩
theorem frm_len (q:Int) (x:ZZ) (w:Int):∀ l,(frm l (zzS q x) (q*w)).2=q^l.length*(frm l x w).2∧q*(frm l (zzS q x) (q*w)).1.1=q^l.length*(frm l x w).1.1∧q*(frm l (zzS q x) (q*w)).1.2=q^l.length*(frm l x w).1.2
 | []=>⟨by simp [frm],by simp [frm],by simp [frm]⟩
 | c::r=>by
  obtain ⟨h1,h2,h3⟩:=frm_len q x w r
  simp only [frm,List.length_cons,Int.pow_succ]
  generalize q^r.length=Q at *
  generalize frm r x w=A at *
  generalize frm r (zzS q x) (q*w)=B at *
  obtain ⟨⟨a1,a2⟩,a3⟩:=A
  obtain ⟨⟨b1,b2⟩,b3⟩:=B
  obtain ⟨x1,x2⟩:=x
  dsimp only at *
  refine ⟨?_,?_,?_⟩
  · rw [h1]; grind
  · have e:q*(b1*(q*x1)-b2*(q*x2)+c*b3*1)=(q*b1)*(q*x1)-(q*b2)*(q*x2)+q*c*b3:=by grind
    rw [e,h1,h2,h3]; grind
  · have e:q*(b1*(q*x2)+b2*(q*x1)+c*b3*0)=(q*b1)*(q*x2)+(q*b2)*(q*x1):=by grind
    rw [e,h2,h3]; grind
theorem frm_desc {q:Int} (hq:1<q) (l:List Int) (hz:∀ a b c:Int,0≤a→a<q→0≤b→b<q→0≤c→c<q→(frm l (a,b) c).1.1 % q=0→(frm l (a,b) c).1.2 % q=0→c=0∧a=0∧b=0) :
  ∀ (N:Nat) (x:ZZ) (w:Int),w.natAbs≤N→(frm l x w).1=(0,0)→w=0:=by
 intro N
 induction N with
 | zero=>intro x w hw _; omega
 | succ N ih =>
  intro x w hw h
  have q0:q≠0:=by omega
  obtain ⟨x1,x2⟩:=x
  have hc:=(frm_cg (q:=q) (x:=(x1,x2)) (y:=(x1 % q,x2 % q)) (w:=w) (v:=w % q) ⟨Cg.mod _ _,Cg.mod _ _⟩ (Cg.mod _ _) l).1
  rw [h] at hc
  obtain ⟨e1,e2,e3⟩:=hz (x1 % q) (x2 % q) (w % q) (Int.emod_nonneg _ q0) (Int.emod_lt_of_pos _ (by omega)) (Int.emod_nonneg _ q0) (Int.emod_lt_of_pos _ (by omega)) (Int.emod_nonneg _ q0) (Int.emod_lt_of_pos _ (by omega)) hc.1.zero hc.2.zero
  obtain ⟨w',rfl⟩:=Int.dvd_of_emod_eq_zero e1
  obtain ⟨u,rfl⟩:=Int.dvd_of_emod_eq_zero e2
  obtain ⟨v,rfl⟩:=Int.dvd_of_emod_eq_zero e3
  have hl:=frm_len q (u,v) w' l
  have hp:q^l.length≠0:=Int.pow_ne_zero q0
  have h':frm l (zzS q (u,v)) (q*w')=frm l (q*u,q*v) (q*w'):=rfl
  rw [h',h] at hl
  have k1:(frm l (u,v) w').1.1=0:=by
   have:=hl.2.1
   dsimp only at this
   rw [Int.mul_zero] at this
   rcases Int.mul_eq_zero.1 this.symm with k | k
   · exact absurd k hp
   · exact k
  have k2:(frm l (u,v) w').1.2=0:=by
   have:=hl.2.2
   dsimp only at this
   rw [Int.mul_zero] at this
   rcases Int.mul_eq_zero.1 this.symm with k | k
   · exact absurd k hp
   · exact k
  by_cases hw0:w'=0
  · rw [hw0,Int.mul_zero]
  · have hlt:w'.natAbs≤N:=by
     have h3:0<w'.natAbs:=by omega
     have h2:q.natAbs*w'.natAbs≤N+1:=by rw [← Int.natAbs_mul]; exact hw
     have h4:2≤q.natAbs:=by omega
     have h5:2*w'.natAbs≤q.natAbs*w'.natAbs:=Nat.mul_le_mul_right _ h4
     omega
    exact absurd (ih (u,v) w' hlt (Prod.ext k1 k2)) hw0
def frm7:List Int:=[-1,6,-5,1]
def frm9:List Int:=[-1,9,-6,1]
def frm11:List Int:=[-1,15,-35,28,-9,1]
theorem zY7 {q:Nat} {P:Int→Prop} (h:∀ a:Fin q,P (a.val:Int)) (a:Int) (h0:0≤a) (h1:a<q):P a:=by
 have:=h ⟨a.toNat,by omega⟩
 rwa [show ((a.toNat:Nat):Int)=a by omega] at this
theorem frm7_no {x:ZZ} {w:Int} (h:(frm frm7 x w).1=(0,0)):w=0 :=
 frm_desc (q:=3) (by decide) frm7 (fun a b c a0 a1 b0 b1 c0 c1=>zY7 (q:=3) (P:=fun a=>(frm frm7 (a,b) c).1.1 % 3=0→(frm frm7 (a,b) c).1.2 % 3=0→c=0∧a=0∧b=0) (fun a=>zY7 (q:=3) (P:=fun b=>(frm frm7 (a,b) c).1.1 % 3=0→(frm frm7 (a,b) c).1.2 % 3=0→c=0∧(a:Int)=0∧b=0) (fun b=>zY7 (q:=3) (P:=fun c=>(frm frm7 (a,b) c).1.1 % 3=0→(frm frm7 (a,b) c).1.2 % 3=0→c=0∧(a:Int)=0∧(b:Int)=0) (by revert a b; decide +kernel) c c0 c1) b b0 b1) a a0 a1) _ x w (Nat.le_refl _) h
theorem frm11_no {x:ZZ} {w:Int} (h:(frm frm11 x w).1=(0,0)):w=0 :=
 frm_desc (q:=3) (by decide) frm11 (fun a b c a0 a1 b0 b1 c0 c1=>zY7 (q:=3) (P:=fun a=>(frm frm11 (a,b) c).1.1 % 3=0→(frm frm11 (a,b) c).1.2 % 3=0→c=0∧a=0∧b=0) (fun a=>zY7 (q:=3) (P:=fun b=>(frm frm11 (a,b) c).1.1 % 3=0→(frm frm11 (a,b) c).1.2 % 3=0→c=0∧(a:Int)=0∧b=0) (fun b=>zY7 (q:=3) (P:=fun c=>(frm frm11 (a,b) c).1.1 % 3=0→(frm frm11 (a,b) c).1.2 % 3=0→c=0∧(a:Int)=0∧(b:Int)=0) (by revert a b; decide +kernel) c c0 c1) b b0 b1) a a0 a1) _ x w (Nat.le_refl _) h
theorem frm9_no {x:ZZ} {w:Int} (h:(frm frm9 x w).1=(0,0)):w=0 :=
 frm_desc (q:=7) (by decide) frm9 (fun a b c a0 a1 b0 b1 c0 c1=>zY7 (q:=7) (P:=fun a=>(frm frm9 (a,b) c).1.1 % 7=0→(frm frm9 (a,b) c).1.2 % 7=0→c=0∧a=0∧b=0) (fun a=>zY7 (q:=7) (P:=fun b=>(frm frm9 (a,b) c).1.1 % 7=0→(frm frm9 (a,b) c).1.2 % 7=0→c=0∧(a:Int)=0∧b=0) (fun b=>zY7 (q:=7) (P:=fun c=>(frm frm9 (a,b) c).1.1 % 7=0→(frm frm9 (a,b) c).1.2 % 7=0→c=0∧(a:Int)=0∧(b:Int)=0) (by revert a b; decide +kernel) c c0 c1) b b0 b1) a a0 a1) _ x w (Nat.le_refl _) h
def frq:List Int→GQ→GQ
 | [],_=>0
 | c::r,s=>frq r s*s+⟨(c:Rat),0⟩
theorem frq_int (s:GQ) (x:ZZ) (w:Int) (h1:s.re*(w:Rat)=(x.1:Int)) (h2:s.im*(w:Rat)=(x.2:Int)):∀ l,((frm l x w).2:Rat)*(frq l s).re=((frm l x w).1.1:Int)*(w:Rat)∧((frm l x w).2:Rat)*(frq l s).im=((frm l x w).1.2:Int)*(w:Rat)
 | []=>⟨by show ((1:Int):Rat)*((0:GQ).re)=((0:Int):Rat)*_; rw [show (0:GQ).re=0 from rfl]; grind,by show ((1:Int):Rat)*((0:GQ).im)=((0:Int):Rat)*_; rw [show (0:GQ).im=0 from rfl]; grind⟩
 | c::r=>by
  obtain ⟨k1,k2⟩:=frq_int s x w h1 h2 r
  have e1:(frq (c::r) s).re=(frq r s).re*s.re-(frq r s).im*s.im+c:=rfl
  have e2:(frq (c::r) s).im=(frq r s).re*s.im+(frq r s).im*s.re+0:=rfl
  rw [e1,e2]
  simp only [frm]
  generalize frm r x w=A at *
  obtain ⟨⟨a1,a2⟩,a3⟩:=A
  generalize frq r s=S at *
  obtain ⟨x1,x2⟩:=x
  dsimp only at *
  simp only [Rat.intCast_mul,Rat.intCast_add,Rat.intCast_sub,Rat.intCast_one,Rat.intCast_zero] at *
  generalize ((a1:Int):Rat)=A1 at *
  generalize ((a2:Int):Rat)=A2 at *
  generalize ((a3:Int):Rat)=A3 at *
  generalize ((x1:Int):Rat)=X1 at *
  generalize ((x2:Int):Rat)=X2 at *
  generalize ((w:Int):Rat)=W at *
  constructor
  · have:A3*W*(S.re*s.re-S.im*s.im+(c:Rat))=(A3*S.re)*(s.re*W)-(A3*S.im)*(s.im*W)+A3*W*c:=by grind
    rw [this,k1,k2,h1,h2]; grind
  · have:A3*W*(S.re*s.im+S.im*s.re+0)=(A3*S.re)*(s.im*W)+(A3*S.im)*(s.re*W):=by grind
    rw [this,k1,k2,h1,h2]; grind
theorem rat_nd (x:Rat):x*((x.den:Int):Rat)=(x.num:Rat):=by
 have e:Rat.divInt x.num x.den=x:=Rat.mkRat_self x
 have h:=Rat.divInt_eq_div x.num (x.den:Int)
 rw [e] at h
 have hd:((x.den:Int):Rat)≠0:=fun e=>by
  have h0:(x.den:Int)=0:=by exact_mod_cast e
  exact x.den_nz (by omega)
 have hi:=Rat.mul_inv_cancel _ hd
 have h2:x*((x.den:Int):Rat)=((x.num:Rat)/((x.den:Int):Rat))*((x.den:Int):Rat):=by rw [← h]
 rw [h2,Rat.div_def]
 grind
theorem gq_whole (s:GQ):∃ (x:ZZ) (w:Int),w≠0∧s.re*(w:Rat)=(x.1:Int)∧s.im*(w:Rat)=(x.2:Int):=by
 have hr:=rat_nd s.re
 have hi:=rat_nd s.im
 refine ⟨(s.re.num*s.im.den,s.im.num*s.re.den),s.re.den*s.im.den,?_,?_,?_⟩
 · exact Int.mul_ne_zero (by have:=s.re.den_nz; omega) (by have:=s.im.den_nz; omega)
 · simp only [Rat.intCast_mul]
   rw [← hr]; grind
 · simp only [Rat.intCast_mul]
   rw [← hi]; grind
theorem frq_no {l:List Int} (h:∀ {x:ZZ} {w:Int},(frm l x w).1=(0,0)→w=0) (s:GQ):frq l s≠0:=fun e=>by
 obtain ⟨x,w,w0,h1,h2⟩:=gq_whole s
 obtain ⟨k1,k2⟩:=frq_int s x w h1 h2 l
 have w0':(w:Rat)≠0:=fun e=>w0 (by exact_mod_cast e)
 rw [e] at k1 k2
 have z1:(((frm l x w).1.1:Int):Rat)=0:=by
  have:(((frm l x w).1.1:Int):Rat)*(w:Rat)=0:=by rw [← k1,show (0:GQ).re=0 from rfl]; grind
  rcases Rat.mul_eq_zero.1 this with k | k
  · exact k
  · exact absurd k w0'
 have z2:(((frm l x w).1.2:Int):Rat)=0:=by
  have:(((frm l x w).1.2:Int):Rat)*(w:Rat)=0:=by rw [← k2,show (0:GQ).im=0 from rfl]; grind
  rcases Rat.mul_eq_zero.1 this with k | k
  · exact k
  · exact absurd k w0'
 exact w0 (h (Prod.ext (by exact_mod_cast z1) (by exact_mod_cast z2)))
theorem g1_ne:(1:GQ)≠0:=fun e=>by have:=congrArg GQ.re (g1_def.trans e); exact absurd this (by decide)
theorem MQ.ext2 {m n:MQ} (h1:m.a=n.a) (h2:m.b=n.b) (h3:m.c=n.c) (h4:m.d=n.d) (h5:m.t=n.t):m=n:=by
 obtain ⟨a,b,c,d,t⟩:=m
 obtain ⟨a',b',c',d',t'⟩:=n
 dsimp only at *
 rw [h1,h2,h3,h4,h5]
def Mli (m n:MQ):Prop:=∃ z:GQ,z≠0∧m.a=z*n.a∧m.b=z*n.b∧m.c=z*n.c∧m.d=z*n.d∧m.t=n.t
theorem Mli.rf (m:MQ):Mli m m:=⟨1,g1_ne,by grind,by grind,by grind,by grind,rfl⟩
theorem Mli.tr {m n o:MQ}:Mli m n→Mli n o→Mli m o:=fun ⟨z,h,h1,h2,h3,h4,h5⟩ ⟨y,g,g1,g2,g3,g4,g5⟩ =>
 ⟨z*y,qW0 h g,by rw [h1,g1]; grind,by rw [h2,g2]; grind,by rw [h3,g3]; grind,by rw [h4,g4]; grind,h5.trans g5⟩
theorem zY6 {z w:GQ} (h:w≠0):gdiv z w*w=z:=zK0 fun e=>h (e.trans g0_def)
theorem Mli.sy {m n:MQ}:Mli m n→Mli n m:=fun ⟨z,h,h1,h2,h3,h4,h5⟩=>by
 have e:gdiv 1 z*z=1:=zY6 h
 have hn:gdiv 1 z≠0:=fun k=>by rw [k] at e; exact g1_ne (by grind)
 exact ⟨gdiv 1 z,hn,by rw [h1]; grind,by rw [h2]; grind,by rw [h3]; grind,by rw [h4]; grind,h5.symm⟩
theorem Mli.norm {m:MQ} (h:Reg m):Mli m (mnorm m):=by
 have h0:=h.by_ rfl
 have h0:(bif qQ6 m.c then m.d else m.c)≠0:=fun e=>h0 (e.trans g0_def.symm)
 refine ⟨_,h0,?_,?_,?_,?_,rfl⟩
 all_goals
  show _=_*gdiv _ _
  generalize (bif qQ6 m.c then m.d else m.c)=u at *
  have:=fun z=>zY6 (z:=z) h0
  grind
theorem Mli.det {m n:MQ}:Mli m n→Reg n→Reg m:=fun ⟨z,h,h1,h2,h3,h4,h5⟩ hr e=>by
 refine hr ?_
 have:z*z*mdet n=0:=by
  have e:mdet m=0:=e.trans g0_def
  have e1:mdet m=m.a*m.d-m.b*m.c:=rfl
  have e2:mdet n=n.a*n.d-n.b*n.c:=rfl
  rw [e1,h1,h2,h3,h4] at e
  rw [e2,← e]; grind
 rw [g0_def]
 exact (mul0 this).resolve_left (qW0 h h)
theorem gdv_li {x y z:GQ} (hz:z≠0) (hy:y≠0):gdiv (z*x) (z*y)=gdiv x y:=by
 refine (gdv_eq (qW0 hz hy)).2 ?_
 have:=zY6 (z:=x) hy
 grind
theorem Mli.eq {m n:MQ} (hr:Reg n):Mli m n→mnorm m=mnorm n:=fun ⟨z,h,h1,h2,h3,h4,h5⟩=>by
 have h0:=hr.by_ rfl
 have h0:(bif qQ6 n.c then n.d else n.c)≠0:=fun e=>h0 (e.trans g0_def.symm)
 have hg:qQ6 m.c=qQ6 n.c:=gz_eq (by rw [h3]; exact ⟨fun e=>(mul0 e).resolve_left h,fun e=>by rw [e]; grind⟩)
 have hb:(bif qQ6 n.c then m.d else m.c)=z*(bif qQ6 n.c then n.d else n.c):=by
  cases qQ6 n.c
  · exact h3
  · exact h4
 unfold mnorm qV8
 rw [hg,hb,h1,h2,h3,h4,h5,gdv_li h h0,gdv_li h h0,gdv_li h h0,gdv_li h h0]
theorem beh_a (m n:MQ):(mbeh m n).a=m.a*mcj m.t n.a+m.b*mcj m.t n.c:=rfl
theorem beh_b (m n:MQ):(mbeh m n).b=m.a*mcj m.t n.b+m.b*mcj m.t n.d:=rfl
theorem beh_c (m n:MQ):(mbeh m n).c=m.c*mcj m.t n.a+m.d*mcj m.t n.c:=rfl
theorem beh_d (m n:MQ):(mbeh m n).d=m.c*mcj m.t n.b+m.d*mcj m.t n.d:=rfl
theorem beh_t (m n:MQ):(mbeh m n).t=(m.t != n.t):=rfl
theorem Mli.beh {m m' n n':MQ}:Mli m m'→Mli n n'→Mli (mbeh m n) (mbeh m' n'):=fun ⟨z,h,h1,h2,h3,h4,h5⟩ ⟨y,g,g1,g2,g3,g4,g5⟩=>by
 refine ⟨z*mcj m'.t y,qW0 h (mcj_ne _ g),?_,?_,?_,?_,?_⟩
 · rw [beh_a,beh_a,h1,h2,h5,g1,g3,qJ7,qJ7]; grind
 · rw [beh_b,beh_b,h1,h2,h5,g2,g4,qJ7,qJ7]; grind
 · rw [beh_c,beh_c,h3,h4,h5,g1,g3,qJ7,qJ7]; grind
 · rw [beh_d,beh_d,h3,h4,h5,g2,g4,qJ7,qJ7]; grind
 · rw [beh_t,beh_t,h5,g5]
theorem zK6 (t:Bool) (z w:GQ):mcj t (z+w)=mcj t z+mcj t w:=by
 cases t
 · rfl
 · show qW6 (gadd z w)=gadd (qW6 z) (qW6 w)
   refine GQ.ext2 ?_ ?_<;>(simp only [qW6,gadd]; try grind)
theorem mcj_mcj (s t:Bool) (z:GQ):mcj s (mcj t z)=mcj (s != t) z:=by
 cases s<;>cases t
 · rfl
 · rfl
 · rfl
 · show qW6 (qW6 z)=z
   refine GQ.ext2 rfl ?_
   show - -z.im=z.im
   grind
theorem beh_assoc (m n o:MQ):mbeh (mbeh m n) o=mbeh m (mbeh n o):=by
 refine MQ.ext2 ?_ ?_ ?_ ?_ ?_
 · rw [beh_a,beh_a,beh_a,beh_b,beh_a,beh_c,beh_t,zK6,zK6,qJ7,qJ7,qJ7,qJ7,mcj_mcj,mcj_mcj]; grind
 · rw [beh_b,beh_b,beh_a,beh_b,beh_b,beh_d,beh_t,zK6,zK6,qJ7,qJ7,qJ7,qJ7,mcj_mcj,mcj_mcj]; grind
 · rw [beh_c,beh_c,beh_c,beh_d,beh_a,beh_c,beh_t,zK6,zK6,qJ7,qJ7,qJ7,qJ7,mcj_mcj,mcj_mcj]; grind
 · rw [beh_d,beh_d,beh_c,beh_d,beh_b,beh_d,beh_t,zK6,zK6,qJ7,qJ7,qJ7,qJ7,mcj_mcj,mcj_mcj]; grind
 · show ((m.t != n.t) != o.t)=(m.t != (n.t != o.t))
   cases m.t<;>cases n.t<;>cases o.t<;>rfl
def mpw (m:MQ):Nat→MQ
 | 0=>mid false
 | k+1=>mcmp m (mpw m k)
def mrw (m:MQ):Nat→MQ
 | 0=>mid false
 | k+1=>mbeh m (mrw m k)
theorem mrw_reg {m:MQ} (h:Reg m):∀ k,Reg (mrw m k)
 | 0=>Reg.id false
 | k+1=>h.beh (mrw_reg h k)
theorem mpw_li {m:MQ} (h:Reg m):∀ k,Mli (mpw m k) (mrw m k)
 | 0=>Mli.rf _
 | k+1=>(Mli.norm (h.beh ((mpw_li h k).det (mrw_reg h k)))).sy.tr ((Mli.rf m).beh (mpw_li h k))
theorem mpw_reg {m:MQ} (h:Reg m) (k:Nat):Reg (mpw m k):=(mpw_li h k).det (mrw_reg h k)
theorem mpw_nrm {m:MQ} (h:Reg m):∀ k,Nrm (mpw m k)
 | 0=>by unfold Nrm mpw mid; rfl
 | k+1=>(h.beh (mpw_reg h k)).nrm
theorem mpw_eq {m:MQ} (h:Reg m) (k:Nat):mpw m k=mnorm (mrw m k):=by
 rw [← (mpw_nrm h k).id]
 exact (mpw_li h k).eq (mrw_reg h k)
def Scl (m:MQ):Prop:=m.b=0∧m.c=0∧m.a=m.d∧m.t=false
theorem scl_norm {m:MQ} (h:Reg m):mnorm m=mid false↔Scl m:=by
 have hl:=Mli.norm h
 constructor
 · intro e
   rw [e] at hl
   obtain ⟨z,h0,h1,h2,h3,h4,h5⟩:=hl
   have m1:(mid false).a=1:=g1_def
   have m2:(mid false).b=0:=g0_def
   have m3:(mid false).c=0:=g0_def
   have m4:(mid false).d=1:=g1_def
   rw [m1] at h1; rw [m2] at h2; rw [m3] at h3; rw [m4] at h4
   exact ⟨by rw [h2]; grind,by rw [h3]; grind,by rw [h1,h4],h5⟩
 · rintro ⟨h2,h3,h4,h5⟩
   have h0:m.d≠0:=fun e=>h (by
    have:mdet m=m.a*m.d-m.b*m.c:=rfl
    rw [this,h2,h3,e,g0_def]; grind)
   have hl2:Mli m (mid false):=⟨m.d,h0,by rw [show (mid false).a=1 from g1_def,h4]; grind,by rw [show (mid false).b=0 from g0_def,h2]; grind,by rw [show (mid false).c=0 from g0_def,h3]; grind,by rw [show (mid false).d=1 from g1_def]; grind,h5⟩
   rw [hl2.eq (Reg.id false)]
   exact Nrm.id (by unfold Nrm mid; rfl)
theorem mpw_scl {m:MQ} (h:Reg m) (k:Nat):mpw m k=mid false↔Scl (mrw m k):=by
 rw [mpw_eq h k]
 exact scl_norm (mrw_reg h k)
section
variable (m:MQ) (ht:m.t=false)
def mtr:GQ:=m.a+m.d
def mU:Nat→GQ
 | 0=>0
 | 1=>1
 | k+2=>mtr m*mU (k+1)-mdet m*mU k
theorem mdet_e:mdet m=m.a*m.d-m.b*m.c:=rfl
include ht in
theorem mrw_t:∀ k,(mrw m k).t=false
 | 0=>rfl
 | k+1=>by
  show (m.t != (mrw m k).t)=false
  rw [ht,mrw_t k]
  rfl
include ht in
theorem mrw_U:∀ k,(mrw m (k+1)).a=mU m (k+1)*m.a-mdet m*mU m k∧(mrw m (k+1)).b=mU m (k+1)*m.b∧(mrw m (k+1)).c=mU m (k+1)*m.c∧(mrw m (k+1)).d=mU m (k+1)*m.d-mdet m*mU m k
 | 0=>by
  have e:mrw m 1=mbeh m (mid false):=rfl
  have m1:(mid false).a=1:=g1_def
  have m2:(mid false).b=0:=g0_def
  have m3:(mid false).c=0:=g0_def
  have m4:(mid false).d=1:=g1_def
  have hc:∀ z,mcj m.t z=z:=fun z=>by rw [ht]; rfl
  have u1:mU m 1=1:=rfl
  have u0:mU m 0=0:=rfl
  rw [e,beh_a,beh_b,beh_c,beh_d,m1,m2,m3,m4,hc,hc,u1,u0]
  exact ⟨by grind,by grind,by grind,by grind⟩
 | k+1=>by
  obtain ⟨h1,h2,h3,h4⟩:=mrw_U k
  have e:mrw m (k+1+1)=mbeh m (mrw m (k+1)):=rfl
  have hc:∀ z,mcj m.t z=z:=fun z=>by rw [ht]; rfl
  have u2:mU m (k+1+1)=mtr m*mU m (k+1)-mdet m*mU m k:=rfl
  rw [e,beh_a,beh_b,beh_c,beh_d,hc,hc,hc,hc,h1,h2,h3,h4,u2,mdet_e,mtr]
  generalize mU m (k+1)=x
  generalize mU m k=y
  exact ⟨by grind,by grind,by grind,by grind⟩
include ht in
theorem mrw_scl (k:Nat):Scl (mrw m (k+1))↔Scl m∨mU m (k+1)=0:=by
 obtain ⟨h1,h2,h3,h4⟩:=mrw_U m ht k
 unfold Scl
 rw [h1,h2,h3,h4,mrw_t m ht]
 constructor
 · rintro ⟨k1,k2,k3,_⟩
   by_cases h:mU m (k+1)=0
   · exact .inr h
   · refine .inl ⟨(mul0 k1).resolve_left h,(mul0 k2).resolve_left h,?_,ht⟩
     exact mulc h (by grind)
 · rintro (⟨k1,k2,k3,_⟩ | h)
   · rw [k1,k2,k3]; exact ⟨by grind,by grind,rfl,rfl⟩
   · rw [h]; exact ⟨by grind,by grind,by grind,rfl⟩
end
theorem mU_2 (m:MQ):mU m 2=mtr m:=by
 have:mU m 2=mtr m*1-mdet m*0:=rfl
 rw [this]; grind
theorem mU_3 (m:MQ):mU m 3=mtr m*mtr m-mdet m:=by
 have:mU m 3=mtr m*mU m 2-mdet m*1:=rfl
 rw [this,mU_2]; grind
theorem mU_4 (m:MQ):mU m 4=mtr m*(mtr m*mtr m-(mdet m+mdet m)):=by
 have:mU m 4=mtr m*mU m 3-mdet m*mU m 2:=rfl
 rw [this,mU_2,mU_3]; grind
theorem mU_5 (m:MQ):mU m 5=(mtr m*mtr m)*(mtr m*mtr m)-3*(mtr m*mtr m)*mdet m+mdet m*mdet m:=by
 have:mU m 5=mtr m*mU m 4-mdet m*mU m 3:=rfl
 rw [this,mU_3,mU_4]; grind
theorem mU_6 (m:MQ):mU m 6=mtr m*((mtr m*mtr m-mdet m)*(mtr m*mtr m-3*mdet m)):=by
 have:mU m 6=mtr m*mU m 5-mdet m*mU m 4:=rfl
 rw [this,mU_4,mU_5]; grind
theorem mU_7 (m:MQ):mU m 7=(mtr m*mtr m)*(mtr m*mtr m)*(mtr m*mtr m)-5*((mtr m*mtr m)*(mtr m*mtr m))*mdet m+6*(mtr m*mtr m)*(mdet m*mdet m)-mdet m*mdet m*mdet m:=by
 have:mU m 7=mtr m*mU m 6-mdet m*mU m 5:=rfl
 rw [this,mU_5,mU_6]; grind
theorem mU_8 (m:MQ):mU m 8=mtr m*((mtr m*mtr m-2*mdet m)*((mtr m*mtr m)*(mtr m*mtr m)-4*(mtr m*mtr m)*mdet m+2*(mdet m*mdet m))):=by
 have:mU m 8=mtr m*mU m 7-mdet m*mU m 6:=rfl
 rw [this,mU_6,mU_7]; grind
theorem mU_9 (m:MQ):mU m 9=(mtr m*mtr m-mdet m)*((mtr m*mtr m)*(mtr m*mtr m)*(mtr m*mtr m)-6*((mtr m*mtr m)*(mtr m*mtr m))*mdet m+9*(mtr m*mtr m)*(mdet m*mdet m)-mdet m*mdet m*mdet m):=by
 have:mU m 9=mtr m*mU m 8-mdet m*mU m 7:=rfl
 rw [this,mU_7,mU_8]; grind
theorem mU_10 (m:MQ):mU m 10=mtr m*(((mtr m*mtr m)*(mtr m*mtr m)-3*(mtr m*mtr m)*mdet m+mdet m*mdet m)*((mtr m*mtr m)*(mtr m*mtr m)-5*(mtr m*mtr m)*mdet m+5*(mdet m*mdet m))):=by
 have:mU m 10=mtr m*mU m 9-mdet m*mU m 8:=rfl
 rw [this,mU_8,mU_9]; grind
theorem mU_11 (m:MQ):mU m 11=(mtr m*mtr m)*(mtr m*mtr m)*(mtr m*mtr m)*(mtr m*mtr m)*(mtr m*mtr m)-9*((mtr m*mtr m)*(mtr m*mtr m)*(mtr m*mtr m)*(mtr m*mtr m))*mdet m+28*((mtr m*mtr m)*(mtr m*mtr m)*(mtr m*mtr m))*(mdet m*mdet m)-35*((mtr m*mtr m)*(mtr m*mtr m))*(mdet m*mdet m*mdet m)+15*(mtr m*mtr m)*(mdet m*mdet m*mdet m*mdet m)-mdet m*mdet m*mdet m*mdet m*mdet m:=by
 have:mU m 11=mtr m*mU m 10-mdet m*mU m 9:=rfl
 rw [this,mU_9,mU_10]; grind
theorem mU_12 (m:MQ):mU m 12=mtr m*((mtr m*mtr m-mdet m)*((mtr m*mtr m-2*mdet m)*((mtr m*mtr m-3*mdet m)*((mtr m*mtr m)*(mtr m*mtr m)-4*(mtr m*mtr m)*mdet m+mdet m*mdet m)))):=by
 have:mU m 12=mtr m*mU m 11-mdet m*mU m 10:=rfl
 rw [this,mU_10,mU_11]; grind
theorem pw_sq {p:Nat} (hp:1<p) (hd:∀ a,p ∣ a*a→p ∣ a):∀ (N a b:Nat),b≤N→a*a=p*(b*b)→b=0
 | 0,a,b,hb,_=>by omega
 | N+1,a,b,hb,h=>by
  obtain ⟨a',rfl⟩:=hd a ⟨_,h⟩
  have h1:p*(a'*a')=b*b:=by
   have:p*(p*(a'*a'))=p*(b*b):=by rw [← h]; grind
   exact Nat.eq_of_mul_eq_mul_left (by omega) this
  obtain ⟨b',rfl⟩:=hd b ⟨_,h1.symm⟩
  by_cases hb0:b'=0
  · rw [hb0,Nat.mul_zero]
  · have h2:a'*a'=p*(b'*b'):=by
     have:p*(a'*a')=p*(p*(b'*b')):=by rw [h1]; grind
     exact Nat.eq_of_mul_eq_mul_left (by omega) this
    have h3:2*b'≤p*b':=Nat.mul_le_mul_right _ hp
    exact absurd (pw_sq hp hd N a' b' (by omega) h2) hb0
theorem dv2 (a:Nat) (h:2 ∣ a*a):2 ∣ a:=by
 have h1:(a % 2)*(a % 2) % 2=0:=by rw [← Nat.mul_mod]; omega
 have h2:a % 2<2:=Nat.mod_lt _ (by decide)
 have:a % 2=0:=by
  revert h1 h2
  generalize a % 2=x
  intro h1 h2
  match x,h2 with
  | 0,_=>rfl
  | 1,_=>exact absurd h1 (by decide)
 omega
theorem dv3 (a:Nat) (h:3 ∣ a*a):3 ∣ a:=by
 have h1:(a % 3)*(a % 3) % 3=0:=by rw [← Nat.mul_mod]; omega
 have h2:a % 3<3:=Nat.mod_lt _ (by decide)
 have:a % 3=0:=by
  revert h1 h2
  generalize a % 3=x
  intro h1 h2
  match x,h2 with
  | 0,_=>rfl
  | 1,_=>exact absurd h1 (by decide)
  | 2,_=>exact absurd h1 (by decide)
 omega
theorem dv5 (a:Nat) (h:5 ∣ a*a):5 ∣ a:=by
 have h1:(a % 5)*(a % 5) % 5=0:=by rw [← Nat.mul_mod]; omega
 have h2:a % 5<5:=Nat.mod_lt _ (by decide)
 have:a % 5=0:=by
  revert h1 h2
  generalize a % 5=x
  intro h1 h2
  match x,h2 with
  | 0,_=>rfl
  | 1,_=>exact absurd h1 (by decide)
  | 2,_=>exact absurd h1 (by decide)
  | 3,_=>exact absurd h1 (by decide)
  | 4,_=>exact absurd h1 (by decide)
 omega
theorem rat_sq {p:Nat} (hp:1<p) (hd:∀ a,p ∣ a*a→p ∣ a) (r:Rat):r*r≠((p:Int):Rat):=fun h=>by
 have h1:=rat_nd r
 have h2:((r.num*r.num:Int):Rat)=(((p:Int)*(r.den*r.den):Int):Rat):=by
  simp only [Rat.intCast_mul] at *
  rw [← h1,← h]; grind
 have h3:r.num*r.num=(p:Int)*(r.den*r.den):=by exact_mod_cast h2
 have h4:r.num.natAbs*r.num.natAbs=p*(r.den*r.den):=by
  have:=congrArg Int.natAbs h3
  rw [Int.natAbs_mul,Int.natAbs_mul,Int.natAbs_mul] at this
  simpa using this
 exact r.den_nz (pw_sq hp hd _ _ _ (Nat.le_refl _) h4)
theorem gq_sq {p:Nat} (hp:1<p) (hd:∀ a,p ∣ a*a→p ∣ a) (s:GQ):s*s≠⟨((p:Int):Rat),0⟩:=fun h=>by
 have h1:s.re*s.re-s.im*s.im=((p:Int):Rat):=congrArg GQ.re h
 have h2:s.re*s.im+s.im*s.re=0:=congrArg GQ.im h
 have h3:s.re*s.im=0:=by grind
 rcases Rat.mul_eq_zero.1 h3 with k | k
 · rw [k] at h1
   have h4:(0:Rat)≤s.im*s.im:=by
    rcases (Rat.le_total:(0:Rat)≤s.im∨s.im≤0) with h | h
    · exact Rat.mul_nonneg h h
    · have:=Rat.mul_nonneg (a:=-s.im) (b:=-s.im) (by grind) (by grind)
      grind
   have h5:(0:Rat)<((p:Int):Rat):=by
    have:(0:Int)<(p:Int):=by omega
    exact_mod_cast this
   grind
 · rw [k] at h1
   exact rat_sq hp hd s.re (by rw [← h1]; grind)
theorem gq_form {p:Nat} (hp:1<p) (hd:∀ a,p ∣ a*a→p ∣ a) {u y:GQ} (hy:y≠0) (h:u*u=⟨((p:Int):Rat),0⟩*(y*y)):False:=by
 have e:=zY6 (z:=u) hy
 refine gq_sq hp hd (gdiv u y) (mulc (u:=y*y) (qW0 hy hy) ?_)
 have:y*y*(gdiv u y*gdiv u y)=u*u:=by
  have:y*y*(gdiv u y*gdiv u y)=(gdiv u y*y)*(gdiv u y*y):=by grind
  rw [this,e]
 rw [this,h]; grind
theorem fr_p (n:Nat):(⟨((n:Int):Rat),0⟩:GQ)=gnat n:=rfl
theorem fr_m (n:Nat):(⟨((-(n:Int):Int):Rat),0⟩:GQ) = -(gnat n):=GQ.ext2 (Rat.intCast_neg _) (by show (0:Rat) = -0; rfl)
section
variable {x y:GQ} (hy:y≠0)
theorem gn2:(2:GQ)=⟨((2:Nat):Int),0⟩:=rfl
theorem gn3:(3:GQ)=⟨((3:Nat):Int),0⟩:=rfl
theorem gn5:(5:GQ)=⟨((5:Nat):Int),0⟩:=rfl
include hy
theorem no5:x*x-3*x*y+y*y≠0:=fun h=>by
 refine gq_form (p:=5) (by decide) dv5 (u:=2*x-3*y) hy ?_
 rw [← gn5]
 have:(2*x-3*y)*(2*x-3*y)=4*(x*x-3*x*y+y*y)+5*(y*y):=by grind
 rw [this,h]; grind
theorem no8:x*x-4*x*y+2*(y*y)≠0:=fun h=>by
 refine gq_form (p:=2) (by decide) dv2 (u:=x-2*y) hy ?_
 rw [← gn2]
 have:(x-2*y)*(x-2*y)=(x*x-4*x*y+2*(y*y))+2*(y*y):=by grind
 rw [this,h]; grind
theorem no10:x*x-5*x*y+5*(y*y)≠0:=fun h=>by
 refine gq_form (p:=5) (by decide) dv5 (u:=2*x-5*y) hy ?_
 rw [← gn5]
 have:(2*x-5*y)*(2*x-5*y)=4*(x*x-5*x*y+5*(y*y))+5*(y*y):=by grind
 rw [this,h]; grind
theorem no12:x*x-4*x*y+y*y≠0:=fun h=>by
 refine gq_form (p:=3) (by decide) dv3 (u:=x-2*y) hy ?_
 rw [← gn3]
 have:(x-2*y)*(x-2*y)=(x*x-4*x*y+y*y)+3*(y*y):=by grind
 rw [this,h]; grind
theorem no7:x*x*x-5*(x*x)*y+6*x*(y*y)-y*y*y≠0:=fun h=>by
 have e:=zY6 (z:=x) hy
 refine frq_no (l:=frm7) frm7_no (gdiv x y) (mulc (u:=y*y*y) (qW0 (qW0 hy hy) hy) ?_)
 generalize gdiv x y=s at *
 have hf:frq frm7 s=s*s*s-5*(s*s)+6*s-1:=by
  have e0:(⟨((1:Int):Rat),0⟩:GQ)=gnat 1:=fr_p 1
  have e1:(⟨((-5:Int):Rat),0⟩:GQ) = -(gnat 5):=fr_m 5
  have e2:(⟨((6:Int):Rat),0⟩:GQ)=gnat 6:=fr_p 6
  have e3:(⟨((-1:Int):Rat),0⟩:GQ) = -(gnat 1):=fr_m 1
  show (((((0:GQ)*s+⟨((1:Int):Rat),0⟩)*s+⟨((-5:Int):Rat),0⟩)*s+⟨((6:Int):Rat),0⟩)*s+⟨((-1:Int):Rat),0⟩)=_
  rw [e0,e1,e2,e3]
  have g1:gnat 1=(1:GQ):=rfl; have g5:gnat 5=(5:GQ):=rfl; have g6:gnat 6=(6:GQ):=rfl
  rw [g1,g5,g6]
  grind
 rw [hf]
 have:y*y*y*(s*s*s-5*(s*s)+6*s-1)=(s*y)*(s*y)*(s*y)-5*((s*y)*(s*y))*y+6*(s*y)*(y*y)-y*y*y:=by grind
 rw [this,e,h]; grind
theorem no9:x*x*x-6*(x*x)*y+9*x*(y*y)-y*y*y≠0:=fun h=>by
 have e:=zY6 (z:=x) hy
 refine frq_no (l:=frm9) frm9_no (gdiv x y) (mulc (u:=y*y*y) (qW0 (qW0 hy hy) hy) ?_)
 generalize gdiv x y=s at *
 have hf:frq frm9 s=s*s*s-6*(s*s)+9*s-1:=by
  have e0:(⟨((1:Int):Rat),0⟩:GQ)=gnat 1:=fr_p 1
  have e1:(⟨((-6:Int):Rat),0⟩:GQ) = -(gnat 6):=fr_m 6
  have e2:(⟨((9:Int):Rat),0⟩:GQ)=gnat 9:=fr_p 9
  have e3:(⟨((-1:Int):Rat),0⟩:GQ) = -(gnat 1):=fr_m 1
  show (((((0:GQ)*s+⟨((1:Int):Rat),0⟩)*s+⟨((-6:Int):Rat),0⟩)*s+⟨((9:Int):Rat),0⟩)*s+⟨((-1:Int):Rat),0⟩)=_
  rw [e0,e1,e2,e3]
  have g1:gnat 1=(1:GQ):=rfl; have g6:gnat 6=(6:GQ):=rfl; have g9:gnat 9=(9:GQ):=rfl
  rw [g1,g6,g9]
  grind
 rw [hf]
 have:y*y*y*(s*s*s-6*(s*s)+9*s-1)=(s*y)*(s*y)*(s*y)-6*((s*y)*(s*y))*y+9*(s*y)*(y*y)-y*y*y:=by grind
 rw [this,e,h]; grind
theorem no11:x*x*x*x*x-9*(x*x*x*x)*y+28*(x*x*x)*(y*y)-35*(x*x)*(y*y*y)+15*x*(y*y*y*y)-y*y*y*y*y≠0:=fun h=>by
 have e:=zY6 (z:=x) hy
 refine frq_no (l:=frm11) frm11_no (gdiv x y) (mulc (u:=y*y*y*y*y) (qW0 (qW0 (qW0 (qW0 hy hy) hy) hy) hy) ?_)
 generalize gdiv x y=s at *
 have hf:frq frm11 s=s*s*s*s*s-9*(s*s*s*s)+28*(s*s*s)-35*(s*s)+15*s-1:=by
  have e0:(⟨((1:Int):Rat),0⟩:GQ)=gnat 1:=fr_p 1
  have e1:(⟨((-9:Int):Rat),0⟩:GQ) = -(gnat 9):=fr_m 9
  have e2:(⟨((28:Int):Rat),0⟩:GQ)=gnat 28:=fr_p 28
  have e3:(⟨((-35:Int):Rat),0⟩:GQ) = -(gnat 35):=fr_m 35
  have e4:(⟨((15:Int):Rat),0⟩:GQ)=gnat 15:=fr_p 15
  have e5:(⟨((-1:Int):Rat),0⟩:GQ) = -(gnat 1):=fr_m 1
  show (((((((0:GQ)*s+⟨((1:Int):Rat),0⟩)*s+⟨((-9:Int):Rat),0⟩)*s+⟨((28:Int):Rat),0⟩)*s+⟨((-35:Int):Rat),0⟩)*s+⟨((15:Int):Rat),0⟩)*s+⟨((-1:Int):Rat),0⟩)=_
  rw [e0,e1,e2,e3,e4,e5]
  have g1:gnat 1=(1:GQ):=rfl; have g9:gnat 9=(9:GQ):=rfl; have g15:gnat 15=(15:GQ):=rfl; have g28:gnat 28=(28:GQ):=rfl; have g35:gnat 35=(35:GQ):=rfl
  rw [g1,g9,g15,g28,g35]
  grind
 rw [hf]
 have:y*y*y*y*y*(s*s*s*s*s-9*(s*s*s*s)+28*(s*s*s)-35*(s*s)+15*s-1)=(s*y)*(s*y)*(s*y)*(s*y)*(s*y)-9*((s*y)*(s*y)*(s*y)*(s*y))*y+28*((s*y)*(s*y)*(s*y))*(y*y)-35*((s*y)*(s*y))*(y*y*y)+15*(s*y)*(y*y*y*y)-y*y*y*y*y:=by grind
 rw [this,e,h]; grind
end
def oR (m:MQ):Nat→GQ
 | 0=>mtr m*mtr m
 | k+1=>oR m k-mdet m
structure OrdIs (m:MQ) (r:Nat):Prop where
 one:r=1↔Scl m
 two:r=2→oR m 0=0
 three:r=3→oR m 0≠0∧oR m 1=0
 four:r=4→oR m 0≠0∧oR m 1≠0∧oR m 2=0
 six:r=6→oR m 0≠0∧oR m 1≠0∧oR m 2≠0∧oR m 3=0
 none:r=0→oR m 0≠0∧oR m 1≠0∧oR m 2≠0∧oR m 3≠0
 all:r=0∨r=1∨r=2∨r=3∨r=4∨r=6
theorem OrdIs.ex (m:MQ):∃ r,OrdIs m r:=by
 by_cases h1:Scl m
 · exact ⟨1,⟨fun _=>h1,fun _=>rfl⟩,(fun h=>by cases h),(fun h=>by cases h),(fun h=>by cases h),(fun h=>by cases h),(fun h=>by cases h),by decide⟩
 by_cases h2:oR m 0=0
 · exact ⟨2,⟨(fun h=>by cases h),fun h=>absurd h h1⟩,fun _=>h2,(fun h=>by cases h),(fun h=>by cases h),(fun h=>by cases h),(fun h=>by cases h),by decide⟩
 by_cases h3:oR m 1=0
 · exact ⟨3,⟨(fun h=>by cases h),fun h=>absurd h h1⟩,(fun h=>by cases h),fun _=>⟨h2,h3⟩,(fun h=>by cases h),(fun h=>by cases h),(fun h=>by cases h),by decide⟩
 by_cases h4:oR m 2=0
 · exact ⟨4,⟨(fun h=>by cases h),fun h=>absurd h h1⟩,(fun h=>by cases h),(fun h=>by cases h),fun _=>⟨h2,h3,h4⟩,(fun h=>by cases h),(fun h=>by cases h),by decide⟩
 by_cases h6:oR m 3=0
 · exact ⟨6,⟨(fun h=>by cases h),fun h=>absurd h h1⟩,(fun h=>by cases h),(fun h=>by cases h),(fun h=>by cases h),fun _=>⟨h2,h3,h4,h6⟩,(fun h=>by cases h),by decide⟩
 · exact ⟨0,⟨(fun h=>by cases h),fun h=>absurd h h1⟩,(fun h=>by cases h),(fun h=>by cases h),(fun h=>by cases h),(fun h=>by cases h),fun _=>⟨h2,h3,h4,h6⟩,by decide⟩
def FirstP (m:MQ) (r:Nat):Prop:=(r=0∧∀ k,1≤k→k≤12→mpw m k≠mid false)∨(1≤r∧r≤12∧mpw m r=mid false∧∀ k,1≤k→k<r→mpw m k≠mid false)
theorem uz {m:MQ} (h:Reg m) (k:Nat) (hk:1≤k) (h12:k≤12) (h2:oR m 0≠0) :
  (mU m 2≠0)∧(oR m 1≠0→mU m 3≠0∧mU m 9≠0)∧(oR m 2≠0→mU m 4≠0∧mU m 8≠0)∧(oR m 1≠0→oR m 3≠0→mU m 6≠0)∧(oR m 1≠0→oR m 2≠0→oR m 3≠0→mU m 12≠0)∧mU m 10≠0:=by
 have hd:mdet m≠0:=fun e=>h (e.trans g0_def.symm)
 have ht:mtr m≠0:=fun e=>h2 (by show mtr m*mtr m=0; rw [e]; grind)
 have e1:mtr m*mtr m-mdet m=oR m 1:=rfl
 have e2:mtr m*mtr m-(mdet m+mdet m)=oR m 2:=by show _=mtr m*mtr m-mdet m-mdet m; grind
 have e2':mtr m*mtr m-2*mdet m=oR m 2:=by show _=mtr m*mtr m-mdet m-mdet m; grind
 have e3:mtr m*mtr m-3*mdet m=oR m 3:=by show _=mtr m*mtr m-mdet m-mdet m-mdet m; grind
 refine ⟨?_,fun k1=>⟨?_,?_⟩,fun k2=>⟨?_,?_⟩,fun k1 k3=>?_,fun k1 k2 k3=>?_,?_⟩
 · rw [mU_2]; exact ht
 · rw [mU_3,e1]; exact k1
 · rw [mU_9,e1]; exact qW0 k1 (no9 hd)
 · rw [mU_4,e2]; exact qW0 ht k2
 · rw [mU_8,e2']; exact qW0 ht (qW0 k2 (no8 hd))
 · rw [mU_6,e1,e3]; exact qW0 ht (qW0 k1 k3)
 · rw [mU_12,e1,e2',e3]; exact qW0 ht (qW0 k1 (qW0 k2 (qW0 k3 (no12 hd))))
 · rw [mU_10]; exact qW0 ht (qW0 (no5 hd) (no10 hd))
theorem uo {m:MQ} (h:Reg m):mU m 1≠0∧mU m 5≠0∧mU m 7≠0∧mU m 11≠0:=by
 have hd:mdet m≠0:=fun e=>h (e.trans g0_def.symm)
 refine ⟨g1_ne,?_,?_,?_⟩
 · rw [mU_5]; exact no5 hd
 · rw [mU_7]; exact no7 hd
 · rw [mU_11]; exact no11 hd
theorem first_of {m:MQ} (h:Reg m) (ht:m.t=false) {r:Nat} (hr:OrdIs m r):FirstP m r:=by
 have hd:mdet m≠0:=fun e=>h (e.trans g0_def.symm)
 have key:∀ k,1≤k→(mpw m k=mid false↔Scl m∨mU m k=0):=fun k hk=>by
  obtain ⟨k,rfl⟩:∃ j,k=j+1:=⟨k-1,by omega⟩
  rw [mpw_scl h,mrw_scl m ht]
 have e1:mtr m*mtr m-mdet m=oR m 1:=rfl
 have e2:mtr m*mtr m-(mdet m+mdet m)=oR m 2:=by show _=mtr m*mtr m-mdet m-mdet m; grind
 have e3:mtr m*mtr m-3*mdet m=oR m 3:=by show _=mtr m*mtr m-mdet m-mdet m-mdet m; grind
 obtain ⟨o1,o5,o7,o11⟩:=uo h
 have hS:r≠1→¬ Scl m:=fun hn hs=>hn (hr.one.2 hs)
 rcases hr.all with e | e | e | e | e | e
 · subst e
   have hs:=hS (by decide)
   obtain ⟨h2,h3,h4,h6⟩:=hr.none rfl
   obtain ⟨a2,a3,a4,a6,a12,a10⟩:=uz h 1 (by decide) (by decide) h2
   refine .inl ⟨rfl,fun k hk h12 e=>?_⟩
   rcases (key k hk).1 e with e | e
   · exact hs e
   · have:k=1∨k=2∨k=3∨k=4∨k=5∨k=6∨k=7∨k=8∨k=9∨k=10∨k=11∨k=12:=by omega
     rcases this with rfl | rfl | rfl | rfl | rfl | rfl | rfl | rfl | rfl | rfl | rfl | rfl
     · exact o1 e
     · exact a2 e
     · exact (a3 h3).1 e
     · exact (a4 h4).1 e
     · exact o5 e
     · exact a6 h3 h6 e
     · exact o7 e
     · exact (a4 h4).2 e
     · exact (a3 h3).2 e
     · exact a10 e
     · exact o11 e
     · exact a12 h3 h4 h6 e
 · subst e
   exact .inr ⟨by decide,by decide,(key 1 (by decide)).2 (.inl (hr.one.1 rfl)),fun k hk hl=>by omega⟩
 · subst e
   have hs:=hS (by decide)
   have h2:=hr.two rfl
   refine .inr ⟨by decide,by decide,(key 2 (by decide)).2 (.inr ?_),fun k hk hl e=>?_⟩
   · rw [mU_2]
     exact (mul0 h2).elim id id
   · obtain rfl:k=1:=by omega
     exact ((key 1 hk).1 e).elim hs o1
 · subst e
   have hs:=hS (by decide)
   obtain ⟨h2,h3⟩:=hr.three rfl
   obtain ⟨a2,a3,a4,a6,a12,a10⟩:=uz h 1 (by decide) (by decide) h2
   refine .inr ⟨by decide,by decide,(key 3 (by decide)).2 (.inr (by rw [mU_3,e1,h3])),fun k hk hl e=>?_⟩
   rcases (key k hk).1 e with e | e
   · exact hs e
   · have:k=1∨k=2:=by omega
     rcases this with rfl | rfl
     · exact o1 e
     · exact a2 e
 · subst e
   have hs:=hS (by decide)
   obtain ⟨h2,h3,h4⟩:=hr.four rfl
   obtain ⟨a2,a3,a4,a6,a12,a10⟩:=uz h 1 (by decide) (by decide) h2
   refine .inr ⟨by decide,by decide,(key 4 (by decide)).2 (.inr (by rw [mU_4,e2,h4]; grind)),fun k hk hl e=>?_⟩
   rcases (key k hk).1 e with e | e
   · exact hs e
   · have:k=1∨k=2∨k=3:=by omega
     rcases this with rfl | rfl | rfl
     · exact o1 e
     · exact a2 e
     · exact (a3 h3).1 e
 · subst e
   have hs:=hS (by decide)
   obtain ⟨h2,h3,h4,h6⟩:=hr.six rfl
   obtain ⟨a2,a3,a4,a6,a12,a10⟩:=uz h 1 (by decide) (by decide) h2
   refine .inr ⟨by decide,by decide,(key 6 (by decide)).2 (.inr (by rw [mU_6,e1,e3,h6]; grind)),fun k hk hl e=>?_⟩
   rcases (key k hk).1 e with e | e
   · exact hs e
   · have:k=1∨k=2∨k=3∨k=4∨k=5:=by omega
     rcases this with rfl | rfl | rfl | rfl | rfl
     · exact o1 e
     · exact a2 e
     · exact (a3 h3).1 e
     · exact (a4 h4).1 e
     · exact o5 e
theorem mrw_two (m:MQ):∀ k,mrw m (k+k)=mrw (mbeh m m) k
 | 0=>rfl
 | k+1=>by
  have e:k+1+(k+1)=(k+k)+1+1:=by omega
  rw [e]
  show mbeh m (mbeh m (mrw m (k+k)))=mbeh (mbeh m m) (mrw (mbeh m m) k)
  rw [beh_assoc,mrw_two m k]
theorem mrw_li {m n:MQ} (h:Mli m n):∀ k,Mli (mrw m k) (mrw n k)
 | 0=>Mli.rf _
 | k+1=>h.beh (mrw_li h k)
theorem mpw_two {m:MQ} (h:Reg m) (k:Nat):mpw m (k+k)=mpw (mcmp m m) k:=by
 have hb:Reg (mbeh m m):=h.beh h
 rw [mpw_eq h,mpw_eq (h.cmp h),mrw_two]
 exact (mrw_li (Mli.norm hb) k).eq (mrw_reg (h.cmp h) k)
theorem mrw_odd {m:MQ} (ht:m.t=true):∀ k,(mrw m (k+k+1)).t=true∧(mrw m (k+k)).t=false
 | 0=>⟨by show (m.t != false)=true; rw [ht]; rfl,rfl⟩
 | k+1=>by
  obtain ⟨h1,h2⟩:=mrw_odd ht k
  have e:k+1+(k+1)=(k+k+1)+1:=by omega
  have h3:(mrw m (k+k+1+1)).t=false:=by
   show (m.t != (mrw m (k+k+1)).t)=false
   rw [ht,h1]; rfl
  refine ⟨?_,by rw [e]; exact h3⟩
  rw [e]
  show (m.t != (mrw m (k+k+1+1)).t)=true
  rw [ht,h3]; rfl
theorem nat_half (k:Nat):∃ j,k=2*j∨k=2*j+1:=⟨k/2,by omega⟩
theorem first_two {m:MQ} (h:Reg m) (ht:m.t=true) {r:Nat} (hr:OrdIs (mcmp m m) r):FirstP m (2*r):=by
 have hc:(mcmp m m).t=false:=by
  show (m.t != m.t)=false
  rw [ht]; rfl
 have hodd:∀ k,mpw m (k+k+1)≠mid false:=fun k e=>by
  have:=((mpw_scl h _).1 e).2.2.2
  rw [(mrw_odd ht k).1] at this
  cases this
 have hall:=hr.all
 rcases first_of (h.cmp h) hc hr with ⟨rfl,h0⟩ | ⟨h1,h2,h3,h4⟩
 · refine .inl ⟨rfl,fun k hk h12 e=>?_⟩
   rcases nat_half k with ⟨j,rfl | rfl⟩
   · rw [show 2*j=j+j by omega,mpw_two h] at e
     exact h0 j (by omega) (by omega) e
   · rw [show 2*j+1=j+j+1 by omega] at e
     exact hodd j e
 · refine .inr ⟨by omega,by omega,?_,fun k hk hl e=>?_⟩
   · rw [show 2*r=r+r by omega,mpw_two h]; exact h3
   · rcases nat_half k with ⟨j,rfl | rfl⟩
     · rw [show 2*j=j+j by omega,mpw_two h] at e
       exact h4 j (by omega) (by omega) e
     · rw [show 2*j+1=j+j+1 by omega] at e
       exact hodd j e
end Go.Proofs.YtbepimnlleilfaaGreat
end
section
namespace Go.Proofs.YtbepimnlleilfaaGreat.Y
open Go Go.RowKit
set_option maxRecDepth 100000
noncomputable def sIsF {m n:MQ} (h:MSz KE m) (k:MSz KE n) (ht:m.t=false) (hu:n.t=false) {r:Bool} (hr:(qQ6 (gsub m.a n.a)&&(qQ6 (gsub m.b n.b)&&(qQ6 (gsub m.c n.c)&&qQ6 (gsub m.d n.d))))=r):Spec Tryz.prog :=
 ⟨289,Tryz.call289,[mV 0 m,mV 8 n],mM m++mM n,.one (.c (.b (.v (.bool r)))),[],fun β w hh=>by
  obtain ⟨a,b,c,d,t⟩:=m
  obtain ⟨a',b',c',d',t'⟩:=n
  cases ht
  cases hu
  cases h1:qQ6 (gsub a a') with
  | false =>
   obtain rfl:r=false:=by rw [← hr]; dsimp only; rw [h1]; rfl
   exact qQ1 (args:=[mV 0 ⟨a,b,c,d,false⟩,mV 8 ⟨a',b',c',d',false⟩]) (obs:=mM ⟨a,b,c,d,false⟩++mM ⟨a',b',c',d',false⟩) (evs:=[(zW9 (z:=a) (w:=a') h.a k.a h1).e]) (Ns:=[]) (m:=400) Tryz.func289 hmA (fun β=>by kernel_rfl) (by kernel_rfl) β w hh
  | true=>cases h2:qQ6 (gsub b b') with
   | false =>
    obtain rfl:r=false:=by rw [← hr]; dsimp only; rw [h1,h2]; rfl
    exact qQ1 (args:=[mV 0 ⟨a,b,c,d,false⟩,mV 8 ⟨a',b',c',d',false⟩]) (obs:=mM ⟨a,b,c,d,false⟩++mM ⟨a',b',c',d',false⟩) (evs:=[(zW9 (z:=a) (w:=a') h.a k.a h1).e,(zW9 (z:=b) (w:=b') h.b k.b h2).e]) (Ns:=[]) (m:=400) Tryz.func289 hmA (fun β=>by kernel_rfl) (by kernel_rfl) β w hh
   | true=>cases h3:qQ6 (gsub c c') with
    | false =>
     obtain rfl:r=false:=by rw [← hr]; dsimp only; rw [h1,h2,h3]; rfl
     exact qQ1 (args:=[mV 0 ⟨a,b,c,d,false⟩,mV 8 ⟨a',b',c',d',false⟩]) (obs:=mM ⟨a,b,c,d,false⟩++mM ⟨a',b',c',d',false⟩) (evs:=[(zW9 (z:=a) (w:=a') h.a k.a h1).e,(zW9 (z:=b) (w:=b') h.b k.b h2).e,(zW9 (z:=c) (w:=c') h.c k.c h3).e]) (Ns:=[]) (m:=400) Tryz.func289 hmA (fun β=>by kernel_rfl) (by kernel_rfl) β w hh
    | true=>cases h4:qQ6 (gsub d d') with
     | false =>
      obtain rfl:r=false:=by rw [← hr]; dsimp only; rw [h1,h2,h3,h4]; rfl
      exact qQ1 (args:=[mV 0 ⟨a,b,c,d,false⟩,mV 8 ⟨a',b',c',d',false⟩]) (obs:=mM ⟨a,b,c,d,false⟩++mM ⟨a',b',c',d',false⟩) (evs:=[(zW9 (z:=a) (w:=a') h.a k.a h1).e,(zW9 (z:=b) (w:=b') h.b k.b h2).e,(zW9 (z:=c) (w:=c') h.c k.c h3).e,(zW9 (z:=d) (w:=d') h.d k.d h4).e]) (Ns:=[]) (m:=400) Tryz.func289 hmA (fun β=>by kernel_rfl) (by kernel_rfl) β w hh
     | true =>
      obtain rfl:r=true:=by rw [← hr]; dsimp only; rw [h1,h2,h3,h4]; rfl
      exact qQ1 (args:=[mV 0 ⟨a,b,c,d,false⟩,mV 8 ⟨a',b',c',d',false⟩]) (obs:=mM ⟨a,b,c,d,false⟩++mM ⟨a',b',c',d',false⟩) (evs:=[(zW9 (z:=a) (w:=a') h.a k.a h1).e,(zW9 (z:=b) (w:=b') h.b k.b h2).e,(zW9 (z:=c) (w:=c') h.c k.c h3).e,(zW9 (z:=d) (w:=d') h.d k.d h4).e]) (Ns:=[]) (m:=400) Tryz.func289 hmA (fun β=>by kernel_rfl) (by kernel_rfl) β w hh,by kernel_rfl⟩
noncomputable def sIsT {m n:MQ} (ht:m.t=true) (hu:n.t=false):Spec Tryz.prog :=
 ⟨289,Tryz.call289,[mV 0 m,mV 8 n],mM m++mM n,.one (.c (.b (.v (.bool false)))),[],fun β w hh=>by
  obtain ⟨a,b,c,d,t⟩:=m
  obtain ⟨a',b',c',d',t'⟩:=n
  cases ht
  cases hu
  exact qQ1 (args:=[mV 0 ⟨a,b,c,d,true⟩,mV 8 ⟨a',b',c',d',false⟩]) (obs:=mM ⟨a,b,c,d,true⟩++mM ⟨a',b',c',d',false⟩) (evs:=[]) (Ns:=[]) (m:=400) Tryz.func289 hmA (fun β=>by kernel_rfl) (by kernel_rfl) β w hh,by kernel_rfl⟩
abbrev KO:Nat:=100000
def orr (m:MQ):Nat→GQ
 | 0=>gmul (gadd m.a m.d) (gadd m.a m.d)
 | k+1=>gsub (orr m k) (mdet m)
theorem orr_eq (m:MQ):∀ k,orr m k=oR m k
 | 0=>rfl
 | k+1=>by
  show gsub (orr m k) (mdet m)=oR m k-mdet m
  rw [orr_eq m k]; rfl
theorem orr_sz {m:MQ} (h:MSz KO m):GSz 3000000 (mdet m)∧GSz 3000000 (orr m 0)∧GSz 6000001 (orr m 1)∧GSz 9000002 (orr m 2)∧GSz 12000003 (orr m 3):=by
 have hd:GSz 3000000 (mdet m):=h.det.mono (by decide)
 have h0:GSz 3000000 (orr m 0):=((h.a.add h.d).mul (h.a.add h.d)).mono (by decide)
 have h1:GSz 6000001 (orr m 1):=h0.sub hd
 have h2:GSz 9000002 (orr m 2):=h1.sub hd
 exact ⟨hd,h0,h1,h2,h2.sub hd⟩
theorem orr_z {m:MQ} {k:Nat} (h:oR m k=0):qQ6 (orr m k)=true:=by rw [gz0,orr_eq,h]
theorem orr_n {m:MQ} {k:Nat} (h:oR m k≠0):qQ6 (orr m k)=false:=by
 rw [Bool.eq_false_iff]
 intro e
 rw [gz0,orr_eq] at e
 exact h e
theorem still_is {m:MQ} (ht:m.t=false) {r:Bool} (hr:r=true↔m=mid false):(qQ6 (gsub m.a (qV1 false).a)&&(qQ6 (gsub m.b (qV1 false).b)&&(qQ6 (gsub m.c (qV1 false).c)&&qQ6 (gsub m.d (qV1 false).d))))=r:=by
 have key:∀ z w:GQ,qQ6 (gsub z w)=true↔z=w:=fun z w=>by
  rw [gz0,gsub_def]
  constructor
  · intro e; grind
  · intro e; rw [e]; grind
 obtain ⟨a,b,c,d,t⟩:=m
 obtain rfl:t=false:=ht
 have hiff:(qQ6 (gsub a (qV1 false).a)&&(qQ6 (gsub b (qV1 false).b)&&(qQ6 (gsub c (qV1 false).c)&&qQ6 (gsub d (qV1 false).d))))=true↔r=true:=by
  rw [hr,Bool.and_eq_true,Bool.and_eq_true,Bool.and_eq_true,key,key,key,key]
  constructor
  · rintro ⟨rfl,rfl,rfl,rfl⟩; rfl
  · intro e; cases e; exact ⟨rfl,rfl,rfl,rfl⟩
 exact Bool.eq_iff_iff.2 hiff
noncomputable def sOrdF {m:MQ} (h:MSz KO m) (hN:Nrm m) (hr0:Reg m) (ht:m.t=false) {r:Nat} (hr:OrdIs m r):Spec Tryz.prog :=
 ⟨149,Tryz.call149,[mV 0 m],mM m,.one (nI' (r:Int)),[],fun β w hh=>by
  have hk:MSz KE m:=h.mono (by decide)
  obtain ⟨sd,s0,s1,s2,s3⟩:=orr_sz h
  have his:∀ {q:Bool},(q=true↔r=1)→(qQ6 (gsub m.a (qV1 false).a)&&(qQ6 (gsub m.b (qV1 false).b)&&(qQ6 (gsub m.c (qV1 false).c)&&qQ6 (gsub m.d (qV1 false).d))))=q:=fun {q} hq=>still_is ht (by
   rw [hq,hr.one]
   have:=scl_norm hr0
   rw [hN.id] at this
   exact this.symm)
  have hall:=hr.all
  have ha:GSz KE (gadd m.a m.d):=(h.a.add h.d).mono (by decide)
  obtain ⟨a,b,c,d,t⟩:=m
  cases ht
  rcases hall with e | e | e | e | e | e
  · subst e
    obtain ⟨z0,z1,z2,z3⟩:=hr.none rfl
    exact qQ1 (args:=[mV 0 ⟨a,b,c,d,false⟩]) (obs:=mM ⟨a,b,c,d,false⟩) (res:=.one (nI' 0)) (evs:=[sStill.e,(sIsF (m:=⟨a,b,c,d,false⟩) (n:=qV1 false) hk zW6 rfl rfl (his (q:=false) (by decide))).e,(sAdd (h.a.mono (by decide)) (h.d.mono (by decide))).e,mulE ha ha,(qH1 (z:=orr ⟨a,b,c,d,false⟩ 0) (orr_n z0)).e,
     (sDet hk).e,(sSub (z:=orr ⟨a,b,c,d,false⟩ 0) (s0.mono (by decide)) (sd.mono (by decide))).e,(qH1 (z:=orr ⟨a,b,c,d,false⟩ 1) (orr_n z1)).e,(sDet hk).e,(sSub (z:=orr ⟨a,b,c,d,false⟩ 1) (s1.mono (by decide)) (sd.mono (by decide))).e,(qH1 (z:=orr ⟨a,b,c,d,false⟩ 2) (orr_n z2)).e,(sDet hk).e,(sSub (z:=orr ⟨a,b,c,d,false⟩ 2) (s2.mono (by decide)) (sd.mono (by decide))).e,(qH1 (z:=orr ⟨a,b,c,d,false⟩ 3) (orr_n z3)).e,(sDet hk).e,(sSub (z:=orr ⟨a,b,c,d,false⟩ 3) (s3.mono (by decide)) (sd.mono (by decide))).e]) (Ns:=[(1,4),(12,4)]) (m:=800) Tryz.func149 hmA (fun β=>by kernel_rfl) (by kernel_rfl) β w hh
  · subst e
    exact qQ1 (args:=[mV 0 ⟨a,b,c,d,false⟩]) (obs:=mM ⟨a,b,c,d,false⟩) (res:=.one (nI' 1)) (evs:=[sStill.e,(sIsF (m:=⟨a,b,c,d,false⟩) (n:=qV1 false) hk zW6 rfl rfl (his (q:=true) (by decide))).e]) (Ns:=[(1,4),(12,4)]) (m:=800) Tryz.func149 hmA (fun β=>by kernel_rfl) (by kernel_rfl) β w hh
  · subst e
    exact qQ1 (args:=[mV 0 ⟨a,b,c,d,false⟩]) (obs:=mM ⟨a,b,c,d,false⟩) (res:=.one (nI' 2)) (evs:=[sStill.e,(sIsF (m:=⟨a,b,c,d,false⟩) (n:=qV1 false) hk zW6 rfl rfl (his (q:=false) (by decide))).e,(sAdd (h.a.mono (by decide)) (h.d.mono (by decide))).e,mulE ha ha,(qH1 (z:=orr ⟨a,b,c,d,false⟩ 0) (orr_z (hr.two rfl))).e]) (Ns:=[(1,4),(12,4)]) (m:=800) Tryz.func149 hmA (fun β=>by kernel_rfl) (by kernel_rfl) β w hh
  · subst e
    obtain ⟨z0,z1⟩:=hr.three rfl
    exact qQ1 (args:=[mV 0 ⟨a,b,c,d,false⟩]) (obs:=mM ⟨a,b,c,d,false⟩) (res:=.one (nI' 3)) (evs:=[sStill.e,(sIsF (m:=⟨a,b,c,d,false⟩) (n:=qV1 false) hk zW6 rfl rfl (his (q:=false) (by decide))).e,(sAdd (h.a.mono (by decide)) (h.d.mono (by decide))).e,mulE ha ha,(qH1 (z:=orr ⟨a,b,c,d,false⟩ 0) (orr_n z0)).e,
     (sDet hk).e,(sSub (z:=orr ⟨a,b,c,d,false⟩ 0) (s0.mono (by decide)) (sd.mono (by decide))).e,(qH1 (z:=orr ⟨a,b,c,d,false⟩ 1) (orr_z z1)).e]) (Ns:=[(1,4),(12,4)]) (m:=800) Tryz.func149 hmA (fun β=>by kernel_rfl) (by kernel_rfl) β w hh
  · subst e
    obtain ⟨z0,z1,z2⟩:=hr.four rfl
    exact qQ1 (args:=[mV 0 ⟨a,b,c,d,false⟩]) (obs:=mM ⟨a,b,c,d,false⟩) (res:=.one (nI' 4)) (evs:=[sStill.e,(sIsF (m:=⟨a,b,c,d,false⟩) (n:=qV1 false) hk zW6 rfl rfl (his (q:=false) (by decide))).e,(sAdd (h.a.mono (by decide)) (h.d.mono (by decide))).e,mulE ha ha,(qH1 (z:=orr ⟨a,b,c,d,false⟩ 0) (orr_n z0)).e,
     (sDet hk).e,(sSub (z:=orr ⟨a,b,c,d,false⟩ 0) (s0.mono (by decide)) (sd.mono (by decide))).e,(qH1 (z:=orr ⟨a,b,c,d,false⟩ 1) (orr_n z1)).e,(sDet hk).e,(sSub (z:=orr ⟨a,b,c,d,false⟩ 1) (s1.mono (by decide)) (sd.mono (by decide))).e,(qH1 (z:=orr ⟨a,b,c,d,false⟩ 2) (orr_z z2)).e]) (Ns:=[(1,4),(12,4)]) (m:=800) Tryz.func149 hmA (fun β=>by kernel_rfl) (by kernel_rfl) β w hh
  · subst e
    obtain ⟨z0,z1,z2,z3⟩:=hr.six rfl
    exact qQ1 (args:=[mV 0 ⟨a,b,c,d,false⟩]) (obs:=mM ⟨a,b,c,d,false⟩) (res:=.one (nI' 6)) (evs:=[sStill.e,(sIsF (m:=⟨a,b,c,d,false⟩) (n:=qV1 false) hk zW6 rfl rfl (his (q:=false) (by decide))).e,(sAdd (h.a.mono (by decide)) (h.d.mono (by decide))).e,mulE ha ha,(qH1 (z:=orr ⟨a,b,c,d,false⟩ 0) (orr_n z0)).e,
     (sDet hk).e,(sSub (z:=orr ⟨a,b,c,d,false⟩ 0) (s0.mono (by decide)) (sd.mono (by decide))).e,(qH1 (z:=orr ⟨a,b,c,d,false⟩ 1) (orr_n z1)).e,(sDet hk).e,(sSub (z:=orr ⟨a,b,c,d,false⟩ 1) (s1.mono (by decide)) (sd.mono (by decide))).e,(qH1 (z:=orr ⟨a,b,c,d,false⟩ 2) (orr_n z2)).e,(sDet hk).e,(sSub (z:=orr ⟨a,b,c,d,false⟩ 2) (s2.mono (by decide)) (sd.mono (by decide))).e,(qH1 (z:=orr ⟨a,b,c,d,false⟩ 3) (orr_z z3)).e]) (Ns:=[(1,4),(12,4)]) (m:=800) Tryz.func149 hmA (fun β=>by kernel_rfl) (by kernel_rfl) β w hh,by kernel_rfl⟩
theorem ord_w {r:Nat} (h:r≤6):IntKind.i64.wrap (2*(r:Int))=((2*r:Nat):Int):=by rw [IntKind.wrap_i64]; omega
noncomputable def sOrdT {m:MQ} (h:MSz 1024 m) (hr0:Reg m) (ht:m.t=true) {r:Nat} (hr:OrdIs (mcmp m m) r):Spec Tryz.prog :=
 ⟨149,Tryz.call149,[mV 0 m],mM m,.one (nI' ((2*r:Nat):Int)),[],fun β w hh=>by
  have hk:MSz KE m:=h.mono (by decide)
  have hb:Reg (mbeh m m):=hr0.beh hr0
  have hs:MSz KO (mcmp m m):=(mcmp_sz h h hb).mono (by decide)
  have hct:(mcmp m m).t=false:=by
   show (m.t != m.t)=false
   rw [ht]; rfl
  have hw:IntKind.i64.wrap (2*(r:Int))=((2*r:Nat):Int):=ord_w (by have:=hr.all; omega)
  obtain ⟨a,b,c,d,t⟩:=m
  cases ht
  exact qQ1 (args:=[mV 0 ⟨a,b,c,d,true⟩]) (obs:=mM ⟨a,b,c,d,true⟩) (evs:=[sStill.e,(sIsT (m:=⟨a,b,c,d,true⟩) (n:=qV1 false) rfl rfl).e,(sBehR hk hk hb).e,(sOrdF hs (Nrm.cmp hr0 hr0) (hr0.cmp hr0) hct hr).e,.eqv 18 (.int .i64 (IntKind.i64.wrap (2*(r:Int)))) (.int .i64 ((2*r:Nat):Int)) (by rw [hw])]) (Ns:=[(1,4),(12,4)]) (m:=800) Tryz.func149 hmA (fun β=>by kernel_rfl) (by kernel_rfl) β w hh,by kernel_rfl⟩
theorem ord_ex {q:MQ} (h:MayQ q):∃ k:Nat,FirstP q k∧∃ S:Spec Tryz.prog,S.f=28∧S.args=[.one (.a (mCl q))]∧S.obs=[]∧S.res=.tup [nI' (k:Int),nI' 0]∧S.news=[]:=by
 have hs:=qX3 h.1
 cases ht:q.t with
 | false =>
  obtain ⟨r,hr⟩:=OrdIs.ex q
  exact ⟨r,first_of h.reg ht hr,Spec.auto Tryz.call28 [.one (.a (mCl q))] [] (.tup [nI' (r:Int),nI' 0]) [] [(zQ6 h).e,(sOrdF (hs.mono (by decide)) h.nrm h.reg ht hr).e] [] 800 Tryz.func28 hmA (by kernel_rfl) (fun β=>by kernel_rfl),rfl,rfl,rfl,rfl,rfl⟩
 | true =>
  obtain ⟨r,hr⟩:=OrdIs.ex (mcmp q q)
  exact ⟨2*r,first_two h.reg ht hr,Spec.auto Tryz.call28 [.one (.a (mCl q))] [] (.tup [nI' ((2*r:Nat):Int),nI' 0]) [] [(zQ6 h).e,(sOrdT hs h.reg ht hr).e] [] 800 Tryz.func28 hmA (by kernel_rfl) (fun β=>by kernel_rfl),rfl,rfl,rfl,rfl,rfl⟩
end Go.Proofs.YtbepimnlleilfaaGreat.Y
end
section
namespace Go.Proofs.YtbepimnlleilfaaGreat.Y
open Go Go.RowKit
inductive Stop (P:Program) where
 | ended (f:Cf P)
 | head (c:Code) (ks:List Kf) (f:Cf P)
def Stop.cf {P:Program}:Stop P→Cf P
 | .ended f=>f
 | .head _ _ f=>f
def runP (P:Program) (m0 n:Nat) (Ns:List (Nat × Nat)):Nat→Option Code→List Kf→Cf P→Option (Stop P)
 | 0,_,_,_=>none
 | m+1,oc,ks,f=>match oc with
  | none=>match ks with
   | []=>some (.ended f)
   | .sq c::r=>runP P m0 n Ns m (some c) r f
   | .bl _::r=>runP P m0 n Ns m none r f
   | .lp c::r=>match f.ev with
    | .cut::ev'=>some (.head c r { f with ev:=ev' })
    | _=>runP P m0 n Ns m (some c) (.lp c::r) f
   | .sc::r=>runP P m0 n Ns m none r f
  | some c=>match c with
   | .skip=>runP P m0 n Ns m none ks f
   | .label _=>runP P m0 n Ns m none ks f
   | .region id ops d=>match (bif d then drawS1 P m0 n Ns id ops.toList f else seqS P m0 n ops ops.toList f) with
    | some f'=>runP P m0 n Ns m none ks f'
    | none=>none
   | .seq a b=>runP P m0 n Ns m (some a) (.sq b::ks) f
   | .cond x a b=>match evS idE f.sl x with
    | .bool true=>runP P m0 n Ns m (some a) ks { f with cs:=(fun β=>[(.v (evS β f.sl x),.v (.bool true))])::f.cs }
    | .bool false=>runP P m0 n Ns m (some b) ks { f with cs:=(fun β=>[(.v (evS β f.sl x),.v (.bool false))])::f.cs }
    | _=>none
   | .block id c=>runP P m0 n Ns m (some c) (.bl id::ks) f
   | .loop c=>match f.ev with
    | .cut::ev'=>some (.head c ks { f with ev:=ev' })
    | _=>runP P m0 n Ns m (some c) (.lp c::ks) f
   | .scope c=>runP P m0 n Ns m (some c) (.sc::ks) f
   | .exit id=>match popTo id ks with
    | some r=>runP P m0 n Ns m none r f
    | none=>none
   | .ret=>some (.ended f)
   | _=>none
def Stop.after {P:Program} (Q:Exit→Act→World→Prop) (a:Act) (w:World):Stop P→Prop
 | .ended _=>Q .normal a w∧Q .ret a w
 | .head c ks _=>Rounds P c (post P Q ks) a w
theorem Sync.ev {P:Program} {m0 n:Nat} {B0:Bd} {w0:World} {c:Cf P} {β:Env} {a:Act} {w:World} (h:Sync P m0 n B0 w0 c β a w) (x:List (Ev P)):Sync P m0 n B0 w0 { c with ev:=x } β a w:=⟨h.good,h.q,h.sl,h.of,h.m0,h.defers,h.uq⟩
theorem runP_ok {P:Program} {m0 n:Nat} {Ns:List (Nat × Nat)} (hm:P.follows .mixedOrders=true):∀ (m:Nat) (oc:Option Code) (ks:List Kf) (f:Cf P) (s:Stop P),runP P m0 n Ns m oc ks f=some s→f.full→(∀ x∈f.cs,x∈s.cf.cs)∧s.cf.full ∧
  (s.cf.good→∀ {B0:Bd} {w0:World} {β:Env} {a:Act} {w:World},Sync P m0 n B0 w0 f β a w→∀ (Q:Exit→Act→World→Prop),(∀ β' a' w',(∀ k,k<B0.k→β' k=β k)→Sync P m0 n B0 w0 s.cf β' a' w'→s.after Q a' w')→toShow P Q oc ks a w):=by
 intro m
 induction m with
 | zero=>intro oc ks f f' h; simp only [runP] at h; cases h
 | succ m ih =>
  intro oc ks f f' h hf
  simp only [runP] at h
  cases oc with
  | none =>
   dsimp only at h
   cases ks with
   | nil =>
    obtain rfl:=Option.some.inj h
    exact ⟨fun _ hx=>hx,hf,fun _ B0 w0 β a w s Q hQ=>(hQ β a w (fun _ _=>rfl) s).1⟩
   | cons x r =>
    cases x with
    | sq c=>obtain ⟨i1,i2,i3⟩:=ih _ _ _ _ h hf; exact ⟨i1,i2,fun hg B0 w0 β a w s Q hQ=>i3 hg s Q hQ⟩
    | bl j =>
     obtain ⟨i1,i2,i3⟩:=ih _ _ _ _ h hf
     exact ⟨i1,i2,fun hg B0 w0 β a w s Q hQ=>i3 hg s Q hQ⟩
    | lp c =>
     dsimp only at h
     split at h
     · obtain rfl:=Option.some.inj h
       exact ⟨fun _ hx=>hx,hf,fun _ B0 w0 β a w s Q hQ=>hQ β a w (fun _ _=>rfl) (s.ev _)⟩
     · obtain ⟨i1,i2,i3⟩:=ih _ _ _ _ h hf
       exact ⟨i1,i2,fun hg B0 w0 β a w s Q hQ=>qW5 (i3 hg s Q hQ)⟩
    | sc=>obtain ⟨i1,i2,i3⟩:=ih _ _ _ _ h hf; exact ⟨i1,i2,fun hg B0 w0 β a w s Q hQ=>i3 hg s Q hQ⟩
  | some c =>
   cases c with
   | skip=>obtain ⟨i1,i2,i3⟩:=ih _ _ _ _ h hf; exact ⟨i1,i2,fun hg B0 w0 β a w s Q hQ=>wp_skip (i3 hg s Q hQ)⟩
   | label l=>obtain ⟨i1,i2,i3⟩:=ih _ _ _ _ h hf; exact ⟨i1,i2,fun hg B0 w0 β a w s Q hQ=>wp_label (i3 hg s Q hQ)⟩
   | region rid ops d =>
    dsimp only at h
    split at h
    · rename_i f1 h1
      cases d with
      | true =>
       simp only [cond_true] at h1
       have hf1:=zH1 h1 hf
       obtain ⟨i1,i2,i3⟩:=ih _ _ _ _ h hf1
       obtain ⟨j1,j2⟩:=drawS1_ok hm h1 (fun k hk=>(hf.1 k).1 hk) hf.2
       refine ⟨fun x hx=>i1 x (j1 x hx),i2,fun hg B0 w0 β a w s Q hQ=>?_⟩
       have:=j2 (fun β x hx=>hg β x (i1 x hx)) s (post P Q ks) fun β' a' w' e s'=>i3 hg s' Q fun β2 a2 w2 e2 s2=>hQ β2 a2 w2 (fun k hk=>(e2 k hk).trans (e k hk)) s2
       unfold RegAny at this
       simp only [Array.toArray_toList] at this
       exact wp_region_any hm this
      | false =>
       simp only [cond_false] at h1
       have hf1:=zJ8 h1 hf
       obtain ⟨i1,i2,i3⟩:=ih _ _ _ _ h hf1
       obtain ⟨j1,j2⟩:=seqS_ok h1
       exact ⟨fun x hx=>i1 x (j1 x hx),i2,fun hg B0 w0 β a w s Q hQ=>wp_region_list (j2 (fun β x hx=>hg β x (i1 x hx)) s (post P Q ks) fun β' a' w' e s'=>i3 hg s' Q fun β2 a2 w2 e2 s2=>hQ β2 a2 w2 (fun k hk=>(e2 k hk).trans (e k hk)) s2)⟩
    · cases h
   | seq c d=>obtain ⟨i1,i2,i3⟩:=ih _ _ _ _ h hf; exact ⟨i1,i2,fun hg B0 w0 β a w s Q hQ=>wp_seq (i3 hg s Q hQ)⟩
   | cond x c d =>
    dsimp only at h
    split at h
    · obtain ⟨i1,i2,i3⟩:=ih _ _ _ _ h hf
      refine ⟨fun y hy=>i1 y (List.mem_cons_of_mem _ hy),i2,fun hg B0 w0 β a w s Q hQ=>?_⟩
      obtain ⟨e,_⟩:=Eqs.cons_ok (hg β _ (i1 _ (List.mem_cons_self ..)))
      injection e with e
      exact wp_cond_true (by rw [s.sl.eval]; exact e) (i3 hg (s.cs _) Q hQ)
    · obtain ⟨i1,i2,i3⟩:=ih _ _ _ _ h hf
      refine ⟨fun y hy=>i1 y (List.mem_cons_of_mem _ hy),i2,fun hg B0 w0 β a w s Q hQ=>?_⟩
      obtain ⟨e,_⟩:=Eqs.cons_ok (hg β _ (i1 _ (List.mem_cons_self ..)))
      injection e with e
      exact wp_cond_false (by rw [s.sl.eval]; exact e) (i3 hg (s.cs _) Q hQ)
    · cases h
   | block j c=>obtain ⟨i1,i2,i3⟩:=ih _ _ _ _ h hf; exact ⟨i1,i2,fun hg B0 w0 β a w s Q hQ=>wp_block (i3 hg s Q hQ)⟩
   | loop c =>
    dsimp only at h
    split at h
    · obtain rfl:=Option.some.inj h
      exact ⟨fun _ hx=>hx,hf,fun _ B0 w0 β a w s Q hQ=>zY0 (hQ β a w (fun _ _=>rfl) (s.ev _))⟩
    · obtain ⟨i1,i2,i3⟩:=ih _ _ _ _ h hf
      exact ⟨i1,i2,fun hg B0 w0 β a w s Q hQ=>zY0 (qW5 (i3 hg s Q hQ))⟩
   | rangeFunc _ _ _ _=>cases h
   | exit j =>
    dsimp only at h
    split at h
    · rename_i r hr
      obtain ⟨i1,i2,i3⟩:=ih _ _ _ _ h hf
      exact ⟨i1,i2,fun hg B0 w0 β a w s Q hQ=>wp_exit (zJ9 hr (i3 hg s Q hQ))⟩
    · cases h
   | scope c=>obtain ⟨i1,i2,i3⟩:=ih _ _ _ _ h hf; exact ⟨i1,i2,fun hg B0 w0 β a w s Q hQ=>wp_scope_straight (i3 hg s Q hQ)⟩
   | goto _=>cases h
   | ret =>
    obtain rfl:=Option.some.inj h
    exact ⟨fun _ hx=>hx,hf,fun _ B0 w0 β a w s Q hQ=>wp_ret (zY1 (hQ β a w (fun _ _=>rfl) s).2 ks)⟩
   | refuse _=>cases h
def loopsOf:Nat→Code→List Kf→List (Code × List Kf)
 | 0,_,_=>[]
 | m+1,c,ks=>match c with
  | .seq a b=>loopsOf m a (.sq b::ks)++loopsOf m b ks
  | .cond _ a b=>loopsOf m a ks++loopsOf m b ks
  | .block id c=>loopsOf m c (.bl id::ks)
  | .loop c=>(c,ks)::loopsOf m c (.lp c::ks)
  | .scope c=>loopsOf m c (.sc::ks)
  | _=>[]
def lpAt (fn:Func) (i:Nat):Code × List Kf:=match fn.body with
 | some c=>(loopsOf 200 c []).getD i (.skip,[])
 | none=>(.skip,[])
def Stop.pos {P:Program}:Stop P→Option (Code × List Kf)
 | .ended _=>none
 | .head c ks _=>some (c,ks)
def mkC (P:Program) (n u:Nat) (sl:List (Nat × SV)) (ob:List Ob) (ev:List (Ev P)):Cf P :=
 ⟨sl++(List.range n).map fun t=>(t,.one (.c (.b (.gh u t)))),fun k=>Nat.blt k ob.length,ob,ev,[]⟩
def tEq1 (β:Env) (σ:List Nat):Env:=fun j=>β (σ.getD j 0)
def opaqB (u t:Nat):SV→Bool
 | .one (.c (.b (.gh k i)))=>Nat.beq k u&&Nat.beq i t
 | _=>false
def layB:Ob→Bool
 | .box _ _=>true
 | .row _ _ _ _=>true
 | .ow _ _=>true
 | _=>false
def deadB:Ob→Bool
 | .dead=>true
 | _=>false
def kindB:Ob→Ob→Bool
 | .th _,.th _=>true
 | .al _ _,.th _=>true
 | .box _ _,.box _ _=>true
 | .row _ _ _ _,.row _ _ _ _=>true
 | .ow _ _,.ow _ _=>true
 | .ow _ _,.th _=>true
 | _,.dead=>true
 | _,_=>false
def wkB (m0 u:Nat) (obS obT:List Ob) (σ:List Nat):Bool :=
 Nat.beq σ.length obT.length&&Nat.ble m0 u&&Nat.blt u obT.length&&(List.range m0).all (fun i=>Nat.beq (σ.getD i 0) i) &&
 (List.range obT.length).all fun j=>match obT[j]? with
  | none=>false
  | some x=>(bif Nat.beq j u then deadB x else match obS[σ.getD j 0]? with
    | none=>false
    | some y=>kindB y x&&x.of (fun k=>Nat.blt k obT.length&&!Nat.beq k u)) &&
   (bif layB x then (!Nat.ble m0 j||Nat.ble m0 (σ.getD j 0))&&(List.range obT.length).all (fun i=>Nat.beq i j||(Nat.beq i u||((match obT[i]? with | some y=>deadB y | none=>false)||!Nat.beq (σ.getD i 0) (σ.getD j 0)))) else true)
def wkOb (β:Env) (σ:List Nat):Ob→Ob→Eqs
 | .box cs t,.box cs' t'=>[(.n t,.n t'),(.v (.agg (cs.map (Lf.den β)).toArray),.v (.agg (cs'.map (Lf.den (tEq1 β σ))).toArray))]
 | .row cs t n sz,.row cs' t' n' sz'=>[(.n t,.n t'),(.n n,.n n'),(.n sz,.n sz'),(.v (.agg (cs.map (Lf.den β)).toArray),.v (.agg (cs'.map (Lf.den (tEq1 β σ))).toArray))]
 | .ow D t,.ow D' t'=>[(.ob (.ow D t),.ob (.ow D' t'))]
 | .ow D _,.th t'=>[(.ob (.th D),.ob (.th t'))]
 | y,.th t=>[(.ob (y.plain (.th t)),.ob (.th t))]
 | _,_=>[]
def wkObs (β:Env) (obS:List Ob) (σ:List Nat):List Ob→Nat→Eqs
 | [],_=>[]
 | x::r,j=>(match obS[σ.getD j 0]? with | some y=>wkOb β σ y x | none=>(match x with | .dead=>[] | _=>Eqs.no))++wkObs β obS σ r (j+1)
def wkSl (β:Env) (u L:Nat) (σ:List Nat) (slS slT:List (Nat × SV)):Nat→Eqs
 | 0=>[]
 | t+1=>(bif opaqB u t (look slT t) then [] else bif (look slT t).of (fun k=>Nat.blt k L&&!Nat.beq k u) then [(.v ((look slS t).den β),.v ((look slT t).den (tEq1 β σ)))] else Eqs.no)++wkSl β u L σ slS slT t
def pieceE (P:Program) (m0 n:Nat) (s:Option (Stop P)) (u:Nat) (sl:List (Nat × SV)) (ob:List Ob) (σ:List Nat) (β:Env):Eqs :=
 match s with
 | some (.head _ _ f)=>(bif wkB m0 u f.ob ob σ&&Nat.beq f.ev.length 0&&sl.all (fun p=>Nat.blt p.1 n) then [] else Eqs.no)++(wkObs β f.ob σ ob 0++(wkSl β u ob.length σ f.sl (mkC P n u sl ob []).sl n++eqsOf β f.cs))
 | _=>Eqs.no
def lastE (P:Program) (fn:Func) (m0 n:Nat) (res:SV) (outs:List (Nat × Ob)) (s:Option (Stop P)) (β:Env):Eqs :=
 match s with
 | some (.ended f)=>fin1 P fn m0 n res outs f β
 | _=>Eqs.no
theorem Eqs.left {a b:Eqs} (h:Eqs.ok (a++b)):Eqs.ok a:=fun p hp=>h p (List.mem_append.2 (.inl hp))
theorem Eqs.right {a b:Eqs} (h:Eqs.ok (a++b)):Eqs.ok b:=fun p hp=>h p (List.mem_append.2 (.inr hp))
theorem bif_ok {b:Bool} (h:Eqs.ok (bif b then [] else Eqs.no)):b=true:=by
 cases b
 · exact (Eqs.no_ok h).elim
 · rfl
theorem look_none:∀ {l:List (Nat × SV)} {t:Nat},(∀ p∈l,p.1≠t)→look l t=qK7
 | [],_,_=>rfl
 | (k,x)::r,t,h=>by
  unfold look
  rw [show Nat.beq k t=false by rw [Bool.eq_false_iff,ne_eq,Nat.beq_eq]; exact h (k,x) (List.mem_cons_self ..),cond_false]
  exact look_none fun p hp=>h p (List.mem_cons_of_mem _ hp)
theorem wkObs_ok {β:Env} {obS:List Ob} {σ:List Nat}:∀ {obT:List Ob} {i:Nat},Eqs.ok (wkObs β obS σ obT i)→∀ (j:Nat) (x y:Ob),obT[j]?=some x→obS[σ.getD (i+j) 0]?=some y→Eqs.ok (wkOb β σ y x)
 | [],_,_,j,x,y,h,_=>by simp at h
 | z::r,i,h,j,x,y,hx,hy=>by
  unfold wkObs at h
  cases j with
  | zero =>
   simp only [List.getElem?_cons_zero] at hx
   obtain rfl:=Option.some.inj hx
   have:=Eqs.left h
   rw [Nat.add_zero] at hy
   rw [hy] at this
   exact this
  | succ j=>exact wkObs_ok (Eqs.right h) j x y (by simpa using hx) (by rw [show i+1+j=i+(j+1) by omega]; exact hy)
theorem opaqB_eq {u t:Nat} {x:SV} (h:opaqB u t x=true):x=.one (.c (.b (.gh u t))):=by
 unfold opaqB at h
 split at h
 · rw [Bool.and_eq_true,Nat.beq_eq,Nat.beq_eq] at h
   obtain ⟨rfl,rfl⟩:=h
   rfl
 · cases h
theorem wkSl_ok {β:Env} {u L:Nat} {σ:List Nat} {slS slT:List (Nat × SV)}:∀ {n:Nat},Eqs.ok (wkSl β u L σ slS slT n)→∀ t,t<n→look slT t=.one (.c (.b (.gh u t)))∨((look slT t).of (fun k=>Nat.blt k L&&!Nat.beq k u)=true∧(look slS t).den β=(look slT t).den (tEq1 β σ))
 | 0,_,t,h=>by omega
 | n+1,h,t,ht=>by
  unfold wkSl at h
  by_cases e:t=n
  · subst e
    have h:=Eqs.left h
    cases ho:opaqB u t (look slT t) with
    | true=>exact .inl (opaqB_eq ho)
    | false =>
     rw [ho,cond_false] at h
     cases hq:(look slT t).of (fun k=>Nat.blt k L&&!Nat.beq k u) with
     | true =>
      rw [hq,cond_true] at h
      obtain ⟨e,_⟩:=Eqs.cons_ok h
      injection e with e
      exact .inr ⟨rfl,e⟩
     | false=>rw [hq,cond_false] at h; exact (Eqs.no_ok h).elim
  · exact wkSl_ok (Eqs.right h) t (by omega)
theorem layB_iff {x:Ob}:layB x=true↔∃ p,x.layOf=some p:=by
 cases x<;>simp [layB,Ob.layOf]
theorem kind_lay {y x:Ob} (h:kindB y x=true) (hx:layB x=true):layB y=true:=by
 cases y<;>cases x<;>first | rfl | (cases h; done) | (cases hx; done)
theorem kind_dead {y x:Ob} (h:kindB y x=true) (hx:x≠.dead):y≠.dead:=by
 cases y<;>cases x<;>first | (intro e; cases e; done) | (cases h; done) | exact absurd rfl hx
theorem wk_hold {β β':Env} {w:World} {g:Pl} {σ:List Nat} {q:Nat→Bool} {y x:Ob} (hk:kindB y x=true) (he:Eqs.ok (wkOb β σ y x)) (hq:x.of q=true) (hβ:∀ k,q k=true→tEq1 β σ k=β' k) (h:y.holds β w g):x.holds β' w g:=by
 have thc:∀ (y:Ob) (t:Thing),Eqs.ok [(Tm.ob (y.plain (.th t)),Tm.ob (.th t))]→y.holds β w g→(Ob.th t).holds β' w g:=fun y t he h=>by
  obtain ⟨e,_⟩:=Eqs.cons_ok he
  injection e with e
  have:=Ob.plain_holds (x:=.th t) h
  rw [e] at this
  exact this
 cases x with
 | dead=>exact trivial
 | al r D=>cases y<;>(cases hk; done)
 | pl n=>cases y<;>(cases hk; done)
 | th t =>
  cases y<;>first | (cases hk; done) | exact thc _ t he h | skip
  obtain ⟨e,_⟩:=Eqs.cons_ok he
  injection e with e
  injection e with e
  subst e
  exact h.2
 | ow D' t' =>
  cases y<;>first | (cases hk; done) | skip
  obtain ⟨e,_⟩:=Eqs.cons_ok he
  injection e with e
  injection e with e e2
  subst e e2
  exact h
 | box cs' t' =>
  cases y<;>first | (cases hk; done) | skip
  rename_i cs t
  obtain ⟨e1,he⟩:=Eqs.cons_ok he
  obtain ⟨e2,_⟩:=Eqs.cons_ok he
  injection e1 with e1
  injection e2 with e2
  injection e2 with e2
  have e2:=congrArg Array.toList e2
  dsimp only at e2
  subst e1
  have hc:cs'.map (Lf.den (tEq1 β σ))=cs'.map (Lf.den β'):=qV9 hq (Lf.den_congr hβ)
  refine ⟨h.1,?_⟩
  rw [← hc,← e2]
  exact h.2
 | row cs' t' n' sz' =>
  cases y<;>first | (cases hk; done) | skip
  rename_i cs t n sz
  obtain ⟨e1,he⟩:=Eqs.cons_ok he
  obtain ⟨e3,he⟩:=Eqs.cons_ok he
  obtain ⟨e4,he⟩:=Eqs.cons_ok he
  obtain ⟨e2,_⟩:=Eqs.cons_ok he
  injection e1 with e1
  injection e3 with e3
  injection e4 with e4
  injection e2 with e2
  injection e2 with e2
  have e2:=congrArg Array.toList e2
  dsimp only at e2
  subst e1 e3 e4
  have hc:cs'.map (Lf.den (tEq1 β σ))=cs'.map (Lf.den β'):=qV9 hq (Lf.den_congr hβ)
  have hl:cs'.length=cs.length:=by
   have:=congrArg List.length e2
   rw [List.length_map,List.length_map] at this
   exact this.symm
  obtain ⟨h0,cur,h1,h2,h3,h4,h5,h6⟩:=h
  refine ⟨h0,cur,h1,by rw [hl]; exact h2,h3,h4,h5,?_⟩
  rw [← hc,← e2]
  exact h6
theorem wk_syncX {P:Program} {m0 n u:Nat} {B0:Bd} {w0:World} {f:Cf P} {sl:List (Nat × SV)} {ob:List Ob} {ev:List (Ev P)} {σ:List Nat} {β:Env} {a:Act} {w:World}
  (hB:wkB m0 u f.ob ob σ=true) (hn:sl.all (fun p=>Nat.blt p.1 n)=true) (hO:Eqs.ok (wkObs β f.ob σ ob 0)) (hS:Eqs.ok (wkSl β u ob.length σ f.sl (mkC P n u sl ob ev).sl n)) (h:Sync P m0 n B0 w0 f β a w) (hBk:B0.k≤m0) :
  ∃ β':Env,(∀ k,k<m0→β' k=β k)∧((∀ j,j≠u→β' j=β (σ.getD j 0))∧β' u=⟨0,fun _=>none,fun _=>0,fun _=>False,fun t=>a.tmps.getD t undef⟩)∧Sync P m0 n B0 w0 (mkC P n u sl ob ev) β' a w:=by
 unfold wkB at hB
 rw [Bool.and_eq_true,Bool.and_eq_true,Bool.and_eq_true,Bool.and_eq_true,Nat.beq_eq,Nat.ble_eq,Nat.blt_eq] at hB
 obtain ⟨⟨⟨⟨hlen,hmu⟩,hul⟩,hid⟩,hall⟩:=hB
 have hσ:∀ i,i<m0→σ.getD i 0=i:=fun i hi=>Nat.eq_of_beq_eq_true (List.all_eq_true.1 hid i (List.mem_range.2 hi))
 obtain ⟨β',hβ⟩:∃ β':Env,β'=fun j=>if j=u then ⟨0,fun _=>none,fun _=>0,fun _=>False,fun t=>a.tmps.getD t undef⟩ else β (σ.getD j 0):=⟨_,rfl⟩
 have hβu:β' u=⟨0,fun _=>none,fun _=>0,fun _=>False,fun t=>a.tmps.getD t undef⟩:=by rw [hβ]; exact if_pos rfl
 have hβo:∀ j,j≠u→β' j=β (σ.getD j 0):=fun j hj=>by rw [hβ]; exact if_neg hj
 have hβm:∀ k,k<m0→β' k=β k:=fun k hk=>by rw [hβo k (by omega),hσ k hk]
 have hq:∀ k,(Nat.blt k ob.length&&!Nat.beq k u)=true→tEq1 β σ k=β' k:=fun k hk=>by
  rw [Bool.and_eq_true,Bool.not_eq_true',Nat.blt_eq] at hk
  rw [hβo k (fun e=>by rw [e,Nat.beq_refl] at hk; cases hk.2)]
  rfl
 have hmono:∀ k,(Nat.blt k ob.length&&!Nat.beq k u)=true→Nat.blt k ob.length=true:=fun k hk=>by rw [Bool.and_eq_true] at hk; exact hk.1
 have hsrc:∀ (j:Nat) (x:Ob),ob[j]?=some x→(j=u→x=.dead)∧(j≠u→∃ y,f.ob[σ.getD j 0]?=some y∧kindB y x=true∧x.of (fun k=>Nat.blt k ob.length&&!Nat.beq k u)=true)∧(layB x=true→(m0≤j→m0≤σ.getD j 0)∧∀ (i:Nat) (y:Ob),ob[i]?=some y→y≠.dead→i≠j→i≠u→σ.getD i 0≠σ.getD j 0):=by
  intro j x hx
  have hj:j<ob.length:=(List.getElem?_eq_some_iff.1 hx).1
  have hc:=List.all_eq_true.1 hall j (List.mem_range.2 hj)
  rw [hx] at hc
  dsimp only at hc
  rw [Bool.and_eq_true] at hc
  obtain ⟨hc1,hc2⟩:=hc
  refine ⟨fun e=>?_,fun e=>?_,fun hl=>?_⟩
  · rw [e,Nat.beq_refl,cond_true] at hc1
    cases x<;>first | rfl | (cases hc1; done)
  · rw [show Nat.beq j u=false by rw [Bool.eq_false_iff,ne_eq,Nat.beq_eq]; exact e,cond_false] at hc1
    split at hc1
    · cases hc1
    · rename_i y hy
      rw [Bool.and_eq_true] at hc1
      exact ⟨y,hy,hc1.1,hc1.2⟩
  · rw [hl,cond_true,Bool.and_eq_true,Bool.or_eq_true] at hc2
    refine ⟨fun hm=>?_,fun i y hy hd hij hiu e=>?_⟩
    · rcases hc2.1 with h1 | h1
      · rw [Bool.not_eq_true',Bool.eq_false_iff,ne_eq,Nat.ble_eq] at h1
        exact absurd hm h1
      · exact Nat.le_of_ble_eq_true h1
    · have hi:i<ob.length:=(List.getElem?_eq_some_iff.1 hy).1
      have h1:=List.all_eq_true.1 hc2.2 i (List.mem_range.2 hi)
      rw [hy,Bool.or_eq_true,Bool.or_eq_true,Bool.or_eq_true,Nat.beq_eq,Nat.beq_eq,e,Nat.beq_refl] at h1
      rcases h1 with h1 | h1 | h1 | h1
      · exact hij h1
      · exact hiu h1
      · refine hd ?_
        cases y<;>first | rfl | (cases h1; done)
      · cases h1
 have hex:∀ {k:Nat} {y:Ob},f.ob[k]?=some y→f.q k=true:=fun {k y} hy=>(h.q k).2 (List.getElem?_eq_some_iff.1 hy).1
 have hob:∀ {k:Nat},Nat.blt k ob.length=true→∃ x,ob[k]?=some x:=fun {k} hk=>⟨_,List.getElem?_eq_getElem (by rw [Nat.blt_eq] at hk; exact hk)⟩
 have hfree:∀ {k:Nat} {x:Ob},ob[k]?=some x→Free (fun k=>Nat.blt k ob.length) (fun k=>ob[k]?) k→layB x=true∧k≠u:=fun {k x} hx hf=>by
  rcases hf with ⟨x',e,p,hp⟩ | ⟨⟨m,e⟩,_⟩
  · dsimp only at e
    rw [hx] at e
    obtain rfl:=Option.some.inj e
    refine ⟨layB_iff.2 ⟨p,hp⟩,fun e=>?_⟩
    rw [(hsrc k x hx).1 e] at hp
    cases hp
  · dsimp only at e
    rw [hx] at e
    obtain rfl:=Option.some.inj e
    exfalso
    by_cases ek:k=u
    · have:=(hsrc k _ hx).1 ek
      cases this
    · obtain ⟨y,_,hk,_⟩:=(hsrc k _ hx).2.1 ek
      cases y<;>(cases hk; done)
 have hlayS:∀ {k:Nat} {x:Ob},ob[k]?=some x→layB x=true→k≠u→f.q (σ.getD k 0)=true∧Free f.q (fun k=>f.ob[k]?) (σ.getD k 0):=fun {k x} hx hl hku=>by
  obtain ⟨y,hy,hk,_⟩:=(hsrc k x hx).2.1 hku
  obtain ⟨p,hp⟩:=layB_iff.1 (kind_lay hk hl)
  exact ⟨hex hy,Free.lay hy hp⟩
 refine ⟨β',hβm,⟨hβo,hβu⟩,⟨⟨h.good.bel,h.good.le,?_,?_,?_,?_,?_,?_,?_,?_,?_⟩,fun k=>by dsimp only [mkC]; rw [Nat.blt_eq],⟨h.sl.1,fun t=>?_⟩,fun t=>?_,?_,h.defers,?_⟩⟩
 ·
  intro k o hk hko
  dsimp only [mkC] at hk hko ⊢
  by_cases e:k=u
  · rw [(hsrc k o hko).1 e]
    exact ⟨trivial,rfl⟩
  · obtain ⟨y,hy,hkd,hof⟩:=(hsrc k o hko).2.1 e
    have hh:=(h.good.hold _ y (hex hy) hy).1
    refine ⟨?_,Ob.of_mono hmono _ hof⟩
    rw [hβo k e]
    refine wk_hold hkd (wkObs_ok hO k o y hko ?_) hof hq hh
    rw [Nat.zero_add]
    exact hy
 ·
  intro k hk c hc
  dsimp only [mkC] at hk
  by_cases e:k=u
  · rw [e,hβu] at hc; exact hc.elim
  · rw [hβo k e] at hc
    obtain ⟨x,hx⟩:=hob hk
    obtain ⟨y,hy,_⟩:=(hsrc k x hx).2.1 e
    exact h.good.lt _ (hex hy) c hc
 ·
  intro k j hk hj hne hm hf hd
  dsimp only [mkC] at hk hj hf hd
  obtain ⟨x,hx⟩:=hob hk
  obtain ⟨z,hz⟩:=hob hj
  obtain ⟨hl,hku⟩:=hfree hx hf
  by_cases e:j=u
  · rw [e,hβu]; exact fun hc=>hc.elim
  · obtain ⟨hs1,hs2⟩:=hlayS hx hl hku
    obtain ⟨hm2,hdis⟩:=(hsrc k x hx).2.2 hl
    obtain ⟨y,hy,hkd,_⟩:=(hsrc j z hz).2.1 e
    have hzd:z≠.dead:=fun e=>hd (by rw [hz,e])
    rw [hβo k hku,hβo j e]
    exact h.good.ne _ _ hs1 (hex hy) (hdis j z hz hzd hne e) (hm2 hm) hs2 (fun e=>kind_dead hkd hzd (Option.some.inj (hy.symm.trans e)))
 ·
  intro k x hk hm hx hmi
  dsimp only [mkC] at hk hx
  obtain ⟨hl,hku⟩:layB x=true∧k≠u:=by
   refine ⟨?_,fun e=>by rw [(hsrc k x hx).1 e] at hmi; cases hmi⟩
   cases x<;>first | (cases hmi; done) | exact layB_iff.2 ⟨_,rfl⟩ | skip
   exfalso
   by_cases ek:k=u
   · have:=(hsrc k _ hx).1 ek
     cases this
   · obtain ⟨y,_,hk,_⟩:=(hsrc k _ hx).2.1 ek
     cases y<;>(cases hk; done)
  obtain ⟨hs1,hs2⟩:=hlayS hx hl hku
  rw [hβo k hku]
  exact h.good.low _ hs1 (((hsrc k x hx).2.2 hl).1 hm) hs2
 ·
  intro k hk hm c hc
  dsimp only [mkC] at hk
  by_cases e:k=u
  · rw [e,hβu] at hc; exact hc.elim
  · rw [hβo k e] at hc
    obtain ⟨x,hx⟩:=hob hk
    obtain ⟨y,hy,_⟩:=(hsrc k x hx).2.1 e
    by_cases hs:m0≤σ.getD k 0
    · exact (h.good.fr _ (hex hy) hs c hc).imp id fun ⟨i,i1,i2⟩=>⟨i,i1,by rw [hβm i i1]; exact i2⟩
    · exact .inr ⟨σ.getD k 0,by omega,by rw [hβm _ (by omega)]; exact hc⟩
 · intro i hi
   dsimp only [mkC]
   rw [Nat.blt_eq]
   omega
 · intro k r D hk ho
   dsimp only [mkC] at ho
   exfalso
   by_cases e:k=u
   · have:=(hsrc k _ ho).1 e
     cases this
   · obtain ⟨y,_,hkd,_⟩:=(hsrc k _ ho).2.1 e
     cases y<;>(cases hkd; done)
 · intro k r D hk ho
   dsimp only [mkC] at ho
   exfalso
   by_cases e:k=u
   · have:=(hsrc k _ ho).1 e
     cases this
   · obtain ⟨y,_,hkd,_⟩:=(hsrc k _ ho).2.1 e
     cases y<;>(cases hkd; done)
 · intro k i hk hi hlt hm hd hp
   dsimp only [mkC] at hp
   obtain ⟨M,hp⟩:=hp
   exfalso
   by_cases e:i=u
   · have:=(hsrc i _ hp).1 e
     cases this
   · obtain ⟨y,_,hkd,_⟩:=(hsrc i _ hp).2.1 e
     cases y<;>(cases hkd; done)
 ·
  by_cases ht:t<n
  · rcases wkSl_ok hS t ht with e | ⟨e1,e2⟩
    · rw [e]
      show _=(β' u).u t
      rw [hβu]
    · rw [h.sl.2 t,e2]
      exact SV.den_congr hq _ e1
  · have hl:look (mkC P n u sl ob ev).sl t=qK7:=look_none fun p hp=>by
     rcases List.mem_append.1 hp with hp | hp
     · have:=List.all_eq_true.1 hn p hp
       rw [Nat.blt_eq] at this
       omega
     · obtain ⟨t',ht',rfl⟩:=List.mem_map.1 hp
       have:=List.mem_range.1 ht'
       dsimp only
       omega
    rw [hl]
    show a.tmps.getD t undef=undef
    rw [Array.getD_eq_getD_getElem?,Array.getElem?_eq_none (by rw [h.sl.1]; omega)]
    rfl
 · by_cases ht:t<n
   · rcases wkSl_ok hS t ht with e | ⟨e1,e2⟩
     · rw [e]
       show Nat.blt u ob.length=true
       rw [Nat.blt_eq]; exact hul
     · exact SV.of_mono hmono _ e1
   · have hl:look (mkC P n u sl ob ev).sl t=qK7:=look_none fun p hp=>by
      rcases List.mem_append.1 hp with hp | hp
      · have:=List.all_eq_true.1 hn p hp
        rw [Nat.blt_eq] at this
        omega
      · obtain ⟨t',ht',rfl⟩:=List.mem_map.1 hp
        have:=List.mem_range.1 ht'
        dsimp only
        omega
     rw [hl]; rfl
 · show m0≤ob.length∧B0.k≤ob.length
   omega
 · intro k j i D D' h1 h2
   exfalso
   by_cases e:k=u
   · have:=(hsrc k _ h1).1 e
     cases this
   · obtain ⟨y,_,hkd,_⟩:=(hsrc k _ h1).2.1 e
     cases y<;>(cases hkd; done)
theorem wk_sync {P:Program} {m0 n u:Nat} {B0:Bd} {w0:World} {f:Cf P} {sl:List (Nat × SV)} {ob:List Ob} {ev:List (Ev P)} {σ:List Nat} {β:Env} {a:Act} {w:World}
  (hB:wkB m0 u f.ob ob σ=true) (hn:sl.all (fun p=>Nat.blt p.1 n)=true) (hO:Eqs.ok (wkObs β f.ob σ ob 0)) (hS:Eqs.ok (wkSl β u ob.length σ f.sl (mkC P n u sl ob ev).sl n)) (h:Sync P m0 n B0 w0 f β a w) (hBk:B0.k≤m0:=by exact Nat.le_refl _) :
  ∃ β':Env,(∀ k,k<m0→β' k=β k)∧Sync P m0 n B0 w0 (mkC P n u sl ob ev) β' a w :=
 let ⟨β',h1,_,h2⟩:=wk_syncX (ev:=ev) hB hn hO hS h hBk
 ⟨β',h1,h2⟩
def HdOk (P:Program) (m0 n:Nat) (N:Nat) (w0:World) (β0:Env) (Q:Exit→Act→World→Prop) (C:Cf P) (p:Code × List Kf):Prop :=
 ∀ (β:Env) (a:Act) (w:World),(∀ k,k<m0→β k=β0 k)→Sync P m0 n (bd0 N m0) w0 C β a w→Rounds P p.1 (post P Q p.2) a w
theorem zZ0 {P:Program} {m0 n:Nat} {c:Code} {ks:List Kf} {f:Cf P} {u:Nat} {sl:List (Nat × SV)} {ob:List Ob} {σ:List Nat} (ev:List (Ev P)) (he:∀ β,Eqs.ok (pieceE P m0 n (some (.head c ks f)) u sl ob σ β)) :
  f.good∧∀ {N:Nat} {w0:World} {β:Env} {a:Act} {w:World},Sync P m0 n (bd0 N m0) w0 f β a w→∃ β':Env,(∀ k,k<m0→β' k=β k)∧Sync P m0 n (bd0 N m0) w0 (mkC P n u sl ob ev) β' a w:=by
 refine ⟨fun β x hx=>eqsOf_ok (Eqs.right (Eqs.right (Eqs.right (he β)))) x hx,fun {N w0 β a w} hs=>?_⟩
 have h:=he β
 have h1:=bif_ok (Eqs.left h)
 rw [Bool.and_eq_true,Bool.and_eq_true] at h1
 exact wk_sync h1.1.1 h1.2 (Eqs.left (Eqs.right h)) (Eqs.left (Eqs.right (Eqs.right h))) hs
theorem qQ7 {P:Program} {m0 n:Nat} {N:Nat} {w0:World} {β0:Env} {Q:Exit→Act→World→Prop} {Ns:List (Nat × Nat)} {m:Nat} {C:Cf P} {p p':Code × List Kf} {u:Nat} {sl:List (Nat × SV)} {ob:List Ob} (ev:List (Ev P)) (σ:List Nat) (hm:P.follows .mixedOrders=true)
  (hp:(runP P m0 n Ns m (some p.1) (.lp p.1::p.2) C).bind Stop.pos=some p') (he:∀ β,Eqs.ok (pieceE P m0 n (runP P m0 n Ns m (some p.1) (.lp p.1::p.2) C) u sl ob σ β))
  (hH:HdOk P m0 n N w0 β0 Q (mkC P n u sl ob ev) p'):HdOk P m0 n N w0 β0 Q C p:=by
 intro β a w hβ hs
 cases hr:runP P m0 n Ns m (some p.1) (.lp p.1::p.2) C with
 | none=>rw [hr] at hp; cases hp
 | some s =>
  rw [hr] at hp he
  cases s with
  | ended f=>cases hp
  | head c ks f =>
   obtain rfl:(c,ks)=p':=Option.some.inj hp
   obtain ⟨hg,hw⟩:=zZ0 ev he
   obtain ⟨_,_,r3⟩:=runP_ok hm _ _ _ _ _ hr ⟨hs.q,hs.uq⟩
   refine qW5 (r3 hg hs Q fun β' a' w' e s'=>?_)
   obtain ⟨β'',e2,s2⟩:=hw s'
   exact hH β'' a' w' (fun k hk=>(e2 k hk).trans ((e k hk).trans (hβ k hk))) s2
def Said (P:Program) (fn:Func) (m0:Nat) (res:SV) (outs:List (Nat × Ob)) (β:Env) (w:World) (e:Ending) (w':World):Prop :=
 ∃ (β':Env) (q:Nat→Bool) (obj:Nat→Option Ob),(∀ k,k<m0→β' k=β k)∧e=.returned (res.den β')∧res.of q=true∧(∀ p∈outs,∀ c,(β' p.1).F c→w.heap.size≤c∨∃ i,i<m0∧(β i).F c)∧qX2 β' w' outs∧Fin w w'
theorem fin1_parts {P:Program} {fn:Func} {m0 n:Nat} {res:SV} {outs:List (Nat × Ob)} {f:Cf P} (h:∀ β,Eqs.ok (fin1 P fn m0 n res outs f β)):f.good∧∀ {β0:Env} {w:World} {β':Env} {a':Act} {w':World},(∀ k,k<m0→β' k=β0 k)→Sync P m0 n (bd0 w.heap.size m0) w f β' a' w' →
  bodyPost P fn (Said P fn m0 res outs β0 w) .normal a' w'∧bodyPost P fn (Said P fn m0 res outs β0 w) .ret a' w':=by
 have fin:∃ r:R1 Value,run1 P m0 false (results fn (zJ6 idE f.sl n)) f.q f.ob []=some r∧res.of f.q=true∧r.ob.length=f.ob.length ∧
   ∀ β,Eqs.ok (chk P β (results fn (zJ6 β f.sl n)) r.tr.reverse (fun u=>[(.v u,.v (res.den β))])++(qZ8 f.q f.ob outs++eqsOf β f.cs)):=by
  cases hx:run1 P m0 false (results fn (zJ6 idE f.sl n)) f.q f.ob [] with
  | none=>have:=h idE; unfold fin1 at this; rw [hx] at this; exact (Eqs.no_ok this).elim
  | some r =>
   obtain ⟨ra,rq,rob,rtr⟩:=r
   cases hc:(res.of f.q&&Nat.beq rob.length f.ob.length&&Nat.beq f.ev.length 0) with
   | false=>have:=h idE; unfold fin1 at this; rw [hx] at this; dsimp only at this; rw [hc] at this; exact (Eqs.no_ok this).elim
   | true =>
    have h3:=hc
    simp only [Bool.and_eq_true,Nat.beq_eq] at hc
    refine ⟨_,rfl,hc.1.1,hc.1.2,fun β=>?_⟩
    have:=h β
    unfold fin1 at this
    rw [hx] at this
    dsimp only at this
    rw [h3] at this
    exact this
 obtain ⟨r,f1,f2,f3,f4⟩:=fin
 refine ⟨fun β x hx=>eqsOf_ok (fun p hp=>f4 β p (List.mem_append.2 (.inr (List.mem_append.2 (.inr hp))))) x hx,?_⟩
 intro β0 w β' a' w' e s
 obtain ⟨h5,_,_,tr,h8,h9⟩:=run1_ok _ _ _ _ _ f1 (fun k hk=>(s.q k).1 hk)
 obtain ⟨k1,obj',k2,k3,k4⟩:=h9 _ _ _ _ _ _ s.good (fun k hk=>⟨hk,rfl⟩) (fun k a b=>by omega) s.m0.1
 have h6:=f4 β'
 rw [h8,List.append_nil,List.reverse_reverse] at h6
 have h7:Eqs.ok (chk P β' (results fn (zJ6 β' f.sl n)) tr (fun u=>[(.v u,.v (res.den β'))])):=fun p hp=>h6 p (List.mem_append.2 (.inl hp))
 obtain ⟨v,hv,hv2⟩:=chk_run _ _ _ h7 k1
 obtain ⟨e1,_⟩:=Eqs.cons_ok hv2
 injection e1 with e1
 subst e1
 rw [f3,qK4] at k4
 have hend:zZ3 β' w' tr=w':=by
  obtain ⟨tr2,x1,x2⟩:=run1_still _ _ _ _ _ f1 (fun k hk=>(s.q k).1 hk) f3
  rw [h8,List.append_nil,List.append_nil] at x1
  rw [List.reverse_inj.1 x1]
  exact x2 β' w'
 rw [hend] at hv k4
 rw [← tmps_eq s.sl] at hv
 have hout:∀ p:Nat × Ob,f.q p.1=true→∀ c,(β' p.1).F c→w.heap.size≤c∨∃ i,i<m0∧(β0 i).F c:=fun p hp c hc=>by
  by_cases h0:m0≤p.1
  · exact (s.good.fr p.1 hp h0 c hc).imp (fun a=>a.elim (fun a=>a.elim id False.elim) False.elim) fun ⟨i,i1,i2⟩=>⟨i,i1,by rw [← e i i1]; exact i2⟩
  · exact .inr ⟨p.1,by omega,by rw [← e p.1 (by omega)]; exact hc⟩
 have hneed:Eqs.ok (qZ8 f.q f.ob outs):=fun p hp=>f4 β' p (List.mem_append.2 (.inr (List.mem_append.2 (.inl hp))))
 have hres:bodyPost P fn (Said P fn m0 res outs β0 w) .normal a' w':=⟨s.defers,_,hv,β',f.q,obj',e,rfl,f2,fun p hp c hc=>hout p (needs_q _ hneed p hp) c hc,qX1 s.good (fun k hk=>⟨hk,rfl⟩) _ hneed,⟨k4.bel.below⟩⟩
 exact ⟨hres,hres⟩
theorem qJ9 {P:Program} {fn:Func} {m0 n:Nat} {w:World} {β0:Env} {res:SV} {outs:List (Nat × Ob)} {Ns:List (Nat × Nat)} {m:Nat} {C:Cf P} {p:Code × List Kf} (hm:P.follows .mixedOrders=true)
  (he:∀ β,Eqs.ok (lastE P fn m0 n res outs (runP P m0 n Ns m (some p.1) (.lp p.1::p.2) C) β)):HdOk P m0 n w.heap.size w β0 (bodyPost P fn (Said P fn m0 res outs β0 w)) C p:=by
 intro β a w1 hβ hs
 cases hr:runP P m0 n Ns m (some p.1) (.lp p.1::p.2) C with
 | none=>have:=he idE; rw [hr] at this; exact (Eqs.no_ok this).elim
 | some s =>
  rw [hr] at he
  cases s with
  | head c ks f=>exact (Eqs.no_ok (he idE)).elim
  | ended f =>
   obtain ⟨hg,hw⟩:=fin1_parts he
   obtain ⟨_,_,r3⟩:=runP_ok hm _ _ _ _ _ hr ⟨hs.q,hs.uq⟩
   exact qW5 (r3 hg hs _ fun β' a' w' e s'=>hw (fun k hk=>(e k hk).trans (hβ k hk)) s')
def startP (P:Program) (fn:Func) (args:List SV) (obs:List Ob) (evs:List (Ev P)) (Ns:List (Nat × Nat)) (m:Nat):Option (Stop P):=match fn.body with
 | some c=>runP P obs.length (qV4 fn args) Ns m (some c) [] ⟨zJ7 args 0,fun k=>Nat.blt k obs.length,obs,evs,[]⟩
 | none=>none
theorem sx_cut {P:Program} {f:FuncId} {fn:Func} (args:List SV) (obs:List Ob) (evs ev:List (Ev P)) (Ns:List (Nat × Nat)) (m:Nat) (res:SV) (outs:List (Nat × Ob)) (hf:P.funcs[f]?=some fn) (hm:P.follows .mixedOrders=true) {u:Nat} {sl:List (Nat × SV)} {ob:List Ob} {σ:List Nat} {p':Code × List Kf}
  (hp:(startP P fn args obs evs Ns m).bind Stop.pos=some p') (he:∀ β,Eqs.ok (pieceE P obs.length (qV4 fn args) (startP P fn args obs evs Ns m) u sl ob σ β))
  (hargs:args.all (SV.of fun k=>Nat.blt k obs.length)=true) (hobs:obs.all (fun x=>x.of (fun k=>Nat.blt k obs.length)&&x.own)=true) (β:Env) (w:World) (hh:∀ (k:Nat) (o:Ob),obs[k]?=some o→o.holds β w (β k))
  (hH:HdOk P obs.length (qV4 fn args) w.heap.size w β (bodyPost P fn (Said P fn obs.length res outs β w)) (mkC P (qV4 fn args) u sl ob ev) p') :
  Calls P f (args.map (SV.den β)).toArray w (Said P fn obs.length res outs β w):=by
 have hnal:∀ (k r:Nat) (D:Thing),obs[k]?≠some (.al r D):=fun k r D ho=>by
  have:=List.all_eq_true.1 hobs _ (List.mem_of_getElem? ho)
  simp [Ob.own] at this
 have huq:UniqAl obs:=fun k j i D _ h1 _=>absurd h1 (hnal k i D)
 have hlt:∀ k,k<obs.length→∀ c,(β k).F c→c<w.heap.size:=fun k hk c hc=>by
  have h:=hh k _ (List.getElem?_eq_getElem hk)
  cases hx:obs[k] with
  | box cs t=>rw [hx] at h; rw [(h.1.1 c).1 hc]; exact qX6 h.2
  | th D=>rw [hx] at h; exact D.st.lt _ _ h c hc
  | al r D=>rw [hx] at h; exact D.st.lt _ _ h c hc
  | pl n=>rw [hx] at h; rw [(h.1.1 c).1 hc]; exact h.2.lt
  | row cs t n sz=>rw [hx] at h; rw [(h.1.1 c).1 hc]; exact qX6 h.2.choose_spec.1
  | ow D t=>rw [hx] at h; exact D.st.lt _ _ h.2 c hc
  | dead =>
   have:=List.all_eq_true.1 hobs _ (List.mem_of_getElem? (List.getElem?_eq_getElem hk))
   rw [hx] at this
   simp [Ob.own] at this
 cases hb:fn.body with
 | none=>unfold startP at hp; rw [hb] at hp; cases hp
 | some c =>
  have hst:startP P fn args obs evs Ns m=runP P obs.length (qV4 fn args) Ns m (some c) [] ⟨zJ7 args 0,fun k=>Nat.blt k obs.length,obs,evs,[]⟩:=by unfold startP; rw [hb]
  rw [hst] at hp he
  cases hr:runP P obs.length (qV4 fn args) Ns m (some c) [] ⟨zJ7 args 0,fun k=>Nat.blt k obs.length,obs,evs,[]⟩ with
  | none=>rw [hr] at hp; cases hp
  | some s =>
   rw [hr] at hp he
   cases s with
   | ended f=>cases hp
   | head c1 ks1 f1 =>
    obtain rfl:(c1,ks1)=p':=Option.some.inj hp
    obtain ⟨hg,hw⟩:=zZ0 ev he
    obtain ⟨_,_,r3⟩:=runP_ok hm _ _ _ _ _ hr ⟨fun k=>by dsimp only; rw [Nat.blt_eq],huq⟩
    refine calls_of_wp hf hb (r3 hg (B0:=bd0 w.heap.size obs.length) (w0:=w) (β:=β) ⟨⟨Keep.refl _ _,Nat.le_refl _,fun k o hk ho=>⟨hh k o ho,(Bool.and_eq_true _ _▸List.all_eq_true.1 hobs o (List.mem_of_getElem? ho)).1⟩,fun k hk=>hlt k (by simpa [Nat.blt_eq] using hk),fun k j hk _ _ hm=>?_,fun k _ hk hm=>?_,fun k hk hm=>?_,fun i hi=>by rw [Nat.blt_eq]; exact hi,fun k r D _ ho=>?_,fun k r D _ ho=>absurd ho (hnal k r D),fun k i _ hi _ hm=>by rw [Nat.blt_eq] at hi; omega⟩,fun k=>by dsimp only; rw [Nat.blt_eq],⟨?_,fun t=>?_⟩,fun t=>?_,⟨Nat.le_refl _,Nat.le_refl _⟩,rfl,huq⟩ _ fun β' a' w' e s=>?_)
    · rw [Nat.blt_eq] at hk; omega
    · rw [Nat.blt_eq] at hk; omega
    · rw [Nat.blt_eq] at hk; omega
    · exact absurd ho (hnal k r D)
    · simp [qV4]
    · rw [qV5,if_pos (Nat.zero_le _),Nat.sub_zero]
      simp only [Array.getD_eq_getD_getElem?,Array.getElem?_append,List.size_toArray,List.length_map,List.getElem?_toArray,List.getElem?_map]
      split
      · rename_i hlt2
        rw [List.getElem?_eq_getElem hlt2]
        rfl
      · rename_i hge
        rw [List.getElem?_eq_none (by omega)]
        simp [Array.getElem?_replicate]
        split<;>rfl
    · dsimp only
      rw [qV5,if_pos (Nat.zero_le _),Nat.sub_zero]
      cases hx:args[t]? with
      | none=>rfl
      | some x=>exact List.all_eq_true.1 hargs x (List.mem_of_getElem? hx)
    · obtain ⟨β'',e2,s2⟩:=hw s
      exact hH β'' a' w' (fun k hk=>(e2 k hk).trans (e k hk)) s2
abbrev RF (l:Option Nat):Fence:={ Fence.wide with round:=l }
theorem callsIn_rf {l:Option Nat} {n:Nat} {P:Program} {f:FuncId} {args:Array Value} {w:World} {R:Ending→World→Prop} (h:Calls P f args w R):CallsIn (RF l) n P f args w R:=(callsIn_wide (n:=n)).2 h
theorem rowsIn_rf {l:Option Nat} {n:Nat} {P:Program} {row:String} {args:Array Value} {w:World} {R:Value→World→Prop} (h:Rows P row args w R):RowsIn (RF l) n P row args w R :=
 fun c cs _=>let ⟨v,w',r,s⟩:=h c cs; ⟨v,w',r,(stepsIn_wide (P:=P)).2 s⟩
def isDefer:Op→Bool
 | .defer _=>true
 | _=>false
section
variable {l:Option Nat} {n:Nat} {P:Program} {Q:Exit→Act→World→Prop}
theorem oper_rf {o:Oper} (hd:isDefer o.op=false) {a:Act} {w:World} {K:Act→World→Prop} (h:o.wp P a w K Q):o.wpIn (RF l) n P a w K Q:=by
 refine ⟨fun _ _=>trivial,?_⟩
 rw [Oper.semAt_eq _ _ _ (fun c e=>by rw [e] at hd; cases hd)]
 unfold Oper.wp at h
 generalize (execOp a.eval o).run P w=r at *
 cases r with
 | ok x w' =>
  cases x<;>simp only [Oper.upon,Oper.uponIn] at h ⊢ <;>
   first
    | exact h
    | exact ⟨fun e=>by simp [Fence.wide] at e,callsIn_rf h⟩
    | exact ⟨fun e=>by simp [Fence.wide] at e,rowsIn_rf h⟩
    | exact h.elim
 | halt hh w'=>cases hh<;>simp only [Oper.upon,Oper.uponIn] at h ⊢<;>first | exact h | exact h.elim
variable {ops:Array Oper} (hL:¬ LetsOut Q)
include hL
theorem any_rf (hops:∀ o∈ops,isDefer o.op=false) {md:Region.Mode}:∀ (fuel:Nat) (listed:Array Bool) (a:Act) (w:World),wpAny P md ops Q fuel listed a w→wpAnyIn (RF l) n P md ops Q fuel listed a w
 | 0,_,_,_,h=>h
 | fuel+1,listed,a,w,h=>⟨h.1,fun i hi=>by
  have h1:=h.2 i hi
  unfold wpOp at h1
  unfold wpOpIn
  split
  · rename_i e
    rw [e] at h1
    exact any_rf hops fuel _ a w h1
  · rename_i o e
    rw [e] at h1
    dsimp only at h1
    split
    · rename_i hw
      rw [if_pos hw] at h1
      rcases h1 with h1 | h1
      · exact Oper.wpIn_mono (fun a w h=>any_rf hops fuel _ a w h) (oper_rf (hops o (Array.mem_of_getElem? e)) h1)
      · exact absurd h1.2 hL
    · rename_i hw
      rw [if_neg hw] at h1
      exact ⟨fun _ _=>trivial,any_rf hops fuel _ _ w h1⟩⟩
theorem list_rf:∀ (r:List Oper),(∀ o∈r,isDefer o.op=false)→∀ (a:Act) (w:World),wpList P ops Q r a w→wpListIn (RF l) n P ops Q r a w
 | [],_,_,_,h=>h
 | o::r,hops,a,w,h=>by
  unfold wpList at h
  unfold wpListIn
  split
  · rename_i hw
    rw [if_pos hw] at h
    rcases h with h | h
    · exact Oper.wpIn_mono (fun a w h=>list_rf r (fun o ho=>hops o (List.mem_cons_of_mem _ ho)) a w h) (oper_rf (hops o (List.mem_cons_self ..)) h)
    · exact absurd h.2 hL
  · rename_i hw
    rw [if_neg hw] at h
    exact ⟨fun _ _=>trivial,list_rf r (fun o ho=>hops o (List.mem_cons_of_mem _ ho)) _ w h⟩
end
def postI (l:Option Nat) (nn:Nat) (P:Program) (Q:Exit→Act→World→Prop):List Kf→Exit→Act→World→Prop
 | []=>Q
 | .sq c::r=>Exit.then (c.wpIn (RF l) nn P (postI l nn P Q r)) (postI l nn P Q r)
 | .bl i::r=>Exit.inBlock i (postI l nn P Q r)
 | .lp _::r=>postI l nn P Q r
 | .sc::r=>Exit.noGoto (postI l nn P Q r)
theorem zV4 {l:Option Nat} {nn:Nat} {P:Program} {Q:Exit→Act→World→Prop} {a:Act} {w:World} (h:Q .ret a w):∀ ks,postI l nn P Q ks .ret a w
 | []=>h
 | .sq _::r=>zV4 h r
 | .bl _::r=>zV4 h r
 | .lp _::r=>zV4 h r
 | .sc::r=>zV4 h r
theorem zV5 {l:Option Nat} {nn:Nat} {P:Program} {Q:Exit→Act→World→Prop} (h:¬ LetsOut Q):∀ ks,¬ LetsOut (postI l nn P Q ks)
 | []=>h
 | .sq _::r=>zV5 h r
 | .bl _::r=>zV5 h r
 | .lp _::r=>zV5 h r
 | .sc::r=>zV5 h r
def popNl (id:Nat):List Kf→Option (List Kf)
 | []=>none
 | .bl i::r=>bif Nat.beq i id then some r else popNl id r
 | .lp _::_=>none
 | _::r=>popNl id r
theorem postI_exit {l:Option Nat} {nn:Nat} {P:Program} {Q:Exit→Act→World→Prop} {a:Act} {w:World} {i:Nat}:∀ {ks r},popNl i ks=some r→postI l nn P Q r .normal a w→postI l nn P Q ks (.exit i) a w
 | [],_,h,_=>by cases h
 | .sq _::ks,r,h,k=>postI_exit (ks:=ks) (r:=r) h k
 | .lp _::ks,r,h,k=>by cases h
 | .sc::ks,r,h,k=>postI_exit (ks:=ks) (r:=r) h k
 | .bl j::ks,r,h,k=>by
  simp only [popNl,cond_eq_ite,Nat.beq_eq] at h
  simp only [postI,Exit.inBlock]
  split at h
  · rename_i e
    obtain rfl:=Option.some.inj h
    rw [if_pos e.symm]
    exact k
  · rename_i e
    rw [if_neg (Ne.symm e)]
    exact postI_exit (ks:=ks) (r:=r) h k
inductive StopX (P:Program) where
 | ended (b:Bool) (f:Cf P)
 | range (g:Operand) (ps:Array Tmp) (x y:Code) (ks:List Kf) (f:Cf P)
def StopX.cf {P:Program}:StopX P→Cf P
 | .ended _ f=>f
 | .range _ _ _ _ _ f=>f
def endOf:Bool→Exit
 | true=>.ret
 | false=>.normal
def StopX.after {P:Program} (l:Option Nat) (nn:Nat) (Q:Exit→Act→World→Prop) (a:Act) (w:World):StopX P→Prop
 | .ended b _=>Q (endOf b) a w
 | .range g ps x y ks _=>(Code.rangeFunc g ps x y).wpIn (RF l) nn P (postI l nn P Q ks) a w
def runI (P:Program) (m0 n:Nat) (Ns:List (Nat × Nat)):Nat→Option Code→List Kf→Cf P→Option (StopX P)
 | 0,_,_,_=>none
 | m+1,oc,ks,f=>match oc with
  | none=>match ks with
   | []=>some (.ended false f)
   | .sq c::r=>runI P m0 n Ns m (some c) r f
   | .bl _::r=>runI P m0 n Ns m none r f
   | .lp _::_=>none
   | .sc::r=>runI P m0 n Ns m none r f
  | some c=>match c with
   | .skip=>runI P m0 n Ns m none ks f
   | .label _=>runI P m0 n Ns m none ks f
   | .region id ops d=>bif ops.toList.all (fun o=>!isDefer o.op) then (match (bif d then drawS1 P m0 n Ns id ops.toList f else seqS P m0 n ops ops.toList f) with
    | some f'=>runI P m0 n Ns m none ks f'
    | none=>none) else none
   | .seq a b=>runI P m0 n Ns m (some a) (.sq b::ks) f
   | .cond x a b=>match evS idE f.sl x with
    | .bool true=>runI P m0 n Ns m (some a) ks { f with cs:=(fun β=>[(.v (evS β f.sl x),.v (.bool true))])::f.cs }
    | .bool false=>runI P m0 n Ns m (some b) ks { f with cs:=(fun β=>[(.v (evS β f.sl x),.v (.bool false))])::f.cs }
    | _=>none
   | .block id c=>runI P m0 n Ns m (some c) (.bl id::ks) f
   | .exit id=>match popNl id ks with
    | some r=>runI P m0 n Ns m none r f
    | none=>none
   | .rangeFunc g ps x y=>some (.range g ps x y ks f)
   | .ret=>some (.ended true f)
   | _=>none
def toShowI (l:Option Nat) (nn:Nat) (P:Program) (Q:Exit→Act→World→Prop) (oc:Option Code) (ks:List Kf) (a:Act) (w:World):Prop:=match oc with
 | some c=>c.wpIn (RF l) nn P (postI l nn P Q ks) a w
 | none=>postI l nn P Q ks .normal a w
theorem runI_ok {P:Program} {m0 n nn:Nat} {l:Option Nat} {Ns:List (Nat × Nat)} (hm:P.follows .mixedOrders=true):∀ (m:Nat) (oc:Option Code) (ks:List Kf) (f:Cf P) (s:StopX P),runI P m0 n Ns m oc ks f=some s→f.full→(∀ x∈f.cs,x∈s.cf.cs)∧s.cf.full ∧
  (s.cf.good→∀ {B0:Bd} {w0:World} {β:Env} {a:Act} {w:World},Sync P m0 n B0 w0 f β a w→∀ (Q:Exit→Act→World→Prop),¬ LetsOut Q→(∀ β' a' w',(∀ k,k<B0.k→β' k=β k)→Sync P m0 n B0 w0 s.cf β' a' w'→s.after l nn Q a' w')→toShowI l nn P Q oc ks a w):=by
 intro m
 induction m with
 | zero=>intro oc ks f f' h; simp only [runI] at h; cases h
 | succ m ih =>
  intro oc ks f f' h hf
  simp only [runI] at h
  cases oc with
  | none =>
   dsimp only at h
   cases ks with
   | nil =>
    obtain rfl:=Option.some.inj h
    exact ⟨fun _ hx=>hx,hf,fun _ B0 w0 β a w s Q hL hQ=>hQ β a w (fun _ _=>rfl) s⟩
   | cons x r =>
    cases x with
    | sq c=>obtain ⟨i1,i2,i3⟩:=ih _ _ _ _ h hf; exact ⟨i1,i2,fun hg B0 w0 β a w s Q hL hQ=>i3 hg s Q hL hQ⟩
    | bl j=>obtain ⟨i1,i2,i3⟩:=ih _ _ _ _ h hf; exact ⟨i1,i2,fun hg B0 w0 β a w s Q hL hQ=>i3 hg s Q hL hQ⟩
    | lp c=>cases h
    | sc=>obtain ⟨i1,i2,i3⟩:=ih _ _ _ _ h hf; exact ⟨i1,i2,fun hg B0 w0 β a w s Q hL hQ=>i3 hg s Q hL hQ⟩
  | some c =>
   cases c with
   | skip=>obtain ⟨i1,i2,i3⟩:=ih _ _ _ _ h hf; exact ⟨i1,i2,fun hg B0 w0 β a w s Q hL hQ=>wpIn_skip (i3 hg s Q hL hQ)⟩
   | label l=>obtain ⟨i1,i2,i3⟩:=ih _ _ _ _ h hf; exact ⟨i1,i2,fun hg B0 w0 β a w s Q hL hQ=>wpIn_label (i3 hg s Q hL hQ)⟩
   | region rid ops d =>
    dsimp only at h
    rw [cond_eq_ite] at h
    split at h
    · rename_i hdf
      have hdf2:∀ o∈ops.toList,isDefer o.op=false:=fun o ho=>by
       have:=List.all_eq_true.1 hdf o ho
       simpa using this
      split at h
      · rename_i f1 h1
        cases d with
        | true =>
         simp only [cond_true] at h1
         have hf1:=zH1 h1 hf
         obtain ⟨i1,i2,i3⟩:=ih _ _ _ _ h hf1
         obtain ⟨j1,j2⟩:=drawS1_ok hm h1 (fun k hk=>(hf.1 k).1 hk) hf.2
         refine ⟨fun x hx=>i1 x (j1 x hx),i2,fun hg B0 w0 β a w s Q hL hQ=>?_⟩
         have:=j2 (fun β x hx=>hg β x (i1 x hx)) s (postI l nn P Q ks) fun β' a' w' e s'=>i3 hg s' Q hL fun β2 a2 w2 e2 s2=>hQ β2 a2 w2 (fun k hk=>(e2 k hk).trans (e k hk)) s2
         unfold RegAny at this
         simp only [Array.toArray_toList] at this
         exact wpIn_region_any hm (any_rf (zV5 hL ks) (fun o ho=>hdf2 o (by simpa using ho)) _ _ _ _ this)
        | false =>
         simp only [cond_false] at h1
         have hf1:=zJ8 h1 hf
         obtain ⟨i1,i2,i3⟩:=ih _ _ _ _ h hf1
         obtain ⟨j1,j2⟩:=seqS_ok h1
         exact ⟨fun x hx=>i1 x (j1 x hx),i2,fun hg B0 w0 β a w s Q hL hQ=>wpIn_region_list (list_rf (zV5 hL ks) _ hdf2 _ _ (j2 (fun β x hx=>hg β x (i1 x hx)) s (postI l nn P Q ks) fun β' a' w' e s'=>i3 hg s' Q hL fun β2 a2 w2 e2 s2=>hQ β2 a2 w2 (fun k hk=>(e2 k hk).trans (e k hk)) s2))⟩
      · cases h
    · cases h
   | seq c d=>obtain ⟨i1,i2,i3⟩:=ih _ _ _ _ h hf; exact ⟨i1,i2,fun hg B0 w0 β a w s Q hL hQ=>wpIn_seq (i3 hg s Q hL hQ)⟩
   | cond x c d =>
    dsimp only at h
    split at h
    · obtain ⟨i1,i2,i3⟩:=ih _ _ _ _ h hf
      refine ⟨fun y hy=>i1 y (List.mem_cons_of_mem _ hy),i2,fun hg B0 w0 β a w s Q hL hQ=>?_⟩
      obtain ⟨e,_⟩:=Eqs.cons_ok (hg β _ (i1 _ (List.mem_cons_self ..)))
      injection e with e
      exact wpIn_cond_true (by rw [s.sl.eval]; exact e) (i3 hg (s.cs _) Q hL hQ)
    · obtain ⟨i1,i2,i3⟩:=ih _ _ _ _ h hf
      refine ⟨fun y hy=>i1 y (List.mem_cons_of_mem _ hy),i2,fun hg B0 w0 β a w s Q hL hQ=>?_⟩
      obtain ⟨e,_⟩:=Eqs.cons_ok (hg β _ (i1 _ (List.mem_cons_self ..)))
      injection e with e
      exact wpIn_cond_false (by rw [s.sl.eval]; exact e) (i3 hg (s.cs _) Q hL hQ)
    · cases h
   | block j c=>obtain ⟨i1,i2,i3⟩:=ih _ _ _ _ h hf; exact ⟨i1,i2,fun hg B0 w0 β a w s Q hL hQ=>wpIn_block (i3 hg s Q hL hQ)⟩
   | exit j =>
    dsimp only at h
    split at h
    · rename_i r hr
      obtain ⟨i1,i2,i3⟩:=ih _ _ _ _ h hf
      exact ⟨i1,i2,fun hg B0 w0 β a w s Q hL hQ=>wpIn_exit (postI_exit hr (i3 hg s Q hL hQ))⟩
    · cases h
   | rangeFunc g ps x y =>
    obtain rfl:=Option.some.inj h
    exact ⟨fun _ hx=>hx,hf,fun _ B0 w0 β a w s Q hL hQ=>hQ β a w (fun _ _=>rfl) s⟩
   | ret =>
    obtain rfl:=Option.some.inj h
    exact ⟨fun _ hx=>hx,hf,fun _ B0 w0 β a w s Q hL hQ=>wpIn_ret (zV4 (hQ β a w (fun _ _=>rfl) s) ks)⟩
   | _=>cases h
def bdR (k:Nat) (w:World) (m0:Nat) (ex:Nat→Bool) (obj:Nat→Option Ob) (β:Env) (df:List Deferred):Bd :=
 ⟨w.heap.size,fun c=>∃ i x,ex i=true∧m0≤i∧obj i=some x∧x.mine=true∧c=(β i).b,k,fun c=>∃ k,ex k=true∧m0≤k∧(β k).F c,df⟩
section
variable {B:Bd} {m0:Nat} {w0:World} {ex:Nat→Bool} {obj:Nat→Option Ob} {β:Env} {w:World} (h:Good B m0 w0 ex obj β w)
include h
theorem Good.restart (kk:Nat) (df:List Deferred):Good (bdR kk w m0 ex obj β df) m0 w ex obj β w :=
 ⟨Keep.refl _ _,Nat.le_refl _,h.hold,h.lt,h.ne,fun k x hk hm hx hmi=>.inr ⟨k,x,hk,hm,hx,hmi,rfl⟩,fun k hk hm c hc=>.inl (.inr ⟨k,hk,hm,hc⟩),h.ar,h.al,h.alb,h.ord⟩
theorem Good.back_has {kk:Nat} {df:List Deferred} {c:Nat} (hc:(bdR kk w m0 ex obj β df).has c):B.has c:=by
 rcases hc with hc | ⟨k,x,hk,hm,hx,hmi,rfl⟩
 · exact .inl (Nat.le_trans h.le hc)
 · exact h.lowm k x hk hm hx hmi
theorem Keep.back {kk:Nat} {df:List Deferred} {w':World} (k:Keep (bdR kk w m0 ex obj β df) w w'):Keep B w0 w' :=
 h.bel.trans ⟨k.os,k.tape,k.output,k.size,fun i hi hs=>k.block i (Nat.lt_of_lt_of_le hi h.le) fun hc=>(h.back_has (.inr hc)).elim (fun a=>absurd hi (Nat.not_lt.2 a)) hs⟩
theorem Good.back {kk:Nat} {df:List Deferred} {ex':Nat→Bool} {obj':Nat→Option Ob} {β':Env} {w':World} (h':Good (bdR kk w m0 ex obj β df) m0 w ex' obj' β' w') (hβ:∀ i,i<m0→β' i=β i):Good B m0 w0 ex' obj' β' w':=by
 refine ⟨Keep.back h h'.bel,Nat.le_trans h.le h'.bel.size,h'.hold,h'.lt,h'.ne,fun k x hk hm hx hmi=>h.back_has (h'.lowm k x hk hm hx hmi),fun k hk hm c hc=>?_,h'.ar,h'.al,h'.alb,h'.ord⟩
 rcases h'.fr k hk hm c hc with (h1 | ⟨j,h1,h2,h3⟩) | h1
 · exact .inl (.inl (h.back_has h1))
 · exact (h.fr j h1 h2 c h3).imp id fun ⟨i,i1,i2⟩=>⟨i,i1,by rw [hβ i i1]; exact i2⟩
 · exact .inr h1
theorem Good.side {b o n:Nat} {w':World} (hw:NW w b) (ht:Touch w w' b o n) (hB:B.has b) (hF:∀ k x,ex k=true→obj k=some x→x≠.dead→¬ (β k).F b):Good B m0 w0 ex obj β w':=by
 refine ⟨h.bel.touch ht hB h.le,Nat.le_trans h.le ht.size,?_,fun k hk c hc=>Nat.lt_of_lt_of_le (h.lt k hk c hc) ht.size,h.ne,h.lowm,h.fr,h.ar,h.al,h.alb,h.ord⟩
 intro k x hk hx
 refine ⟨?_,(h.hold k x hk hx).2⟩
 have hh:=(h.hold k x hk hx).1
 by_cases hdd:x=.dead
 · rw [hdd]; exact trivial
 have hne:=hF k x hk hx hdd
 have hblk:(β k).one→w'.heap[(β k).b]?=w.heap[(β k).b]?:=fun h1=>ht.block _ (h.lt k hk _ ((h1.1 _).2 rfl)) fun e=>hne ((h1.1 _).2 e.symm)
 cases x with
 | box cs' t' =>
  simp only [Ob.holds] at hh ⊢
  rw [hblk hh.1]
  exact hh
 | row cs' t' n' sz' =>
  simp only [Ob.holds] at hh ⊢
  rw [hblk hh.1]
  exact hh
 | ow D u=>exact ⟨⟨hh.1.1,hh.1.2.1,by rw [ht.block _ (h.lt k hk _ hh.1.1) (fun e=>hne (by rw [← e]; exact hh.1.1))]; exact hh.1.2.2⟩,D.st.touch w _ _ _ _ _ 0 hh.2 hw ht hne⟩
 | th D=>exact D.st.touch w _ _ _ _ _ 0 hh hw ht hne
 | al r D=>exact D.st.touch w _ _ _ _ _ 0 hh hw ht hne
 | pl n=>exact ⟨hh.1,Slot.touch hh.2 ht⟩
 | dead=>exact trivial
end
theorem grown_touch {w w':World} {r:Nat} {o:Obj} (g:w.grownBy w' (some r)) (h:w.heap[r]?=some o) (hc:o.isCells=false):NW w r∧Touch w w' r 0 0 :=
 ⟨fun cs fr e=>(by rw [h] at e; cases e; cases hc),⟨g.os,g.tape,g.output,g.size,fun k hk hne=>g.block k hk (fun e=>hne (Option.some.inj e)),fun cs t fr e=>(by rw [h] at e; cases e; cases hc)⟩⟩
def obClB:Ob→Bool
 | .th t=>t.cl
 | .al _ t=>t.cl
 | .ow _ _=>false
 | _=>true
theorem ob_cells {x:Ob} (h:obClB x=true) (hd:x≠.dead) {β:Env} {w:World} {g:Pl} (hh:x.holds β w g) (c:Nat) (hc:g.F c):∃ cs t fr,w.heap[c]?=some (.cells cs t fr):=by
 cases x with
 | box cs t=>rw [(hh.1.1 c).1 hc]; exact ⟨_,_,_,hh.2⟩
 | row cs t n sz=>rw [(hh.1.1 c).1 hc]; exact ⟨_,_,_,hh.2.choose_spec.1⟩
 | th t=>exact t.clok h w g hh c hc
 | al r t=>exact t.clok h w g hh c hc
 | pl n=>rw [(hh.1.1 c).1 hc]; obtain ⟨cs,t,h1,_⟩:=hh.2; exact ⟨_,_,_,h1⟩
 | ow D t=>cases h
 | dead=>exact absurd rfl hd
theorem Good.grown {B:Bd} {m0:Nat} {w0:World} {ex:Nat→Bool} {obj:Nat→Option Ob} {β:Env} {w w':World} (h:Good B m0 w0 ex obj β w) (hC:∀ k x,ex k=true→obj k=some x→obClB x=true) {row:Option Nat} (g:w.grownBy w' row) (hr:∀ r,row=some r→B.n≤r∧∃ o:Obj,w.heap[r]?=some o∧o.isCells=false):Good B m0 w0 ex obj β w':=by
 cases row with
 | none=>exact h.on ⟨g.os,g.tape,g.output,g.size,fun k hk=>g.block k hk (fun e=>by cases e)⟩
 | some r =>
  obtain ⟨h1,o,h2,h3⟩:=hr r rfl
  obtain ⟨t1,t2⟩:=grown_touch g h2 h3
  refine h.side t1 t2 (.inl h1) fun k x hk hx hd hF=>?_
  obtain ⟨cs,t,fr,k1⟩:=ob_cells (hC k x hk hx) hd (h.hold k x hk hx).1 r hF
  rw [h2] at k1
  cases k1
  cases h3
end Go.Proofs.YtbepimnlleilfaaGreat.Y
end
