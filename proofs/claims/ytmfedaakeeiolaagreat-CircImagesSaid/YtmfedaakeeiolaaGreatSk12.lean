/- GsT, CiC, CiD, CiE, CiF, Join, CiG, MtB, MwA, G1, MtA, MtD, MtI. -/
import Derived.Shelf.Strings.Builder1
import Derived.Shelf.Strings.Builder2
import Derived.Shelf.Strings.OnBuilder
import Derived.Test.YtmfedaakeeiolaaGreatSk11
set_option linter.unnecessarySimpa false
set_option linter.unusedVariables false
set_option linter.unusedSimpArgs false
section
namespace Go.Proofs.YtmfedaakeeiolaaGreat.Y
open Go Go.RowKit
set_option maxRecDepth 100000
def sFText {x:Rat} (h:Fit x) {u:ByteArray} (hu:textQ x=u):Spec Tryz.prog :=
 ⟨110,Tryz.call110,[.one (.a (fC x))],[],.tup [.c (.b (.v (.string u))),nI' 0],[],fun β w hh=>by
  refine (FText_any (decide (x.num<0)) false (mag x.num.natAbs) (mag x.den) (Nat.le_trans h.1 (by decide)) (Nat.le_trans h.2 (by decide))).mono ?_
  rintro e w' ⟨v,k,rfl,⟨y,_,hy,rfl,rfl⟩ | ⟨hn,_⟩,hb⟩
  · obtain rfl:x=y:=fracV_inj hy
    rw [hu]
    exact ⟨[],(fun _ h=>by cases h),rfl,trivial,hb⟩
  · exact absurd (fitF x h) hn,by kernel_rfl⟩
def z4:List Lf:=[.b (.v (.bool false)),.b (.v (.slice none 0 0)),.b (.v (.bool false)),.b (.v (.slice none 0 0))]
theorem RatAt.zero {w:World} {b:Nat} (hb:w.heap[b]?=some (.cells #[.bool false,.slice none 0 0,.bool false,.slice none 0 0] 213 (0,0))):RatAt w b 0 0:=by
 refine ⟨⟨_,_,hb,by decide,by simp⟩,⟨⟨_,_,hb,by decide,by simp⟩,?_,.slice none 0 0,?_,?_⟩,0,⟨⟨_,_,hb,by decide,by simp⟩,?_,.slice none 0 0,?_,?_⟩,.inr ⟨rfl,rfl⟩⟩
 · rw [cell_of_row _ _ _ _ _ _ hb]; rfl
 · rw [cell_of_row _ _ _ _ _ _ hb]; rfl
 · rw [show (0:Rat).num=0 from rfl,Int.natAbs_zero,dig_zero]; exact Words.nil _
 · rw [cell_of_row _ _ _ _ _ _ hb]; rfl
 · rw [cell_of_row _ _ _ _ _ _ hb]; rfl
 · rw [Int.natAbs_zero,dig_zero]; exact Words.nil _
theorem okr0:Sz KB (0:Rat):=sz_zero.mono (by decide)
def eSum0 {y:Rat} (i n k:Nat) (hy:Sz KB y):Ev Tryz.prog:=.refill 174 Tryz.call174 (fun β=>#[.pointer (some ⟨(β i).b,0,none⟩),.pointer (some ⟨(β i).b,0,none⟩),.pointer ((β k).v 0)]) [(i,.box z4 213),(k,(ratT y).ob)] i i 4 n (ratT (0+y))
 (fun β w h hji ho hs=>by
  have hb:(Ob.box z4 213).holds β w (β i):=h (i,.box z4 213) (by simp)
  obtain ⟨b,hb2,kb⟩:=needP (x:=y) (k:=k) h (by simp)
  simp only [hb2.1]
  exact fillP ho (rAdd_any hs (RatAt.zero hb.2) kb (okr0.okR2 (by decide)) (hy.okR2 (by decide))))
def eSumP {x y:Rat} (i j n k:Nat) (hx:Sz KB x) (hy:Sz KB y):Ev Tryz.prog:=.refill 174 Tryz.call174 (fun β=>#[.pointer (some ⟨(β i).b,0,none⟩),.pointer (some ⟨(β i).b,0,none⟩),.pointer ((β k).v 0)]) [(j,(ratT x).ob),(k,(ratT y).ob)] i j 4 n (ratT (x+y))
 (fun β w h hji ho hs=>by
  obtain ⟨a,ha,ka⟩:=needP (x:=x) (k:=j) h (by simp)
  obtain ⟨b,hb,kb⟩:=needP (x:=y) (k:=k) h (by simp)
  have e:=one_at ho (hji▸ha)
  subst e
  simp only [hb.1]
  exact fillP ho (rAdd_any hs ka kb (hx.okR2 (by decide)) (hy.okR2 (by decide))))
def eSumZ {x y:Rat} (i j n k:Nat) (hx:Sz KB x) (hy:Sz KB y):Ev Tryz.prog:=.refill 174 Tryz.call174 (fun β=>#[.pointer ((β j).v 0),.pointer ((β j).v 0),.pointer ((β k).v 0)]) [(j,(ratT x).ob),(k,(ratT y).ob)] i j 4 n (ratT (x+y))
 (fun β w h hji ho hs=>by
  obtain ⟨a,ha,ka⟩:=needP (x:=x) (k:=j) h (by simp)
  obtain ⟨b,hb,kb⟩:=needP (x:=y) (k:=k) h (by simp)
  have e:=one_at ho (hji▸ha)
  subst e
  simp only [ha.1,hb.1]
  exact fillP ho (rAdd_any hs ka kb (hx.okR2 (by decide)) (hy.okR2 (by decide))))
def sum0 {y:Rat} (hy:Sz KB y):Ev Tryz.prog:=.dyn (fun o _ _=>isCallB o) fun _ xs ob=>lit ob.length fun n=>lit (ptOf (xs.getD 0 undefS)) fun i=>lit (ptOf (xs.getD 2 undefS)) fun k=>eSum0 i n k hy
def sumN {x y:Rat} (hx:Sz KB x) (hy:Sz KB y):Ev Tryz.prog:=.dyn (fun o _ _=>isCallB o) fun _ xs ob=>lit ob.length fun n=>lit (ptOf (xs.getD 2 undefS)) fun k=>match xs.getD 0 undefS with
 | .one (.c (.b (.p i _)))=>lit i fun i=>lit ((findA i ob 0).getD 0) fun j=>eSumP i j n k hx hy
 | .one (.c (.b (.z j _)))=>lit j fun j=>lit (alOf ob j) fun i=>eSumZ i j n k hx hy
 | _=>.eqv 0 undef undef rfl
def roQ:Pt→Nat→Rat
 | .inf,0=>Rat.divInt 1 1
 | .inf,_=>Rat.divInt 0 1
 | .fin z,0=>gnorm z
 | .fin z,1=>z.re
 | .fin z,2=>z.im
 | .fin _,_=>Rat.divInt 1 1
abbrev roT (p:Pt):List Thing:=[ratT (roQ p 0),ratT (roQ p 1),ratT (roQ p 2),ratT (roQ p 3)]
def sRow {p:Pt} (hp:FitP p):Spec Tryz.prog :=
 ⟨297,Tryz.call297,[pV 0 p],pM p,.one (.a [.b (.z 2 0),.b (.z 3 0),.b (.z 4 0),.b (.z 5 0)]),roT p,fun β w hh=>by
  cases p with
  | inf=>exact spec_auto (args:=[pV 0 .inf]) (obs:=pM .inf) (res:=.one (.a [.b (.z 2 0),.b (.z 3 0),.b (.z 4 0),.b (.z 5 0)])) (news:=roT .inf) (evs:=[nNew 1 1 (by decide) (by decide) (by decide),nZero,nZero,nZero]) (Ns:=[]) (m:=400) Tryz.func297 hmA (fun β=>by kernel_rfl) (by kernel_rfl) β w hh
  | fin z=>exact spec_auto (args:=[pV 0 (.fin z)]) (obs:=pM (.fin z)) (res:=.one (.a [.b (.z 2 0),.b (.z 3 0),.b (.z 4 0),.b (.z 5 0)])) (news:=roT (.fin z)) (evs:=[(sParts z).e,(sNorm (fitG_sz hp |>.mono (by decide))).e,nNew 1 1 (by decide) (by decide) (by decide)]) (Ns:=[]) (m:=400) Tryz.func297 hmA (fun β=>by kernel_rfl) (by kernel_rfl) β w hh,by cases p<;>kernel_rfl⟩
abbrev KD5:Nat:=5000
theorem ro_sz {p:Pt} (hp:FitP p) (n:Nat):Sz KD5 (roQ p n):=by
 cases p with
 | inf=>match n with
  | 0=>exact one_sz.mono (by decide)
  | n+1=>exact zero_sz.mono (by decide)
 | fin z =>
  have h:GSz 1024 z:=fitG_sz hp
  match n with
  | 0=>exact h.norm.mono (by decide)
  | 1=>exact h.1.mono (by decide)
  | 2=>exact h.2.mono (by decide)
  | n+3=>exact one_sz.mono (by decide)
section
variable {f g h:Nat→Rat} (hf:∀ n,Sz KD5 (f n)) (hg:∀ n,Sz KD5 (g n)) (hh:∀ n,Sz KD5 (h n))
def trm (f g h:Nat→Rat) (s:Int) (a b c:Nat):Rat:=Rat.divInt s 1*(f a*(g b*h c))
def detE (f g h:Nat→Rat) (i j k:Nat):Rat:=0+trm f g h 1 i j k+trm f g h 1 j k i+trm f g h 1 k i j+trm f g h (-1) i k j+trm f g h (-1) j i k+trm f g h (-1) k j i
abbrev KT:Nat:=15008
include hf hg hh in
theorem trm1_sz (a b c:Nat):Sz KT (trm f g h 1 a b c):=((sz_lit 1 1 (by decide) (by decide) (by decide)).mul ((hf a).mul ((hg b).mul (hh c)))).mono (by decide)
include hf hg hh in
theorem trmN_sz (a b c:Nat):Sz KT (trm f g h (-1) a b c):=((sz_lit (-1) 1 (by decide) (by decide) (by decide)).mul ((hf a).mul ((hg b).mul (hh c)))).mono (by decide)
def tmE (s:Int) (hs : -9223372036854775808≤s∧s≤9223372036854775807) (hz:Sz 8 (Rat.divInt s 1)) (a b c:Nat):List (Ev Tryz.prog) :=
 [nNew s 1 hs (by decide) (by decide),(sMulR ((hg b).mono (by decide)) ((hh c).mono (by decide))).e,(sMulR ((hf a).mono (by decide)) (((hg b).mul (hh c)).mono (by decide))).e,(sMulR (hz.mono (by decide)) (((hf a).mul ((hg b).mul (hh c))).mono (by decide))).e]
theorem one8:Sz 8 (Rat.divInt 1 1):=sz_lit 1 1 (by decide) (by decide) (by decide)
theorem mone8:Sz 8 (Rat.divInt (-1) 1):=sz_lit (-1) 1 (by decide) (by decide) (by decide)
include hf hg hh in
theorem det_szs (i j k:Nat):Sz (1+KT+1) (0+trm f g h 1 i j k)∧Sz (1+KT+1+KT+1) (0+trm f g h 1 i j k+trm f g h 1 j k i)∧Sz (1+KT+1+KT+1+KT+1) (0+trm f g h 1 i j k+trm f g h 1 j k i+trm f g h 1 k i j) ∧
  Sz (1+KT+1+KT+1+KT+1+KT+1) (0+trm f g h 1 i j k+trm f g h 1 j k i+trm f g h 1 k i j+trm f g h (-1) i k j)∧Sz (1+KT+1+KT+1+KT+1+KT+1+KT+1) (0+trm f g h 1 i j k+trm f g h 1 j k i+trm f g h 1 k i j+trm f g h (-1) i k j+trm f g h (-1) j i k)∧Sz 100000 (detE f g h i j k):=by
 have a1:=sz_zero.add (trm1_sz hf hg hh i j k)
 have a2:=a1.add (trm1_sz hf hg hh j k i)
 have a3:=a2.add (trm1_sz hf hg hh k i j)
 have a4:=a3.add (trmN_sz hf hg hh i k j)
 have a5:=a4.add (trmN_sz hf hg hh j i k)
 have a6:=a5.add (trmN_sz hf hg hh k j i)
 exact ⟨a1,a2,a3,a4,a5,a6.mono (by decide)⟩
abbrev iV (n:Nat):SV:=.one (.c (.b (.v (.int .i64 (n:Int)))))
abbrev rowO (f g h:Nat→Rat):List Ob:=[(ratT (f 0)).ob,(ratT (f 1)).ob,(ratT (f 2)).ob,(ratT (f 3)).ob,(ratT (g 0)).ob,(ratT (g 1)).ob,(ratT (g 2)).ob,(ratT (g 3)).ob,(ratT (h 0)).ob,(ratT (h 1)).ob,(ratT (h 2)).ob,(ratT (h 3)).ob,
 .box [.b (.z 0 0),.b (.z 1 0),.b (.z 2 0),.b (.z 3 0),.b (.z 4 0),.b (.z 5 0),.b (.z 6 0),.b (.z 7 0),.b (.z 8 0),.b (.z 9 0),.b (.z 10 0),.b (.z 11 0)] 333]
def detEv (i j k:Nat):List (Ev Tryz.prog) :=
 have z:=det_szs hf hg hh i j k
 tmE hf hg hh 1 (by decide) one8 i j k++[sum0 ((trm1_sz hf hg hh i j k).mono (by decide))]++tmE hf hg hh 1 (by decide) one8 j k i++[sumN (z.1.mono (by decide)) ((trm1_sz hf hg hh j k i).mono (by decide))] ++
  tmE hf hg hh 1 (by decide) one8 k i j++[sumN (z.2.1.mono (by decide)) ((trm1_sz hf hg hh k i j).mono (by decide))]++tmE hf hg hh (-1) (by decide) mone8 i k j++[sumN (z.2.2.1.mono (by decide)) ((trmN_sz hf hg hh i k j).mono (by decide))] ++
  tmE hf hg hh (-1) (by decide) mone8 j i k++[sumN (z.2.2.2.1.mono (by decide)) ((trmN_sz hf hg hh j i k).mono (by decide))]++tmE hf hg hh (-1) (by decide) mone8 k j i++[sumN (z.2.2.2.2.1.mono (by decide)) ((trmN_sz hf hg hh k j i).mono (by decide))]
noncomputable def sDet123:OSpec Tryz.prog :=
 OSpec.auto Tryz.call298 [iV 1,iV 2,iV 3,.one (.c (.b (.p 12 0)))] (rowO f g h) (rV 13) [detE f g h 1 2 3] (detEv hf hg hh 1 2 3) [(5,23)] 3000 Tryz.func298 hmA (by kernel_rfl) (fun β=>by kernel_rfl)
noncomputable def sDet023:OSpec Tryz.prog :=
 OSpec.auto Tryz.call298 [iV 0,iV 2,iV 3,.one (.c (.b (.p 12 0)))] (rowO f g h) (rV 13) [detE f g h 0 2 3] (detEv hf hg hh 0 2 3) [(5,23)] 3000 Tryz.func298 hmA (by kernel_rfl) (fun β=>by kernel_rfl)
noncomputable def sDet013:OSpec Tryz.prog :=
 OSpec.auto Tryz.call298 [iV 0,iV 1,iV 3,.one (.c (.b (.p 12 0)))] (rowO f g h) (rV 13) [detE f g h 0 1 3] (detEv hf hg hh 0 1 3) [(5,23)] 3000 Tryz.func298 hmA (by kernel_rfl) (fun β=>by kernel_rfl)
noncomputable def sDet012:OSpec Tryz.prog :=
 OSpec.auto Tryz.call298 [iV 0,iV 1,iV 2,.one (.c (.b (.p 12 0)))] (rowO f g h) (rV 13) [detE f g h 0 1 2] (detEv hf hg hh 0 1 2) [(5,23)] 3000 Tryz.func298 hmA (by kernel_rfl) (fun β=>by kernel_rfl)
end
theorem rat_self {x:Rat} (h:x≠0):x*x⁻¹=1:=Rat.mul_inv_cancel x h
theorem rby_one {r:RQ} (h0:rby r≠0):rby (rone r)=1:=by
 unfold rone
 generalize hx:rby r=x at h0 ⊢
 unfold rby rbyQ at hx
 have key:∀ y:Rat,y=0→y*x⁻¹=0:=fun y e=>by rw [e,Rat.zero_mul]
 cases h1:decide (r.a=0) with
 | false =>
  rw [h1] at hx
  have e:(rnm r x).a=1:=by show r.a*x⁻¹=1; rw [show r.a=x from hx]; exact rat_self h0
  unfold rby rbyQ
  rw [show decide ((rnm r x).a=0)=false by rw [e]; decide]
  exact e
 | true =>
  have ha:(rnm r x).a=0:=key _ (of_decide_eq_true h1)
  cases h2:decide (r.b.re=0) with
  | false =>
   rw [h1,h2] at hx
   have e:(rnm r x).b.re=1:=by show r.b.re*x⁻¹=1; rw [show r.b.re=x from hx]; exact rat_self h0
   unfold rby rbyQ
   rw [show decide ((rnm r x).a=0)=true by rw [ha]; decide,show decide ((rnm r x).b.re=0)=false by rw [e]; decide]
   exact e
  | true =>
   rw [h1,h2] at hx
   have hr:(rnm r x).b.re=0:=key _ (of_decide_eq_true h2)
   have e:(rnm r x).b.im=1:=by show r.b.im*x⁻¹=1; rw [show r.b.im=x from hx]; exact rat_self h0
   unfold rby rbyQ
   rw [show decide ((rnm r x).a=0)=true by rw [ha]; decide,show decide ((rnm r x).b.re=0)=true by rw [hr]; decide]
   exact e
theorem rone_rone {r:RQ} (h0:rby r≠0):rone (rone r)=rone r:=by
 have h1:(1:Rat)⁻¹=1:=of_decide_eq_true (by kernel_rfl:decide ((1:Rat)⁻¹=1)=true)
 have h:∀ s:RQ,rnm s 1=s:=fun s=>by
  unfold rnm gscale
  rw [h1,Rat.mul_one,Rat.mul_one,Rat.mul_one,Rat.mul_one]
 have:rone (rone r)=rnm (rone r) 1:=by rw [← rby_one h0]; rfl
 rw [this,h]
theorem sq_sum {x y:Rat} (h:x*x+y*y=0):x=0∧y=0:=by
 have hn:∀ z:Rat,0≤z*z:=fun z=>by
  rcases Rat.le_total (a:=0) (b:=z) with h | h
  · exact Rat.mul_nonneg h h
  · have:=Rat.mul_nonneg (a:=-z) (b:=-z) (by grind) (by grind)
    grind
 have h1:=hn x
 have h2:=hn y
 have e1:x*x=0:=by grind
 have e2:y*y=0:=by grind
 exact ⟨by rcases Rat.mul_eq_zero.1 e1 with h | h<;>exact h,by rcases Rat.mul_eq_zero.1 e2 with h | h<;>exact h⟩
theorem tri_no {a b u1 u2 v1 v2:Rat} (hu:¬ (u1=0∧u2=0)) (hv:¬ (v1=0∧v2=0)) (hd:¬ (u1-v1=0∧u2-v2=0))
  (k1:u1*v2-u2*v1=0) (k2:(2*(a*u1+b*u2)+(u1*u1+u2*u2))*v2=(2*(a*v1+b*v2)+(v1*v1+v2*v2))*u2)
  (k3:(2*(a*u1+b*u2)+(u1*u1+u2*u2))*v1=(2*(a*v1+b*v2)+(v1*v1+v2*v2))*u1):False:=by
 have a1:(a*u1+b*u2)*(v1*v1+v2*v2)=(a*v1+b*v2)*(u1*v1+u2*v2):=by
  have:(a*u1+b*u2)*(v1*v1+v2*v2)-(a*v1+b*v2)*(u1*v1+u2*v2)=(a*v2-b*v1)*(u1*v2-u2*v1):=by grind
  rw [k1,Rat.mul_zero] at this
  grind
 have a2:(a*u1+b*u2)*(u1*v1+u2*v2)=(a*v1+b*v2)*(u1*u1+u2*u2):=by
  have:(a*u1+b*u2)*(u1*v1+u2*v2)-(a*v1+b*v2)*(u1*u1+u2*u2)=(a*u2-b*u1)*(u1*v2-u2*v1):=by grind
  rw [k1,Rat.mul_zero] at this
  grind
 have b1:(2*(a*u1+b*u2)+(u1*u1+u2*u2))*(v1*v1+v2*v2)=(2*(a*v1+b*v2)+(v1*v1+v2*v2))*(u1*v1+u2*v2):=by
  have:(2*(a*u1+b*u2)+(u1*u1+u2*u2))*(v1*v1+v2*v2)=((2*(a*u1+b*u2)+(u1*u1+u2*u2))*v1)*v1+((2*(a*u1+b*u2)+(u1*u1+u2*u2))*v2)*v2:=by grind
  rw [this,k3,k2]
  grind
 have b2:(2*(a*u1+b*u2)+(u1*u1+u2*u2))*(u1*v1+u2*v2)=(2*(a*v1+b*v2)+(v1*v1+v2*v2))*(u1*u1+u2*u2):=by
  have:(2*(a*u1+b*u2)+(u1*u1+u2*u2))*(u1*v1+u2*v2)=((2*(a*u1+b*u2)+(u1*u1+u2*u2))*v1)*u1+((2*(a*u1+b*u2)+(u1*u1+u2*u2))*v2)*u2:=by grind
  rw [this,k3,k2]
  grind
 generalize hα:a*u1+b*u2=α at *
 generalize hβ:a*v1+b*v2=β at *
 generalize hS:u1*u1+u2*u2=S at *
 generalize hT:v1*v1+v2*v2=T at *
 generalize hP:u1*v1+u2*v2=Q at *
 have hS0:S≠0:=fun e=>hu (sq_sum (by rw [hS]; exact e))
 have hT0:T≠0:=fun e=>hv (sq_sum (by rw [hT]; exact e))
 have c1:T*(S-Q)=0:=by grind
 have c2:S*(Q-T)=0:=by grind
 have d1:S-Q=0:=(Rat.mul_eq_zero.1 c1).resolve_left hT0
 have d2:Q-T=0:=(Rat.mul_eq_zero.1 c2).resolve_left hS0
 exact hd (sq_sum (by grind))
theorem lit1:(Rat.divInt 1 1:Rat)=1:=of_decide_eq_true (by kernel_rfl:decide ((Rat.divInt 1 1:Rat)=1)=true)
theorem litN:(Rat.divInt (-1) 1:Rat) = -1:=of_decide_eq_true (by kernel_rfl:decide ((Rat.divInt (-1) 1:Rat) = -1)=true)
theorem litH0:(Rat.divInt (-1) 2:Rat)≠0:=of_decide_eq_true (by kernel_rfl:decide ((Rat.divInt (-1) 2:Rat)≠0)=true)
abbrev hlf:Rat:=Rat.divInt (-1) 2
def detR (f g h:Nat→Rat) (i j k:Nat):Rat:=f i*(g j*h k-g k*h j)-f j*(g i*h k-g k*h i)+f k*(g i*h j-g j*h i)
theorem det_eq (f g h:Nat→Rat) (i j k:Nat):detE f g h i j k=detR f g h i j k:=by
 unfold detE detR trm
 rw [lit1,litN]
 grind
def thrQ (p q r:Pt):RQ:=⟨detE (roQ p) (roQ q) (roQ r) 1 2 3,⟨detE (roQ p) (roQ q) (roQ r) 0 2 3*hlf,detE (roQ p) (roQ q) (roQ r) 0 1 3*hlf⟩,-(detE (roQ p) (roQ q) (roQ r) 0 1 2)⟩
theorem thr_dets {p q r:Pt} (h1:p≠q) (h2:q≠r) (h3:p≠r):¬ (detE (roQ p) (roQ q) (roQ r) 1 2 3=0∧detE (roQ p) (roQ q) (roQ r) 0 2 3=0∧detE (roQ p) (roQ q) (roQ r) 0 1 3=0):=by
 rw [det_eq,det_eq,det_eq]
 unfold detR
 have ne:∀ {z w:GQ},Pt.fin z≠Pt.fin w→¬ (z.re=w.re∧z.im=w.im):=fun h e=>h (congrArg Pt.fin (GQ.ext2 e.1 e.2))
 rintro ⟨k1,k2,k3⟩
 cases p with
 | inf=>cases q with
  | inf=>exact h1 rfl
  | fin w=>cases r with
   | inf=>exact h3 rfl
   | fin t =>
    simp only [roQ,lit1,zero_div] at k1 k2 k3
    exact ne h2 ⟨by grind,by grind⟩
 | fin z=>cases q with
  | inf=>cases r with
   | inf=>exact h2 rfl
   | fin t =>
    simp only [roQ,lit1,zero_div] at k1 k2 k3
    exact ne h3 ⟨by grind,by grind⟩
  | fin w=>cases r with
   | inf =>
    simp only [roQ,lit1,zero_div] at k1 k2 k3
    exact ne h1 ⟨by grind,by grind⟩
   | fin t =>
    simp only [roQ,lit1,gnorm] at k1 k2 k3
    refine tri_no (a:=z.re) (b:=z.im) (u1:=w.re-z.re) (u2:=w.im-z.im) (v1:=t.re-z.re) (v2:=t.im-z.im) (fun e=>ne h1 ⟨by grind,by grind⟩) (fun e=>ne h3 ⟨by grind,by grind⟩) (fun e=>ne h2 ⟨by grind,by grind⟩) ?_ ?_ ?_
    · grind
    · grind
    · grind
theorem thr_ne {p q r:Pt} (h1:p≠q) (h2:q≠r) (h3:p≠r):rby (thrQ p q r)≠0:=by
 intro e
 have h:=thr_dets h1 h2 h3
 unfold rby rbyQ thrQ at e
 dsimp only at e
 have hh:∀ x:Rat,x*hlf=0→x=0:=fun x e=>(Rat.mul_eq_zero.1 e).resolve_right litH0
 cases k1:decide (detE (roQ p) (roQ q) (roQ r) 1 2 3=0) with
 | false=>rw [k1] at e; exact of_decide_eq_false k1 e
 | true=>cases k2:decide (detE (roQ p) (roQ q) (roQ r) 0 2 3*hlf=0) with
  | false=>rw [k1,k2] at e; exact of_decide_eq_false k2 e
  | true =>
   rw [k1,k2] at e
   exact h ⟨of_decide_eq_true k1,hh _ (of_decide_eq_true k2),hh _ e⟩
section
variable {p q r:Pt} (hp:FitP p) (hq:FitP q) (hr:FitP r)
theorem hlf_sz:Sz 8 hlf:=sz_lit (-1) 2 (by decide) (by decide) (by decide)
include hp hq hr in
theorem dt_sz (i j k:Nat):Sz 100000 (detE (roQ p) (roQ q) (roQ r) i j k):=(det_szs (ro_sz hp) (ro_sz hq) (ro_sz hr) i j k).2.2.2.2.2
include hp hq hr in
theorem thr_sz:RSz 300000 (thrQ p q r) :=
 ⟨(dt_sz hp hq hr 1 2 3).mono (by decide),⟨((dt_sz hp hq hr 0 2 3).mul hlf_sz).mono (by decide),((dt_sz hp hq hr 0 1 3).mul hlf_sz).mono (by decide)⟩,(dt_sz hp hq hr 0 1 2).neg.mono (by decide)⟩
noncomputable def sEThrough (h0:rby (thrQ p q r)≠0):Spec Tryz.prog :=
 Spec.auto Tryz.call201 [pV 0 p,pV 2 q,pV 4 r] (pM p++pM q++pM r) (rgV 6) (rgT (rone (thrQ p q r)))
  [(sRow hp).e,(sRow hq).e,(sRow hr).e,nNew (-1) 2 (by decide) (by decide) (by decide),(sDet123 (ro_sz hp) (ro_sz hq) (ro_sz hr)).e,(sDet023 (ro_sz hp) (ro_sz hq) (ro_sz hr)).e,(sMulR ((dt_sz hp hq hr 0 2 3).mono (by decide)) (hlf_sz.mono (by decide))).e,
   (sDet013 (ro_sz hp) (ro_sz hq) (ro_sz hr)).e,(sMulR ((dt_sz hp hq hr 0 1 3).mono (by decide)) (hlf_sz.mono (by decide))).e,mkR,(sDet012 (ro_sz hp) (ro_sz hq) (ro_sz hr)).e,fNeg (detE (roQ p) (roQ q) (roQ r) 0 1 2),(sRNormal ((thr_sz hp hq hr).mono (by decide)) rfl rfl h0).e]
  [(1,8)] 3000 Tryz.func201 hmA (by kernel_rfl) (fun β=>by kernel_rfl)
end
def sETwice {x:Rat} (hx:Sz KB x):Spec Tryz.prog :=
 Spec.auto Tryz.call306 [rV 0] [ratT x] (rV 1) [ratT (x+x)] [mkR,fAdd hx hx] [] 400 Tryz.func306 hmA (by kernel_rfl) (fun β=>by kernel_rfl)
abbrev KS3:Nat:=10000000
noncomputable def sSum3 {x y z:Rat} (hx:Sz KS3 x) (hy:Sz KS3 y) (hz:Sz KS3 z):OSpec Tryz.prog :=
 OSpec.auto Tryz.call305 [.one (.c (.b (.s 3 0 3 3)))] [(ratT x).ob,(ratT y).ob,(ratT z).ob,.box [.b (.z 0 0),.b (.z 1 0),.b (.z 2 0)] 153] (rV 4) [0+x+y+z]
  [sum0 (hx.mono (by decide)),sumN ((sz_zero.add hx).mono (by decide)) (hy.mono (by decide)),sumN (((sz_zero.add hx).add hy).mono (by decide)) (hz.mono (by decide))] [] 800 Tryz.func305 hmA (by kernel_rfl) (fun β=>by kernel_rfl)
def valQ (r:RQ) (z:GQ):Rat:=0+r.a*gnorm z+((gmul r.b z).re+(gmul r.b z).re)+r.c
noncomputable def sValue {r:RQ} {z:GQ} (h:RSz KC r) (hz:GSz KC z):Spec Tryz.prog :=
 Spec.auto Tryz.call214 [rgV 0,nV 4] (rgT r++gM z) (rV 6) [ratT (valQ r z)]
  [(sMul (h.b.mono (by decide)) (hz.mono (by decide))).e,(sParts (gmul r.b z)).e,(sNorm (hz.mono (by decide))).e,(sMulR (h.a.mono (by decide)) (hz.norm.mono (by decide))).e,(sETwice ((h.b.mul hz).1.mono (by decide))).e,
   (sSum3 ((h.a.mul hz.norm).mono (by decide)) (((h.b.mul hz).1.add (h.b.mul hz).1).mono (by decide)) (h.c.mono (by decide))).e] [(2,12)] 800 Tryz.func214 hmA (by kernel_rfl) (fun β=>by kernel_rfl)
def sidQ (r:RQ):Pt→Rat
 | .inf=>r.a
 | .fin z=>valQ r z
noncomputable def sESide {r:RQ} {p:Pt} (h:RSz KC r) (hp:FitP p):Spec Tryz.prog :=
 ⟨205,Tryz.call205,[rgV 0,pV 4 p],rgT r++pM p,.one (nI' (sidQ r p).num.sign),[],fun β w hh=>by
  cases p with
  | inf=>exact spec_auto (args:=[rgV 0,pV 4 .inf]) (obs:=rgT r++pM .inf) (evs:=[nSign (x:=r.a) rfl]) (Ns:=[]) (m:=400) Tryz.func205 hmA (fun β=>by kernel_rfl) (by kernel_rfl) β w hh
  | fin z=>exact spec_auto (args:=[rgV 0,pV 4 (.fin z)]) (obs:=rgT r++pM (.fin z)) (evs:=[(sValue h (fitG_sz hp |>.mono (by decide))).e,nSign (x:=valQ r z) rfl]) (Ns:=[]) (m:=400) Tryz.func205 hmA (fun β=>by kernel_rfl) (by kernel_rfl) β w hh,by cases p<;>kernel_rfl⟩
theorem cmp_self (x:Rat):cmpQ x x=0:=by
 have h:(!(cmpQ x x==0))=false∨(!(cmpQ x x==0))=true:=by cases (!(cmpQ x x==0))<;>simp
 unfold cmpQ
 simp
theorem gsub_self (z:GQ):gzero (gsub z z)=true:=by
 rw [gz_true]
 refine GQ.ext2 ?_ ?_<;>(simp only [gsub,g0]; grind)
noncomputable def sRSame {r:RQ} (h:RSz KC r):Spec Tryz.prog :=
 Spec.auto Tryz.call303 [rgV 0,rgV 4] (rgT r++rgT r) (tB' true) [] [nCmp (h.a.mono (by decide)) (h.a.mono (by decide)) (cmp_self r.a),(sSame (h.b.mono (by decide)) (h.b.mono (by decide)) (gsub_self r.b)).e,nCmp (h.c.mono (by decide)) (h.c.mono (by decide)) (cmp_self r.c)] [] 400 Tryz.func303 hmA (by kernel_rfl) (fun β=>by kernel_rfl)
structure MayC (r:RQ):Prop where
 fit:FitC r
 pow:decide ((rpow r).num.sign≤0)=false
 one:rone r=r
theorem MayC.sz {r:RQ} (h:MayC r):RSz KC r:=mk_sz h.fit.1 h.fit.2.1 h.fit.2.2
def Spec.newsTo {P:Program} (S:Spec P) (l:List Thing) (h:S.news=l):Spec P :=
 ⟨S.f,S.en,S.args,S.obs,S.res,l,fun β w hh=>by rw [← h]; exact S.ok β w hh,by rw [← h]; exact S.closed⟩
noncomputable def sRNorm1 {r:RQ} (h:MayC r):Spec Tryz.prog :=
 (sRNormal h.sz rfl rfl (rby_ne h.pow)).newsTo (rgT r) (by show rgT (rone r)=rgT r; rw [h.one])
noncomputable def sWheel {r:RQ} (h:MayC r):Spec Tryz.prog :=
 Spec.auto Tryz.call209 [.one (.a (cC r))] [] (.tup [.a [.b (.z 0 0),.b (.z 1 0),.b (.z 2 0),.b (.z 3 0)],.c (.b (.v (.bool true)))]) (rgT r)
  [(ofG h.fit.2.1).e,(sRatIn h.fit.1).e,(sRatIn h.fit.2.2).e,dEq r.a,dEq r.c,(sPower h.sz).e,nSign (x:=rpow r) rfl,.eqv 37 (.bool (decide ((rpow r).num.sign≤0))) (.bool false) (sgn_le h.pow),(sRNorm1 h).e,(sRSame h.sz).e] [(2,9),(5,5)] 1200 Tryz.func209 hmA (by kernel_rfl) (fun β=>by kernel_rfl)
noncomputable def sCCheck {r:RQ} (h:MayC r):Spec Tryz.prog :=
 Spec.auto Tryz.call86 [.one (.a (cC r))] [] (.one (nI' 0)) [] [(sWheel h).e] [] 400 Tryz.func86 hmA (by kernel_rfl) (fun β=>by kernel_rfl)
theorem sgn_lt {n:Int} {t:Bool} (h:decide (n<0)=t):Value.bool (decide (n<0))=.bool t:=by rw [h]
noncomputable def sdE {r:RQ} {p:Pt} (h:MayC r) (hp:FitP p):List (Ev Tryz.prog):=[(sWheel h).e,(sSpotP p hp).e,(sESide h.sz hp).e]
noncomputable def sCSideN {r:RQ} {p:Pt} (h:MayC r) (hp:FitP p) (hs:decide ((sidQ r p).num.sign<0)=true):Spec Tryz.prog :=
 Spec.auto Tryz.call87 [.one (.a (cC r)),svP p] [] (.tup [nI' (-1),nI' 0]) [] (sdE h hp++[.eqv 32 (.bool (decide ((sidQ r p).num.sign<0))) (.bool true) (sgn_lt hs)]) [] 400 Tryz.func87 hmA (by kernel_rfl) (fun β=>by kernel_rfl)
theorem den_three (β:Env) (n:Nat) (b:Bool) (p q:Pl):(SV.one (.a [.b (.v (.bool b)),.b (.z n 0),.b (.z (n+1) 0)])).den (extE β n [p,q])=.agg #[.bool b,.pointer (p.v 0),.pointer (q.v 0)]:=by
 have h1:=extE_in (β:=β) (n:=n) (i:=0) (xs:=[p,q]) rfl
 have h2:=extE_in (β:=β) (n:=n) (i:=1) (xs:=[p,q]) rfl
 rw [Nat.add_zero] at h1
 simp [SV.den,SC.den,Lf.den,Lf0.den,h1,h2]
def rdPlace (d t:Nat) (e:TypeId) (cs:List Cd) (o:Nat) (b:Bool) (x y:Rat) (hb:cs[o]?=some (.v (.bool b))) (hx:cs[o+1]?=some (.r x)) (hy:cs[o+2]?=some (.r y)) (k n:Nat):Ev Tryz.prog :=
 .rd d (.load 181 (.tmp t)) (fun β=>[.pointer (some ⟨(β k).b,o,none⟩)]) [(k,(rowT e cs).ob)] n (.one (.a [.b (.v (.bool b)),.b (.z n 0),.b (.z (n+1) 0)])) [ratM x,ratM y] (fun β w h ρ op ho hx'=>by
  have h1:RW e cs w (β k):=h (k,(rowT e cs).ob) (by simp)
  have h2:ρ (.tmp t)=.pointer (some ⟨(β k).b,o,none⟩):=by simpa [Op.operands] using hx'
  have p1:=cdOk_at h1.2.1.1 hx
  have p2:=cdOk_at h1.2.1.1 hy
  rw [Nat.zero_add] at p1 p2
  refine ⟨[cellPl (β k) (o+1),cellPl (β k) (o+2)],w,fun g hg c hc=>.inr ⟨(k,(rowT e cs).ob),by simp,rfl,?_⟩,?_,⟨cellPl_or p1,cellPl_or p2,trivial⟩,Below.refl _ _⟩
  · rcases List.mem_cons.1 hg with rfl | hg
    · exact cellPl_F p1 hc
    · obtain rfl:=List.mem_singleton.1 hg
      exact cellPl_F p2 hc
  · have hr:w.rangeAt (β k).b o [.bool b,.pointer ((β k).v (o+1)),.pointer ((β k).v (o+2))]:=fun j v hv=>by
     match j,hv with
     | 0,hv=>simp only [List.getElem?_cons_zero] at hv; obtain rfl:=Option.some.inj hv; exact rw_cell h1 hb
     | 1,hv=>simp only [List.getElem?_cons_succ,List.getElem?_cons_zero] at hv; obtain rfl:=Option.some.inj hv; exact rw_cell h1 hx
     | 2,hv=>simp only [List.getElem?_cons_succ,List.getElem?_cons_zero] at hv; obtain rfl:=Option.some.inj hv; exact rw_cell h1 hy
     | j+3,hv=>simp at hv
    have hl:=run_loadAt_mid (P:=Tryz.prog) w (β k).b o 181 _ _ hr Tryz.underlying181 (by kernel_rfl) (by kernel_rfl)
    rw [den_three]
    unfold execOp
    rw [ho]
    simp only [h2]
    simp [hl,Result.andThen]
    exact ⟨rfl,rfl⟩)
def dPlace (e:TypeId) (cs:List Cd):Ev Tryz.prog:=.dyn (fun o xs ob=>match o.op with
 | .load T (.tmp _)=>Nat.beq T 181&&isAd (xs.getD 0 undefS)&&(match ob[(adOf (xs.getD 0 undefS)).1]? with | some (.th _)=>true | _=>false)
 | _=>false) fun o xs ob=>match o.op with
 | .load _ (.tmp t)=>lit (adOf (xs.getD 0 undefS)).1 fun k=>lit (adOf (xs.getD 0 undefS)).2 fun off=>lit ob.length fun n=>match hb:cs[off]?,hx:cs[off+1]?,hy:cs[off+2]? with
  | some (.v (.bool b)),some (.r x),some (.r y)=>rdPlace (o.dst.getD 0) t e cs off b x y hb hx hy k n
  | _,_,_=>.eqv 0 undef undef rfl
 | _=>.eqv 0 undef undef rfl
def rdIdxP (d t:Nat) (e:TypeId) (cs:List Cd) (ix:Operand) (n j:Nat) (hj:Nat.blt j n=true) (k:Nat):Ev Tryz.prog :=
 .rd d (.indexAddr 233 (.tmp t) ix) (fun β=>[.slice ((β k).v cs.length) n ((β k).c cs.length),.int .i64 (j:Int)]) [(k,(rowT e cs).ob)] 0 (.one (.c (.b (.p k (j*3))))) [] (fun β w h ρ op ho hx'=>by
  have h1:RW e cs w (β k):=h (k,(rowT e cs).ob) (by simp)
  have h2:ρ (.tmp t)=.slice (some ⟨(β k).b,0,none⟩) n ((β k).c cs.length)∧ρ ix=.int .i64 (j:Int):=by
   rw [h1.2.1.2] at hx'
   simpa [Op.operands] using hx'
  rw [Nat.blt_eq] at hj
  refine ⟨[],w,(fun _ h=>by cases h),?_,trivial,Below.refl _ _⟩
  rw [extE_nil]
  unfold execOp
  rw [ho]
  simp only [h2.1,h2.2]
  have hi:=run_indexAt_slice (P:=Tryz.prog) w 233 ⟨(β k).b,0,none⟩ n ((β k).c cs.length) .i64 (j:Int) (by kernel_rfl)
  have hsz:(sizeOf (Tryz.prog.elem 233)).run Tryz.prog w=.ok 3 w:=by kernel_rfl
  rw [if_pos ⟨by omega,by omega⟩,hsz,Result.andThen_ok,Int.toNat_natCast] at hi
  have ha:(⟨(β k).b,0,none⟩:Addr).add (j*3)=⟨(β k).b,j*3,none⟩:=by
   simp [Addr.add]
   exact fun h=>h.symm
  rw [ha] at hi
  simp only [Sem.run_bind,hi,Result.andThen_ok]
  rfl)
def dIdxP (e:TypeId) (cs:List Cd):Ev Tryz.prog:=.dyn (fun o xs ob=>match o.op with
 | .indexAddr _ (.tmp _) _=>isY (xs.getD 0 undefS)
 | _=>false) fun o xs ob=>match o.op with
 | .indexAddr _ (.tmp t) ix=>lit (yOf (xs.getD 0 undefS)).1 fun k=>lit (yOf (xs.getD 0 undefS)).2 fun n=>lit (intS (xs.getD 1 undefS)) fun j=>if h:Nat.blt j n=true then rdIdxP (o.dst.getD 0) t e cs ix n j h k else .eqv 0 undef undef rfl
 | _=>.eqv 0 undef undef rfl
theorem place_some:(Tryz.prog.info? 181).isSome=true:=by kernel_rfl
noncomputable def appP:AppT Tryz.prog :=
 ⟨233,181,(Tryz.prog.info? 181).get place_some,.agg #[.bool false,.pointer none,.pointer none],3,24,Tryz.underlying233,(Option.some_get place_some).symm,by kernel_rfl,by kernel_rfl,by kernel_rfl,rfl,by decide,by decide⟩
def plCd (p:Pt):List Cd:=[.v (.bool (pI p)),.r (pG p).re,.r (pG p).im]
abbrev pl3 (p q r:Pt):List Cd:=plCd p++plCd q++plCd r
abbrev sp3A:List SV:=[.one (.c (.b (.s 0 0 3 3)))]
def sp3L (p q r:Rw):List Lf:=lsX p.C++lsX q.C++lsX r.C
abbrev PLT:TypeId:=181
def sp3O (p q r:Pt):List (Nat × Ob) :=
 [(18,.row [.b (.v (.bool (pI p))),.b (.z 2 0),.b (.z 3 0),.b (.v (.bool (pI q))),.b (.z 8 0),.b (.z 9 0),.b (.v (.bool (pI r))),.b (.z 14 0),.b (.z 15 0)] PLT 3 3),
  (2,(ratM (pG p).re).ob),(3,(ratM (pG p).im).ob),(8,(ratM (pG q).re).ob),(9,(ratM (pG q).im).ob),(14,(ratM (pG r).re).ob),(15,(ratM (pG r).im).ob)]
noncomputable def sp3E {p q r:Pt} (hp:FitP p) (hq:FitP q) (hr:FitP r):List (Ev Tryz.prog):=[(sSpotP p hp).e,.app appP,(sSpotP q hq).e,.app appP,(sSpotP r hr).e,.app appP]
theorem sp3_eqs {p q r:Pt} (hp:FitP p) (hq:FitP q) (hr:FitP r) (β:Env) :
  (allS Tryz.prog Tryz.f199 sp3A [.box (sp3L p.w q.w r.w) 52] (sp3E hp hq hr) [] 800 (.tup [.c (.b (.r 18 3)),.c (.b (.v (.bool true)))]) (sp3O p q r) β).map Prod.fst =
  (allS Tryz.prog Tryz.f199 sp3A [.box (sp3L p.w q.w r.w) 52] (sp3E hp hq hr) [] 800 (.tup [.c (.b (.r 18 3)),.c (.b (.v (.bool true)))]) (sp3O p q r) β).map Prod.snd:=by kernel_rfl
theorem pt_no_rat {w:World} {b:Nat} {c0:Value} {b1:Bool} {l:List Value} {t:TypeId} {x:Rat} (h:w.heap[b]?=some (.cells (c0::.bool b1::l).toArray t (0,0))) (k:RatAt w b 0 x):False:=by
 obtain ⟨A,m,cap,_,h1,_⟩:=k.2.1.open_
 have h2:=cell_lay (o:=1) h rfl
 rw [Nat.zero_add,h2] at h1
 cases h1
theorem or_cd {w:World} {g G:Pl} {x:Rat} {i:Nat} (h:OR0 x w g) (hv:G.v i=g.v 0) (hF:∀ c,g.F c→G.F c):cdP w G i (.r x):=by
 rcases h with ⟨h1,_,h3⟩ | ⟨b,h1,h2⟩
 · exact .inl ⟨hv.trans h1,h3⟩
 · exact .inr ⟨b,hv.trans h1.1,hF b ((h1.2 b).2 rfl),h2⟩
theorem spots3_ok {p q r:Pt} (hp:FitP p) (hq:FitP q) (hr:FitP r) (β:Env) (w:World) (hh:(Ob.box (sp3L p.w q.w r.w) 52).holds β w (β 0)) :
  Calls Tryz.prog 199 (sp3A.map (SV.den β)).toArray w fun e u=>∃ xs:List Pl,(∀ x∈xs,∀ c,x.F c→w.heap.size≤c)∧e=.returned ((SV.tup [.c (.b (.y 1 9 3)),.c (.b (.v (.bool true)))]).den (extE β 1 xs))∧newHold u [rowT PLT (pl3 p q r)] xs∧Below w.heap.size w u:=by
 refine (sx (P:=Tryz.prog) sp3A [.box (sp3L p.w q.w r.w) 52] (sp3E hp hq hr) [] 800 (.tup [.c (.b (.r 18 3)),.c (.b (.v (.bool true)))]) (sp3O p q r) Tryz.func199 hmA (fun β=>ok_of_maps (sp3_eqs hp hq hr β)) (by kernel_rfl) (by kernel_rfl) β w (fun k o ho=>?_)).mono ?_
 · cases k with
   | zero=>simp only [List.getElem?_cons_zero] at ho; obtain rfl:=Option.some.inj ho; exact hh
   | succ k=>simp at ho
 · rintro e u ⟨β',q',obj,e1,rfl,e2,e4,e5,g⟩
   have hnew:∀ y∈sp3O p q r,∀ c,(β' y.1).F c→c≠(β 0).b→w.heap.size≤c:=fun y hy c hc hne=>by
    rcases e4 y hy c hc with h | ⟨i,hi,h⟩
    · exact h
    · obtain rfl:i=0:=by simp only [List.length_singleton] at hi; omega
      exact absurd ((hh.1.1 c).1 h) hne
   have hu:u.heap[(β 0).b]?=some (.cells ((sp3L p.w q.w r.w).map (Lf.den β)).toArray 52 (0,0)):=by rw [g.bel.block _ (heap_lt hh.2)]; exact hh.2
   have hrat:∀ (k:Nat) (x:Rat),(k,(ratM x).ob)∈sp3O p q r→OR0 x u (β' k)∧∀ c,(β' k).F c→w.heap.size≤c:=fun k x hk=>by
    have h:OR0 x u (β' k):=e5 _ hk
    refine ⟨h,fun c hc=>?_⟩
    rcases h with ⟨_,h2,_⟩ | ⟨b,hb,hx⟩
    · exact absurd hc (h2 c)
    · have ec:=(hb.2 c).1 hc
      subst ec
      refine hnew _ hk c hc fun e=>?_
      rw [e] at hx
      exact pt_no_rat hu hx
   obtain ⟨o2,n2⟩:=hrat 2 (pG p).re (by simp [sp3O])
   obtain ⟨o3,n3⟩:=hrat 3 (pG p).im (by simp [sp3O])
   obtain ⟨o8,n8⟩:=hrat 8 (pG q).re (by simp [sp3O])
   obtain ⟨o9,n9⟩:=hrat 9 (pG q).im (by simp [sp3O])
   obtain ⟨o14,n14⟩:=hrat 14 (pG r).re (by simp [sp3O])
   obtain ⟨o15,n15⟩:=hrat 15 (pG r).im (by simp [sp3O])
   obtain ⟨hone,cur,hcur,hcl,hn,hcm,hsz,htake⟩:=e5 (18,.row [.b (.v (.bool (pI p))),.b (.z 2 0),.b (.z 3 0),.b (.v (.bool (pI q))),.b (.z 8 0),.b (.z 9 0),.b (.v (.bool (pI r))),.b (.z 14 0),.b (.z 15 0)] PLT 3 3) (by simp [sp3O])
   have hb18:w.heap.size≤(β' 18).b:=hnew _ (by simp [sp3O]) _ ((hone.1 _).2 rfl) fun e=>by
    rw [e,hu] at hcur
    have:=(Obj.cells.inj (Option.some.inj hcur)).2.1
    exact absurd this (by decide)
   refine ⟨[⟨(β' 18).b,fun i=>match i with | 1=>(β' 2).v 0 | 2=>(β' 3).v 0 | 4=>(β' 8).v 0 | 5=>(β' 9).v 0 | 7=>(β' 14).v 0 | 8=>(β' 15).v 0 | 9=>some ⟨(β' 18).b,0,none⟩ | _=>none,fun _=>(β' 18).c 0,
    fun c=>c=(β' 18).b∨(β' 2).F c∨(β' 3).F c∨(β' 8).F c∨(β' 9).F c∨(β' 14).F c∨(β' 15).F c,fun _=>undef⟩],fun x hx c hc=>?_,rfl,⟨⟨⟨.inl rfl,cur,hcur,?_⟩,⟨⟨trivial,or_cd o2 rfl fun c hc=>.inr (.inl hc),or_cd o3 rfl fun c hc=>.inr (.inr (.inl hc)),trivial,or_cd o8 rfl fun c hc=>.inr (.inr (.inr (.inl hc))),or_cd o9 rfl fun c hc=>.inr (.inr (.inr (.inr (.inl hc)))),trivial,or_cd o14 rfl fun c hc=>.inr (.inr (.inr (.inr (.inr (.inl hc))))),or_cd o15 rfl fun c hc=>.inr (.inr (.inr (.inr (.inr (.inr hc))))),trivial⟩,rfl⟩,fun c hc=>?_⟩,trivial⟩,g.bel⟩
   · obtain rfl:=List.mem_singleton.1 hx
     rcases hc with rfl | hc | hc | hc | hc | hc | hc
     · exact hb18
     · exact n2 c hc
     · exact n3 c hc
     · exact n8 c hc
     · exact n9 c hc
     · exact n14 c hc
     · exact n15 c hc
   · have:(pl3 p q r).length=3*3:=rfl
     rw [this,htake]
     rfl
   · rcases hc with rfl | hc | hc | hc | hc | hc | hc
     · exact heap_lt hcur
     · exact (or_stable _).lt u _ o2 c hc
     · exact (or_stable _).lt u _ o3 c hc
     · exact (or_stable _).lt u _ o8 c hc
     · exact (or_stable _).lt u _ o9 c hc
     · exact (or_stable _).lt u _ o14 c hc
     · exact (or_stable _).lt u _ o15 c hc
noncomputable def sSpots3 {p q r:Pt} (hp:FitP p) (hq:FitP q) (hr:FitP r):CSpec Tryz.prog :=
 ⟨199,Tryz.call199,sp3A,sp3L p.w q.w r.w,52,.tup [.c (.b (.y 1 9 3)),.c (.b (.v (.bool true)))],[rowT PLT (pl3 p q r)],spots3_ok hp hq hr,by kernel_rfl⟩
section
variable {p q r:Pt} (hp:FitP p) (hq:FitP q) (hr:FitP r)
include hp hq hr in
theorem thr1_sz (h0:rby (thrQ p q r)≠0):RSz KC (rone (thrQ p q r)):=(rnm_sz (thr_sz hp hq hr) (rby_sz (thr_sz hp hq hr) _ _) h0).mono (by decide)
theorem thr1_ne (h0:rby (thrQ p q r)≠0):rby (rone (thrQ p q r))≠0:=by
 rw [rby_one h0]
 decide
noncomputable def sRTold2 (h0:rby (thrQ p q r)≠0):Spec Tryz.prog :=
 (sRTold (thr1_sz hp hq hr h0) rfl rfl (thr1_ne h0)).conv (ciA (rone (thrQ p q r))) (congrArg ciA (rone_rone h0))
abbrev idP (p q r:Pt):List (Ev Tryz.prog):=[dIdxP PLT (pl3 p q r),dPlace PLT (pl3 p q r)]
noncomputable def sCiThrough (h1:ptB p q=false) (h2:ptB q r=false) (h3:ptB p r=false) (h0:rby (thrQ p q r)≠0):Spec Tryz.prog :=
 Spec.auto Tryz.call195 [svP p,svP q,svP r] [] (ciA (rone (thrQ p q r))) [] ([(sSpots3 hp hq hr).e,eqEvPt h1,eqEvPt h2,eqEvPt h3]++idP p q r++idP p q r++idP p q r++[(sEThrough hp hq hr h0).e,(sRTold2 hp hq hr h0).e])
  [(6,13)] 1200 Tryz.func195 hmA (by kernel_rfl) (fun β=>by kernel_rfl)
end
end Go.Proofs.YtmfedaakeeiolaaGreat.Y
end
section
namespace Go.Proofs.YtmfedaakeeiolaaGreat
open Go Go.Shelf Go.RowKit
open Go.Proofs.YtmfedaakeeiolaaGreat.Y
set_option maxRecDepth 100000
def joinRen:Go.Shelf.Ren:=⟨fun | 156=>296 | 165=>351 | 166=>352 | 169=>353 | 240=>379 | 241=>380 | 276=>388 | 277=>389 | n=>n,fun | 31=>330 | 9=>9 | 3=>3 | 4=>4 | 0=>0 | 20=>20 | 72=>375 | 76=>379 | 70=>373 | 37=>343 | 75=>378 | 127=>403 | 164=>410 | 5=>5 | 80=>360 | n=>n,fun | n=>n⟩
theorem joinLays:Go.Proofs.Lays.n156 Tryz.prog joinRen:={
 mixed:=by kernel_rfl
 f156:=Tryz.func296.trans (congrArg some (by kernel_rfl))
 f165:=Tryz.func351.trans (congrArg some (by kernel_rfl))
 f166:=Tryz.func352.trans (congrArg some (by kernel_rfl))
 f169:=Tryz.func353.trans (congrArg some (by kernel_rfl))
 f240:=Tryz.func379.trans (congrArg some (by kernel_rfl))
 f241:=Tryz.func380.trans (congrArg some (by kernel_rfl))
 f276:=Tryz.func388.trans (congrArg some (by kernel_rfl))
 f277:=Tryz.func389.trans (congrArg some (by kernel_rfl))
 t0:=Tryz.underlying0
 a0:=Tryz.isAgg0
 z0:=Tryz.sizeOf0
 v0:=Tryz.zeroValue0
 t3:=Tryz.underlying3
 a3:=Tryz.isAgg3
 z3:=Tryz.sizeOf3
 v3:=Tryz.zeroValue3
 t4:=Tryz.underlying4
 a4:=Tryz.isAgg4
 z4:=Tryz.sizeOf4
 v4:=Tryz.zeroValue4
 t9:=Tryz.underlying9
 a9:=Tryz.isAgg9
 z9:=Tryz.sizeOf9
 v9:=Tryz.zeroValue9
 t20:=Tryz.underlying20
 a20:=Tryz.isAgg20
 z20:=Tryz.sizeOf20
 v20:=Tryz.zeroValue20
 t31:=Tryz.underlying330
 a31:=Tryz.isAgg330
 z31:=Tryz.sizeOf330
 v31:=Tryz.zeroValue330
 t37:=Tryz.underlying343
 a37:=Tryz.isAgg343
 z37:=Tryz.sizeOf343
 v37:=Tryz.zeroValue343
 t70:=Tryz.underlying373
 a70:=Tryz.isAgg373
 z70:=Tryz.sizeOf373
 v70:=Tryz.zeroValue373
 t72:=Tryz.underlying375
 a72:=Tryz.isAgg375
 z72:=Tryz.sizeOf375
 v72:=Tryz.zeroValue375
 t75:=Tryz.underlying378
 a75:=Tryz.isAgg378
 z75:=Tryz.sizeOf378
 v75:=Tryz.zeroValue378
 t76:=Tryz.underlying379
 a76:=Tryz.isAgg379
 z76:=Tryz.sizeOf379
 v76:=Tryz.zeroValue379
 t127:=Tryz.underlying403
 a127:=Tryz.isAgg403
 z127:=Tryz.sizeOf403
 v127:=Tryz.zeroValue403
 t164:=Tryz.underlying410
 a164:=Tryz.isAgg410
 z164:=Tryz.sizeOf410
 v164:=Tryz.zeroValue410 }
theorem joinExtra:Builder.Extra Tryz.prog joinRen:={
 sizeBuilder:=by kernel_rfl
 liesBuilder:=by kernel_rfl
 t5:=Tryz.underlying5
 a5:=Tryz.isAgg5
 z5:=Tryz.sizeOf5
 v5:=Tryz.zeroValue5
 infoByte:=by kernel_rfl
 cellsByte:=by kernel_rfl
 sizeByte:=by kernel_rfl
 neB5:=by decide }
theorem join_ok (bk o c:Nat) (xs:List ByteArray) (sep:ByteArray) (w:World) (hcells:∀ (j:Nat) x,xs[j]?=some x→w.cell? ⟨bk,o+j,none⟩=some (.string x)) (hbk:bk<w.heap.size) (hN:xs.length≤140737488355328) (hcap:xs.length≤c) (hlen:(Lib.join (xs.map (·.data.toList)) sep.data.toList).length≤140737488355328) :
  Calls Tryz.prog 296 #[.slice (some ⟨bk,o,none⟩) xs.length c,.string sep] w fun e w'=>e=.returned (.string ⟨(Lib.join (xs.map (·.data.toList)) sep.data.toList).toArray⟩)∧Below w.heap.size w w':=Any.strings_Join joinLays joinExtra bk o c xs sep w hcells hbk hN hcap hlen
theorem join3_ok (a b c sep r:ByteArray) (hr:(⟨(Lib.join [a.data.toList,b.data.toList,c.data.toList] sep.data.toList).toArray⟩:ByteArray)=r) (hl:(Lib.join [a.data.toList,b.data.toList,c.data.toList] sep.data.toList).length≤140737488355328) (β:Env) (w:World) (hh:(Ob.box [.b (.v (.string a)),.b (.v (.string b)),.b (.v (.string c))] 9).holds β w (β 0)) :
  Calls Tryz.prog 296 (([.one (.c (.b (.s 0 0 3 3))),.one (.c (.b (.v (.string sep))))]:List SV).map (SV.den β)).toArray w fun e w'=>e=.returned (.string r)∧Below w.heap.size w w':=by
 rw [← hr]
 refine join_ok (β 0).b 0 3 [a,b,c] sep w (fun j x hx=>?_) (heap_lt hh.2) (show 3≤140737488355328 by decide) (Nat.le_refl _) hl
 refine cell_lay hh.2 ?_
 rw [Nat.zero_add]
 match j,hx with
 | 0,hx=>simp only [List.getElem?_cons_zero] at hx; obtain rfl:=Option.some.inj hx; rfl
 | 1,hx=>simp only [List.getElem?_cons_succ,List.getElem?_cons_zero] at hx; obtain rfl:=Option.some.inj hx; rfl
 | 2,hx=>simp only [List.getElem?_cons_succ,List.getElem?_cons_zero] at hx; obtain rfl:=Option.some.inj hx; rfl
 | j+3,hx=>simp at hx
def sJoin3 (a b c sep r:ByteArray) (hr:(⟨(Lib.join [a.data.toList,b.data.toList,c.data.toList] sep.data.toList).toArray⟩:ByteArray)=r) (hl:(Lib.join [a.data.toList,b.data.toList,c.data.toList] sep.data.toList).length≤140737488355328):BSpec Tryz.prog :=
 ⟨296,Tryz.call296,[.one (.c (.b (.s 0 0 3 3))),.one (.c (.b (.v (.string sep))))],[.b (.v (.string a)),.b (.v (.string b)),.b (.v (.string c))],9,.string r,join3_ok a b c sep r hr hl,by kernel_rfl,fun _=>rfl⟩
end Go.Proofs.YtmfedaakeeiolaaGreat
end
section
namespace Go.Proofs.YtmfedaakeeiolaaGreat.Y
open Go Go.RowKit
set_option maxRecDepth 100000
abbrev pl2 (p0 p1:Pt):List Cd:=plCd p0++plCd p1
abbrev sp2A:List SV:=[.one (.c (.b (.s 0 0 2 2)))]
def sp2L (p0 p1:Rw):List Lf:=lsX p0.C++lsX p1.C
def sp2O (p0 p1:Pt):List (Nat × Ob):=[(12,.row [.b (.v (.bool (pI p0))),.b (.z 2 0),.b (.z 3 0),.b (.v (.bool (pI p1))),.b (.z 8 0),.b (.z 9 0)] PLT 2 3),(2,(ratM (pG p0).re).ob),(3,(ratM (pG p0).im).ob),(8,(ratM (pG p1).re).ob),(9,(ratM (pG p1).im).ob)]
noncomputable def sp2E {p0 p1:Pt} (hp0:FitP p0) (hp1:FitP p1):List (Ev Tryz.prog):=[(sSpotP p0 hp0).e,.app appP,(sSpotP p1 hp1).e,.app appP]
theorem sp2_eqs {p0 p1:Pt} (hp0:FitP p0) (hp1:FitP p1) (β:Env):(allS Tryz.prog Tryz.f199 sp2A [.box (sp2L p0.w p1.w) 52] (sp2E hp0 hp1) [] 800 (.tup [.c (.b (.r 12 2)),.c (.b (.v (.bool true)))]) (sp2O p0 p1) β).map Prod.fst=(allS Tryz.prog Tryz.f199 sp2A [.box (sp2L p0.w p1.w) 52] (sp2E hp0 hp1) [] 800 (.tup [.c (.b (.r 12 2)),.c (.b (.v (.bool true)))]) (sp2O p0 p1) β).map Prod.snd:=by kernel_rfl
theorem spots2_ok {p0 p1:Pt} (hp0:FitP p0) (hp1:FitP p1) (β:Env) (w:World) (hh:(Ob.box (sp2L p0.w p1.w) 52).holds β w (β 0)) :
  Calls Tryz.prog 199 (sp2A.map (SV.den β)).toArray w fun e u=>∃ xs:List Pl,(∀ x∈xs,∀ c,x.F c→w.heap.size≤c)∧e=.returned ((SV.tup [.c (.b (.y 1 6 2)),.c (.b (.v (.bool true)))]).den (extE β 1 xs))∧newHold u [rowT PLT (pl2 p0 p1)] xs∧Below w.heap.size w u:=by
 refine (sx (P:=Tryz.prog) sp2A [.box (sp2L p0.w p1.w) 52] (sp2E hp0 hp1) [] 800 (.tup [.c (.b (.r 12 2)),.c (.b (.v (.bool true)))]) (sp2O p0 p1) Tryz.func199 hmA (fun β=>ok_of_maps (sp2_eqs hp0 hp1 β)) (by kernel_rfl) (by kernel_rfl) β w (fun k o ho=>?_)).mono ?_
 · cases k with
   | zero=>simp only [List.getElem?_cons_zero] at ho; obtain rfl:=Option.some.inj ho; exact hh
   | succ k=>simp at ho
 · rintro e u ⟨β',q',obj,e1,rfl,e2,e4,e5,g⟩
   have hnew:∀ y∈sp2O p0 p1,∀ c,(β' y.1).F c→c≠(β 0).b→w.heap.size≤c:=fun y hy c hc hne=>by
    rcases e4 y hy c hc with h | ⟨i,hi,h⟩
    · exact h
    · obtain rfl:i=0:=by simp only [List.length_singleton] at hi; omega
      exact absurd ((hh.1.1 c).1 h) hne
   have hu:u.heap[(β 0).b]?=some (.cells ((sp2L p0.w p1.w).map (Lf.den β)).toArray 52 (0,0)):=by rw [g.bel.block _ (heap_lt hh.2)]; exact hh.2
   have hrat:∀ (k:Nat) (x:Rat),(k,(ratM x).ob)∈sp2O p0 p1→OR0 x u (β' k)∧∀ c,(β' k).F c→w.heap.size≤c:=fun k x hk=>by
    have h:OR0 x u (β' k):=e5 _ hk
    refine ⟨h,fun c hc=>?_⟩
    rcases h with ⟨_,h2,_⟩ | ⟨b,hb,hx⟩
    · exact absurd hc (h2 c)
    · have ec:=(hb.2 c).1 hc
      subst ec
      refine hnew _ hk c hc fun e=>?_
      rw [e] at hx
      exact pt_no_rat hu hx
   obtain ⟨o2,n2⟩:=hrat 2 (pG p0).re (by simp [sp2O])
   obtain ⟨o3,n3⟩:=hrat 3 (pG p0).im (by simp [sp2O])
   obtain ⟨o8,n8⟩:=hrat 8 (pG p1).re (by simp [sp2O])
   obtain ⟨o9,n9⟩:=hrat 9 (pG p1).im (by simp [sp2O])
   obtain ⟨hone,cur,hcur,hcl,hn,hcm,hsz,htake⟩:=e5 (12,.row [.b (.v (.bool (pI p0))),.b (.z 2 0),.b (.z 3 0),.b (.v (.bool (pI p1))),.b (.z 8 0),.b (.z 9 0)] PLT 2 3) (by simp [sp2O])
   have hbR:w.heap.size≤(β' 12).b:=hnew _ (by simp [sp2O]) _ ((hone.1 _).2 rfl) fun e=>by
    rw [e,hu] at hcur
    have:=(Obj.cells.inj (Option.some.inj hcur)).2.1
    exact absurd this (by decide)
   refine ⟨[⟨(β' 12).b,fun i=>match i with | 1=>(β' 2).v 0 | 2=>(β' 3).v 0 | 4=>(β' 8).v 0 | 5=>(β' 9).v 0 | 6=>some ⟨(β' 12).b,0,none⟩ | _=>none,fun _=>(β' 12).c 0,fun c=>c=(β' 12).b∨(β' 2).F c∨(β' 3).F c∨(β' 8).F c∨(β' 9).F c,fun _=>undef⟩],fun x hx c hc=>?_,rfl,⟨⟨⟨.inl rfl,cur,hcur,?_⟩,⟨⟨trivial,or_cd o2 rfl fun c hc=>.inr (.inl hc),or_cd o3 rfl fun c hc=>.inr (.inr (.inl hc)),trivial,or_cd o8 rfl fun c hc=>.inr (.inr (.inr (.inl hc))),or_cd o9 rfl fun c hc=>.inr (.inr (.inr (.inr (hc)))),trivial⟩,rfl⟩,fun c hc=>?_⟩,trivial⟩,g.bel⟩
   · obtain rfl:=List.mem_singleton.1 hx
     rcases hc with rfl | hc | hc | hc | hc
     · exact hbR
     · exact n2 c hc
     · exact n3 c hc
     · exact n8 c hc
     · exact n9 c hc
   · have:(pl2 p0 p1).length=2*3:=rfl
     rw [this,htake]
     rfl
   · rcases hc with rfl | hc | hc | hc | hc
     · exact heap_lt hcur
     · exact (or_stable _).lt u _ o2 c hc
     · exact (or_stable _).lt u _ o3 c hc
     · exact (or_stable _).lt u _ o8 c hc
     · exact (or_stable _).lt u _ o9 c hc
noncomputable def sSpots2 {p0 p1:Pt} (hp0:FitP p0) (hp1:FitP p1):CSpec Tryz.prog :=
 ⟨199,Tryz.call199,sp2A,sp2L p0.w p1.w,52,.tup [.c (.b (.y 1 6 2)),.c (.b (.v (.bool true)))],[rowT PLT (pl2 p0 p1)],spots2_ok hp0 hp1,by kernel_rfl⟩
theorem sgn_ne {n:Int} {t:Bool} (h:(!(n==0))=t):Value.bool (!(n==0))=.bool t:=by rw [h]
noncomputable def sOn1 {r:RQ} {p:Pt} (h:RSz KC r) (hp:FitP p) {t:Bool} (ht:(!((sidQ r p).num.sign==0))=t):OSpec Tryz.prog :=
 OSpec.auto Tryz.call215 [pV 0 p,.one (.c (.b (.p 6 0)))] [(ratM (pG p).re).ob,(ratM (pG p).im).ob,(ratT r.a).ob,(ratT r.b.re).ob,(ratT r.b.im).ob,(ratT r.c).ob,.box [.b (.z 2 0),.b (.z 3 0),.b (.z 4 0),.b (.z 5 0)] 238] (tB' t) []
  [(sESide h hp).e,.eqv 7 (.bool (!((sidQ r p).num.sign==0))) (.bool t) (sgn_ne ht)] [] 400 Tryz.func215 hmA (by cases p<;>kernel_rfl) (fun β=>by cases p<;>kernel_rfl)
section
variable {r:RQ} {p q:Pt} (h:RSz KC r) (hp:FitP p) (hq:FitP q) (h1:(!((sidQ r p).num.sign==0))=false) (h2:(!((sidQ r q).num.sign==0))=false)
abbrev onO (r:RQ) (l:List Cd):List Ob:=[(rowT PLT l).ob,(ratT r.a).ob,(ratT r.b.re).ob,(ratT r.b.im).ob,(ratT r.c).ob,.box [.b (.z 1 0),.b (.z 2 0),.b (.z 3 0),.b (.z 4 0)] 238]
abbrev onF:SV:=.one (.c (.f (.func 215) [] [.p 5 0]))
noncomputable def sIdx2:OSpec Tryz.prog :=
 OSpec.auto Tryz.call300 [.one (.c (.b (.y 0 6 2))),onF] (onO r (pl2 p q)) (.one (nI' (-1))) []
  [dIdxP PLT (pl2 p q),dPlace PLT (pl2 p q),(sOn1 h hp h1).e,dIdxP PLT (pl2 p q),dPlace PLT (pl2 p q),(sOn1 h hq h2).e] [] 800 Tryz.func300 hmA (by kernel_rfl) (fun β=>by kernel_rfl)
noncomputable def sHas2:OSpec Tryz.prog :=
 OSpec.auto Tryz.call203 [.one (.c (.b (.y 0 6 2))),onF] (onO r (pl2 p q)) (tB' false) [] [(sIdx2 h hp hq h1 h2).e] [] 400 Tryz.func203 hmA (by kernel_rfl) (fun β=>by kernel_rfl)
end
theorem on2_eqs {r:RQ} {p q:Pt} (h:MayC r) (hp:FitP p) (hq:FitP q) (h1:(!((sidQ r p).num.sign==0))=false) (h2:(!((sidQ r q).num.sign==0))=false) (β:Env) (w:World) (hh:(Ob.box (sp2L p.w q.w) 52).holds β w (β 0)) :
  Calls Tryz.prog 84 (([.one (.a (cC r)),.one (.c (.b (.s 0 0 2 2)))]:List SV).map (SV.den β)).toArray w fun e w'=>e=.returned (.tuple #[.bool true,.int .i64 0])∧Below w.heap.size w w' :=
 bspec_ok [(sWheel h).e,(sSpots2 hp hq).e,(sHas2 h.sz hp hq h1 h2).e] [] 800 Tryz.func84 hmA (fun β=>by kernel_rfl) (by kernel_rfl) (fun β=>rfl) β w hh
def sOn2 {r:RQ} {p q:Pt} (h:MayC r) (hp:FitP p) (hq:FitP q) (h1:(!((sidQ r p).num.sign==0))=false) (h2:(!((sidQ r q).num.sign==0))=false):BSpec Tryz.prog :=
 ⟨84,Tryz.call84,[.one (.a (cC r)),.one (.c (.b (.s 0 0 2 2)))],sp2L p.w q.w,52,.tuple #[.bool true,.int .i64 0],on2_eqs h hp hq h1 h2,by kernel_rfl,fun _=>rfl⟩
abbrev ptI (n m:Int):Pt:=.fin (gint n m)
theorem ptI_fit {n m:Int} (h:n.natAbs<256) (k:m.natAbs<256):FitP (ptI n m):=fit_int h k
theorem ptI_ne {n m n' m':Int} (h:¬ (n=n'∧m=m')):ptI n m≠ptI n' m':=pI_ne h
def uQ:RQ:=⟨Rat.divInt 1 1,gint 0 0,Rat.divInt (-1) 1⟩
theorem rq_lit {r s:RQ} (h1:decide (r.a=s.a)=true) (h2:decide (r.b.re=s.b.re)=true) (h3:decide (r.b.im=s.b.im)=true) (h4:decide (r.c=s.c)=true):r=s:=by
 obtain ⟨a,⟨b,b'⟩,c⟩:=r
 obtain ⟨d,⟨e,e'⟩,f⟩:=s
 obtain rfl:a=d:=of_decide_eq_true h1
 obtain rfl:b=e:=of_decide_eq_true h2
 obtain rfl:b'=e':=of_decide_eq_true h3
 obtain rfl:c=f:=of_decide_eq_true h4
 rfl
theorem u_may:MayC uQ:=⟨⟨sz_lit1 (by decide),fit_int (by decide) (by decide),sz_lit1 (by decide)⟩,by kernel_rfl,rq_lit (by kernel_rfl) (by kernel_rfl) (by kernel_rfl) (by kernel_rfl)⟩
abbrev u1:Pt:=ptI 1 0
abbrev u2:Pt:=ptI 0 1
abbrev u3:Pt:=ptI (-1) 0
theorem u1_fit:FitP u1:=ptI_fit (by decide) (by decide)
theorem u2_fit:FitP u2:=ptI_fit (by decide) (by decide)
theorem u3_fit:FitP u3:=ptI_fit (by decide) (by decide)
theorem u_thr:rone (thrQ u1 u2 u3)=uQ:=rq_lit (by kernel_rfl) (by kernel_rfl) (by kernel_rfl) (by kernel_rfl)
theorem n12:u1≠u2:=ptI_ne (by decide)
theorem n23:u2≠u3:=ptI_ne (by decide)
theorem n13:u1≠u3:=ptI_ne (by decide)
theorem ci_eq {r s:RQ} (e:r=s) (h:FitC s):ciA r=.tup [.a (cC s),nI' 0]:=by
 rw [e,ciA,(ci_fit h).1,(ci_fit h).2]
noncomputable def kThrough:Spec Tryz.prog:=(sCiThrough u1_fit u2_fit u3_fit (ptB_ne' n12) (ptB_ne' n23) (ptB_ne' n13) (thr_ne n12 n23 n13)).conv (.tup [.a (cC uQ),nI' 0]) (ci_eq u_thr u_may.fit)
noncomputable def kSide:Spec Tryz.prog:=sCSideN u_may (p:=ptI 0 0) (ptI_fit (by decide) (by decide)) (by kernel_rfl)
abbrev m1:Rat:=Rat.divInt 2 1
abbrev m3:Rat:=Rat.divInt (-2) 1
theorem m_one:rone ⟨m1,gint 0 0,m3⟩=uQ:=rq_lit (by kernel_rfl) (by kernel_rfl) (by kernel_rfl) (by kernel_rfl)
noncomputable def kMake:Spec Tryz.prog:=(sCMake (a:=m1) (b:=gint 0 0) (c:=m3) (sz_lit1 (by decide)) (fit_int (by decide) (by decide)) (sz_lit1 (by decide)) (by kernel_rfl)).conv (.tup [.a (cC uQ),nI' 0]) (ci_eq m_one u_may.fit)
abbrev tx0:ByteArray:=⟨#[48]⟩
abbrev tx1:ByteArray:=⟨#[49]⟩
abbrev txN:ByteArray:=⟨#[45,49]⟩
abbrev txU:ByteArray:=⟨#[49,32,48,32,45,49]⟩
noncomputable def kGText:Spec Tryz.prog :=
 Spec.auto Tryz.call159 [gS (gint 0 0)] [] (.tup [.c (.b (.v (.string tx0))),nI' 0]) [] [(sGM (gpX (gint 0 0) fit00) (r:=true) rfl).e,(sFText (u:=tx0) fit00.1 (by kernel_rfl)).e,(sFText (u:=tx0) fit00.2 (by kernel_rfl)).e] [] 400 Tryz.func159 hmA (by kernel_rfl) (fun β=>by kernel_rfl)
noncomputable def kText:Spec Tryz.prog :=
 Spec.auto Tryz.call198 [.one (.a (cC uQ))] [] (.tup [.c (.b (.v (.string txU))),nI' 0]) []
  [(sCCheck u_may).e,(sFText (u:=tx1) u_may.fit.1 (by kernel_rfl)).e,kGText.e,(sFText (u:=txN) u_may.fit.2.2 (by kernel_rfl)).e,(sJoin3 tx1 tx0 txN ⟨#[32]⟩ txU (by kernel_rfl) (by decide)).e] [] 400 Tryz.func198 hmA (by kernel_rfl) (fun β=>by kernel_rfl)
def sAt11 (n m:Int) (hn : -9223372036854775808≤n∧n≤9223372036854775807:=by decide) (hm : -9223372036854775808≤m∧m≤9223372036854775807:=by decide):Spec Tryz.prog :=
 Spec.auto Tryz.call196 [.one (svI n),.one (svI m)] [] (svP (ptI n m)) [] [(sR4Int n m hn hm).e] [] 400 Tryz.func196 hmA (by kernel_rfl) (fun β=>by kernel_rfl)
def sUnit:Spec Tryz.prog :=
 Spec.auto Tryz.call94 [] [] (.one (.a (cC uQ))) [] [(sR3Int 1 (by decide)).e,(sR4Int 0 0).e,(sR3Int (-1) (by decide)).e] [] 400 Tryz.func94 hmA (by kernel_rfl) (fun β=>by kernel_rfl)
noncomputable def kOn:BSpec Tryz.prog:=sOn2 u_may (p:=ptI 0 (-1)) (q:=ptI 1 0) (ptI_fit (by decide) (by decide)) (ptI_fit (by decide) (by decide)) (by kernel_rfl) (by kernel_rfl)
def eqU:Ev Tryz.prog:=eqC1 (fR uQ.a) (fR uQ.b.re) (fR uQ.b.im) (fR uQ.c)
noncomputable def sWorks11:Spec Tryz.prog :=
 Spec.auto Tryz.call73 [] [] (tB' true) []
  [(sAt11 1 0).e,(sAt11 0 1).e,(sAt11 (-1) 0).e,kThrough.e,(sAt11 0 0).e,kSide.e,(sR3Int 2 (by decide)).e,(sR4Int 0 0).e,(sR3Int (-2) (by decide)).e,kMake.e,kText.e,(sAt11 0 (-1)).e,(sAt11 1 0).e,kOn.e,
   (sNum11 0).e,sUnit.e,eqU,(sNum11 0).e,(sNum11 0).e,eqU,(sNum11 0).e,(sNum11 0).e] [(2,8),(5,10),(6,45)] 3000 Tryz.func73 hmA (by kernel_rfl) (fun β=>by kernel_rfl)
def fpr (f g:RQ):Rat:=f.b.re*g.b.re+f.b.im*g.b.im-(f.a*g.c+f.c*g.a)/Rat.divInt 2 1
theorem rpow_fpr (f:RQ):fpr f f=rpow f:=by
 have h:(Rat.divInt 2 1:Rat)=2:=of_decide_eq_true (by kernel_rfl:decide ((Rat.divInt 2 1:Rat)=2)=true)
 unfold fpr rpow gnorm
 rw [h]
 grind
def fsq (f g:RQ):Rat:=fpr f g*fpr f g/(fpr f f*fpr g g)
def imX (r:RQ) (v w:GQ):Rat:=(gmul (gmul r.b v) (gconj w)).re
def imF (r:RQ) (v w:GQ):Rat:=0+r.a*gnorm v+(imX r v w+imX r v w)+r.c*gnorm w
def imB (r:RQ) (p q u s:GQ):GQ:=gadd (gadd (gadd (gscale (gmul p (gconj q)) r.a) (gmul (gmul r.b p) (gconj s))) (gmul (gconj (gmul r.b q)) u)) (gscale (gmul u (gconj s)) r.c)
def imQ (r:RQ) (n:MQ) (t:Bool):RQ:=⟨imF r n.a n.c,bif t then gconj (imB r n.a n.b n.c n.d) else imB r n.a n.b n.c n.d,imF r n.b n.d⟩
abbrev KR:Nat:=1100
abbrev KV:Nat:=10000
section
variable {r:RQ} (h:RSz KR r) {v w:GQ} (hv:GSz KV v) (hw:GSz KV w)
include h hv in
theorem bv_sz:GSz 23000 (gmul r.b v):=(h.b.mul hv).mono (by decide)
include h hv hw in
theorem bvw_sz:GSz 70000 (gmul (gmul r.b v) (gconj w)):=((bv_sz h hv).mul hw.conj).mono (by decide)
include hv in
theorem nv_sz:Sz 41000 (gnorm v):=hv.norm.mono (by decide)
include h hv hw in
theorem imF_sz:Sz 250000 (imF r v w):=(((sz_zero.add (h.a.mul (nv_sz hv))).add ((bvw_sz h hv hw).1.add (bvw_sz h hv hw).1)).add (h.c.mul (nv_sz hw))).mono (by decide)
noncomputable def sImAt:OSpec Tryz.prog :=
 OSpec.auto Tryz.call309 [nV 0,nV 2,.one (.c (.b (.p 8 0)))] [(ratT v.re).ob,(ratT v.im).ob,(ratT w.re).ob,(ratT w.im).ob,(ratT r.a).ob,(ratT r.b.re).ob,(ratT r.b.im).ob,(ratT r.c).ob,.box [.b (.z 4 0),.b (.z 5 0),.b (.z 6 0),.b (.z 7 0)] 238] (rV 9) [imF r v w]
  [(sMul (h.b.mono (by decide)) (hv.mono (by decide))).e,(sConj w).e,(sMul ((bv_sz h hv).mono (by decide)) (hw.conj.mono (by decide))).e,(sParts (gmul (gmul r.b v) (gconj w))).e,
   (sNorm (hv.mono (by decide))).e,(sMulR (h.a.mono (by decide)) ((nv_sz hv).mono (by decide))).e,(sETwice ((bvw_sz h hv hw).1.mono (by decide))).e,(sNorm (hw.mono (by decide))).e,(sMulR (h.c.mono (by decide)) ((nv_sz hw).mono (by decide))).e,
   (sSum3 ((h.a.mul (nv_sz hv)).mono (by decide)) (((bvw_sz h hv hw).1.add (bvw_sz h hv hw).1).mono (by decide)) ((h.c.mul (nv_sz hw)).mono (by decide))).e] [(1,13),(2,15)] 800 Tryz.func309 hmA (by kernel_rfl) (fun β=>by kernel_rfl)
end
section
variable {r:RQ} (h:RSz KR r) {n:MQ} (hn:MSz KV n)
include h hn in
theorem imS_sz:(GSz 41000 (gmul n.a (gconj n.b))∧GSz 43000 (gscale (gmul n.a (gconj n.b)) r.a))∧(GSz 41000 (gmul n.c (gconj n.d))∧GSz 43000 (gscale (gmul n.c (gconj n.d)) r.c)):=by
 have e1:GSz 41000 (gmul n.a (gconj n.b)):=(hn.a.mul hn.b.conj).mono (by decide)
 have e2:GSz 41000 (gmul n.c (gconj n.d)):=(hn.c.mul hn.d.conj).mono (by decide)
 exact ⟨⟨e1,(e1.scale h.a).mono (by decide)⟩,e2,(e2.scale h.c).mono (by decide)⟩
include h hn in
theorem imT_sz:GSz 120000 (gadd (gscale (gmul n.a (gconj n.b)) r.a) (gmul (gmul r.b n.a) (gconj n.d)))∧GSz 70000 (gmul (gconj (gmul r.b n.b)) n.c)∧GSz 200000 (gadd (gadd (gscale (gmul n.a (gconj n.b)) r.a) (gmul (gmul r.b n.a) (gconj n.d))) (gmul (gconj (gmul r.b n.b)) n.c)):=by
 have e1:GSz 120000 (gadd (gscale (gmul n.a (gconj n.b)) r.a) (gmul (gmul r.b n.a) (gconj n.d))):=((imS_sz h hn).1.2.add (bvw_sz h hn.a hn.d)).mono (by decide)
 have e2:GSz 70000 (gmul (gconj (gmul r.b n.b)) n.c):=((bv_sz h hn.b).conj.mul hn.c).mono (by decide)
 exact ⟨e1,e2,(e1.add e2).mono (by decide)⟩
include h hn in
theorem imB_sz:GSz 260000 (imB r n.a n.b n.c n.d):=((imT_sz h hn).2.2.add (imS_sz h hn).2.2).mono (by decide)
include h hn in
theorem imQ_sz (t:Bool):RSz 260000 (imQ r n t):=by
 refine ⟨(imF_sz h hn.a hn.c).mono (by decide),?_,(imF_sz h hn.b hn.d).mono (by decide)⟩
 cases t
 · exact imB_sz h hn
 · exact (imB_sz h hn).conj
noncomputable def imE:List (Ev Tryz.prog) :=
 [(sConj n.b).e,(sMul (hn.a.mono (by decide)) (hn.b.conj.mono (by decide))).e,(sScale ((imS_sz h hn).1.1.mono (by decide)) (h.a.mono (by decide))).e,
  (sMul (h.b.mono (by decide)) (hn.a.mono (by decide))).e,(sConj n.d).e,(sMul ((bv_sz h hn.a).mono (by decide)) (hn.d.conj.mono (by decide))).e,(sAdd ((imS_sz h hn).1.2.mono (by decide)) ((bvw_sz h hn.a hn.d).mono (by decide))).e,
  (sMul (h.b.mono (by decide)) (hn.b.mono (by decide))).e,(sConj (gmul r.b n.b)).e,(sMul ((bv_sz h hn.b).conj.mono (by decide)) (hn.c.mono (by decide))).e,(sAdd ((imT_sz h hn).1.mono (by decide)) ((imT_sz h hn).2.1.mono (by decide))).e,
  (sConj n.d).e,(sMul (hn.c.mono (by decide)) (hn.d.conj.mono (by decide))).e,(sScale ((imS_sz h hn).2.1.mono (by decide)) (h.c.mono (by decide))).e,(sAdd ((imT_sz h hn).2.2.mono (by decide)) ((imS_sz h hn).2.2.mono (by decide))).e]
end
abbrev unQ (m:MQ) (b:Bool):MQ:=mnormB (mconj (mundo0 m) m.t) b
abbrev imN:List (Nat × Nat):=[(2,27014026013025012015),(4,32),(7,11)]
section
variable {r:RQ} (h:RSz KR r) {m:MQ} (hm:MSz 1024 m) {b:Bool} (hb:gzero (mconj (mundo0 m) m.t).c=b) (h0:gzero (bif b then (mconj (mundo0 m) m.t).d else (mconj (mundo0 m) m.t).c)=false)
include hm h0 in
theorem un_sz:MSz KV (unQ m b):=by
 have e:=(hm.undo0.conj m.t).normB h0
 exact ⟨e.a.mono (by decide),e.b.mono (by decide),e.c.mono (by decide),e.d.mono (by decide)⟩
include h hm hb h0 in
theorem image_ok (hy:rby (imQ r (unQ m b) m.t)≠0) (β:Env) (w:World) (hh:∀ (k:Nat) (t:Thing),(mT m++rgT r)[k]?=some t→t.D w (β k)) :
  Calls Tryz.prog 220 (([mV 0 m,rgV 8]:List SV).map (SV.den β)).toArray w fun e w'=>∃ xs:List Pl,freshS β w 12 xs∧e=.returned ((rgV 12).den (extE β 12 xs))∧newHold w' (rgT (rone (imQ r (unQ m b) m.t))) xs∧Below w.heap.size w w':=by
 have hn:=un_sz hm h0
 obtain ⟨a,b',c,d,t⟩:=m
 cases t
 · exact spec_auto (obs:=mT ⟨a,b',c,d,false⟩++rgT r) (args:=[mV 0 ⟨a,b',c,d,false⟩,rgV 8]) (evs:=(sUndo (hm.mono (by decide)) hb h0).e::imE h hn++[(sImAt h hn.a hn.c).e,(sImAt h hn.b hn.d).e,(sRNormal ((imQ_sz h hn false).mono (by decide)) rfl rfl hy).e]) (Ns:=imN) (m:=1200) Tryz.func220 hmA (fun β=>by kernel_rfl) (by kernel_rfl) β w hh
 · exact spec_auto (obs:=mT ⟨a,b',c,d,true⟩++rgT r) (args:=[mV 0 ⟨a,b',c,d,true⟩,rgV 8]) (evs:=(sUndo (hm.mono (by decide)) hb h0).e::imE h hn++[(sConj (imB r (unQ ⟨a,b',c,d,true⟩ b).a (unQ ⟨a,b',c,d,true⟩ b).b (unQ ⟨a,b',c,d,true⟩ b).c (unQ ⟨a,b',c,d,true⟩ b).d)).e,(sImAt h hn.a hn.c).e,(sImAt h hn.b hn.d).e,(sRNormal ((imQ_sz h hn true).mono (by decide)) rfl rfl hy).e]) (Ns:=imN) (m:=1200) Tryz.func220 hmA (fun β=>by kernel_rfl) (by kernel_rfl) β w hh
end
def sR4MayG (a:Gn) {r:Bool} (h:a.B=r):Spec Tryz.prog :=
 (sR4May a.gp.a.a a.gp.b.a).as [gnS a] (tB' r) (by
  show [SV.one (.a (a.gp.a.a.C++a.gp.b.a.C))]=[SV.one (.a (rL a.gp.a.r++rL a.gp.b.r))]
  rw [show a.gp.a.a.C=rL a.gp.a.r from a.gp.a.e,show a.gp.b.a.C=rL a.gp.b.r from a.gp.b.e]) (congrArg tB' (a.gpB.trans h))
def any4:List Thing:=[anyT,anyT,anyT,anyT]
abbrev rx0:SC:=.a [.b (.v (.pointer none)),.b (.v (.pointer none)),.b (.v (.pointer none)),.b (.v (.pointer none))]
abbrev rgC (k:Nat):SC:=.a [.b (.z k 0),.b (.z (k+1) 0),.b (.z (k+2) 0),.b (.z (k+3) 0)]
def WheelNo (l:List Lf):Prop:=∀ (β:Env) (w:World),Calls Tryz.prog 209 (([.one (.a l)]:List SV).map (SV.den β)).toArray w fun e w'=>∃ xs:List Pl,freshS β w 0 xs∧e=.returned ((SV.tup [rgC 0,.c (.b (.v (.bool false)))]).den (extE β 0 xs))∧newHold w' any4 xs∧Below w.heap.size w w'
def sWheelNo {l:List Lf} (h:WheelNo l) (hl:l.all (Lf.of fun _=>false)=true):Spec Tryz.prog :=
 ⟨209,Tryz.call209,[.one (.a l)],[],.tup [rgC 0,.c (.b (.v (.bool false)))],any4,fun β w _=>h β w,by
  have:l.all (Lf.of fun k=>Nat.blt k 0)=true:=List.all_eq_true.2 fun x hx=>Lf.of_mono (fun _ hk=>by cases hk) x (List.all_eq_true.1 hl x hx)
  rw [Bool.and_eq_true]
  exact ⟨by rw [List.all_cons,List.all_nil,Bool.and_true]; exact this,by kernel_rfl⟩⟩
theorem nil4 {P:Program} {f:FuncId} {args:Array Value} {w:World} {β:Env}
  (h:Calls P f args w fun e w'=>∃ xs:List Pl,freshS β w 0 xs∧e=.returned ((SV.tup [rx0,.c (.b (.v (.bool false)))]).den (extE β 0 xs))∧newHold w' [] xs∧Below w.heap.size w w') :
  Calls P f args w fun e w'=>∃ xs:List Pl,freshS β w 0 xs∧e=.returned ((SV.tup [rgC 0,.c (.b (.v (.bool false)))]).den (extE β 0 xs))∧newHold w' any4 xs∧Below w.heap.size w w' :=
 h.mono fun e w' ⟨xs,h1,he,h2,h3⟩=>by
  have hn:AN w' nilPl:=fun _ h=>h.elim
  exact ⟨[nilPl,nilPl,nilPl,nilPl],fun x hx c hc=>by
   simp only [List.mem_cons,List.not_mem_nil,or_false,or_self] at hx
   subst hx
   exact hc.elim,by rw [he]; kernel_rfl,⟨hn,hn,hn,hn,trivial⟩,h3⟩
theorem newHoldR4 {w:World} {t1 t2 t3 t4:Thing} {xs:List Pl} (h:newHold w [t1,t2,t3,t4] xs):newHold w any4 xs:=by
 match xs,h with
 | [a,b,c,d],h=>exact ⟨an_of t1.st h.1,an_of t2.st h.2.1,an_of t3.st h.2.2.1,an_of t4.st h.2.2.2.1,trivial⟩
theorem wheelNum (a:Fn) (b:Gn) (c:Fn) (h:(a.B&&(b.B&&c.B))=false):WheelNo (rL a.r++(rL b.x++rL b.y)++rL c.r):=fun β w=>by
 refine nil4 ?_
 have hh:∀ (k:Nat) (t:Thing),([]:List Thing)[k]?=some t→t.D w (β k):=fun k t h=>by simp at h
 cases b with
 | no g hg=>cases a with
  | ok x hx=>cases c with
   | ok y hy=>exact spec_auto (obs:=[]) (news:=[]) (res:=.tup [rx0,.c (.b (.v (.bool false)))]) (evs:=[(sOfW g.a g.b (r:=false) hg).e,(ratFn (.ok x hx)).e,(ratFn (.ok y hy)).e]) (Ns:=[(2,9),(5,5)]) (m:=800) Tryz.func209 hmA (fun β=>by kernel_rfl) (by kernel_rfl) β w hh
   | no k hk=>exact spec_auto (obs:=[]) (news:=[]) (res:=.tup [rx0,.c (.b (.v (.bool false)))]) (evs:=[(sOfW g.a g.b (r:=false) hg).e,(ratFn (.ok x hx)).e,(ratFn (.no k hk)).e]) (Ns:=[(2,9),(5,5)]) (m:=800) Tryz.func209 hmA (fun β=>by kernel_rfl) (by kernel_rfl) β w hh
  | no f hf=>cases c with
   | ok y hy=>exact spec_auto (obs:=[]) (news:=[]) (res:=.tup [rx0,.c (.b (.v (.bool false)))]) (evs:=[(sOfW g.a g.b (r:=false) hg).e,(ratFn (.no f hf)).e,(ratFn (.ok y hy)).e]) (Ns:=[(2,9),(5,5)]) (m:=800) Tryz.func209 hmA (fun β=>by kernel_rfl) (by kernel_rfl) β w hh
   | no k hk=>exact spec_auto (obs:=[]) (news:=[]) (res:=.tup [rx0,.c (.b (.v (.bool false)))]) (evs:=[(sOfW g.a g.b (r:=false) hg).e,(ratFn (.no f hf)).e,(ratFn (.no k hk)).e]) (Ns:=[(2,9),(5,5)]) (m:=800) Tryz.func209 hmA (fun β=>by kernel_rfl) (by kernel_rfl) β w hh
 | ok z hz=>cases a with
  | no f hf=>cases c with
   | ok y hy=>exact spec_auto (obs:=[]) (news:=[]) (res:=.tup [rx0,.c (.b (.v (.bool false)))]) (evs:=[(ofG hz).e,(sRatFn f hf).e,(ratFn (.ok y hy)).e]) (Ns:=[(2,9),(5,5)]) (m:=800) Tryz.func209 hmA (fun β=>by kernel_rfl) (by kernel_rfl) β w hh
   | no k hk=>exact spec_auto (obs:=[]) (news:=[]) (res:=.tup [rx0,.c (.b (.v (.bool false)))]) (evs:=[(ofG hz).e,(sRatFn f hf).e,(ratFn (.no k hk)).e]) (Ns:=[(2,9),(5,5)]) (m:=800) Tryz.func209 hmA (fun β=>by kernel_rfl) (by kernel_rfl) β w hh
  | ok x hx=>cases c with
   | ok=>cases h
   | no f hf=>exact spec_auto (obs:=[]) (news:=[]) (res:=.tup [rx0,.c (.b (.v (.bool false)))]) (evs:=[(ofG hz).e,(sRatIn hx).e,(sRatFn f hf).e,dEq x]) (Ns:=[(2,9),(5,5)]) (m:=800) Tryz.func209 hmA (fun β=>by kernel_rfl) (by kernel_rfl) β w hh
section
variable {r:RQ} (hf:FitC r)
include hf in
theorem fitC_sz:RSz KC r:=mk_sz hf.1 hf.2.1 hf.2.2
include hf in
theorem wheelPow (hp:decide ((rpow r).num.sign≤0)=true):WheelNo (cC r):=fun β w=>by
 refine nil4 ?_
 exact spec_auto (obs:=[]) (news:=[]) (res:=.tup [rx0,.c (.b (.v (.bool false)))]) (evs:=[(ofG hf.2.1).e,(sRatIn hf.1).e,(sRatIn hf.2.2).e,dEq r.a,dEq r.c,(sPower (fitC_sz hf)).e,nSign (x:=rpow r) rfl,.eqv 37 (.bool (decide ((rpow r).num.sign≤0))) (.bool true) (sgn_le hp)]) (Ns:=[(2,9),(5,5)]) (m:=1200) Tryz.func209 hmA (fun β=>by kernel_rfl) (by kernel_rfl) β w (fun k t h=>by simp at h)
theorem cmpQ_ne {x y:Rat} (h:x≠y):cmpQ x y = -1∨cmpQ x y=1:=by
 unfold cmpQ
 by_cases h1:x<y
 · exact .inl (if_pos h1)
 · by_cases h2:y<x
   · exact .inr (by rw [if_neg h1,if_pos h2])
   · exact absurd (Rat.le_antisymm (Rat.not_lt.1 h2) (Rat.not_lt.1 h1)) h
theorem gsub_ne {z w:GQ} (h:z≠w):gzero (gsub z w)=false:=by
 rw [Bool.eq_false_iff]
 intro e
 rw [gz_true] at e
 apply h
 have h1:=congrArg GQ.re e
 have h2:=congrArg GQ.im e
 simp only [gsub,g0] at h1 h2
 exact GQ.ext2 (by grind) (by grind)
theorem cmpQ_same {x y:Rat} (h:x=y):cmpQ x y=0:=by rw [h]; exact cmp_self y
abbrev smO (r s:RQ):List Thing:=rgT s++rgT r
theorem same_ok {r s:RQ} (h:RSz KC r) (k:RSz KC s) (hne:s≠r) (β:Env) (w:World) (hh:∀ (i:Nat) (t:Thing),(smO r s)[i]?=some t→t.D w (β i)) :
  Calls Tryz.prog 303 (([rgV 0,rgV 4]:List SV).map (SV.den β)).toArray w fun e w'=>∃ xs:List Pl,freshS β w 8 xs∧e=.returned ((tB' false:SV).den (extE β 8 xs))∧newHold w' [] xs∧Below w.heap.size w w':=by
 by_cases h1:s.a=r.a
 · by_cases h2:s.b=r.b
   · have h3:s.c≠r.c:=fun h3=>hne (by cases s; cases r; simp only at h1 h2 h3; subst h1 h2 h3; rfl)
     rcases cmpQ_ne h3 with h3 | h3<;>exact spec_auto (args:=[rgV 0,rgV 4]) (obs:=smO r s) (res:=tB' false) (news:=[]) (evs:=[nCmp (k.a.mono (by decide)) (h.a.mono (by decide)) (cmpQ_same h1),(sSame (k.b.mono (by decide)) (h.b.mono (by decide)) (b:=true) (by rw [h2]; exact gsub_self r.b)).e,nCmp (k.c.mono (by decide)) (h.c.mono (by decide)) h3]) (Ns:=[]) (m:=400) Tryz.func303 hmA (fun β=>by kernel_rfl) (by kernel_rfl) β w hh
   · exact spec_auto (args:=[rgV 0,rgV 4]) (obs:=smO r s) (res:=tB' false) (news:=[]) (evs:=[nCmp (k.a.mono (by decide)) (h.a.mono (by decide)) (cmpQ_same h1),(sSame (k.b.mono (by decide)) (h.b.mono (by decide)) (b:=false) (gsub_ne h2)).e]) (Ns:=[]) (m:=400) Tryz.func303 hmA (fun β=>by kernel_rfl) (by kernel_rfl) β w hh
 · rcases cmpQ_ne h1 with h1 | h1<;>exact spec_auto (args:=[rgV 0,rgV 4]) (obs:=smO r s) (res:=tB' false) (news:=[]) (evs:=[nCmp (k.a.mono (by decide)) (h.a.mono (by decide)) h1]) (Ns:=[]) (m:=400) Tryz.func303 hmA (fun β=>by kernel_rfl) (by kernel_rfl) β w hh
def sRSameNo {r s:RQ} (h:RSz KC r) (k:RSz KC s) (hne:s≠r):Spec Tryz.prog :=
 ⟨303,Tryz.call303,[rgV 0,rgV 4],smO r s,tB' false,[],same_ok h k hne,by kernel_rfl⟩
noncomputable def sRNorm2 {r:RQ} (h:RSz KC r) (hp:decide ((rpow r).num.sign≤0)=false):Spec Tryz.prog :=
 (sRNormal h rfl rfl (rby_ne hp)).newsTo (rgT (rone r)) rfl
theorem rone_sz2 {r:RQ} (h:FitC r) (hp:decide ((rpow r).num.sign≤0)=false):RSz KC (rone r) :=
 (rnm_sz (k:=1024) ⟨h.1.sz,h.2.1.gsz,h.2.2.sz⟩ (rby_sz ⟨h.1.sz,h.2.1.gsz,h.2.2.sz⟩ _ _) (rby_ne hp)).mono (by decide)
include hf in
theorem wheelOne (hp:decide ((rpow r).num.sign≤0)=false) (hne:rone r≠r):WheelNo (cC r):=fun β w=>by
 refine (spec_auto (obs:=[]) (news:=rgT r) (res:=.tup [rgC 0,.c (.b (.v (.bool false)))]) (evs:=[(ofG hf.2.1).e,(sRatIn hf.1).e,(sRatIn hf.2.2).e,dEq r.a,dEq r.c,(sPower (fitC_sz hf)).e,nSign (x:=rpow r) rfl,.eqv 37 (.bool (decide ((rpow r).num.sign≤0))) (.bool false) (sgn_le hp),(sRNorm2 (fitC_sz hf) hp).e,(sRSameNo (fitC_sz hf) (rone_sz2 hf hp) hne).e]) (Ns:=[(2,9),(5,5)]) (m:=1200) Tryz.func209 hmA (fun β=>by kernel_rfl) (by kernel_rfl) β w (fun k t h=>by simp at h)).mono ?_
 rintro e w' ⟨xs,h1,he,h2,h3⟩
 exact ⟨xs,h1,he,newHoldR4 h2,h3⟩
end
structure CkNo (l:List Lf):Prop where
 cl:l.all (Lf.of fun _=>false)=true
 prog:∀ (β:Env) (w:World),Calls Tryz.prog 86 (([.one (.a l)]:List SV).map (SV.den β)).toArray w fun e w'=>e=.returned (.int .i64 2)∧Below w.heap.size w w'
 ref:∀ (β:Env) (w:World),Calls Tryz.prog 85 (([.one (.a l)]:List SV).map (SV.den β)).toArray w fun e w'=>e=.returned (.int .i64 2)∧Below w.heap.size w w'
theorem of_cl {l:List Lf} (hl:l.all (Lf.of fun _=>false)=true):(([SV.one (.a l)]:List SV).all (SV.of fun k=>Nat.blt k 0)&&(SV.one (nI' 2)).of fun k=>Nat.blt k (0+0))=true:=by
 have:l.all (Lf.of fun k=>Nat.blt k 0)=true:=List.all_eq_true.2 fun x hx=>Lf.of_mono (fun _ hk=>by cases hk) x (List.all_eq_true.1 hl x hx)
 rw [Bool.and_eq_true]
 exact ⟨by rw [List.all_cons,List.all_nil,Bool.and_true]; exact this,by kernel_rfl⟩
def sCkNo {l:List Lf} (h:CkNo l):Spec Tryz.prog :=
 ⟨86,Tryz.call86,[.one (.a l)],[],.one (nI' 2),[],fun β w _=>(h.prog β w).mono fun e w' ⟨he,hb⟩=>⟨[],(fun _ h=>by cases h),by rw [he]; rfl,trivial,hb⟩,of_cl h.cl⟩
def sRCkNo {l:List Lf} (h:CkNo l):Spec Tryz.prog :=
 ⟨85,Tryz.call85,[.one (.a l)],[],.one (nI' 2),[],fun β w _=>(h.ref β w).mono fun e w' ⟨he,hb⟩=>⟨[],(fun _ h=>by cases h),by rw [he]; rfl,trivial,hb⟩,of_cl h.cl⟩
theorem rl_cl (a b c d:R4):(rL a++(rL b++rL c)++rL d).all (Lf.of fun _=>false)=true:=rfl
theorem two_of {f:FuncId} {l:List Lf} {w:World} {β:Env} (h:Calls Tryz.prog f (([.one (.a l)]:List SV).map (SV.den β)).toArray w fun e w'=>∃ xs:List Pl,freshS β w 0 xs∧e=.returned ((SV.one (nI' 2)).den (extE β 0 xs))∧newHold w' [] xs∧Below w.heap.size w w') :
  Calls Tryz.prog f (([.one (.a l)]:List SV).map (SV.den β)).toArray w fun e w'=>e=.returned (.int .i64 2)∧Below w.heap.size w w':=h.mono fun e w' ⟨xs,_,he,_,hb⟩=>⟨by rw [he]; rfl,hb⟩
theorem ckProg (a b c d:R4) (h:WheelNo (rL a++(rL b++rL c)++rL d)) (β:Env) (w:World):Calls Tryz.prog 86 (([.one (.a (rL a++(rL b++rL c)++rL d))]:List SV).map (SV.den β)).toArray w fun e w'=>e=.returned (.int .i64 2)∧Below w.heap.size w w' :=
 two_of (spec_auto (obs:=[]) (news:=[]) (res:=.one (nI' 2)) (evs:=[(sWheelNo h (rl_cl a b c d)).e]) (Ns:=[]) (m:=400) Tryz.func86 hmA (fun β=>by kernel_rfl) (by kernel_rfl) β w (fun k t h=>by simp at h))
def sR3MayQ (a:Fn) {r:Bool} (h:a.B=r):Spec Tryz.prog :=
 ⟨18,Tryz.call18,[.one (.a (rL a.r))],[],tB' r,[],fun β w hh=>by
  rw [← h]
  cases a with
  | ok x hx =>
   have:=(Fp.may3 (.ok x hx)).ok β w hh
   exact this
  | no f hf =>
   obtain ⟨r,a,e⟩:=f
   cases a with
   | ok x hx=>cases hf
   | no b c s t hn hs ht =>
    have:=(Fp.may3 (.no b c s t hn hs ht)).ok β w hh
    show Calls _ _ (([SV.one (.a (rL r))]:List SV).map (SV.den β)).toArray w _
    rw [← e]
    exact this,by kernel_rfl⟩
theorem ckNum (a:Fn) (b:Gn) (c:Fn) (h:(a.B&&(b.B&&c.B))=false) (β:Env) (w:World):Calls Tryz.prog 85 (([.one (.a (rL a.r++(rL b.x++rL b.y)++rL c.r))]:List SV).map (SV.den β)).toArray w fun e w'=>e=.returned (.int .i64 2)∧Below w.heap.size w w':=by
 have hh:∀ (k:Nat) (t:Thing),([]:List Thing)[k]?=some t→t.D w (β k):=fun k t h=>by simp at h
 refine two_of ?_
 cases h1:a.B with
 | false=>exact spec_auto (obs:=[]) (news:=[]) (res:=.one (nI' 2)) (evs:=[(sR3MayQ a h1).e]) (Ns:=[(3,9)]) (m:=400) Tryz.func85 hmA (fun β=>by kernel_rfl) (by kernel_rfl) β w hh
 | true=>cases h2:b.B with
  | false=>exact spec_auto (obs:=[]) (news:=[]) (res:=.one (nI' 2)) (evs:=[(sR3MayQ a h1).e,(sR4MayG b h2).e]) (Ns:=[(3,9)]) (m:=400) Tryz.func85 hmA (fun β=>by kernel_rfl) (by kernel_rfl) β w hh
  | true=>cases h3:c.B with
   | false=>exact spec_auto (obs:=[]) (news:=[]) (res:=.one (nI' 2)) (evs:=[(sR3MayQ a h1).e,(sR4MayG b h2).e,(sR3MayQ c h3).e]) (Ns:=[(3,9)]) (m:=400) Tryz.func85 hmA (fun β=>by kernel_rfl) (by kernel_rfl) β w hh
   | true=>rw [h1,h2,h3] at h; cases h
section
variable {r:RQ} (hf:FitC r)
noncomputable def ckE (r:RQ) (hf:FitC r):List (Ev Tryz.prog):=[(sR3MayQ (.ok r.a hf.1) rfl).e,(sR4MayG (.ok r.b hf.2.1) rfl).e,(sR3MayQ (.ok r.c hf.2.2) rfl).e,(sCPower (fitC_sz hf)).e,(sR3Sign (x:=rpow r) rfl).e]
include hf in
theorem ckPow (hp:decide ((rpow r).num.sign≤0)=true) (β:Env) (w:World):Calls Tryz.prog 85 (([.one (.a (cC r))]:List SV).map (SV.den β)).toArray w fun e w'=>e=.returned (.int .i64 2)∧Below w.heap.size w w' :=
 two_of (spec_auto (obs:=[]) (news:=[]) (res:=.one (nI' 2)) (evs:=ckE r hf++[.eqv 23 (.bool (decide ((rpow r).num.sign≤0))) (.bool true) (sgn_le hp)]) (Ns:=[(3,9)]) (m:=400) Tryz.func85 hmA (fun β=>by kernel_rfl) (by kernel_rfl) β w (fun k t h=>by simp at h))
abbrev eqRone (r s:RQ):Bool:=(fR r.a).eq (fR s.a)&&(geq (fR r.b.re) (fR r.b.im) (fR s.b.re) (fR s.b.im)&&((fR r.c).eq (fR s.c)&&true))
theorem eqRone_iff {r s:RQ}:eqRone r s=true↔r=s:=by
 unfold eqRone geq
 simp only [Bool.and_true,Bool.and_eq_true,R4.eq_iff]
 constructor
 · rintro ⟨h1,⟨h2,h3⟩,h4⟩
   obtain ⟨a,⟨b,b'⟩,c⟩:=r
   obtain ⟨d,⟨e,e'⟩,f⟩:=s
   obtain rfl:a=d:=fR_inj h1
   obtain rfl:b=e:=fR_inj h2
   obtain rfl:b'=e':=fR_inj h3
   obtain rfl:c=f:=fR_inj h4
   rfl
 · rintro rfl
   exact ⟨rfl,⟨rfl,rfl⟩,rfl⟩
def eqEvR (r s:RQ) {t:Bool} (h:eqRone r s=t):Ev Tryz.prog:=eqEvC (fR r.a) (fR r.b.re) (fR r.b.im) (fR r.c) (fR s.a) (fR s.b.re) (fR s.b.im) (fR s.c) t h
include hf in
theorem ckOne (hp:decide ((rpow r).num.sign≤0)=false) (hne:rone r≠r) (β:Env) (w:World):Calls Tryz.prog 85 (([.one (.a (cC r))]:List SV).map (SV.den β)).toArray w fun e w'=>e=.returned (.int .i64 2)∧Below w.heap.size w w' :=
 two_of (spec_auto (obs:=[]) (news:=[]) (res:=.one (nI' 2)) (evs:=ckE r hf++[.eqv 23 (.bool (decide ((rpow r).num.sign≤0))) (.bool false) (sgn_le hp),(sCNorm1 (fitC_sz hf) hp).e,eqEvR (rone r) r (t:=false) (Bool.eq_false_iff.2 fun e=>hne (eqRone_iff.1 e))]) (Ns:=[(3,9)]) (m:=400) Tryz.func85 hmA (fun β=>by kernel_rfl) (by kernel_rfl) β w (fun k t h=>by simp at h))
end
noncomputable def sRCk {r:RQ} (h:MayC r):Spec Tryz.prog :=
 Spec.auto Tryz.call85 [.one (.a (cC r))] [] (.one (nI' 0)) [] (ckE r h.fit++[.eqv 23 (.bool (decide ((rpow r).num.sign≤0))) (.bool false) (sgn_le h.pow),(sCNorm1 (fitC_sz h.fit) h.pow).e,eqEvR (rone r) r (t:=true) (eqRone_iff.2 h.one)]) [(3,9)] 400 Tryz.func85 hmA (by kernel_rfl) (fun β=>by kernel_rfl)
theorem cC_eq (r:RQ):cC r=rL (fR r.a)++(rL (fR r.b.re)++rL (fR r.b.im))++rL (fR r.c):=by
 unfold cC
 simp only [List.append_assoc]
theorem ckNoOf {r:RQ} (h:WheelNo (cC r)) (k:∀ (β:Env) (w:World),Calls Tryz.prog 85 (([.one (.a (cC r))]:List SV).map (SV.den β)).toArray w fun e w'=>e=.returned (.int .i64 2)∧Below w.heap.size w w') :
  CkNo (rL (fR r.a)++(rL (fR r.b.re)++rL (fR r.b.im))++rL (fR r.c)):=by
 rw [cC_eq] at h
 refine ⟨rl_cl ..,ckProg _ _ _ _ h,fun β w=>?_⟩
 have:=k β w
 rw [cC_eq] at this
 exact this
theorem ckNoNum (x:Fn) (z:Gn) (y:Fn) (h:(x.B&&(z.B&&y.B))=false):CkNo (rL x.r++(rL z.x++rL z.y)++rL y.r):=⟨rl_cl ..,ckProg _ _ _ _ (wheelNum x z y h),ckNum x z y h⟩
inductive Cp where
 | ok (r:RQ) (h:MayC r)
 | no (a b b' c:R4) (h:CkNo (rL a++(rL b++rL b')++rL c))
def Cp.b:Cp→R4
 | .ok r _=>fR r.b.re
 | .no _ b _ _ _=>b
def Cp.c:Cp→R4
 | .ok r _=>fR r.c
 | .no _ _ _ c _=>c
abbrev one1:Rat:=Rat.divInt 1 1
abbrev rg (x:Rat):GQ:=⟨x,0⟩
def wy0 (f:RQ):GQ:=gadd (rg f.b.re) (gmul (rg f.b.im) (gint 0 1))
def wayQ (f:RQ):GQ:=gconj (wy0 f)
abbrev KI:Nat:=300
abbrev i21:Rat:=Rat.divInt 2 1
def cuN (l:RQ):Rat:=gnorm (wayQ l)
section
variable {l k:RQ} (hl:RSz KI l) (hk:RSz KI k) (h0:k.a≠0) (hn:cuN l≠0)
theorem mul_ne {x y:Rat} (hx:x≠0) (hy:y≠0):x*y≠0:=fun h=>(Rat.mul_eq_zero.1 h).elim hx hy
end
end Go.Proofs.YtmfedaakeeiolaaGreat.Y
end
