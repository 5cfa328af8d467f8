/- GsC, GsD, Ops, Nst, GsT, CiC, CiD, CiE, CiF, CiG, Yd, G1, MtA, MtB, MtC, MtD, MtE. -/
import Derived.Test.YtpccljaooghafaaGreatPk11
set_option linter.unnecessarySimpa false
set_option linter.unusedVariables false
set_option linter.unusedSimpArgs false
section
namespace Go.Proofs.YtpccljaooghafaaGreat.Y
open Go Go.RowKit
set_option maxRecDepth 100000
theorem root_uniq {n a b:Nat} (h1:a*a≤n) (h2:n<(a+1)*(a+1)) (k1:b*b≤n) (k2:n<(b+1)*(b+1)):a=b:=by
 rcases Nat.lt_trichotomy a b with h | h | h
 · have:(a+1)*(a+1)≤b*b:=Nat.mul_le_mul h h
   omega
 · exact h
 · have:(b+1)*(b+1)≤a*a:=Nat.mul_le_mul h h
   omega
def eSqrt {m:Int} {n r:Nat} (i p k:Nat) (hm:m=(n:Int)) (h1:r*r≤n) (h2:n<(r+1)*(r+1)) (hn:(dig (5*n)).length≤4294967296):Ev Tryz.prog:=.fill 390 Tryz.call390 (fun β=>#[.pointer (some ⟨(β i).b,0,none⟩),.pointer ((β k).v 0)]) [(k,(intT m).ob)] i 2 p (intT (r:Int))
 (fun β w h ho hs=>by
  obtain ⟨b,hb,kb⟩:=needI (n:=m) (k:=k) h (by simp)
  simp only [hb.1]
  rw [hm] at kb
  refine (Sqrt_any hs kb hn).mono fun e w' ⟨he,⟨r',k1,k2,k3⟩,k4⟩=>?_
  rw [root_uniq h1 h2 k1 k2]
  exact ⟨he,⟨_,ho.at1,k3⟩,k4⟩)
def fSqrt {m:Int} {n r:Nat} (hm:m=(n:Int)) (h1:r*r≤n) (h2:n<(r+1)*(r+1)) (hn:(dig (5*n)).length≤4294967296):Ev Tryz.prog:=dyn2 fun i p k=>eSqrt i p k hm h1 h2 hn
def mkI:Ev Tryz.prog:=dynMk 163 2
theorem cmp_root {x y:Rat} {t:Bool} (h:decide (x=y)=t):Value.bool (cmpQ x y==0)=.bool t:=by
 rw [← h]
 congr 1
 rw [Bool.eq_iff_iff,beq_iff_eq,decide_eq_true_iff]
 unfold cmpQ
 constructor
 · intro h
   by_cases a:x<y
   · rw [if_pos a] at h; exact absurd h (by decide)
   · by_cases b:y<x
     · rw [if_neg a,if_pos b] at h; exact absurd h (by decide)
     · exact Rat.le_antisymm (Rat.not_lt.1 b) (Rat.not_lt.1 a)
 · rintro rfl
   rw [if_neg Rat.lt_irrefl,if_neg Rat.lt_irrefl]
theorem nat_sign {m:Int} {n:Nat} (h:m=(n:Int)):Value.bool (decide (m.sign<0))=.bool false:=by
 rw [h]
 cases n<;>rfl
end Go.Proofs.YtpccljaooghafaaGreat.Y
end
section
namespace Go.Proofs.YtpccljaooghafaaGreat.Y
open Go Go.RowKit
set_option maxRecDepth 100000
def alOf (ob:List Ob) (j:Nat):Nat:=match ob[j]? with
 | some (.al i _)=>i
 | _=>0
theorem one_at {g:Pl} {b:Nat} (h:g.one) (k:At1 g b):b=g.b:=((k.2 g.b).1 ((h.1 _).2 rfl)).symm
end Go.Proofs.YtpccljaooghafaaGreat.Y
end
section
namespace Go.Proofs.YtpccljaooghafaaGreat
open Go.RowKit
theorem fracV_inj {x y:Rat} (h:fracV x=fracV y):x=y:=by
 obtain ⟨h1,h2,_,h4⟩:=agg4 h
 have e1:x.num=y.num:=sg_inj h1 (mag_inj h2)
 have e2:x.den=y.den:=mag_inj h4
 exact Rat.ext e1 e2
end Go.Proofs.YtpccljaooghafaaGreat
end
section
namespace Go.Proofs.YtpccljaooghafaaGreat
open Go.RowKit
theorem cmpQ_zero {x y:Rat}:cmpQ x y=0↔x=y:=by
 unfold cmpQ
 constructor
 · intro h
   split at h
   · cases h
   · split at h
     · cases h
     · rename_i h1 h2
       exact Rat.le_antisymm (Rat.not_lt.1 h2) (Rat.not_lt.1 h1)
 · rintro rfl
   rw [if_neg (Rat.lt_irrefl),if_neg (Rat.lt_irrefl)]
end Go.Proofs.YtpccljaooghafaaGreat
end
section
namespace Go.Proofs.YtpccljaooghafaaGreat.Y
open Go Go.RowKit
set_option maxRecDepth 100000
theorem f11:FitG (gint 1 1):=fit_int (by decide) (by decide)
end Go.Proofs.YtpccljaooghafaaGreat.Y
end
section
namespace Go.Proofs.YtpccljaooghafaaGreat.Y
open Go Go.RowKit
set_option maxRecDepth 100000
def z4:List Lf:=[.b (.v (.bool false)),.b (.v (.slice none 0 0)),.b (.v (.bool false)),.b (.v (.slice none 0 0))]
theorem RatAt.zero {w:World} {b:Nat} (hb:w.heap[b]?=some (.cells #[.bool false,.slice none 0 0,.bool false,.slice none 0 0] 165 (0,0))):RatAt w b 0 0:=by
 refine ⟨⟨_,_,hb,by decide,by simp⟩,⟨⟨_,_,hb,by decide,by simp⟩,?_,.slice none 0 0,?_,?_⟩,0,⟨⟨_,_,hb,by decide,by simp⟩,?_,.slice none 0 0,?_,?_⟩,.inr ⟨rfl,rfl⟩⟩
 · rw [cell_of_row _ _ _ _ _ _ hb]; rfl
 · rw [cell_of_row _ _ _ _ _ _ hb]; rfl
 · rw [show (0:Rat).num=0 from rfl,Int.natAbs_zero,dig_zero]; exact Words.nil _
 · rw [cell_of_row _ _ _ _ _ _ hb]; rfl
 · rw [cell_of_row _ _ _ _ _ _ hb]; rfl
 · rw [Int.natAbs_zero,dig_zero]; exact Words.nil _
theorem okr0:Sz KB (0:Rat):=sz_zero.mono (by decide)
def eSum0 {y:Rat} (i n k:Nat) (hy:Sz KB y):Ev Tryz.prog:=.refill 144 Tryz.call144 (fun β=>#[.pointer (some ⟨(β i).b,0,none⟩),.pointer (some ⟨(β i).b,0,none⟩),.pointer ((β k).v 0)]) [(i,.box z4 165),(k,(ratT y).ob)] i i 4 n (ratT (0+y))
 (fun β w h hji ho hs=>by
  have hb:(Ob.box z4 165).holds β w (β i):=h (i,.box z4 165) (by simp)
  obtain ⟨b,hb2,kb⟩:=needP (x:=y) (k:=k) h (by simp)
  simp only [hb2.1]
  exact fillP ho (rAdd_any hs (RatAt.zero hb.2) kb (okr0.okR2 (by decide)) (hy.okR2 (by decide))))
def eSumP {x y:Rat} (i j n k:Nat) (hx:Sz KB x) (hy:Sz KB y):Ev Tryz.prog:=.refill 144 Tryz.call144 (fun β=>#[.pointer (some ⟨(β i).b,0,none⟩),.pointer (some ⟨(β i).b,0,none⟩),.pointer ((β k).v 0)]) [(j,(ratT x).ob),(k,(ratT y).ob)] i j 4 n (ratT (x+y))
 (fun β w h hji ho hs=>by
  obtain ⟨a,ha,ka⟩:=needP (x:=x) (k:=j) h (by simp)
  obtain ⟨b,hb,kb⟩:=needP (x:=y) (k:=k) h (by simp)
  have e:=one_at ho (hji▸ha)
  subst e
  simp only [hb.1]
  exact fillP ho (rAdd_any hs ka kb (hx.okR2 (by decide)) (hy.okR2 (by decide))))
def eSumZ {x y:Rat} (i j n k:Nat) (hx:Sz KB x) (hy:Sz KB y):Ev Tryz.prog:=.refill 144 Tryz.call144 (fun β=>#[.pointer ((β j).v 0),.pointer ((β j).v 0),.pointer ((β k).v 0)]) [(j,(ratT x).ob),(k,(ratT y).ob)] i j 4 n (ratT (x+y))
 (fun β w h hji ho hs=>by
  obtain ⟨a,ha,ka⟩:=needP (x:=x) (k:=j) h (by simp)
  obtain ⟨b,hb,kb⟩:=needP (x:=y) (k:=k) h (by simp)
  have e:=one_at ho (hji▸ha)
  subst e
  simp only [ha.1,hb.1]
  exact fillP ho (rAdd_any hs ka kb (hx.okR2 (by decide)) (hy.okR2 (by decide))))
def sum0 {y:Rat} (hy:Sz KB y):Ev Tryz.prog:=.dyn (fun o _ _=>isCallB o) fun _ xs ob=>lit ob.length fun n=>lit (ptOf (xs.getD 0 undefS)) fun i=>lit (ptOf (xs.getD 2 undefS)) fun k=>eSum0 i n k hy
def sumN {x y:Rat} (hx:Sz KB x) (hy:Sz KB y):Ev Tryz.prog:=.dyn (fun o _ _=>isCallB o) fun _ xs ob=>lit ob.length fun n=>lit (ptOf (xs.getD 2 undefS)) fun k=>match xs.getD 0 undefS with
 | .one (.c (.b (.p i _)))=>lit i fun i=>lit ((findA i ob 0).getD 0) fun j=>eSumP i j n k hx hy
 | .one (.c (.b (.z j _)))=>lit j fun j=>lit (alOf ob j) fun i=>eSumZ i j n k hx hy
 | _=>.eqv 0 undef undef rfl
abbrev KD5:Nat:=5000
section
variable {f g h:Nat→Rat} (hf:∀ n,Sz KD5 (f n)) (hg:∀ n,Sz KD5 (g n)) (hh:∀ n,Sz KD5 (h n))
theorem mone8:Sz 8 (Rat.divInt (-1) 1):=sz_lit (-1) 1 (by decide) (by decide) (by decide)
end
end Go.Proofs.YtpccljaooghafaaGreat.Y
end
section
namespace Go.Proofs.YtpccljaooghafaaGreat.Y
open Go Go.RowKit
set_option maxRecDepth 100000
theorem sz1_le:sz 1≤1000000000:=Nat.le_trans (m:=1) (sz_le.2 (by decide)) (by decide)
theorem sz2_le:sz 2≤1000000000:=Nat.le_trans (m:=1) (sz_le.2 (by decide)) (by decide)
def sR3Small (n m:Int) (hn : -9223372036854775808≤n∧n≤9223372036854775807) (hm : -9223372036854775808≤m∧m≤9223372036854775807) (h0:m≠0) (sn:sz n≤1000000000) (sm:sz m≤1000000000):Spec Tryz.prog :=
 Spec.auto Tryz.call27 [.one (svI n),.one (svI m)] [] (.one (.a (fC (Rat.divInt n m)))) [] [eWOf n hn,eWOf m hm,eFOf sn sm h0] [] 400 Tryz.func27 hmA (by kernel_rfl) (fun β=>by kernel_rfl)
section
variable {p q r:Pt} (hp:FitP p) (hq:FitP q) (hr:FitP r)
theorem hf_sz:Sz 8 (Rat.divInt 1 2):=sz_lit 1 2 (by decide) (by decide) (by decide)
end
end Go.Proofs.YtpccljaooghafaaGreat.Y
end
section
namespace Go.Proofs.YtpccljaooghafaaGreat.Y
open Go Go.RowKit
set_option maxRecDepth 100000
def valQ (r:RQ) (z:GQ):Rat:=0+r.a*gnorm z+((gmul r.b z).re+(gmul r.b z).re)+r.c
def sidQ (r:RQ):Pt→Rat
 | .inf=>r.a
 | .fin z=>valQ r z
theorem cmp_self (x:Rat):cmpQ x x=0:=by
 have h:(!(cmpQ x x==0))=false∨(!(cmpQ x x==0))=true:=by cases (!(cmpQ x x==0))<;>simp
 unfold cmpQ
 simp
theorem gsub_self (z:GQ):gzero (gsub z z)=true:=by
 rw [gz_true]
 refine GQ.ext2 ?_ ?_<;>(simp only [gsub,g0]; grind)
noncomputable def sRSame {r:RQ} (h:RSz KC r):Spec Tryz.prog :=
 Spec.auto Tryz.call346 [rgV 0,rgV 4] (rgT r++rgT r) (tB' true) [] [nCmp (h.a.mono (by decide)) (h.a.mono (by decide)) (cmp_self r.a),(sSame (h.b.mono (by decide)) (h.b.mono (by decide)) (gsub_self r.b)).e,nCmp (h.c.mono (by decide)) (h.c.mono (by decide)) (cmp_self r.c)] [] 400 Tryz.func346 hmA (by kernel_rfl) (fun β=>by kernel_rfl)
structure MayC (r:RQ):Prop where
 fit:FitC r
 pow:decide ((rpow r).num.sign≤0)=false
 one:rone r=r
theorem MayC.sz {r:RQ} (h:MayC r):RSz KC r:=mk_sz h.fit.1 h.fit.2.1 h.fit.2.2
def Spec.newsTo {P:Program} (S:Spec P) (l:List Thing) (h:S.news=l):Spec P :=
 ⟨S.f,S.en,S.args,S.obs,S.res,l,fun β w hh=>by rw [← h]; exact S.ok β w hh,by rw [← h]; exact S.closed⟩
noncomputable def sRNorm1 {r:RQ} (h:MayC r):Spec Tryz.prog :=
 (sRNormal h.sz rfl rfl (rby_ne h.pow)).newsTo (rgT r) (by show rgT (rone r)=rgT r; rw [h.one])
noncomputable def sWheel {r:RQ} (h:MayC r):Spec Tryz.prog :=
 Spec.auto Tryz.call234 [.one (.a (cC r))] [] (.tup [.a [.b (.z 0 0),.b (.z 1 0),.b (.z 2 0),.b (.z 3 0)],.c (.b (.v (.bool true)))]) (rgT r)
  [(ofG h.fit.2.1).e,(sRatIn h.fit.1).e,(sRatIn h.fit.2.2).e,dEq r.a,dEq r.c,(sPower h.sz).e,nSign (x:=rpow r) rfl,.eqv 37 (.bool (decide ((rpow r).num.sign≤0))) (.bool false) (sgn_le h.pow),(sRNorm1 h).e,(sRSame h.sz).e] [(2,9),(5,5)] 1200 Tryz.func234 hmA (by kernel_rfl) (fun β=>by kernel_rfl)
noncomputable def sCCheck {r:RQ} (h:MayC r):Spec Tryz.prog :=
 Spec.auto Tryz.call97 [.one (.a (cC r))] [] (.one (nI' 0)) [] [(sWheel h).e] [] 400 Tryz.func97 hmA (by kernel_rfl) (fun β=>by kernel_rfl)
end Go.Proofs.YtpccljaooghafaaGreat.Y
end
section
namespace Go.Proofs.YtpccljaooghafaaGreat.Y
open Go Go.RowKit
set_option maxRecDepth 100000
theorem den_three (β:Env) (n:Nat) (b:Bool) (p q:Pl):(SV.one (.a [.b (.v (.bool b)),.b (.z n 0),.b (.z (n+1) 0)])).den (extE β n [p,q])=.agg #[.bool b,.pointer (p.v 0),.pointer (q.v 0)]:=by
 have h1:=extE_in (β:=β) (n:=n) (i:=0) (xs:=[p,q]) rfl
 have h2:=extE_in (β:=β) (n:=n) (i:=1) (xs:=[p,q]) rfl
 rw [Nat.add_zero] at h1
 simp [SV.den,SC.den,Lf.den,Lf0.den,h1,h2]
def rdPlace (d t:Nat) (e:TypeId) (cs:List Cd) (o:Nat) (b:Bool) (x y:Rat) (hb:cs[o]?=some (.v (.bool b))) (hx:cs[o+1]?=some (.r x)) (hy:cs[o+2]?=some (.r y)) (k n:Nat):Ev Tryz.prog :=
 .rd d (.load 190 (.tmp t)) (fun β=>[.pointer (some ⟨(β k).b,o,none⟩)]) [(k,(rowT e cs).ob)] n (.one (.a [.b (.v (.bool b)),.b (.z n 0),.b (.z (n+1) 0)])) [ratM x,ratM y] (fun β w h ρ op ho hx'=>by
  have h1:RW e cs w (β k):=h (k,(rowT e cs).ob) (by simp)
  have h2:ρ (.tmp t)=.pointer (some ⟨(β k).b,o,none⟩):=by simpa [Op.operands] using hx'
  have p1:=cdOk_at h1.2.1.1 hx
  have p2:=cdOk_at h1.2.1.1 hy
  rw [Nat.zero_add] at p1 p2
  refine ⟨[cellPl (β k) (o+1),cellPl (β k) (o+2)],w,fun g hg c hc=>.inr ⟨(k,(rowT e cs).ob),by simp,rfl,?_⟩,?_,⟨cellPl_or p1,cellPl_or p2,trivial⟩,Below.refl _ _⟩
  · rcases List.mem_cons.1 hg with rfl | hg
    · exact cellPl_F p1 hc
    · obtain rfl:=List.mem_singleton.1 hg
      exact cellPl_F p2 hc
  · have hr:w.rangeAt (β k).b o [.bool b,.pointer ((β k).v (o+1)),.pointer ((β k).v (o+2))]:=fun j v hv=>by
     match j,hv with
     | 0,hv=>simp only [List.getElem?_cons_zero] at hv; obtain rfl:=Option.some.inj hv; exact rw_cell h1 hb
     | 1,hv=>simp only [List.getElem?_cons_succ,List.getElem?_cons_zero] at hv; obtain rfl:=Option.some.inj hv; exact rw_cell h1 hx
     | 2,hv=>simp only [List.getElem?_cons_succ,List.getElem?_cons_zero] at hv; obtain rfl:=Option.some.inj hv; exact rw_cell h1 hy
     | j+3,hv=>simp at hv
    have hl:=run_loadAt_mid (P:=Tryz.prog) w (β k).b o 190 _ _ hr Tryz.underlying190 (by kernel_rfl) (by kernel_rfl)
    rw [den_three]
    unfold execOp
    rw [ho]
    simp only [h2]
    simp [hl,Result.andThen]
    exact ⟨rfl,rfl⟩)
def dPlace (e:TypeId) (cs:List Cd):Ev Tryz.prog:=.dyn (fun o xs ob=>match o.op with
 | .load T (.tmp _)=>Nat.beq T 190&&isAd (xs.getD 0 undefS)&&(match ob[(adOf (xs.getD 0 undefS)).1]? with | some (.th _)=>true | _=>false)
 | _=>false) fun o xs ob=>match o.op with
 | .load _ (.tmp t)=>lit (adOf (xs.getD 0 undefS)).1 fun k=>lit (adOf (xs.getD 0 undefS)).2 fun off=>lit ob.length fun n=>match hb:cs[off]?,hx:cs[off+1]?,hy:cs[off+2]? with
  | some (.v (.bool b)),some (.r x),some (.r y)=>rdPlace (o.dst.getD 0) t e cs off b x y hb hx hy k n
  | _,_,_=>.eqv 0 undef undef rfl
 | _=>.eqv 0 undef undef rfl
def rdIdxP (d t:Nat) (e:TypeId) (cs:List Cd) (ix:Operand) (n j:Nat) (hj:Nat.blt j n=true) (k:Nat):Ev Tryz.prog :=
 .rd d (.indexAddr 267 (.tmp t) ix) (fun β=>[.slice ((β k).v cs.length) n ((β k).c cs.length),.int .i64 (j:Int)]) [(k,(rowT e cs).ob)] 0 (.one (.c (.b (.p k (j*3))))) [] (fun β w h ρ op ho hx'=>by
  have h1:RW e cs w (β k):=h (k,(rowT e cs).ob) (by simp)
  have h2:ρ (.tmp t)=.slice (some ⟨(β k).b,0,none⟩) n ((β k).c cs.length)∧ρ ix=.int .i64 (j:Int):=by
   rw [h1.2.1.2] at hx'
   simpa [Op.operands] using hx'
  rw [Nat.blt_eq] at hj
  refine ⟨[],w,(fun _ h=>by cases h),?_,trivial,Below.refl _ _⟩
  rw [extE_nil]
  unfold execOp
  rw [ho]
  simp only [h2.1,h2.2]
  have hi:=run_indexAt_slice (P:=Tryz.prog) w 267 ⟨(β k).b,0,none⟩ n ((β k).c cs.length) .i64 (j:Int) (by kernel_rfl)
  have hsz:(sizeOf (Tryz.prog.elem 267)).run Tryz.prog w=.ok 3 w:=by kernel_rfl
  rw [if_pos ⟨by omega,by omega⟩,hsz,Result.andThen_ok,Int.toNat_natCast] at hi
  have ha:(⟨(β k).b,0,none⟩:Addr).add (j*3)=⟨(β k).b,j*3,none⟩:=by
   simp [Addr.add]
   exact fun h=>h.symm
  rw [ha] at hi
  simp only [Sem.run_bind,hi,Result.andThen_ok]
  rfl)
def dIdxP (e:TypeId) (cs:List Cd):Ev Tryz.prog:=.dyn (fun o xs ob=>match o.op with
 | .indexAddr _ (.tmp _) _=>isY (xs.getD 0 undefS)
 | _=>false) fun o xs ob=>match o.op with
 | .indexAddr _ (.tmp t) ix=>lit (yOf (xs.getD 0 undefS)).1 fun k=>lit (yOf (xs.getD 0 undefS)).2 fun n=>lit (intS (xs.getD 1 undefS)) fun j=>if h:Nat.blt j n=true then rdIdxP (o.dst.getD 0) t e cs ix n j h k else .eqv 0 undef undef rfl
 | _=>.eqv 0 undef undef rfl
theorem place_some:(Tryz.prog.info? 190).isSome=true:=by kernel_rfl
noncomputable def appP:AppT Tryz.prog :=
 ⟨267,190,(Tryz.prog.info? 190).get place_some,.agg #[.bool false,.pointer none,.pointer none],3,24,Tryz.underlying267,(Option.some_get place_some).symm,by kernel_rfl,by kernel_rfl,by kernel_rfl,rfl,by decide,by decide⟩
abbrev PLT:TypeId:=190
theorem or_cd {w:World} {g G:Pl} {x:Rat} {i:Nat} (h:OR0 x w g) (hv:G.v i=g.v 0) (hF:∀ c,g.F c→G.F c):cdP w G i (.r x):=by
 rcases h with ⟨h1,_,h3⟩ | ⟨b,h1,h2⟩
 · exact .inl ⟨hv.trans h1,h3⟩
 · exact .inr ⟨b,hv.trans h1.1,hF b ((h1.2 b).2 rfl),h2⟩
end Go.Proofs.YtpccljaooghafaaGreat.Y
end
section
namespace Go.Proofs.YtpccljaooghafaaGreat.Y
open Go Go.RowKit
set_option maxRecDepth 100000
abbrev ptI (n m:Int):Pt:=.fin (gint n m)
theorem ptI_fit {n m:Int} (h:n.natAbs<256) (k:m.natAbs<256):FitP (ptI n m):=fit_int h k
theorem rq_lit {r s:RQ} (h1:decide (r.a=s.a)=true) (h2:decide (r.b.re=s.b.re)=true) (h3:decide (r.b.im=s.b.im)=true) (h4:decide (r.c=s.c)=true):r=s:=by
 obtain ⟨a,⟨b,b'⟩,c⟩:=r
 obtain ⟨d,⟨e,e'⟩,f⟩:=s
 obtain rfl:a=d:=of_decide_eq_true h1
 obtain rfl:b=e:=of_decide_eq_true h2
 obtain rfl:b'=e':=of_decide_eq_true h3
 obtain rfl:c=f:=of_decide_eq_true h4
 rfl
end Go.Proofs.YtpccljaooghafaaGreat.Y
end
section
namespace Go.Proofs.YtpccljaooghafaaGreat.Y
open Go Go.RowKit
theorem spec_yes {P:Program} (S:Spec P) (ho:S.obs=[]) (hr:S.res=.one (.c (.b (.v (.bool true))))) (w:World):Calls P S.f (S.args.map (SV.den idE)).toArray w fun e w'=>e=.returned (.bool true)∧Below w.heap.size w w':=by
 refine (S.ok idE w (by rw [ho]; intro k t h; simp at h)).mono ?_
 rintro e w' ⟨xs,_,rfl,_,hb⟩
 exact ⟨by rw [hr]; rfl,hb⟩
end Go.Proofs.YtpccljaooghafaaGreat.Y
end
section
namespace Go.Proofs.YtpccljaooghafaaGreat.Y
open Go Go.RowKit
set_option maxRecDepth 100000
def sR4MayG (a:Gn) {r:Bool} (h:a.B=r):Spec Tryz.prog :=
 (sR4May a.gp.a.a a.gp.b.a).as [gnS a] (tB' r) (by
  show [SV.one (.a (a.gp.a.a.C++a.gp.b.a.C))]=[SV.one (.a (rL a.gp.a.r++rL a.gp.b.r))]
  rw [show a.gp.a.a.C=rL a.gp.a.r from a.gp.a.e,show a.gp.b.a.C=rL a.gp.b.r from a.gp.b.e]) (congrArg tB' (a.gpB.trans h))
end Go.Proofs.YtpccljaooghafaaGreat.Y
end
section
namespace Go.Proofs.YtpccljaooghafaaGreat.Y
open Go Go.RowKit
set_option maxRecDepth 100000
def any4:List Thing:=[anyT,anyT,anyT,anyT]
abbrev rx0:SC:=.a [.b (.v (.pointer none)),.b (.v (.pointer none)),.b (.v (.pointer none)),.b (.v (.pointer none))]
abbrev rgC (k:Nat):SC:=.a [.b (.z k 0),.b (.z (k+1) 0),.b (.z (k+2) 0),.b (.z (k+3) 0)]
def WheelNo (l:List Lf):Prop:=∀ (β:Env) (w:World),Calls Tryz.prog 234 (([.one (.a l)]:List SV).map (SV.den β)).toArray w fun e w'=>∃ xs:List Pl,freshS β w 0 xs∧e=.returned ((SV.tup [rgC 0,.c (.b (.v (.bool false)))]).den (extE β 0 xs))∧newHold w' any4 xs∧Below w.heap.size w w'
def sWheelNo {l:List Lf} (h:WheelNo l) (hl:l.all (Lf.of fun _=>false)=true):Spec Tryz.prog :=
 ⟨234,Tryz.call234,[.one (.a l)],[],.tup [rgC 0,.c (.b (.v (.bool false)))],any4,fun β w _=>h β w,by
  have:l.all (Lf.of fun k=>Nat.blt k 0)=true:=List.all_eq_true.2 fun x hx=>Lf.of_mono (fun _ hk=>by cases hk) x (List.all_eq_true.1 hl x hx)
  rw [Bool.and_eq_true]
  exact ⟨by rw [List.all_cons,List.all_nil,Bool.and_true]; exact this,by kernel_rfl⟩⟩
theorem nil4 {P:Program} {f:FuncId} {args:Array Value} {w:World} {β:Env}
  (h:Calls P f args w fun e w'=>∃ xs:List Pl,freshS β w 0 xs∧e=.returned ((SV.tup [rx0,.c (.b (.v (.bool false)))]).den (extE β 0 xs))∧newHold w' [] xs∧Below w.heap.size w w') :
  Calls P f args w fun e w'=>∃ xs:List Pl,freshS β w 0 xs∧e=.returned ((SV.tup [rgC 0,.c (.b (.v (.bool false)))]).den (extE β 0 xs))∧newHold w' any4 xs∧Below w.heap.size w w' :=
 h.mono fun e w' ⟨xs,h1,he,h2,h3⟩=>by
  have hn:AN w' nilPl:=fun _ h=>h.elim
  exact ⟨[nilPl,nilPl,nilPl,nilPl],fun x hx c hc=>by
   simp only [List.mem_cons,List.not_mem_nil,or_false,or_self] at hx
   subst hx
   exact hc.elim,by rw [he]; kernel_rfl,⟨hn,hn,hn,hn,trivial⟩,h3⟩
theorem newHoldR4 {w:World} {t1 t2 t3 t4:Thing} {xs:List Pl} (h:newHold w [t1,t2,t3,t4] xs):newHold w any4 xs:=by
 match xs,h with
 | [a,b,c,d],h=>exact ⟨an_of t1.st h.1,an_of t2.st h.2.1,an_of t3.st h.2.2.1,an_of t4.st h.2.2.2.1,trivial⟩
theorem wheelNum (a:Fn) (b:Gn) (c:Fn) (h:(a.B&&(b.B&&c.B))=false):WheelNo (rL a.r++(rL b.x++rL b.y)++rL c.r):=fun β w=>by
 refine nil4 ?_
 have hh:∀ (k:Nat) (t:Thing),([]:List Thing)[k]?=some t→t.D w (β k):=fun k t h=>by simp at h
 cases b with
 | no g hg=>cases a with
  | ok x hx=>cases c with
   | ok y hy=>exact spec_auto (obs:=[]) (news:=[]) (res:=.tup [rx0,.c (.b (.v (.bool false)))]) (evs:=[(sOfW g.a g.b (r:=false) hg).e,(ratFn (.ok x hx)).e,(ratFn (.ok y hy)).e]) (Ns:=[(2,9),(5,5)]) (m:=800) Tryz.func234 hmA (fun β=>by kernel_rfl) (by kernel_rfl) β w hh
   | no k hk=>exact spec_auto (obs:=[]) (news:=[]) (res:=.tup [rx0,.c (.b (.v (.bool false)))]) (evs:=[(sOfW g.a g.b (r:=false) hg).e,(ratFn (.ok x hx)).e,(ratFn (.no k hk)).e]) (Ns:=[(2,9),(5,5)]) (m:=800) Tryz.func234 hmA (fun β=>by kernel_rfl) (by kernel_rfl) β w hh
  | no f hf=>cases c with
   | ok y hy=>exact spec_auto (obs:=[]) (news:=[]) (res:=.tup [rx0,.c (.b (.v (.bool false)))]) (evs:=[(sOfW g.a g.b (r:=false) hg).e,(ratFn (.no f hf)).e,(ratFn (.ok y hy)).e]) (Ns:=[(2,9),(5,5)]) (m:=800) Tryz.func234 hmA (fun β=>by kernel_rfl) (by kernel_rfl) β w hh
   | no k hk=>exact spec_auto (obs:=[]) (news:=[]) (res:=.tup [rx0,.c (.b (.v (.bool false)))]) (evs:=[(sOfW g.a g.b (r:=false) hg).e,(ratFn (.no f hf)).e,(ratFn (.no k hk)).e]) (Ns:=[(2,9),(5,5)]) (m:=800) Tryz.func234 hmA (fun β=>by kernel_rfl) (by kernel_rfl) β w hh
 | ok z hz=>cases a with
  | no f hf=>cases c with
   | ok y hy=>exact spec_auto (obs:=[]) (news:=[]) (res:=.tup [rx0,.c (.b (.v (.bool false)))]) (evs:=[(ofG hz).e,(sRatFn f hf).e,(ratFn (.ok y hy)).e]) (Ns:=[(2,9),(5,5)]) (m:=800) Tryz.func234 hmA (fun β=>by kernel_rfl) (by kernel_rfl) β w hh
   | no k hk=>exact spec_auto (obs:=[]) (news:=[]) (res:=.tup [rx0,.c (.b (.v (.bool false)))]) (evs:=[(ofG hz).e,(sRatFn f hf).e,(ratFn (.no k hk)).e]) (Ns:=[(2,9),(5,5)]) (m:=800) Tryz.func234 hmA (fun β=>by kernel_rfl) (by kernel_rfl) β w hh
  | ok x hx=>cases c with
   | ok=>cases h
   | no f hf=>exact spec_auto (obs:=[]) (news:=[]) (res:=.tup [rx0,.c (.b (.v (.bool false)))]) (evs:=[(ofG hz).e,(sRatIn hx).e,(sRatFn f hf).e,dEq x]) (Ns:=[(2,9),(5,5)]) (m:=800) Tryz.func234 hmA (fun β=>by kernel_rfl) (by kernel_rfl) β w hh
section
variable {r:RQ} (hf:FitC r)
include hf in
theorem fitC_sz:RSz KC r:=mk_sz hf.1 hf.2.1 hf.2.2
include hf in
theorem wheelPow (hp:decide ((rpow r).num.sign≤0)=true):WheelNo (cC r):=fun β w=>by
 refine nil4 ?_
 exact spec_auto (obs:=[]) (news:=[]) (res:=.tup [rx0,.c (.b (.v (.bool false)))]) (evs:=[(ofG hf.2.1).e,(sRatIn hf.1).e,(sRatIn hf.2.2).e,dEq r.a,dEq r.c,(sPower (fitC_sz hf)).e,nSign (x:=rpow r) rfl,.eqv 37 (.bool (decide ((rpow r).num.sign≤0))) (.bool true) (sgn_le hp)]) (Ns:=[(2,9),(5,5)]) (m:=1200) Tryz.func234 hmA (fun β=>by kernel_rfl) (by kernel_rfl) β w (fun k t h=>by simp at h)
theorem cmpQ_ne {x y:Rat} (h:x≠y):cmpQ x y = -1∨cmpQ x y=1:=by
 unfold cmpQ
 by_cases h1:x<y
 · exact .inl (if_pos h1)
 · by_cases h2:y<x
   · exact .inr (by rw [if_neg h1,if_pos h2])
   · exact absurd (Rat.le_antisymm (Rat.not_lt.1 h2) (Rat.not_lt.1 h1)) h
theorem gsub_ne {z w:GQ} (h:z≠w):gzero (gsub z w)=false:=by
 rw [Bool.eq_false_iff]
 intro e
 rw [gz_true] at e
 apply h
 have h1:=congrArg GQ.re e
 have h2:=congrArg GQ.im e
 simp only [gsub,g0] at h1 h2
 exact GQ.ext2 (by grind) (by grind)
theorem cmpQ_same {x y:Rat} (h:x=y):cmpQ x y=0:=by rw [h]; exact cmp_self y
abbrev smO (r s:RQ):List Thing:=rgT s++rgT r
theorem same_ok {r s:RQ} (h:RSz KC r) (k:RSz KC s) (hne:s≠r) (β:Env) (w:World) (hh:∀ (i:Nat) (t:Thing),(smO r s)[i]?=some t→t.D w (β i)) :
  Calls Tryz.prog 346 (([rgV 0,rgV 4]:List SV).map (SV.den β)).toArray w fun e w'=>∃ xs:List Pl,freshS β w 8 xs∧e=.returned ((tB' false:SV).den (extE β 8 xs))∧newHold w' [] xs∧Below w.heap.size w w':=by
 by_cases h1:s.a=r.a
 · by_cases h2:s.b=r.b
   · have h3:s.c≠r.c:=fun h3=>hne (by cases s; cases r; simp only at h1 h2 h3; subst h1 h2 h3; rfl)
     rcases cmpQ_ne h3 with h3 | h3<;>exact spec_auto (args:=[rgV 0,rgV 4]) (obs:=smO r s) (res:=tB' false) (news:=[]) (evs:=[nCmp (k.a.mono (by decide)) (h.a.mono (by decide)) (cmpQ_same h1),(sSame (k.b.mono (by decide)) (h.b.mono (by decide)) (b:=true) (by rw [h2]; exact gsub_self r.b)).e,nCmp (k.c.mono (by decide)) (h.c.mono (by decide)) h3]) (Ns:=[]) (m:=400) Tryz.func346 hmA (fun β=>by kernel_rfl) (by kernel_rfl) β w hh
   · exact spec_auto (args:=[rgV 0,rgV 4]) (obs:=smO r s) (res:=tB' false) (news:=[]) (evs:=[nCmp (k.a.mono (by decide)) (h.a.mono (by decide)) (cmpQ_same h1),(sSame (k.b.mono (by decide)) (h.b.mono (by decide)) (b:=false) (gsub_ne h2)).e]) (Ns:=[]) (m:=400) Tryz.func346 hmA (fun β=>by kernel_rfl) (by kernel_rfl) β w hh
 · rcases cmpQ_ne h1 with h1 | h1<;>exact spec_auto (args:=[rgV 0,rgV 4]) (obs:=smO r s) (res:=tB' false) (news:=[]) (evs:=[nCmp (k.a.mono (by decide)) (h.a.mono (by decide)) h1]) (Ns:=[]) (m:=400) Tryz.func346 hmA (fun β=>by kernel_rfl) (by kernel_rfl) β w hh
def sRSameNo {r s:RQ} (h:RSz KC r) (k:RSz KC s) (hne:s≠r):Spec Tryz.prog :=
 ⟨346,Tryz.call346,[rgV 0,rgV 4],smO r s,tB' false,[],same_ok h k hne,by kernel_rfl⟩
noncomputable def sRNorm2 {r:RQ} (h:RSz KC r) (hp:decide ((rpow r).num.sign≤0)=false):Spec Tryz.prog :=
 (sRNormal h rfl rfl (rby_ne hp)).newsTo (rgT (rone r)) rfl
theorem rone_sz2 {r:RQ} (h:FitC r) (hp:decide ((rpow r).num.sign≤0)=false):RSz KC (rone r) :=
 (rnm_sz (k:=1024) ⟨h.1.sz,h.2.1.gsz,h.2.2.sz⟩ (rby_sz ⟨h.1.sz,h.2.1.gsz,h.2.2.sz⟩ _ _) (rby_ne hp)).mono (by decide)
include hf in
theorem wheelOne (hp:decide ((rpow r).num.sign≤0)=false) (hne:rone r≠r):WheelNo (cC r):=fun β w=>by
 refine (spec_auto (obs:=[]) (news:=rgT r) (res:=.tup [rgC 0,.c (.b (.v (.bool false)))]) (evs:=[(ofG hf.2.1).e,(sRatIn hf.1).e,(sRatIn hf.2.2).e,dEq r.a,dEq r.c,(sPower (fitC_sz hf)).e,nSign (x:=rpow r) rfl,.eqv 37 (.bool (decide ((rpow r).num.sign≤0))) (.bool false) (sgn_le hp),(sRNorm2 (fitC_sz hf) hp).e,(sRSameNo (fitC_sz hf) (rone_sz2 hf hp) hne).e]) (Ns:=[(2,9),(5,5)]) (m:=1200) Tryz.func234 hmA (fun β=>by kernel_rfl) (by kernel_rfl) β w (fun k t h=>by simp at h)).mono ?_
 rintro e w' ⟨xs,h1,he,h2,h3⟩
 exact ⟨xs,h1,he,newHoldR4 h2,h3⟩
end
structure CkNo (l:List Lf):Prop where
 cl:l.all (Lf.of fun _=>false)=true
 prog:∀ (β:Env) (w:World),Calls Tryz.prog 97 (([.one (.a l)]:List SV).map (SV.den β)).toArray w fun e w'=>e=.returned (.int .i64 2)∧Below w.heap.size w w'
 ref:∀ (β:Env) (w:World),Calls Tryz.prog 253 (([.one (.a l)]:List SV).map (SV.den β)).toArray w fun e w'=>e=.returned (.int .i64 2)∧Below w.heap.size w w'
theorem of_cl {l:List Lf} (hl:l.all (Lf.of fun _=>false)=true):(([SV.one (.a l)]:List SV).all (SV.of fun k=>Nat.blt k 0)&&(SV.one (nI' 2)).of fun k=>Nat.blt k (0+0))=true:=by
 have:l.all (Lf.of fun k=>Nat.blt k 0)=true:=List.all_eq_true.2 fun x hx=>Lf.of_mono (fun _ hk=>by cases hk) x (List.all_eq_true.1 hl x hx)
 rw [Bool.and_eq_true]
 exact ⟨by rw [List.all_cons,List.all_nil,Bool.and_true]; exact this,by kernel_rfl⟩
def sCkNo {l:List Lf} (h:CkNo l):Spec Tryz.prog :=
 ⟨97,Tryz.call97,[.one (.a l)],[],.one (nI' 2),[],fun β w _=>(h.prog β w).mono fun e w' ⟨he,hb⟩=>⟨[],(fun _ h=>by cases h),by rw [he]; rfl,trivial,hb⟩,of_cl h.cl⟩
def sRCkNo {l:List Lf} (h:CkNo l):Spec Tryz.prog :=
 ⟨253,Tryz.call253,[.one (.a l)],[],.one (nI' 2),[],fun β w _=>(h.ref β w).mono fun e w' ⟨he,hb⟩=>⟨[],(fun _ h=>by cases h),by rw [he]; rfl,trivial,hb⟩,of_cl h.cl⟩
theorem rl_cl (a b c d:R4):(rL a++(rL b++rL c)++rL d).all (Lf.of fun _=>false)=true:=rfl
theorem two_of {f:FuncId} {l:List Lf} {w:World} {β:Env} (h:Calls Tryz.prog f (([.one (.a l)]:List SV).map (SV.den β)).toArray w fun e w'=>∃ xs:List Pl,freshS β w 0 xs∧e=.returned ((SV.one (nI' 2)).den (extE β 0 xs))∧newHold w' [] xs∧Below w.heap.size w w') :
  Calls Tryz.prog f (([.one (.a l)]:List SV).map (SV.den β)).toArray w fun e w'=>e=.returned (.int .i64 2)∧Below w.heap.size w w':=h.mono fun e w' ⟨xs,_,he,_,hb⟩=>⟨by rw [he]; rfl,hb⟩
theorem ckProg (a b c d:R4) (h:WheelNo (rL a++(rL b++rL c)++rL d)) (β:Env) (w:World):Calls Tryz.prog 97 (([.one (.a (rL a++(rL b++rL c)++rL d))]:List SV).map (SV.den β)).toArray w fun e w'=>e=.returned (.int .i64 2)∧Below w.heap.size w w' :=
 two_of (spec_auto (obs:=[]) (news:=[]) (res:=.one (nI' 2)) (evs:=[(sWheelNo h (rl_cl a b c d)).e]) (Ns:=[]) (m:=400) Tryz.func97 hmA (fun β=>by kernel_rfl) (by kernel_rfl) β w (fun k t h=>by simp at h))
def sR3MayQ (a:Fn) {r:Bool} (h:a.B=r):Spec Tryz.prog :=
 ⟨17,Tryz.call17,[.one (.a (rL a.r))],[],tB' r,[],fun β w hh=>by
  rw [← h]
  cases a with
  | ok x hx =>
   have:=(Fp.may3 (.ok x hx)).ok β w hh
   exact this
  | no f hf =>
   obtain ⟨r,a,e⟩:=f
   cases a with
   | ok x hx=>cases hf
   | no b c s t hn hs ht =>
    have:=(Fp.may3 (.no b c s t hn hs ht)).ok β w hh
    show Calls _ _ (([SV.one (.a (rL r))]:List SV).map (SV.den β)).toArray w _
    rw [← e]
    exact this,by kernel_rfl⟩
theorem ckNum (a:Fn) (b:Gn) (c:Fn) (h:(a.B&&(b.B&&c.B))=false) (β:Env) (w:World):Calls Tryz.prog 253 (([.one (.a (rL a.r++(rL b.x++rL b.y)++rL c.r))]:List SV).map (SV.den β)).toArray w fun e w'=>e=.returned (.int .i64 2)∧Below w.heap.size w w':=by
 have hh:∀ (k:Nat) (t:Thing),([]:List Thing)[k]?=some t→t.D w (β k):=fun k t h=>by simp at h
 refine two_of ?_
 cases h1:a.B with
 | false=>exact spec_auto (obs:=[]) (news:=[]) (res:=.one (nI' 2)) (evs:=[(sR3MayQ a h1).e]) (Ns:=[(3,9)]) (m:=400) Tryz.func253 hmA (fun β=>by kernel_rfl) (by kernel_rfl) β w hh
 | true=>cases h2:b.B with
  | false=>exact spec_auto (obs:=[]) (news:=[]) (res:=.one (nI' 2)) (evs:=[(sR3MayQ a h1).e,(sR4MayG b h2).e]) (Ns:=[(3,9)]) (m:=400) Tryz.func253 hmA (fun β=>by kernel_rfl) (by kernel_rfl) β w hh
  | true=>cases h3:c.B with
   | false=>exact spec_auto (obs:=[]) (news:=[]) (res:=.one (nI' 2)) (evs:=[(sR3MayQ a h1).e,(sR4MayG b h2).e,(sR3MayQ c h3).e]) (Ns:=[(3,9)]) (m:=400) Tryz.func253 hmA (fun β=>by kernel_rfl) (by kernel_rfl) β w hh
   | true=>rw [h1,h2,h3] at h; cases h
section
variable {r:RQ} (hf:FitC r)
noncomputable def ckE (r:RQ) (hf:FitC r):List (Ev Tryz.prog):=[(sR3MayQ (.ok r.a hf.1) rfl).e,(sR4MayG (.ok r.b hf.2.1) rfl).e,(sR3MayQ (.ok r.c hf.2.2) rfl).e,(sCPower (fitC_sz hf)).e,(sR3Sign (x:=rpow r) rfl).e]
include hf in
theorem ckPow (hp:decide ((rpow r).num.sign≤0)=true) (β:Env) (w:World):Calls Tryz.prog 253 (([.one (.a (cC r))]:List SV).map (SV.den β)).toArray w fun e w'=>e=.returned (.int .i64 2)∧Below w.heap.size w w' :=
 two_of (spec_auto (obs:=[]) (news:=[]) (res:=.one (nI' 2)) (evs:=ckE r hf++[.eqv 23 (.bool (decide ((rpow r).num.sign≤0))) (.bool true) (sgn_le hp)]) (Ns:=[(3,9)]) (m:=400) Tryz.func253 hmA (fun β=>by kernel_rfl) (by kernel_rfl) β w (fun k t h=>by simp at h))
abbrev eqRone (r s:RQ):Bool:=(fR r.a).eq (fR s.a)&&(geq (fR r.b.re) (fR r.b.im) (fR s.b.re) (fR s.b.im)&&((fR r.c).eq (fR s.c)&&true))
theorem eqRone_iff {r s:RQ}:eqRone r s=true↔r=s:=by
 unfold eqRone geq
 simp only [Bool.and_true,Bool.and_eq_true,R4.eq_iff]
 constructor
 · rintro ⟨h1,⟨h2,h3⟩,h4⟩
   obtain ⟨a,⟨b,b'⟩,c⟩:=r
   obtain ⟨d,⟨e,e'⟩,f⟩:=s
   obtain rfl:a=d:=fR_inj h1
   obtain rfl:b=e:=fR_inj h2
   obtain rfl:b'=e':=fR_inj h3
   obtain rfl:c=f:=fR_inj h4
   rfl
 · rintro rfl
   exact ⟨rfl,⟨rfl,rfl⟩,rfl⟩
def eqEvR (r s:RQ) {t:Bool} (h:eqRone r s=t):Ev Tryz.prog:=eqEvC (fR r.a) (fR r.b.re) (fR r.b.im) (fR r.c) (fR s.a) (fR s.b.re) (fR s.b.im) (fR s.c) t h
include hf in
theorem ckOne (hp:decide ((rpow r).num.sign≤0)=false) (hne:rone r≠r) (β:Env) (w:World):Calls Tryz.prog 253 (([.one (.a (cC r))]:List SV).map (SV.den β)).toArray w fun e w'=>e=.returned (.int .i64 2)∧Below w.heap.size w w' :=
 two_of (spec_auto (obs:=[]) (news:=[]) (res:=.one (nI' 2)) (evs:=ckE r hf++[.eqv 23 (.bool (decide ((rpow r).num.sign≤0))) (.bool false) (sgn_le hp),(sCNorm1 (fitC_sz hf) hp).e,eqEvR (rone r) r (t:=false) (Bool.eq_false_iff.2 fun e=>hne (eqRone_iff.1 e))]) (Ns:=[(3,9)]) (m:=400) Tryz.func253 hmA (fun β=>by kernel_rfl) (by kernel_rfl) β w (fun k t h=>by simp at h))
end
noncomputable def sRCk {r:RQ} (h:MayC r):Spec Tryz.prog :=
 Spec.auto Tryz.call253 [.one (.a (cC r))] [] (.one (nI' 0)) [] (ckE r h.fit++[.eqv 23 (.bool (decide ((rpow r).num.sign≤0))) (.bool false) (sgn_le h.pow),(sCNorm1 (fitC_sz h.fit) h.pow).e,eqEvR (rone r) r (t:=true) (eqRone_iff.2 h.one)]) [(3,9)] 400 Tryz.func253 hmA (by kernel_rfl) (fun β=>by kernel_rfl)
theorem cC_eq (r:RQ):cC r=rL (fR r.a)++(rL (fR r.b.re)++rL (fR r.b.im))++rL (fR r.c):=by
 unfold cC
 simp only [List.append_assoc]
theorem ckNoOf {r:RQ} (h:WheelNo (cC r)) (k:∀ (β:Env) (w:World),Calls Tryz.prog 253 (([.one (.a (cC r))]:List SV).map (SV.den β)).toArray w fun e w'=>e=.returned (.int .i64 2)∧Below w.heap.size w w') :
  CkNo (rL (fR r.a)++(rL (fR r.b.re)++rL (fR r.b.im))++rL (fR r.c)):=by
 rw [cC_eq] at h
 refine ⟨rl_cl ..,ckProg _ _ _ _ h,fun β w=>?_⟩
 have:=k β w
 rw [cC_eq] at this
 exact this
theorem ckNoNum (x:Fn) (z:Gn) (y:Fn) (h:(x.B&&(z.B&&y.B))=false):CkNo (rL x.r++(rL z.x++rL z.y)++rL y.r):=⟨rl_cl ..,ckProg _ _ _ _ (wheelNum x z y h),ckNum x z y h⟩
inductive Cp where
 | ok (r:RQ) (h:MayC r)
 | no (a b b' c:R4) (h:CkNo (rL a++(rL b++rL b')++rL c))
def Cp.L:Cp→List Lf
 | .ok r _=>cC r
 | .no a b b' c _=>rL a++(rL b++rL b')++rL c
def Cp.B:Cp→Bool
 | .ok ..=>true
 | .no ..=>false
def Cp.a:Cp→R4
 | .ok r _=>fR r.a
 | .no a _ _ _ _=>a
def Cp.b:Cp→R4
 | .ok r _=>fR r.b.re
 | .no _ b _ _ _=>b
def Cp.b':Cp→R4
 | .ok r _=>fR r.b.im
 | .no _ _ b _ _=>b
def Cp.c:Cp→R4
 | .ok r _=>fR r.c
 | .no _ _ _ c _=>c
theorem cp_of (a b b' c:R4) (ha:a.s.size≤maxLen∧a.t.size≤maxLen) (hb:b.s.size≤maxLen∧b.t.size≤maxLen) (hb':b'.s.size≤maxLen∧b'.t.size≤maxLen) (hc:c.s.size≤maxLen∧c.t.size≤maxLen):∃ p:Cp,p.a=a∧p.b=b∧p.b'=b'∧p.c=c:=by
 obtain ⟨x,rfl⟩:=fn_of a ha
 obtain ⟨z,rfl,rfl⟩:=gn_of b b' hb hb'
 obtain ⟨y,rfl⟩:=fn_of c hc
 cases h:(x.B&&(z.B&&y.B)) with
 | false=>exact ⟨.no x.r z.x z.y y.r (ckNoNum x z y h),rfl,rfl,rfl,rfl⟩
 | true =>
  cases x with
  | no=>cases h
  | ok x hx=>cases z with
   | no=>cases h
   | ok z hz=>cases y with
    | no=>cases h
    | ok y hy =>
     have hf:FitC ⟨x,z,y⟩:=⟨hx,hz,hy⟩
     cases hp:decide ((rpow ⟨x,z,y⟩).num.sign≤0) with
     | true=>exact ⟨.no (fR x) (fR z.re) (fR z.im) (fR y) (ckNoOf (wheelPow hf hp) (ckPow hf hp)),rfl,rfl,rfl,rfl⟩
     | false =>
      by_cases hne:rone ⟨x,z,y⟩=⟨x,z,y⟩
      · exact ⟨.ok ⟨x,z,y⟩ ⟨hf,hp,hne⟩,rfl,rfl,rfl,rfl⟩
      · exact ⟨.no (fR x) (fR z.re) (fR z.im) (fR y) (ckNoOf (wheelOne hf hp hne) (ckOne hf hp hne)),rfl,rfl,rfl,rfl⟩
end Go.Proofs.YtpccljaooghafaaGreat.Y
end
section
namespace Go.Proofs.YtpccljaooghafaaGreat.Y
open Go Go.RowKit
set_option maxRecDepth 100000
noncomputable def eFQuo {x y:Rat} (i n k j:Nat) (hx:Sz KB x) (hy:Sz KB y) (h0:y≠0):Ev Tryz.prog:=.fill 188 Tryz.call188 (fun β=>#[.pointer (some ⟨(β i).b,0,none⟩),.pointer ((β k).v 0),.pointer ((β j).v 0)]) [(k,(ratT x).ob),(j,(ratT y).ob)] i 4 n (ratT (x/y))
 (fun β w h ho hs=>by
  obtain ⟨a,ha,ka⟩:=needP (x:=x) (k:=k) h (by simp)
  obtain ⟨b,hb,kb⟩:=needP (x:=y) (k:=j) h (by simp)
  simp only [ha.1,hb.1]
  exact fillP ho (rQuo_any hs ka kb (hx.okR2 (by decide)) (hy.okR2 (by decide)) h0))
noncomputable def fQuo {x y:Rat} (hx:Sz KB x) (hy:Sz KB y) (h0:y≠0):Ev Tryz.prog:=dyn3 fun i n k j=>eFQuo i n k j hx hy h0
theorem div_sz {i j:Nat} {x y:Rat} (hx:Sz i x) (hy:Sz j y) (h0:y≠0):Sz (i+j) (x/y):=by
 rw [Rat.div_def]
 exact hx.mul (hy.inv h0)
section
variable {x y:Rat} (hx:Sz KB x) (hy:Sz KB y)
noncomputable def sMtAdd:Spec Tryz.prog:=Spec.auto Tryz.call361 [rV 0,rV 1] [ratT x,ratT y] (rV 2) [ratT (x+y)] [mkR,fAdd hx hy] [] 400 Tryz.func361 hmA (by kernel_rfl) (fun β=>by kernel_rfl)
noncomputable def sMtSub:Spec Tryz.prog:=Spec.auto Tryz.call357 [rV 0,rV 1] [ratT x,ratT y] (rV 2) [ratT (x-y)] [mkR,fSub hx hy] [] 400 Tryz.func357 hmA (by kernel_rfl) (fun β=>by kernel_rfl)
noncomputable def sMtMul:Spec Tryz.prog:=Spec.auto Tryz.call271 [rV 0,rV 1] [ratT x,ratT y] (rV 2) [ratT (x*y)] [mkR,fMul hx hy] [] 400 Tryz.func271 hmA (by kernel_rfl) (fun β=>by kernel_rfl)
noncomputable def sMtQuo (h0:y≠0):Spec Tryz.prog:=Spec.auto Tryz.call267 [rV 0,rV 1] [ratT x,ratT y] (rV 2) [ratT (x/y)] [mkR,fQuo hx hy h0] [] 400 Tryz.func267 hmA (by kernel_rfl) (fun β=>by kernel_rfl)
end
noncomputable def sMtNum (n:Int) (hn : -9223372036854775808≤n∧n≤9223372036854775807:=by decide):Spec Tryz.prog :=
 Spec.auto Tryz.call270 [.one (svI n)] [] (rV 0) [ratT (Rat.divInt n 1)] [nNew n 1 hn (by decide) (by decide)] [] 400 Tryz.func270 hmA (by kernel_rfl) (fun β=>by kernel_rfl)
abbrev KF:Nat:=50000
theorem n2_sz:Sz 8 (Rat.divInt 2 1):=sz_lit 2 1 (by decide) (by decide) (by decide)
theorem n2_ne:(Rat.divInt 2 1:Rat)≠0:=of_decide_eq_true (by kernel_rfl:decide ((Rat.divInt 2 1:Rat)≠0)=true)
theorem m2_ne:(Rat.divInt (-2) 1:Rat)≠0:=of_decide_eq_true (by kernel_rfl:decide ((Rat.divInt (-2) 1:Rat)≠0)=true)
def fpr (f g:RQ):Rat:=f.b.re*g.b.re+f.b.im*g.b.im-(f.a*g.c+f.c*g.a)/Rat.divInt 2 1
abbrev psz (j k:Nat):Nat:=j+k+(j+k)+1+(j+k+(j+k)+1+8)+1
theorem fpr_sz {j k:Nat} {f g:RQ} (hf:RSz j f) (hg:RSz k g):Sz (psz j k) (fpr f g) :=
 ((hf.b.1.mul hg.b.1).add (hf.b.2.mul hg.b.2)).sub (div_sz ((hf.a.mul hg.c).add (hf.c.mul hg.a)) n2_sz n2_ne)
noncomputable def sMtProd {f g:RQ} (hf:RSz KF f) (hg:RSz KF g):Spec Tryz.prog :=
 Spec.auto Tryz.call268 [rgV 0,rgV 4] (rgT f++rgT g) (rV 8) [ratT (fpr f g)]
  [(sMtMul (hf.b.1.mono (by decide)) (hg.b.1.mono (by decide))).e,(sMtMul (hf.b.2.mono (by decide)) (hg.b.2.mono (by decide))).e,(sMtAdd ((hf.b.1.mul hg.b.1).mono (by decide)) ((hf.b.2.mul hg.b.2).mono (by decide))).e,
   (sMtMul (hf.a.mono (by decide)) (hg.c.mono (by decide))).e,(sMtMul (hf.c.mono (by decide)) (hg.a.mono (by decide))).e,(sMtAdd ((hf.a.mul hg.c).mono (by decide)) ((hf.c.mul hg.a).mono (by decide))).e,(sMtNum 2).e,
   (sMtQuo (((hf.a.mul hg.c).add (hf.c.mul hg.a)).mono (by decide)) (n2_sz.mono (by decide)) n2_ne).e,
   (sMtSub (((hf.b.1.mul hg.b.1).add (hf.b.2.mul hg.b.2)).mono (by decide)) ((div_sz ((hf.a.mul hg.c).add (hf.c.mul hg.a)) n2_sz n2_ne).mono (by decide))).e]
  [(1,12),(2,16)] 600 Tryz.func268 hmA (by kernel_rfl) (fun β=>by kernel_rfl)
def pls (f g:RQ) (s t:Rat):RQ:=⟨s*f.a+t*g.a,⟨s*f.b.re+t*g.b.re,s*f.b.im+t*g.b.im⟩,s*f.c+t*g.c⟩
theorem pls_sz {i j k l:Nat} {f g:RQ} {s t:Rat} (hf:RSz i f) (hg:RSz j g) (hs:Sz k s) (ht:Sz l t):RSz (k+i+(l+j)+1) (pls f g s t) :=
 ⟨(hs.mul hf.a).add (ht.mul hg.a),⟨(hs.mul hf.b.1).add (ht.mul hg.b.1),(hs.mul hf.b.2).add (ht.mul hg.b.2)⟩,(hs.mul hf.c).add (ht.mul hg.c)⟩
noncomputable def plE {x y s t:Rat} (hx:Sz KF x) (hy:Sz KF y) (hs:Sz KF s) (ht:Sz KF t):List (Ev Tryz.prog) :=
 [(sMtMul (hs.mono (by decide)) (hx.mono (by decide))).e,(sMtMul (ht.mono (by decide)) (hy.mono (by decide))).e,(sMtAdd ((hs.mul hx).mono (by decide)) ((ht.mul hy).mono (by decide))).e]
noncomputable def sMtPlus {f g:RQ} {s t:Rat} (hf:RSz KF f) (hg:RSz KF g) (hs:Sz KF s) (ht:Sz KF t):Spec Tryz.prog :=
 Spec.auto Tryz.call269 [rgV 0,rgV 4,rV 8,rV 9] (rgT f++rgT g++[ratT s,ratT t]) (rgV 10) (rgT (pls f g s t))
  (plE hf.a hg.a hs ht++plE hf.b.1 hg.b.1 hs ht++plE hf.b.2 hg.b.2 hs ht++plE hf.c hg.c hs ht) [(5,13)] 1200 Tryz.func269 hmA (by kernel_rfl) (fun β=>by kernel_rfl)
theorem rpow_fpr (f:RQ):fpr f f=rpow f:=by
 have h:(Rat.divInt 2 1:Rat)=2:=of_decide_eq_true (by kernel_rfl:decide ((Rat.divInt 2 1:Rat)=2)=true)
 unfold fpr rpow gnorm
 rw [h]
 grind
noncomputable def quE {x y:Rat} (hx:Sz KF x) (hy:Sz KF y) (h0:y≠0):List (Ev Tryz.prog):=[(sMtQuo (hx.mono (by decide)) (hy.mono (by decide)) h0).e,(sFrac ((div_sz hx hy h0).mono (by decide))).e]
theorem ansK_lit {x:Rat} {k:Int} (h:ansK x=k):Value.int .i64 (ansK x)=.int .i64 k:=by rw [h]
noncomputable def quY {x y:Rat} (hx:Sz KF x) (hy:Sz KF y) (h0:y≠0) (h:ansK (x/y)=0):List (Ev Tryz.prog):=quE hx hy h0++[.eqv 40 (.int .i64 (ansK (x/y))) (.int .i64 0) (ansK_lit h)]
noncomputable def quN {x y:Rat} (hx:Sz KF x) (hy:Sz KF y) (h0:y≠0) (h:ansK (x/y)=4):List (Ev Tryz.prog):=quE hx hy h0++[.eqv 40 (.int .i64 (ansK (x/y))) (.int .i64 4) (ansK_lit h)]
theorem sign_ne {x:Rat} {b:Bool} (h:decide (x=0)=b):(Value.bool (!(x.num.sign==0)))=.bool (!b):=by
 have:=sign_lit h
 injection this with h2
 rw [h2]
noncomputable def byE (f:RQ):(i j:Bool)→decide (f.a=0)=i→decide (f.b.re=0)=j→rbyQ i j f≠0→List (Ev Tryz.prog)
 | false,_,hi,_,_=>[nSign (x:=f.a) rfl,.eqv 26 (.bool (!(f.a.num.sign==0))) (.bool true) (sign_ne hi)]
 | true,false,hi,hj,_=>[nSign (x:=f.a) rfl,.eqv 26 (.bool (!(f.a.num.sign==0))) (.bool false) (sign_ne hi),nSign (x:=f.b.re) rfl,.eqv 26 (.bool (!(f.b.re.num.sign==0))) (.bool true) (sign_ne hj)]
 | true,true,hi,hj,h0=>[nSign (x:=f.a) rfl,.eqv 26 (.bool (!(f.a.num.sign==0))) (.bool false) (sign_ne hi),nSign (x:=f.b.re) rfl,.eqv 26 (.bool (!(f.b.re.num.sign==0))) (.bool false) (sign_ne hj),
   nSign (x:=f.b.im) rfl,.eqv 26 (.bool (!(f.b.im.num.sign==0))) (.bool true) (sign_ne (decide_eq_false h0))]
noncomputable def poE {f:RQ} (h:RSz KF f) {b:Bool} (hp:decide ((fpr f f).num.sign≤0)=b):List (Ev Tryz.prog):=[(sMtProd h h).e,nSign (x:=fpr f f) rfl,.eqv 16 (.bool (decide ((fpr f f).num.sign≤0))) (.bool b) (sgn_le hp)]
theorem circle_ok {f:RQ} (h:RSz KF f) {i j:Bool} (hi:decide (f.a=0)=i) (hj:decide (f.b.re=0)=j) (h0:rbyQ i j f≠0) (hp:decide ((fpr f f).num.sign≤0)=false) (β:Env) (w:World) (hh:∀ (k:Nat) (t:Thing),(rgT f)[k]?=some t→t.D w (β k)) :
  Calls Tryz.prog 371 (([rgV 0]:List SV).map (SV.den β)).toArray w fun e w'=>∃ xs:List Pl,freshS β w 4 xs∧e=.returned ((ciA (rqd f (rbyQ i j f))).den (extE β 4 xs))∧newHold w' [] xs∧Below w.heap.size w w':=by
 have hb:=rby_sz h i j
 have hN:∀ {x:Rat},¬ Fit x→ansK x=4:=fun hx=>if_neg hx
 have hY:∀ {x:Rat},Fit x→ansK x=0:=fun hx=>if_pos hx
 by_cases h1:Fit (f.a/rbyQ i j f)
 · by_cases h2:Fit (f.b.re/rbyQ i j f)
   · by_cases h3:Fit (f.b.im/rbyQ i j f)
     · by_cases h4:Fit (f.c/rbyQ i j f)
       · have e:ciA (rqd f (rbyQ i j f))=.tup [.a (fA (f.a/rbyQ i j f)++fA (f.b.re/rbyQ i j f)++fA (f.b.im/rbyQ i j f)++fA (f.c/rbyQ i j f)),nI' 0]:=by
          rw [ciA,(ci_fit (m:=rqd f (rbyQ i j f)) ⟨h1,⟨h2,h3⟩,h4⟩).1,(ci_fit (m:=rqd f (rbyQ i j f)) ⟨h1,⟨h2,h3⟩,h4⟩).2,(fA_fit h1).1,(fA_fit h2).1,(fA_fit h3).1,(fA_fit h4).1]
          rfl
         rw [e]
         cases i
         · exact spec_auto (args:=[rgV 0]) (obs:=rgT f) (news:=[]) (evs:=poE h hp++byE f false j hi hj h0++quY h.a hb h0 (hY h1)++quY h.b.1 hb h0 (hY h2)++quY h.b.2 hb h0 (hY h3)++quY h.c hb h0 (hY h4)) (Ns:=[]) (m:=2000) Tryz.func371 hmA (fun β=>by kernel_rfl) (by kernel_rfl) β w hh
         · cases j<;>exact spec_auto (args:=[rgV 0]) (obs:=rgT f) (news:=[]) (evs:=poE h hp++byE f true _ hi hj h0++quY h.a hb h0 (hY h1)++quY h.b.1 hb h0 (hY h2)++quY h.b.2 hb h0 (hY h3)++quY h.c hb h0 (hY h4)) (Ns:=[]) (m:=2000) Tryz.func371 hmA (fun β=>by kernel_rfl) (by kernel_rfl) β w hh
       · rw [ciA,(ci_not (m:=rqd f (rbyQ i j f)) fun e=>h4 e.2.2).1,(ci_not (m:=rqd f (rbyQ i j f)) fun e=>h4 e.2.2).2]
         cases i
         · exact spec_auto (args:=[rgV 0]) (obs:=rgT f) (news:=[]) (evs:=poE h hp++byE f false j hi hj h0++quY h.a hb h0 (hY h1)++quY h.b.1 hb h0 (hY h2)++quY h.b.2 hb h0 (hY h3)++quN h.c hb h0 (hN h4)) (Ns:=[]) (m:=2000) Tryz.func371 hmA (fun β=>by kernel_rfl) (by kernel_rfl) β w hh
         · cases j<;>exact spec_auto (args:=[rgV 0]) (obs:=rgT f) (news:=[]) (evs:=poE h hp++byE f true _ hi hj h0++quY h.a hb h0 (hY h1)++quY h.b.1 hb h0 (hY h2)++quY h.b.2 hb h0 (hY h3)++quN h.c hb h0 (hN h4)) (Ns:=[]) (m:=2000) Tryz.func371 hmA (fun β=>by kernel_rfl) (by kernel_rfl) β w hh
     · rw [ciA,(ci_not (m:=rqd f (rbyQ i j f)) fun e=>h3 e.2.1.2).1,(ci_not (m:=rqd f (rbyQ i j f)) fun e=>h3 e.2.1.2).2]
       cases i
       · exact spec_auto (args:=[rgV 0]) (obs:=rgT f) (news:=[]) (evs:=poE h hp++byE f false j hi hj h0++quY h.a hb h0 (hY h1)++quY h.b.1 hb h0 (hY h2)++quN h.b.2 hb h0 (hN h3)) (Ns:=[]) (m:=2000) Tryz.func371 hmA (fun β=>by kernel_rfl) (by kernel_rfl) β w hh
       · cases j<;>exact spec_auto (args:=[rgV 0]) (obs:=rgT f) (news:=[]) (evs:=poE h hp++byE f true _ hi hj h0++quY h.a hb h0 (hY h1)++quY h.b.1 hb h0 (hY h2)++quN h.b.2 hb h0 (hN h3)) (Ns:=[]) (m:=2000) Tryz.func371 hmA (fun β=>by kernel_rfl) (by kernel_rfl) β w hh
   · rw [ciA,(ci_not (m:=rqd f (rbyQ i j f)) fun e=>h2 e.2.1.1).1,(ci_not (m:=rqd f (rbyQ i j f)) fun e=>h2 e.2.1.1).2]
     cases i
     · exact spec_auto (args:=[rgV 0]) (obs:=rgT f) (news:=[]) (evs:=poE h hp++byE f false j hi hj h0++quY h.a hb h0 (hY h1)++quN h.b.1 hb h0 (hN h2)) (Ns:=[]) (m:=2000) Tryz.func371 hmA (fun β=>by kernel_rfl) (by kernel_rfl) β w hh
     · cases j<;>exact spec_auto (args:=[rgV 0]) (obs:=rgT f) (news:=[]) (evs:=poE h hp++byE f true _ hi hj h0++quY h.a hb h0 (hY h1)++quN h.b.1 hb h0 (hN h2)) (Ns:=[]) (m:=2000) Tryz.func371 hmA (fun β=>by kernel_rfl) (by kernel_rfl) β w hh
 · rw [ciA,(ci_not (m:=rqd f (rbyQ i j f)) fun e=>h1 e.1).1,(ci_not (m:=rqd f (rbyQ i j f)) fun e=>h1 e.1).2]
   cases i
   · exact spec_auto (args:=[rgV 0]) (obs:=rgT f) (news:=[]) (evs:=poE h hp++byE f false j hi hj h0++quN h.a hb h0 (hN h1)) (Ns:=[]) (m:=2000) Tryz.func371 hmA (fun β=>by kernel_rfl) (by kernel_rfl) β w hh
   · cases j<;>exact spec_auto (args:=[rgV 0]) (obs:=rgT f) (news:=[]) (evs:=poE h hp++byE f true _ hi hj h0++quN h.a hb h0 (hN h1)) (Ns:=[]) (m:=2000) Tryz.func371 hmA (fun β=>by kernel_rfl) (by kernel_rfl) β w hh
noncomputable def mxR (r:RQ) (x:Rat):R4:=bif wtB r then r40 else ciR (rone r) x
noncomputable def mxK (r:RQ):Int:=bif wtB r then 7 else ciK (rone r)
noncomputable abbrev mxC (r:RQ):List Lf:=rL (mxR r (rone r).a)++rL (mxR r (rone r).b.re)++rL (mxR r (rone r).b.im)++rL (mxR r (rone r).c)
theorem mx_no {r:RQ} (h:wtB r=true):mxC r=c0C∧mxK r=7:=⟨by simp only [mxC,mxR,h,cond_true],by rw [mxK,h]; rfl⟩
theorem mx_yes {r:RQ} (h:wtB r=false):mxC r=ciC (rone r)∧mxK r=ciK (rone r):=⟨by simp only [mxC,mxR,h,cond_false],by rw [mxK,h]; rfl⟩
noncomputable abbrev mxA (r:RQ):SV:=.tup [.a (mxC r),nI' (mxK r)]
noncomputable def sMtCircle {f:RQ} (h:RSz KF f):Spec Tryz.prog :=
 ⟨371,Tryz.call371,[rgV 0],rgT f,mxA f,[],fun β w hh=>by
  have hr:decide ((fpr f f).num.sign≤0)=wtB f:=by rw [rpow_fpr]; rfl
  cases hp:wtB f with
  | true =>
   rw [mxA,(mx_no hp).1,(mx_no hp).2]
   exact spec_auto (args:=[rgV 0]) (obs:=rgT f) (news:=[]) (evs:=poE h (hr.trans hp)) (Ns:=[]) (m:=800) Tryz.func371 hmA (fun β=>by kernel_rfl) (by kernel_rfl) β w hh
  | false =>
   rw [mxA,(mx_yes hp).1,(mx_yes hp).2]
   have:=circle_ok h rfl rfl (rby_ne hp) (hr.trans hp) β w hh
   rw [rqd_eq] at this
   exact this,by kernel_rfl⟩
def fsq (f g:RQ):Rat:=fpr f g*fpr f g/(fpr f f*fpr g g)
noncomputable def sMtSq {f g:RQ} (hf:RSz KF f) (hg:RSz KF g) (h0:fpr f f*fpr g g≠0):Spec Tryz.prog :=
 Spec.auto Tryz.call288 [rgV 0,rgV 4] (rgT f++rgT g) (rV 8) [ratT (fsq f g)]
  [(sMtProd hf hg).e,(sMtMul ((fpr_sz hf hg).mono (by decide)) ((fpr_sz hf hg).mono (by decide))).e,(sMtProd hf hf).e,(sMtProd hg hg).e,(sMtMul ((fpr_sz hf hf).mono (by decide)) ((fpr_sz hg hg).mono (by decide))).e,
   (sMtQuo (((fpr_sz hf hg).mul (fpr_sz hf hg)).mono (by decide)) (((fpr_sz hf hf).mul (fpr_sz hg hg)).mono (by decide)) h0).e] [(2,12)] 600 Tryz.func288 hmA (by kernel_rfl) (fun β=>by kernel_rfl)
noncomputable def sMtOf {r:RQ} (h:FitC r):Spec Tryz.prog :=
 Spec.auto Tryz.call247 [.one (.a (cC r))] [] (rgV 0) (rgT r) [(sRatIn h.1).e,(sRatIn h.2.1.1).e,(sRatIn h.2.1.2).e,(sRatIn h.2.2).e] [] 800 Tryz.func247 hmA (by kernel_rfl) (fun β=>by kernel_rfl)
abbrev axQ (f g:RQ):RQ:=pls f g (Rat.divInt 1 1) (Rat.divInt (-1) 1)
abbrev nil4V:SC:=.a [nilL,nilL,nilL,nilL]
end Go.Proofs.YtpccljaooghafaaGreat.Y
end
section
namespace Go.Proofs.YtpccljaooghafaaGreat.Y
open Go Go.RowKit
set_option maxRecDepth 100000
abbrev FRT:TypeId:=265
theorem form_some:(Tryz.prog.info? 265).isSome=true:=by kernel_rfl
noncomputable def appF:AppT Tryz.prog :=
 ⟨288,265,(Tryz.prog.info? 265).get form_some,.agg #[.pointer none,.pointer none,.pointer none,.pointer none],4,32,Tryz.underlying288,(Option.some_get form_some).symm,by kernel_rfl,by kernel_rfl,by kernel_rfl,rfl,by decide,by decide⟩
def frCd (f:RQ):List Cd:=[.t f.a,.t f.b.re,.t f.b.im,.t f.c]
theorem str_no_rat {w:World} {b:Nat} {c0:Value} {b1:ByteArray} {l:List Value} {t:TypeId} {x:Rat} (h:w.heap[b]?=some (.cells (c0::.string b1::l).toArray t (0,0))) (k:RatAt w b 0 x):False:=by
 obtain ⟨A,m,cap,_,h1,_⟩:=k.2.1.open_
 have h2:=cell_lay (o:=1) h rfl
 rw [Nat.zero_add,h2] at h1
 cases h1
theorem or_cdT {w:World} {g G:Pl} {x:Rat} {i:Nat} (h:PR x w g) (hv:G.v i=g.v 0) (hF:∀ c,g.F c→G.F c):cdP w G i (.t x):=by
 obtain ⟨b,h1,h2⟩:=h
 exact ⟨b,hv.trans h1.1,hF b ((h1.2 b).2 rfl),h2⟩
theorem cellPl_pr {w:World} {g:Pl} {i:Nat} {x:Rat} (h:cdP w g i (.t x)):PR x w (cellPl g i):=by
 obtain ⟨b,h1,h2,h3⟩:=h
 exact ⟨b,⟨h1,fun c=>⟨fun ⟨a,ha,hc⟩=>by rw [h1] at ha; cases ha; exact hc,fun hc=>⟨_,h1,hc⟩⟩⟩,h3⟩
theorem cellPl_Ft {w:World} {g:Pl} {i:Nat} {x:Rat} (h:cdP w g i (.t x)) {c:Nat} (hc:(cellPl g i).F c):g.F c:=by
 obtain ⟨a,ha,rfl⟩:=hc
 obtain ⟨b,h1,h2,h3⟩:=h
 rw [h1] at ha; cases ha; exact h2
def zsL (n:Nat):Nat→Nat→List Lf
 | _,0=>[]
 | i,m+1=>lit (n+i) (fun j=>.b (.z j 0))::zsL n (i+1) m
theorem den_zsL (β:Env) (n:Nat) (ps:List Pl):∀ (m i:Nat),i+m=ps.length→(zsL n i m).map (Lf.den (extE β n ps))=(ps.drop i).map fun p=>.pointer (p.v 0)
 | 0,i,h=>by rw [List.drop_eq_nil_of_le (by omega)]; rfl
 | m+1,i,h=>by
  have hi:i<ps.length:=by omega
  unfold zsL
  rw [lit_eq,List.drop_eq_getElem_cons hi,List.map_cons,List.map_cons,den_zsL β n ps m (i+1) (by omega)]
  congr 1
  show Value.pointer ((extE β n ps (n+i)).v 0)=_
  rw [extE_in (List.getElem?_eq_getElem hi)]
def isT:Cd→Bool
 | .t _=>true
 | _=>false
def rtOf:Cd→Rat
 | .t x=>x
 | _=>0
theorem isT_iff {c:Cd} (h:isT c=true):c=.t (rtOf c):=by cases c<;>first | rfl | cases h
def plsOf (g:Pl):Nat→Nat→List Pl
 | _,0=>[]
 | o,m+1=>cellPl g o::plsOf g (o+1) m
theorem plsOf_len (g:Pl):∀ (m o:Nat),(plsOf g o m).length=m
 | 0,_=>rfl
 | m+1,o=>congrArg (·+1) (plsOf_len g m (o+1))
def rtsAt (cs:List Cd):Nat→Nat→List Rat
 | _,0=>[]
 | o,m+1=>rtOf (cs.getD o (.v undef))::rtsAt cs (o+1) m
def okT (cs:List Cd):Nat→Nat→Bool
 | _,0=>true
 | o,m+1=>isT (cs.getD o (.v undef))&&okT cs (o+1) m
theorem okT_at {cs:List Cd}:∀ {m o j:Nat},okT cs o m=true→j<m→cs[o+j]?=some (.t (rtOf (cs.getD (o+j) (.v undef))))
 | m+1,o,0,h,_=>by
  unfold okT at h
  rw [Bool.and_eq_true] at h
  rw [Nat.add_zero]
  have h1:=isT_iff h.1
  have hlt:o<cs.length:=by
   rcases Nat.lt_or_ge o cs.length with hlt | hge
   · exact hlt
   · rw [List.getD_eq_getElem?_getD,List.getElem?_eq_none hge] at h
     cases h.1
  rw [List.getElem?_eq_getElem hlt]
  rw [List.getD_eq_getElem?_getD,List.getElem?_eq_getElem hlt,Option.getD_some] at h1 ⊢
  exact congrArg some h1
 | m+1,o,j+1,h,hj=>by
  unfold okT at h
  rw [Bool.and_eq_true] at h
  have:=okT_at (m:=m) (o:=o+1) (j:=j) h.2 (by omega)
  rw [show o+(j+1)=o+1+j by omega]
  exact this
theorem plsOf_hold {cs:List Cd} {w:World} {g:Pl} (hc:cdOk w g 0 cs):∀ {m o:Nat},okT cs o m=true→newHold w ((rtsAt cs o m).map ratT) (plsOf g o m)∧∀ p∈plsOf g o m,∀ c,p.F c→g.F c
 | 0,o,_=>⟨trivial,fun p hp=>by cases hp⟩
 | m+1,o,h=>by
  have h1:=okT_at (m:=m+1) (o:=o) (j:=0) h (by omega)
  rw [Nat.add_zero] at h1
  have hp:=cdOk_at hc h1
  rw [Nat.zero_add] at hp
  unfold okT at h
  rw [Bool.and_eq_true] at h
  obtain ⟨h2,h3⟩:=plsOf_hold hc (m:=m) (o:=o+1) h.2
  refine ⟨⟨cellPl_pr hp,h2⟩,fun p hq c hF=>?_⟩
  rcases List.mem_cons.1 hq with rfl | hq
  · exact cellPl_Ft hp hF
  · exact h3 p hq c hF
theorem plsOf_get (g:Pl):∀ (m o j:Nat),j<m→(plsOf g o m)[j]?=some (cellPl g (o+j))
 | m+1,o,0,_=>rfl
 | m+1,o,j+1,h=>by
  have:=plsOf_get g m (o+1) j (by omega)
  rw [show o+(j+1)=o+1+j by omega]
  exact this
noncomputable def rdCells (T:TypeId) (m:Nat) (hu:∃ d,Tryz.prog.underlying T=some d∧d.isRow=true) (hi:(Tryz.prog.info? T).map (·.size)=some m) (d t:Nat) (e:TypeId) (cs:List Cd) (o:Nat) (hx:okT cs o m=true) (k n:Nat):Ev Tryz.prog :=
 .rd d (.load T (.tmp t)) (fun β=>[.pointer (some ⟨(β k).b,o,none⟩)]) [(k,(rowT e cs).ob)] n (.one (.a (zsL n 0 m))) ((rtsAt cs o m).map ratT) (fun β w h ρ op ho hx'=>by
  have h1:RW e cs w (β k):=h (k,(rowT e cs).ob) (by simp)
  have h2:ρ (.tmp t)=.pointer (some ⟨(β k).b,o,none⟩):=by simpa [Op.operands] using hx'
  obtain ⟨h3,h4⟩:=plsOf_hold h1.2.1.1 hx
  refine ⟨plsOf (β k) o m,w,fun g hg c hc=>.inr ⟨(k,(rowT e cs).ob),by simp,rfl,h4 g hg c hc⟩,?_,h3,Below.refl _ _⟩
  have hr:w.rangeAt (β k).b o ((plsOf (β k) o m).map fun p=>.pointer (p.v 0)):=fun j v hv=>by
   rw [List.getElem?_map] at hv
   by_cases hj:j<m
   · rw [plsOf_get _ _ _ _ hj] at hv
     obtain rfl:=Option.some.inj hv
     exact rw_cell h1 (okT_at hx hj)
   · rw [List.getElem?_eq_none (by rw [plsOf_len]; omega)] at hv
     cases hv
  obtain ⟨dd,hu1,hu2⟩:=hu
  have hl:=run_loadAt_mid (P:=Tryz.prog) w (β k).b o T _ dd hr hu1 hu2 (by rw [List.length_map,plsOf_len]; exact hi)
  have hden:(SV.one (.a (zsL n 0 m))).den (extE β n (plsOf (β k) o m))=.agg ((plsOf (β k) o m).map fun p=>Value.pointer (p.v 0)).toArray:=by
   show Value.agg _=_
   rw [den_zsL β n (plsOf (β k) o m) m 0 (by rw [plsOf_len]; omega),List.drop_zero]
  rw [hden]
  unfold execOp
  rw [ho]
  simp only [h2]
  simp [hl,Result.andThen])
theorem form_u:∃ d,Tryz.prog.underlying 265=some d∧d.isRow=true:=⟨_,Tryz.underlying265,by kernel_rfl⟩
theorem form_i:(Tryz.prog.info? 265).map (·.size)=some 4:=by kernel_rfl
noncomputable def dCells (T:TypeId) (m:Nat) (hu:∃ d,Tryz.prog.underlying T=some d∧d.isRow=true) (hi:(Tryz.prog.info? T).map (·.size)=some m) (e:TypeId) (cs:List Cd):Ev Tryz.prog:=.dyn (fun o xs ob=>match o.op with
 | .load T' (.tmp _)=>Nat.beq T' T&&isAd (xs.getD 0 undefS)&&(match ob[(adOf (xs.getD 0 undefS)).1]? with | some (.th _)=>true | _=>false)
 | _=>false) fun o xs ob=>match o.op with
 | .load _ (.tmp t)=>lit (adOf (xs.getD 0 undefS)).1 fun k=>lit (adOf (xs.getD 0 undefS)).2 fun off=>lit ob.length fun n=>if h:okT cs off m=true then rdCells T m hu hi (o.dst.getD 0) t e cs off h k n else .eqv 0 undef undef rfl
 | _=>.eqv 0 undef undef rfl
noncomputable def dForm (cs:List Cd):Ev Tryz.prog:=dCells 265 4 form_u form_i FRT cs
noncomputable def rdIdxF (d t:Nat) (e:TypeId) (cs:List Cd) (ix:Operand) (n j:Nat) (hj:Nat.blt j n=true) (k:Nat):Ev Tryz.prog :=
 .rd d (.indexAddr 288 (.tmp t) ix) (fun β=>[.slice ((β k).v cs.length) n ((β k).c cs.length),.int .i64 (j:Int)]) [(k,(rowT e cs).ob)] 0 (.one (.c (.b (.p k (j*4))))) [] (fun β w h ρ op ho hx'=>by
  have h1:RW e cs w (β k):=h (k,(rowT e cs).ob) (by simp)
  have h2:ρ (.tmp t)=.slice (some ⟨(β k).b,0,none⟩) n ((β k).c cs.length)∧ρ ix=.int .i64 (j:Int):=by
   rw [h1.2.1.2] at hx'
   simpa [Op.operands] using hx'
  rw [Nat.blt_eq] at hj
  refine ⟨[],w,(fun _ h=>by cases h),?_,trivial,Below.refl _ _⟩
  rw [extE_nil]
  unfold execOp
  rw [ho]
  simp only [h2.1,h2.2]
  have hi:=run_indexAt_slice (P:=Tryz.prog) w 288 ⟨(β k).b,0,none⟩ n ((β k).c cs.length) .i64 (j:Int) (by kernel_rfl)
  have hsz:(sizeOf (Tryz.prog.elem 288)).run Tryz.prog w=.ok 4 w:=by kernel_rfl
  rw [if_pos ⟨by omega,by omega⟩,hsz,Result.andThen_ok,Int.toNat_natCast] at hi
  have ha:(⟨(β k).b,0,none⟩:Addr).add (j*4)=⟨(β k).b,j*4,none⟩:=by
   simp [Addr.add]
   exact fun h=>h.symm
  rw [ha] at hi
  simp only [Sem.run_bind,hi,Result.andThen_ok]
  rfl)
noncomputable def dIdxF (cs:List Cd):Ev Tryz.prog:=.dyn (fun o xs ob=>match o.op with
 | .indexAddr _ (.tmp _) _=>isY (xs.getD 0 undefS)
 | _=>false) fun o xs ob=>match o.op with
 | .indexAddr _ (.tmp t) ix=>lit (yOf (xs.getD 0 undefS)).1 fun k=>lit (yOf (xs.getD 0 undefS)).2 fun n=>lit (intS (xs.getD 1 undefS)) fun j=>if h:Nat.blt j n=true then rdIdxF (o.dst.getD 0) t FRT cs ix n j h k else .eqv 0 undef undef rfl
 | _=>.eqv 0 undef undef rfl
abbrev fr2 (f0 f1:RQ):List Cd:=frCd f0++frCd f1
abbrev oc2A:List SV:=[.one (.c (.b (.s 0 0 2 2)))]
def oc2L (f0 f1:RQ):List Lf:=cC f0++cC f1
def oc2O (f0 f1:RQ):List (Nat × Ob):=[(14,.row [.b (.z 2 0),.b (.z 3 0),.b (.z 4 0),.b (.z 5 0),.b (.z 9 0),.b (.z 10 0),.b (.z 11 0),.b (.z 12 0)] FRT 2 4),(2,(ratT f0.a).ob),(3,(ratT f0.b.re).ob),(4,(ratT f0.b.im).ob),(5,(ratT f0.c).ob),(9,(ratT f1.a).ob),(10,(ratT f1.b.re).ob),(11,(ratT f1.b.im).ob),(12,(ratT f1.c).ob)]
noncomputable def oc2E {f0 f1:RQ} (hf0:MayC f0) (hf1:MayC f1):List (Ev Tryz.prog):=[(sCCheck hf0).e,(sMtOf hf0.fit).e,.app appF,(sCCheck hf1).e,(sMtOf hf1.fit).e,.app appF]
theorem oc2_eqs {f0 f1:RQ} (hf0:MayC f0) (hf1:MayC f1) (β:Env):(allS Tryz.prog Tryz.f272 oc2A [.box (oc2L f0 f1) 112] (oc2E hf0 hf1) [] 1200 (.tup [.c (.b (.r 14 2)),nI' 0]) (oc2O f0 f1) β).map Prod.fst=(allS Tryz.prog Tryz.f272 oc2A [.box (oc2L f0 f1) 112] (oc2E hf0 hf1) [] 1200 (.tup [.c (.b (.r 14 2)),nI' 0]) (oc2O f0 f1) β).map Prod.snd:=by kernel_rfl
theorem open2_ok {f0 f1:RQ} (hf0:MayC f0) (hf1:MayC f1) (β:Env) (w:World) (hh:(Ob.box (oc2L f0 f1) 112).holds β w (β 0)) :
  Calls Tryz.prog 272 (oc2A.map (SV.den β)).toArray w fun e u=>∃ xs:List Pl,(∀ x∈xs,∀ c,x.F c→w.heap.size≤c)∧e=.returned ((SV.tup [.c (.b (.y 1 8 2)),nI' 0]).den (extE β 1 xs))∧newHold u [rowT FRT (fr2 f0 f1)] xs∧Below w.heap.size w u:=by
 refine (sx (P:=Tryz.prog) oc2A [.box (oc2L f0 f1) 112] (oc2E hf0 hf1) [] 1200 (.tup [.c (.b (.r 14 2)),nI' 0]) (oc2O f0 f1) Tryz.func272 hmA (fun β=>ok_of_maps (oc2_eqs hf0 hf1 β)) (by kernel_rfl) (by kernel_rfl) β w (fun k o ho=>?_)).mono ?_
 · cases k with
   | zero=>simp only [List.getElem?_cons_zero] at ho; obtain rfl:=Option.some.inj ho; exact hh
   | succ k=>simp at ho
 · rintro e u ⟨β',q',obj,e1,rfl,e2,e4,e5,g⟩
   have hnew:∀ y∈oc2O f0 f1,∀ c,(β' y.1).F c→c≠(β 0).b→w.heap.size≤c:=fun y hy c hc hne=>by
    rcases e4 y hy c hc with h | ⟨i,hi,h⟩
    · exact h
    · obtain rfl:i=0:=by simp only [List.length_singleton] at hi; omega
      exact absurd ((hh.1.1 c).1 h) hne
   have hu:u.heap[(β 0).b]?=some (.cells ((oc2L f0 f1).map (Lf.den β)).toArray 112 (0,0)):=by rw [g.bel.block _ (heap_lt hh.2)]; exact hh.2
   have hrat:∀ (k:Nat) (x:Rat),(k,(ratT x).ob)∈oc2O f0 f1→PR x u (β' k)∧∀ c,(β' k).F c→w.heap.size≤c:=fun k x hk=>by
    have h:PR x u (β' k):=e5 _ hk
    refine ⟨h,fun c hc=>?_⟩
    obtain ⟨b,hb,hx⟩:=h
    have ec:=(hb.2 c).1 hc
    subst ec
    refine hnew _ hk c hc fun e=>?_
    rw [e] at hx
    exact str_no_rat hu hx
   obtain ⟨o2,n2⟩:=hrat 2 f0.a (by simp [oc2O])
   obtain ⟨o3,n3⟩:=hrat 3 f0.b.re (by simp [oc2O])
   obtain ⟨o4,n4⟩:=hrat 4 f0.b.im (by simp [oc2O])
   obtain ⟨o5,n5⟩:=hrat 5 f0.c (by simp [oc2O])
   obtain ⟨o9,n9⟩:=hrat 9 f1.a (by simp [oc2O])
   obtain ⟨o10,n10⟩:=hrat 10 f1.b.re (by simp [oc2O])
   obtain ⟨o11,n11⟩:=hrat 11 f1.b.im (by simp [oc2O])
   obtain ⟨o12,n12⟩:=hrat 12 f1.c (by simp [oc2O])
   obtain ⟨hone,cur,hcur,hcl,hn,hcm,hsz,htake⟩:=e5 (14,.row [.b (.z 2 0),.b (.z 3 0),.b (.z 4 0),.b (.z 5 0),.b (.z 9 0),.b (.z 10 0),.b (.z 11 0),.b (.z 12 0)] FRT 2 4) (by simp [oc2O])
   have hbR:w.heap.size≤(β' 14).b:=hnew _ (by simp [oc2O]) _ ((hone.1 _).2 rfl) fun e=>by
    rw [e,hu] at hcur
    have:=(Obj.cells.inj (Option.some.inj hcur)).2.1
    exact absurd this (by decide)
   refine ⟨[⟨(β' 14).b,fun i=>match i with | 0=>(β' 2).v 0 | 1=>(β' 3).v 0 | 2=>(β' 4).v 0 | 3=>(β' 5).v 0 | 4=>(β' 9).v 0 | 5=>(β' 10).v 0 | 6=>(β' 11).v 0 | 7=>(β' 12).v 0 | 8=>some ⟨(β' 14).b,0,none⟩ | _=>none,fun _=>(β' 14).c 0,fun c=>c=(β' 14).b∨(β' 2).F c∨(β' 3).F c∨(β' 4).F c∨(β' 5).F c∨(β' 9).F c∨(β' 10).F c∨(β' 11).F c∨(β' 12).F c,fun _=>undef⟩],fun x hx c hc=>?_,rfl,⟨⟨⟨.inl rfl,cur,hcur,?_⟩,⟨⟨or_cdT o2 rfl fun c hc=>.inr (.inl hc),or_cdT o3 rfl fun c hc=>.inr (.inr (.inl hc)),or_cdT o4 rfl fun c hc=>.inr (.inr (.inr (.inl hc))),or_cdT o5 rfl fun c hc=>.inr (.inr (.inr (.inr (.inl hc)))),or_cdT o9 rfl fun c hc=>.inr (.inr (.inr (.inr (.inr (.inl hc))))),or_cdT o10 rfl fun c hc=>.inr (.inr (.inr (.inr (.inr (.inr (.inl hc)))))),or_cdT o11 rfl fun c hc=>.inr (.inr (.inr (.inr (.inr (.inr (.inr (.inl hc))))))),or_cdT o12 rfl fun c hc=>.inr (.inr (.inr (.inr (.inr (.inr (.inr (.inr hc))))))),trivial⟩,rfl⟩,fun c hc=>?_⟩,trivial⟩,g.bel⟩
   · obtain rfl:=List.mem_singleton.1 hx
     rcases hc with rfl | hc | hc | hc | hc | hc | hc | hc | hc
     · exact hbR
     · exact n2 c hc
     · exact n3 c hc
     · exact n4 c hc
     · exact n5 c hc
     · exact n9 c hc
     · exact n10 c hc
     · exact n11 c hc
     · exact n12 c hc
   · have:(fr2 f0 f1).length=2*4:=rfl
     rw [this,htake]
     rfl
   · rcases hc with rfl | hc | hc | hc | hc | hc | hc | hc | hc
     · exact heap_lt hcur
     · exact (pr_stable _).lt u _ o2 c hc
     · exact (pr_stable _).lt u _ o3 c hc
     · exact (pr_stable _).lt u _ o4 c hc
     · exact (pr_stable _).lt u _ o5 c hc
     · exact (pr_stable _).lt u _ o9 c hc
     · exact (pr_stable _).lt u _ o10 c hc
     · exact (pr_stable _).lt u _ o11 c hc
     · exact (pr_stable _).lt u _ o12 c hc
noncomputable def sOpen2 {f0 f1:RQ} (hf0:MayC f0) (hf1:MayC f1):CSpec Tryz.prog :=
 ⟨272,Tryz.call272,oc2A,oc2L f0 f1,112,.tup [.c (.b (.y 1 8 2)),nI' 0],[rowT FRT (fr2 f0 f1)],open2_ok hf0 hf1,by kernel_rfl⟩
def oq2L (p0 p1:Cp):List Lf:=p0.L++p1.L
abbrev oc3A:List SV:=[.one (.c (.b (.s 0 0 3 3)))]
def oc3L (f0 f1 f2:RQ):List Lf:=cC f0++cC f1++cC f2
def oc3O (f0 f1 f2:RQ):List (Nat × Ob):=[(21,.row [.b (.z 2 0),.b (.z 3 0),.b (.z 4 0),.b (.z 5 0),.b (.z 9 0),.b (.z 10 0),.b (.z 11 0),.b (.z 12 0),.b (.z 16 0),.b (.z 17 0),.b (.z 18 0),.b (.z 19 0)] FRT 3 4),(2,(ratT f0.a).ob),(3,(ratT f0.b.re).ob),(4,(ratT f0.b.im).ob),(5,(ratT f0.c).ob),(9,(ratT f1.a).ob),(10,(ratT f1.b.re).ob),(11,(ratT f1.b.im).ob),(12,(ratT f1.c).ob),(16,(ratT f2.a).ob),(17,(ratT f2.b.re).ob),(18,(ratT f2.b.im).ob),(19,(ratT f2.c).ob)]
noncomputable def oc3E {f0 f1 f2:RQ} (hf0:MayC f0) (hf1:MayC f1) (hf2:MayC f2):List (Ev Tryz.prog):=[(sCCheck hf0).e,(sMtOf hf0.fit).e,.app appF,(sCCheck hf1).e,(sMtOf hf1.fit).e,.app appF,(sCCheck hf2).e,(sMtOf hf2.fit).e,.app appF]
theorem oc3_eqs {f0 f1 f2:RQ} (hf0:MayC f0) (hf1:MayC f1) (hf2:MayC f2) (β:Env):(allS Tryz.prog Tryz.f272 oc3A [.box (oc3L f0 f1 f2) 112] (oc3E hf0 hf1 hf2) [] 1200 (.tup [.c (.b (.r 21 3)),nI' 0]) (oc3O f0 f1 f2) β).map Prod.fst=(allS Tryz.prog Tryz.f272 oc3A [.box (oc3L f0 f1 f2) 112] (oc3E hf0 hf1 hf2) [] 1200 (.tup [.c (.b (.r 21 3)),nI' 0]) (oc3O f0 f1 f2) β).map Prod.snd:=by kernel_rfl
end Go.Proofs.YtpccljaooghafaaGreat.Y
end
section
namespace Go.Proofs.YtpccljaooghafaaGreat.Y
open Go Go.RowKit
set_option maxRecDepth 100000
abbrev frS (f:RQ):SV:=.one (.a (cC f))
abbrev fcS (x:Rat):SV:=.one (.a (fC x))
abbrev hf2:Rat:=Rat.divInt 1 2
noncomputable def sR13Of (r:RQ):Spec Tryz.prog :=
 Spec.auto Tryz.call255 [.one (.a (cC r))] [] (frS r) [] [] [] 400 Tryz.func255 hmA (by kernel_rfl) (fun β=>by kernel_rfl)
noncomputable def sR13Half {x:Rat} (hx:Sz KC x):Spec Tryz.prog :=
 Spec.auto Tryz.call368 [fcS x] [] (fcS (x*hf2)) [] [(sR3Small 1 2 (by decide) (by decide) (by decide) sz1_le sz2_le).e,(sR3Times (hx.mono (by decide)) (hf_sz.mono (by decide))).e] [(1,3)] 400 Tryz.func368 hmA (by kernel_rfl) (fun β=>by kernel_rfl)
theorem half_eq (x:Rat):x*hf2=x/Rat.divInt 2 1:=by
 have h1:hf2=(Rat.divInt 2 1)⁻¹:=of_decide_eq_true (by kernel_rfl:decide (hf2=(Rat.divInt 2 1)⁻¹)=true)
 rw [Rat.div_def,h1]
abbrev KG:Nat:=60000
def fprR (f g:RQ):Rat:=f.b.re*g.b.re+f.b.im*g.b.im-(f.a*g.c+f.c*g.a)*hf2
theorem fprR_eq (f g:RQ):fprR f g=fpr f g:=by unfold fprR fpr; rw [half_eq]
noncomputable def sR13Prod {f g:RQ} (hf:RSz KG f) (hg:RSz KG g):Spec Tryz.prog :=
 (Spec.auto Tryz.call257 [frS f,frS g] [] (fcS (fprR f g)) []
  [(sR3Times (hf.b.1.mono (by decide)) (hg.b.1.mono (by decide))).e,(sR3Times (hf.b.2.mono (by decide)) (hg.b.2.mono (by decide))).e,(sR3Plus ((hf.b.1.mul hg.b.1).mono (by decide)) ((hf.b.2.mul hg.b.2).mono (by decide))).e,
   (sR3Times (hf.a.mono (by decide)) (hg.c.mono (by decide))).e,(sR3Times (hf.c.mono (by decide)) (hg.a.mono (by decide))).e,(sR3Plus ((hf.a.mul hg.c).mono (by decide)) ((hf.c.mul hg.a).mono (by decide))).e,
   (sR13Half (((hf.a.mul hg.c).add (hf.c.mul hg.a)).mono (by decide))).e,(sR3Minus (((hf.b.1.mul hg.b.1).add (hf.b.2.mul hg.b.2)).mono (by decide)) ((((hf.a.mul hg.c).add (hf.c.mul hg.a)).mul hf_sz).mono (by decide))).e]
  [(1,12),(2,12),(3,4)] 800 Tryz.func257 hmA (by kernel_rfl) (fun β=>by kernel_rfl)).conv (fcS (fpr f g)) (congrArg fcS (fprR_eq f g))
noncomputable def sR13Sq {f g:RQ} (hf:RSz KG f) (hg:RSz KG g) (h0:fpr f f*fpr g g≠0):Spec Tryz.prog :=
 Spec.auto Tryz.call254 [frS f,frS g] [] (fcS (fsq f g)) []
  [(sR13Of f).e,(sR13Of g).e,(sR13Prod hf hg).e,(sR3Times ((fpr_sz hf hg).mono (by decide)) ((fpr_sz hf hg).mono (by decide))).e,(sR13Prod hf hf).e,(sR13Prod hg hg).e,(sR3Times ((fpr_sz hf hf).mono (by decide)) ((fpr_sz hg hg).mono (by decide))).e,
   (sR3Over (((fpr_sz hf hg).mul (fpr_sz hf hg)).mono (by decide)) (((fpr_sz hf hf).mul (fpr_sz hg hg)).mono (by decide)) h0).e] [(1,6),(3,11)] 800 Tryz.func254 hmA (by kernel_rfl) (fun β=>by kernel_rfl)
noncomputable def mxE {x y s t:Rat} (hx:Sz KG x) (hy:Sz KG y) (hs:Sz KG s) (ht:Sz KG t):List (Ev Tryz.prog) :=
 [(sR3Times (hs.mono (by decide)) (hx.mono (by decide))).e,(sR3Times (ht.mono (by decide)) (hy.mono (by decide))).e,(sR3Plus ((hs.mul hx).mono (by decide)) ((ht.mul hy).mono (by decide))).e]
noncomputable def sR13Mixed {f g:RQ} {s t:Rat} (hf:RSz KG f) (hg:RSz KG g) (hs:Sz KG s) (ht:Sz KG t):Spec Tryz.prog :=
 Spec.auto Tryz.call256 [frS f,frS g,fcS s,fcS t] [] (frS (pls f g s t)) [] (mxE hf.a hg.a hs ht++mxE hf.b.1 hg.b.1 hs ht++mxE hf.b.2 hg.b.2 hs ht++mxE hf.c hg.c hs ht) [(5,13)] 1200 Tryz.func256 hmA (by kernel_rfl) (fun β=>by kernel_rfl)
def wxR (r:RQ) (x:Rat):R4:=bif wtB r then r40 else fR x
abbrev wxC (r:RQ):List Lf:=rL (wxR r (rone r).a)++rL (wxR r (rone r).b.re)++rL (wxR r (rone r).b.im)++rL (wxR r (rone r).c)
theorem wx_no {r:RQ} (h:wtB r=true):wxC r=c0C:=by simp only [wxC,wxR,h,cond_true]
theorem wx_yes {r:RQ} (h:wtB r=false):wxC r=cC (rone r):=by simp only [wxC,wxR,h,cond_false]
abbrev wxA (r:RQ) {b:Bool} (h:wtB r=b):SV:=.tup [.a (wxC r),.c (.b (.v (.bool (!b))))]
noncomputable def sR13Circle {f:RQ} (h:RSz KG f) {b:Bool} (hb:wtB f=b):Spec Tryz.prog :=
 ⟨369,Tryz.call369,[frS f],[],wxA f hb,[],fun β w hh=>by
  have hr:decide ((fpr f f).num.sign≤0)=b:=by rw [rpow_fpr]; exact hb
  cases b with
  | true =>
   rw [wxA,wx_no hb]
   exact spec_auto (evs:=[(sR13Prod h h).e,(sR3Sign (x:=fpr f f) rfl).e,.eqv 8 (.bool (decide ((fpr f f).num.sign≤0))) (.bool true) (sgn_le hr)]) (Ns:=[]) (m:=600) Tryz.func369 hmA (fun β=>by kernel_rfl) (by kernel_rfl) β w hh
  | false =>
   rw [wxA,wx_yes hb]
   exact spec_auto (evs:=[(sR13Prod h h).e,(sR3Sign (x:=fpr f f) rfl).e,.eqv 8 (.bool (decide ((fpr f f).num.sign≤0))) (.bool false) (sgn_le hr),(sCNorm1 (h.mono (by decide)) (by rw [← rpow_fpr]; exact hr)).e]) (Ns:=[]) (m:=600) Tryz.func369 hmA (fun β=>by kernel_rfl) (by kernel_rfl) β w hh,by kernel_rfl⟩
noncomputable def sR3CmpK {x y:Rat} (hx:Sz KC x) (hy:Sz KC y) {k:Int} (hk:cmpQ x y=k):Spec Tryz.prog :=
 (Spec.auto Tryz.call18 [fcS x,fcS y] [] (.one (svI (cmpI (x.num*y.den) (y.num*x.den)))) []
  [eWTimes (Nat.le_trans hx.1 (by decide)) (Nat.le_trans hy.2 (by decide)),eWTimes (Nat.le_trans hy.1 (by decide)) (Nat.le_trans hx.2 (by decide)),eWCmp (Nat.le_trans (sz_mul hx.1 hy.2) (by decide)) (Nat.le_trans (sz_mul hy.1 hx.2) (by decide))] [(1,12)] 400 Tryz.func18 hmA (by kernel_rfl) (fun β=>by kernel_rfl)).conv (.one (svI k)) (congrArg (fun c=>SV.one (svI c)) ((cmpQ_of x y).trans hk))
abbrev one1:Rat:=Rat.divInt 1 1
theorem fsq_sz {f g:RQ} {k:Nat} (hf:RSz k f) (hg:RSz k g) (h0:fpr f f*fpr g g≠0):Sz (psz k k+psz k k+(psz k k+psz k k)) (fsq f g):=div_sz ((fpr_sz hf hg).mul (fpr_sz hf hg)) ((fpr_sz hf hf).mul (fpr_sz hg hg)) h0
abbrev KH:Nat:=1100
def lieK (s:Bool) (c:Int):Int:=bif s then 0 else if c = -1 then 2 else if c=0 then 1 else 3
theorem cmpQ_cases (x y:Rat):cmpQ x y = -1∨cmpQ x y=0∨cmpQ x y=1:=by
 unfold cmpQ
 split
 · exact .inl rfl
 · split
   · exact .inr (.inr rfl)
   · exact .inr (.inl rfl)
noncomputable def sR13Lies {f g:RQ} (hf:RSz KH f) (hg:RSz KH g) (h0:fpr f f*fpr g g≠0) {s:Bool} (hs:eqRone f g=s) {c:Int} (hc:cmpQ (fsq f g) one1=c):Spec Tryz.prog :=
 ⟨107,Tryz.call107,[frS f,frS g],[],.one (nI' (lieK s c)),[],fun β w hh=>by
  cases s with
  | true=>exact spec_auto (evs:=[eqEvR f g hs]) (Ns:=[]) (m:=600) Tryz.func107 hmA (fun β=>by kernel_rfl) (by kernel_rfl) β w hh
  | false =>
   rcases cmpQ_cases (fsq f g) one1 with h | h | h<;>rw [hc] at h<;>subst h <;>
    exact spec_auto (evs:=[eqEvR f g hs,(sR13Sq (hf.mono (by decide)) (hg.mono (by decide)) h0).e,(sR3Int 1 (by decide)).e,(sR3CmpK ((fsq_sz hf hg h0).mono (by decide)) (one_sz.mono (by decide)) hc).e]) (Ns:=[]) (m:=600) Tryz.func107 hmA (fun β=>by kernel_rfl) (by kernel_rfl) β w hh,by kernel_rfl⟩
abbrev neg1:Rat:=-(Rat.divInt 1 1)
theorem neg1_eq:neg1=Rat.divInt (-1) 1:=of_decide_eq_true (by kernel_rfl:decide (neg1=Rat.divInt (-1) 1)=true)
theorem one_szH:Sz 8 one1:=one_sz
inductive AxK where
 | both
 | one
 | two
 | none
def axAt (f g:RQ):AxK→Prop
 | .both=>decide (f.a=0)=true∧decide (g.a=0)=true
 | .one=>decide (f.a=0)=true∧decide (g.a=0)=false
 | .two=>decide (f.a=0)=false∧decide (g.a=0)=true
 | .none=>decide (f.a=0)=false∧decide (g.a=0)=false
theorem axAt_all (f g:RQ):∃ k,axAt f g k:=by
 cases h1:decide (f.a=0)<;>cases h2:decide (g.a=0)
 · exact ⟨.none,h1,h2⟩
 · exact ⟨.two,h1,h2⟩
 · exact ⟨.one,h1,h2⟩
 · exact ⟨.both,h1,h2⟩
abbrev axR (f g:RQ):RQ:=pls f g one1 neg1
theorem axR_eq (f g:RQ):axR f g=axQ f g:=by unfold axR axQ; rw [neg1_eq]
noncomputable def sgnE0 (d:Nat) {x:Rat} {b:Bool} (h:decide (x=0)=b):List (Ev Tryz.prog):=[(sR3Sign (x:=x) rfl).e,.eqv d (.bool (x.num.sign==0)) (.bool b) (sign_lit h)]
def axC (f g:RQ):AxK→List Lf
 | .both=>c0C
 | .one=>cC f
 | .two=>cC g
 | .none=>wxC (axQ f g)
def axB (f g:RQ):AxK→Bool
 | .both=>false
 | .one=>true
 | .two=>true
 | .none=>!wtB (axQ f g)
theorem neg_sz1:Sz 8 neg1:=by rw [neg1_eq]; exact mone8
theorem r13axis_ok {f g:RQ} (hf:RSz KH f) (hg:RSz KH g) (k:AxK) (hk:axAt f g k) (β:Env) (w:World) (hh:∀ (i:Nat) (t:Thing),([]:List Thing)[i]?=some t→t.D w (β i)) :
  Calls Tryz.prog 259 (([frS f,frS g]:List SV).map (SV.den β)).toArray w fun e w'=>∃ xs:List Pl,freshS β w 0 xs∧e=.returned ((SV.tup [.a (axC f g k),.c (.b (.v (.bool (axB f g k))))]).den (extE β 0 xs))∧newHold w' [] xs∧Below w.heap.size w w':=by
 cases k with
 | both=>exact spec_auto (evs:=[(sR3Int 1 (by decide)).e]++sgnE0 12 hk.1++sgnE0 17 hk.2) (Ns:=[(8,11)]) (m:=800) Tryz.func259 hmA (fun β=>by kernel_rfl) (by kernel_rfl) β w hh
 | one=>exact spec_auto (evs:=[(sR3Int 1 (by decide)).e]++sgnE0 12 hk.1++sgnE0 17 hk.2++sgnE0 24 hk.1) (Ns:=[(8,11)]) (m:=800) Tryz.func259 hmA (fun β=>by kernel_rfl) (by kernel_rfl) β w hh
 | two=>exact spec_auto (evs:=[(sR3Int 1 (by decide)).e]++sgnE0 12 hk.1++sgnE0 24 hk.1++sgnE0 30 hk.2) (Ns:=[(8,11)]) (m:=800) Tryz.func259 hmA (fun β=>by kernel_rfl) (by kernel_rfl) β w hh
 | none =>
  have hx:RSz KG (axR f g):=(pls_sz hf hg one_szH neg_sz1).mono (by decide)
  have hw:wtB (axR f g)=wtB (axQ f g):=by rw [axR_eq]
  show Calls _ _ _ _ fun e w'=>∃ xs:List Pl,freshS β w 0 xs∧e=.returned ((SV.tup [.a (wxC (axQ f g)),.c (.b (.v (.bool (!wtB (axQ f g)))))]).den (extE β 0 xs))∧newHold w' [] xs∧Below w.heap.size w w'
  rw [← axR_eq]
  exact spec_auto (evs:=[(sR3Int 1 (by decide)).e]++sgnE0 12 hk.1++sgnE0 24 hk.1++sgnE0 30 hk.2++[(sR13Of f).e,(sR13Of g).e,(sR3Neg one1).e,(sR13Mixed (hf.mono (by decide)) (hg.mono (by decide)) (one_sz.mono (by decide)) (neg_sz1.mono (by decide))).e,(sR13Circle hx rfl).e]) (Ns:=[(8,11)]) (m:=800) Tryz.func259 hmA (fun β=>by kernel_rfl) (by kernel_rfl) β w hh
noncomputable def sR13Axis {f g:RQ} (hf:RSz KH f) (hg:RSz KH g) {k:AxK} (hk:axAt f g k):Spec Tryz.prog :=
 ⟨259,Tryz.call259,[frS f,frS g],[],.tup [.a (axC f g k),.c (.b (.v (.bool (axB f g k))))],[],r13axis_ok hf hg k hk,by cases k<;>kernel_rfl⟩
end Go.Proofs.YtpccljaooghafaaGreat.Y
end
section
namespace Go.Proofs.YtpccljaooghafaaGreat.Y
open Go Go.RowKit
set_option maxRecDepth 100000
theorem cspec0 {P:Program} {f:FuncId} {fn:Func} {args:List SV} {cs:List Lf} {t:TypeId} {res:SV} (evs:List (Ev P)) (Ns:List (Nat × Nat)) (m:Nat) (hf:P.funcs[f]?=some fn) (hm:P.follows .mixedOrders=true)
  (h:∀ β,(allS P fn args [.box cs t] evs Ns m res [] β).map Prod.fst=(allS P fn args [.box cs t] evs Ns m res [] β).map Prod.snd)
  (hB:(args.all (SV.of fun k=>Nat.blt k 1)&&[Ob.box cs t].all fun x=>x.of (fun k=>Nat.blt k 1)&&x.own)=true) (hr:res.of (fun _=>false)=true) (β:Env) (w:World) (hh:(Ob.box cs t).holds β w (β 0)) :
  Calls P f (args.map (SV.den β)).toArray w fun e w'=>∃ xs:List Pl,(∀ x∈xs,∀ c,x.F c→w.heap.size≤c)∧e=.returned (res.den (extE β 1 xs))∧newHold w' [] xs∧Below w.heap.size w w':=by
 rw [Bool.and_eq_true] at hB
 refine (sx (P:=P) args [.box cs t] evs Ns m res [] hf hm (fun β=>ok_of_maps (h β)) hB.1 hB.2 β w (fun k o ho=>?_)).mono ?_
 · cases k with
   | zero=>simp only [List.getElem?_cons_zero] at ho; obtain rfl:=Option.some.inj ho; exact hh
   | succ k=>simp at ho
 · rintro e w' ⟨β',q,obj,_,rfl,_,_,_,g⟩
   exact ⟨[],(fun _ h=>by cases h),by rw [SV.den_congr (q:=fun _=>false) (fun k hk=>by cases hk) res hr],trivial,g.bel⟩
abbrev fvV (f:Nat):SV:=.one (.c (.f (.func f) [] []))
abbrev CIT:TypeId:=112
abbrev rwV:SV:=.one (.c (.b (.y 0 8 2)))
noncomputable def ckQ:Cp→List (Ev Tryz.prog)
 | .ok r h=>[(sCCheck h).e,(sMtOf h.fit).e,.app appF]
 | .no _ _ _ _ h=>[(sCkNo h).e]
theorem open2no_ok (p q:Cp) (h:(p.B&&q.B)=false) (β:Env) (w:World) (hh:(Ob.box (oq2L p q) CIT).holds β w (β 0)) :
  Calls Tryz.prog 272 (oc2A.map (SV.den β)).toArray w fun e w'=>e=.returned (.tuple #[.slice none 0 0,.int .i64 2])∧Below w.heap.size w w':=by
 cases p with
 | no a b b' c hp=>cases q with
  | no a2 b2 b2' c2 hq=>exact bspec_ok (ckQ (.no a b b' c hp)) [] 800 Tryz.func272 hmA (fun β=>by kernel_rfl) (by kernel_rfl) (fun β=>rfl) β w hh
  | ok s hs=>exact bspec_ok (ckQ (.no a b b' c hp)) [] 800 Tryz.func272 hmA (fun β=>by kernel_rfl) (by kernel_rfl) (fun β=>rfl) β w hh
 | ok r hr=>cases q with
  | ok=>cases h
  | no a2 b2 b2' c2 hq=>exact bspec_ok (ckQ (.ok r hr)++ckQ (.no a2 b2 b2' c2 hq)) [] 800 Tryz.func272 hmA (fun β=>by kernel_rfl) (by kernel_rfl) (fun β=>rfl) β w hh
theorem oq2_cl (p q:Cp):((oq2L p q).all (Lf.of fun _=>false)&&(oc2A.all (SV.of fun k=>Nat.beq k 0)))=true:=by cases p<;>cases q<;>rfl
noncomputable def sOpen2No (p q:Cp) (h:(p.B&&q.B)=false):BSpec Tryz.prog :=
 ⟨272,Tryz.call272,oc2A,oq2L p q,CIT,.tuple #[.slice none 0 0,.int .i64 2],open2no_ok p q h,oq2_cl p q,fun _=>rfl⟩
abbrev tldA (f:Nat):List SV:=[fvV f,.one (.c (.b (.s 0 0 2 2)))]
abbrev cpS (p:Cp):SV:=.one (.a p.L)
section
variable (p q:Cp) (h:(p.B&&q.B)=false)
noncomputable def sMLiesNo:Spec Tryz.prog :=
 ⟨121,Tryz.call121,[cpS p,cpS q],[],.tup [nI' 0,nI' 2],[],fun β w hh=>by
  cases p<;>cases q<;>exact spec_auto (evs:=[(sOpen2No _ _ h).e]) (Ns:=[(5,10)]) (m:=400) Tryz.func121 hmA (fun β=>by kernel_rfl) (by kernel_rfl) β w hh,by cases p<;>cases q<;>kernel_rfl⟩
end
theorem MayC.szh {r:RQ} (h:MayC r):RSz KH r:=(show RSz 1024 r from ⟨h.fit.1.sz,h.fit.2.1.gsz,h.fit.2.2.sz⟩).mono (by decide)
theorem MayC.ff {r:RQ} (h:MayC r):fpr r r≠0:=by
 intro e
 have:=of_decide_eq_false h.pow
 rw [← rpow_fpr,e] at this
 exact this (by decide)
section
variable {f g:RQ} (hf:MayC f) (hg:MayC g)
noncomputable def rd2E (f g:RQ):List (Ev Tryz.prog):=[dIdxF (fr2 f g),dForm (fr2 f g)]
include hf hg in
theorem ffgg:fpr f f*fpr g g≠0:=fun e=>(Rat.mul_eq_zero.1 e).elim hf.ff hg.ff
noncomputable def sSq1:Spec Tryz.prog :=
 Spec.auto Tryz.call287 [rwV] [rowT FRT (fr2 f g)] (.tup [.c (.b (.z 1 0)),nI' 0]) [ratT (fsq f g)] (rd2E f g++rd2E f g++[(sMtSq (hf.szh.mono (by decide)) (hg.szh.mono (by decide)) (ffgg hf hg)).e]) [(1,9)] 400 Tryz.func287 hmA (by kernel_rfl) (fun β=>by kernel_rfl)
noncomputable def sMTldS:CSpec Tryz.prog :=
 ⟨286,Tryz.call286,tldA 287,oc2L f g,CIT,.tup [.a (fA (fsq f g)),nI' (ansK (fsq f g))],[],fun β w hh =>
  cspec0 [(sOpen2 hf hg).e,(sSq1 hf hg).e,(sFrac ((fsq_sz hf.szh hg.szh (ffgg hf hg)).mono (by decide))).e] [] 800 Tryz.func286 hmA (fun β=>by kernel_rfl) (by kernel_rfl) (by kernel_rfl) β w hh,by kernel_rfl⟩
noncomputable def sMSq:Spec Tryz.prog :=
 Spec.auto Tryz.call120 [frS f,frS g] [] (.tup [.a (fA (fsq f g)),nI' (ansK (fsq f g))]) [] [(sMTldS hf hg).e] [] 400 Tryz.func120 hmA (by kernel_rfl) (fun β=>by kernel_rfl)
noncomputable def liE (hf:MayC f) (hg:MayC g) {c:Int} (hc:cmpQ (fsq f g) one1=c):List (Ev Tryz.prog) :=
 [(sOpen2 hf hg).e]++rd2E f g++rd2E f g++[(sMtSq (hf.szh.mono (by decide)) (hg.szh.mono (by decide)) (ffgg hf hg)).e,(sMtNum 1).e,nCmp ((fsq_sz hf.szh hg.szh (ffgg hf hg)).mono (by decide)) (one_sz.mono (by decide)) hc]
theorem fsq_self {f:RQ} (h:fpr f f≠0):fsq f f=one1:=by
 have h1:one1=1:=of_decide_eq_true (by kernel_rfl:decide (one1=1)=true)
 rw [h1,fsq,Rat.div_def,Rat.mul_inv_cancel _ (fun e=>(Rat.mul_eq_zero.1 e).elim h h)]
noncomputable def sMLies {s:Bool} (hs:eqRone f g=s) {c:Int} (hc:cmpQ (fsq f g) one1=c):Spec Tryz.prog :=
 ⟨121,Tryz.call121,[frS f,frS g],[],.tup [nI' (lieK s c),nI' 0],[],fun β w hh=>by
  have hk:s=true→c=0:=fun e=>by
   rw [e] at hs
   have hfg:=eqRone_iff.1 hs
   subst hfg
   rw [← hc,fsq_self hf.ff]
   exact cmp_self _
  rcases cmpQ_cases (fsq f g) one1 with h | h | h<;>rw [hc] at h
  · cases s with
    | true=>rw [hk rfl] at h; cases h
    | false=>subst h; exact spec_auto (evs:=liE hf hg hc) (Ns:=[(5,10)]) (m:=800) Tryz.func121 hmA (fun β=>by kernel_rfl) (by kernel_rfl) β w hh
  · subst h
    cases s<;>exact spec_auto (evs:=liE hf hg hc++[eqEvR f g hs]) (Ns:=[(5,10)]) (m:=800) Tryz.func121 hmA (fun β=>by kernel_rfl) (by kernel_rfl) β w hh
  · cases s with
    | true=>rw [hk rfl] at h; cases h
    | false=>subst h; exact spec_auto (evs:=liE hf hg hc) (Ns:=[(5,10)]) (m:=800) Tryz.func121 hmA (fun β=>by kernel_rfl) (by kernel_rfl) β w hh,by kernel_rfl⟩
def sgR (d:Nat) {x:Rat} {b:Bool} (h:decide (x=0)=b):List (Ev Tryz.prog):=[nSign (x:=x) rfl,.eqv d (.bool (x.num.sign==0)) (.bool b) (sign_lit h)]
theorem sgn_gt0 {x:Rat}:Value.bool (decide (0<x.num.sign))=.bool (!decide (x.num.sign≤0)):=by
 congr 1
 rw [Bool.eq_iff_iff]
 simp only [decide_eq_true_iff,Bool.not_eq_true',decide_eq_false_iff_not]
 omega
noncomputable def sAxBoth (h1:decide (f.a=0)=true) (h2:decide (g.a=0)=true):Spec Tryz.prog :=
 Spec.auto Tryz.call250 [rgV 0,rgV 4] (rgT f++rgT g) (.tup [nil4V,.c (.b (.v (.bool false)))]) [] (sgR 11 h1++sgR 16 h2) [(7,6),(8,7)] 800 Tryz.func250 hmA (by kernel_rfl) (fun β=>by kernel_rfl)
noncomputable def sAxOne (h1:decide (f.a=0)=true) (h2:decide (g.a=0)=false):Spec Tryz.prog :=
 Spec.auto Tryz.call250 [rgV 0,rgV 4] (rgT f++rgT g) (.tup [rgC 0,.c (.b (.v (.bool true)))]) [] (sgR 11 h1++sgR 16 h2++sgR 23 h1) [(7,6),(8,7)] 800 Tryz.func250 hmA (by kernel_rfl) (fun β=>by kernel_rfl)
noncomputable def sAxTwo (h1:decide (f.a=0)=false) (h2:decide (g.a=0)=true):Spec Tryz.prog :=
 Spec.auto Tryz.call250 [rgV 0,rgV 4] (rgT f++rgT g) (.tup [rgC 4,.c (.b (.v (.bool true)))]) [] (sgR 11 h1++sgR 23 h1++sgR 29 h2) [(7,6),(8,7)] 800 Tryz.func250 hmA (by kernel_rfl) (fun β=>by kernel_rfl)
include hf hg in
theorem axq_szK:RSz 5000 (axQ f g):=(pls_sz hf.szh hg.szh one_sz mone8).mono (by decide)
noncomputable def sAxNone (h1:decide (f.a=0)=false) (h2:decide (g.a=0)=false) {b:Bool} (hb:decide ((fpr (axQ f g) (axQ f g)).num.sign≤0)=b):Spec Tryz.prog :=
 Spec.auto Tryz.call250 [rgV 0,rgV 4] (rgT f++rgT g) (.tup [rgC 8,.c (.b (.v (.bool (!b))))]) (rgT (axQ f g))
  (sgR 11 h1++sgR 23 h1++sgR 29 h2++[(sMtNum 1).e,(sMtNum (-1)).e,(sMtPlus (hf.szh.mono (by decide)) (hg.szh.mono (by decide)) (one_sz.mono (by decide)) (mone8.mono (by decide))).e,(sMtProd ((axq_szK hf hg).mono (by decide)) ((axq_szK hf hg).mono (by decide))).e,
   nSign (x:=fpr (axQ f g) (axQ f g)) rfl,.eqv 41 (.bool (decide (0<(fpr (axQ f g) (axQ f g)).num.sign))) (.bool (!b)) (by rw [sgn_gt0,hb])]) [(7,6),(8,11006007)] 1200 Tryz.func250 hmA (by kernel_rfl) (fun β=>by kernel_rfl)
noncomputable def sAx1Both (h1:decide (f.a=0)=true) (h2:decide (g.a=0)=true):Spec Tryz.prog :=
 Spec.auto Tryz.call355 [rwV] [rowT FRT (fr2 f g)] (.tup [nil4V,.c (.b (.v (.bool false)))]) [] (rd2E f g++rd2E f g++[(sAxBoth h1 h2).e]) [(1,9)] 400 Tryz.func355 hmA (by kernel_rfl) (fun β=>by kernel_rfl)
noncomputable def sAx1One (h1:decide (f.a=0)=true) (h2:decide (g.a=0)=false):Spec Tryz.prog :=
 Spec.auto Tryz.call355 [rwV] [rowT FRT (fr2 f g)] (.tup [rgC 1,.c (.b (.v (.bool true)))]) (rgT f) (rd2E f g++rd2E f g++[(sAxOne h1 h2).e]) [(1,9)] 400 Tryz.func355 hmA (by kernel_rfl) (fun β=>by kernel_rfl)
noncomputable def sAx1Two (h1:decide (f.a=0)=false) (h2:decide (g.a=0)=true):Spec Tryz.prog :=
 Spec.auto Tryz.call355 [rwV] [rowT FRT (fr2 f g)] (.tup [rgC 1,.c (.b (.v (.bool true)))]) (rgT g) (rd2E f g++rd2E f g++[(sAxTwo h1 h2).e]) [(1,9)] 400 Tryz.func355 hmA (by kernel_rfl) (fun β=>by kernel_rfl)
noncomputable def sAx1None (h1:decide (f.a=0)=false) (h2:decide (g.a=0)=false) {b:Bool} (hb:decide ((fpr (axQ f g) (axQ f g)).num.sign≤0)=b):Spec Tryz.prog :=
 Spec.auto Tryz.call355 [rwV] [rowT FRT (fr2 f g)] (.tup [rgC 1,.c (.b (.v (.bool (!b))))]) (rgT (axQ f g)) (rd2E f g++rd2E f g++[(sAxNone hf hg h1 h2 hb).e]) [(1,9)] 400 Tryz.func355 hmA (by kernel_rfl) (fun β=>by kernel_rfl)
noncomputable def axP (f g:RQ):AxK→SV
 | .both=>.tup [.a c0C,nI' 7]
 | .one=>mxA f
 | .two=>mxA g
 | .none=>mxA (axQ f g)
noncomputable def sMadeAx {k:AxK} (hk:axAt f g k):CSpec Tryz.prog :=
 ⟨265,Tryz.call265,tldA 355,oc2L f g,CIT,axP f g k,[],fun β w hh=>by
  cases k with
  | both=>exact cspec0 [(sOpen2 hf hg).e,(sAx1Both hk.1 hk.2).e] [] 800 Tryz.func265 hmA (fun β=>by kernel_rfl) (by kernel_rfl) (by kernel_rfl) β w hh
  | one=>exact cspec0 [(sOpen2 hf hg).e,(sAx1One hk.1 hk.2).e,(sMtCircle (hf.szh.mono (by decide))).e] [] 800 Tryz.func265 hmA (fun β=>by kernel_rfl) (by kernel_rfl) (by kernel_rfl) β w hh
  | two=>exact cspec0 [(sOpen2 hf hg).e,(sAx1Two hk.1 hk.2).e,(sMtCircle (hg.szh.mono (by decide))).e] [] 800 Tryz.func265 hmA (fun β=>by kernel_rfl) (by kernel_rfl) (by kernel_rfl) β w hh
  | none =>
   have hr:decide ((fpr (axQ f g) (axQ f g)).num.sign≤0)=wtB (axQ f g):=by rw [rpow_fpr]; rfl
   cases hp:wtB (axQ f g) with
   | true =>
    show Calls _ _ _ _ fun e w'=>∃ xs:List Pl,_∧e=.returned ((mxA (axQ f g)).den (extE β 1 xs))∧_
    rw [mxA,(mx_no hp).1,(mx_no hp).2]
    exact cspec0 [(sOpen2 hf hg).e,(sAx1None hf hg hk.1 hk.2 (hr.trans hp)).e] [] 800 Tryz.func265 hmA (fun β=>by kernel_rfl) (by kernel_rfl) (by kernel_rfl) β w hh
   | false=>exact cspec0 [(sOpen2 hf hg).e,(sAx1None hf hg hk.1 hk.2 (hr.trans hp)).e,(sMtCircle ((axq_szK hf hg).mono (by decide))).e] [] 800 Tryz.func265 hmA (fun β=>by kernel_rfl) (by kernel_rfl) (by kernel_rfl) β w hh,by cases k<;>kernel_rfl⟩
noncomputable def sMAxis {k:AxK} (hk:axAt f g k):Spec Tryz.prog :=
 ⟨246,Tryz.call246,[frS f,frS g],[],axP f g k,[],fun β w hh=>by
  cases k<;>exact spec_auto (evs:=[(sMadeAx hf hg hk).e]) (Ns:=[]) (m:=400) Tryz.func246 hmA (fun β=>by kernel_rfl) (by kernel_rfl) β w hh,by cases k<;>kernel_rfl⟩
variable {s t:Rat} (hs:Fit s) (ht:Fit t)
abbrev PRT:TypeId:=149
end
end Go.Proofs.YtpccljaooghafaaGreat.Y
end
