/- OpnB, OpnD, OpnL, OpnR. -/
import Derived.Deep.Slices
import Derived.Test.YtmfedaakeeiolaaGreatTk22
set_option linter.unnecessarySimpa false
set_option linter.unusedVariables false
set_option linter.unusedSimpArgs false
section
namespace Go.Proofs.YtmfedaakeeiolaaGreat
open Go Go.ChangeShapes Go.WideShapes Go.ChangeAt Go.RowKit
theorem cellsOf_gauss:Tryz.prog.cellsOf 37=8:=by kernel_rfl
theorem cellsOf_point:Tryz.prog.cellsOf 52=9:=by kernel_rfl
theorem cellsOf_mob:Tryz.prog.cellsOf 39=33:=by kernel_rfl
theorem chunk {α:Type} (cs:List α) (a b:Nat):cs.drop a=(cs.drop a).take b++cs.drop (a+b):=by
 rw [← List.drop_drop,List.take_append_drop]
def R4.ok (x:R4):Prop:=x.s.size≤maxLen∧x.t.size≤maxLen
section
variable {H:Type} {enc:TypeId × Value→H} {w:World} {base:Nat} {spare:Nat→Bool} {held:Bool}
theorem trod_r4 {fuel:Nat} {cs:List Value} {x:DataW H × List MemPlace} (h:DataW.trod enc Tryz.prog w base spare held fuel 25 cs=some x):∃ r:R4,cs=r.V∧r.ok:=by
 obtain ⟨b,c,s,t,e,h1,h2⟩:=trod_frac h
 exact ⟨⟨b,s,c,t⟩,e,h1,h2⟩
set_option maxRecDepth 100000 in
theorem trod_gauss {fuel:Nat} {cs:List Value} {x:DataW H × List MemPlace} (h:DataW.trod enc Tryz.prog w base spare held fuel 37 cs=some x):∃ r s:R4,cs=r.V++s.V∧r.ok∧s.ok:=by
 obtain ⟨xs,n,rfl,_,hlen,hxl,hf⟩:=DataW.trod_struct Tryz.underlying37 h
 rw [cellsOf_gauss] at hlen
 have hx0:xs[0]?=some (xs[0]'(by rw [hxl]; decide)):=List.getElem?_eq_getElem _
 have hx1:xs[1]?=some (xs[1]'(by rw [hxl]; decide)):=List.getElem?_eq_getElem _
 have h0:DataW.trod enc Tryz.prog w base spare held n 25 ((cs.drop 0).take (Tryz.prog.cellsOf 25))=some _:=(hf 0 _ rfl).trans hx0
 have h1:DataW.trod enc Tryz.prog w base spare held n 25 ((cs.drop 4).take (Tryz.prog.cellsOf 25))=some _:=(hf 1 _ rfl).trans hx1
 rw [cellsOf_frac] at h0 h1
 obtain ⟨r,e0,k0⟩:=trod_r4 h0
 obtain ⟨s,e1,k1⟩:=trod_r4 h1
 refine ⟨r,s,?_,k0,k1⟩
 have:=chunk cs 0 4
 rw [e0,List.drop_zero] at this
 rw [this,chunk cs (0+4) 4,e1,List.drop_of_length_le (by omega),List.append_nil]
set_option maxRecDepth 100000 in
theorem trod_point {fuel:Nat} {cs:List Value} {x:DataW H × List MemPlace} (h:DataW.trod enc Tryz.prog w base spare held fuel 52 cs=some x):∃ (i:Bool) (r s:R4),cs=.bool i::(r.V++s.V)∧r.ok∧s.ok:=by
 obtain ⟨xs,n,rfl,_,hlen,hxl,hf⟩:=DataW.trod_struct Tryz.underlying52 h
 rw [cellsOf_point] at hlen
 have hx0:xs[0]?=some (xs[0]'(by rw [hxl]; decide)):=List.getElem?_eq_getElem _
 have hx1:xs[1]?=some (xs[1]'(by rw [hxl]; decide)):=List.getElem?_eq_getElem _
 have h0:DataW.trod enc Tryz.prog w base spare held n 4 ((cs.drop 0).take (Tryz.prog.cellsOf 4))=some _:=(hf 0 _ rfl).trans hx0
 have h1:DataW.trod enc Tryz.prog w base spare held n 37 ((cs.drop 1).take (Tryz.prog.cellsOf 37))=some _:=(hf 1 _ rfl).trans hx1
 rw [cellsOf_bool] at h0
 rw [cellsOf_gauss] at h1
 obtain ⟨r,s,e1,k1⟩:=trod_gauss h1
 have e3:cs.drop 1=r.V++s.V:=by
  have:=chunk cs 1 8
  rw [e1] at this
  rw [this,List.drop_of_length_le (show cs.length≤1+8 by omega),List.append_nil]
 have e2:cs=cs.take 1++(r.V++s.V):=by rw [← e3,List.take_append_drop]
 match hc:(cs.take 1),(show (cs.take 1).length=1 by rw [List.length_take]; omega) with
 | [a],_ =>
  rw [List.drop_zero,hc] at h0
  obtain ⟨i,e0,_⟩:=DataW.trod_bool Tryz.underlying4 h0
  refine ⟨i,r,s,?_,k1⟩
  rw [hc] at e2
  rw [e2]
  cases e0
  rfl
end
section
variable {H:Type} {enc:TypeId × Value→H} {w:World} {base:Nat} {spare:Nat→Bool} {held:Bool}
set_option maxRecDepth 100000 in
theorem trod_mob {fuel:Nat} {cs:List Value} {x:DataW H × List MemPlace} (h:DataW.trod enc Tryz.prog w base spare held fuel 39 cs=some x) :
  ∃ (a b c d e f g k:R4) (t:Bool),cs=a.V++b.V++c.V++d.V++e.V++f.V++g.V++k.V++[Value.bool t]∧a.ok∧b.ok∧c.ok∧d.ok∧e.ok∧f.ok∧g.ok∧k.ok:=by
 obtain ⟨xs,n,rfl,_,hlen,hxl,hf⟩:=DataW.trod_struct Tryz.underlying39 h
 rw [cellsOf_mob] at hlen
 have hx0:xs[0]?=some (xs[0]'(by rw [hxl]; decide)):=List.getElem?_eq_getElem _
 have hx1:xs[1]?=some (xs[1]'(by rw [hxl]; decide)):=List.getElem?_eq_getElem _
 have hx2:xs[2]?=some (xs[2]'(by rw [hxl]; decide)):=List.getElem?_eq_getElem _
 have hx3:xs[3]?=some (xs[3]'(by rw [hxl]; decide)):=List.getElem?_eq_getElem _
 have hx4:xs[4]?=some (xs[4]'(by rw [hxl]; decide)):=List.getElem?_eq_getElem _
 have h0:DataW.trod enc Tryz.prog w base spare held n 37 ((cs.drop 0).take (Tryz.prog.cellsOf 37))=some _:=(hf 0 _ rfl).trans hx0
 have h1:DataW.trod enc Tryz.prog w base spare held n 37 ((cs.drop 8).take (Tryz.prog.cellsOf 37))=some _:=(hf 1 _ rfl).trans hx1
 have h2:DataW.trod enc Tryz.prog w base spare held n 37 ((cs.drop 16).take (Tryz.prog.cellsOf 37))=some _:=(hf 2 _ rfl).trans hx2
 have h3:DataW.trod enc Tryz.prog w base spare held n 37 ((cs.drop 24).take (Tryz.prog.cellsOf 37))=some _:=(hf 3 _ rfl).trans hx3
 have h4:DataW.trod enc Tryz.prog w base spare held n 4 ((cs.drop 32).take (Tryz.prog.cellsOf 4))=some _:=(hf 4 _ rfl).trans hx4
 rw [cellsOf_gauss] at h0 h1 h2 h3
 rw [cellsOf_bool] at h4
 obtain ⟨a0,b0,e0,k0⟩:=trod_gauss h0
 obtain ⟨a1,b1,e1,k1⟩:=trod_gauss h1
 obtain ⟨a2,b2,e2,k2⟩:=trod_gauss h2
 obtain ⟨a3,b3,e3,k3⟩:=trod_gauss h3
 obtain ⟨t,e4⟩:∃ t,cs.drop 32=[Value.bool t]:=by
  match hc:(cs.drop 32),(show (cs.drop 32).length=1 by rw [List.length_drop]; omega) with
  | [a],_ =>
   rw [hc] at h4
   obtain ⟨i,e0,_⟩:=DataW.trod_bool Tryz.underlying4 h4
   refine ⟨i,?_⟩
   cases e0
   rfl
 refine ⟨a0,b0,a1,b1,a2,b2,a3,b3,t,?_,k0.1,k0.2,k1.1,k1.2,k2.1,k2.2,k3.1,k3.2⟩
 have c0:=chunk cs 0 8
 have c1:=chunk cs (0+8) 8
 have c2:=chunk cs (0+8+8) 8
 have c3:=chunk cs (0+8+8+8) 8
 rw [e3,show 0+8+8+8+8=32 by rfl,e4] at c3
 rw [e2,c3] at c2
 rw [e1,c2] at c1
 rw [e0,c1,List.drop_zero] at c0
 rw [c0]
 simp only [List.append_assoc]
set_option maxRecDepth 100000 in
theorem open_mob {r:Reach} {b0:Nat} {v:Value} {d:DataW H} {p:List MemPlace} (hv:Value.okWide Tryz.prog w r b0 39 v) (h:DataW.Trod enc Tryz.prog w base spare held 39 v d p) :
  ∃ (x0 y0 x1 y1 x2 y2 x3 y3:R4) (t:Bool),v=.agg (x0.V++y0.V++x1.V++y1.V++x2.V++y2.V++x3.V++y3.V++[Value.bool t]).toArray∧x0.ok∧y0.ok∧x1.ok∧y1.ok∧x2.ok∧y2.ok∧x3.ok∧y3.ok:=by
 obtain ⟨cs,rfl,hsz⟩:=okWide_struct Tryz.underlying39 hv
 obtain ⟨fuel,hf⟩:=h
 obtain ⟨l⟩:=cs
 obtain ⟨a,b,c,d,e,f,g,k,t,rfl,hh⟩:=trod_mob hf
 exact ⟨a,b,c,d,e,f,g,k,t,rfl,hh⟩
end
end Go.Proofs.YtmfedaakeeiolaaGreat
end
section
namespace Go.Proofs.YtmfedaakeeiolaaGreat
open Go.ChangeShapes Go.WideShapes Go.ChangeAt Go.RowKit
set_option maxRecDepth 100000
section
variable {H:Type} {enc:TypeId × Value→H} {w:World} {base:Nat} {spare:Nat→Bool} {held:Bool}
theorem cell_cells {a:Addr} {v:Value} (h:w.cell? a=some v):a.spot=none∧∃ cs t fr,w.heap[a.block]?=some (.cells cs t fr):=by
 unfold World.cell? at h
 split at h
 · rename_i c t fr hb
   split at h
   · cases h
   · rename_i hs
     exact ⟨by simpa using hs,c,t,fr,hb⟩
 · cases h
theorem open_rows {α:Type} {T e:TypeId} (hT:Tryz.prog.underlying T=some (.slice e)) {sz:Nat} (hc:Tryz.prog.cellsOf e=sz) (h2:0<sz) (Lq:α→List Y.Lf) (q0:α)
  (hel:∀ fuel cs x,DataW.trod enc Tryz.prog w base spare held fuel e cs=some x→∃ q,cs=(Lq q).map (Y.Lf.den Y.idE))
  {r:Reach} {b0:Nat} {v:Value} {d:DataW H} {p:List MemPlace} (hv:Value.okWide Tryz.prog w r b0 T v) (h:DataW.Trod enc Tryz.prog w base spare held T v d p) :
  ∃ (g:Y.Pl) (n:Nat) (Q:Nat→α),v=.slice (g.v 0) n (g.c 0)∧n≤maxLen∧Y.RwD sz n (fun j=>Lq (Q j)) w g:=by
 obtain ⟨a,len,cap,rfl⟩:=okWide_slice hT hv
 obtain ⟨fuel,hf⟩:=h
 have hf:DataW.trod enc Tryz.prog w base spare held fuel T [.slice a len cap]=some (d,p):=hf
 rcases Go.Deep.open_slice hT hf with ⟨e1,_⟩ | ⟨a',len',cap',m,n,D,Pl,e1,hb,hl,hm,hmm,_,hx⟩
 · simp only [List.cons.injEq,and_true,Value.slice.injEq] at e1
   obtain ⟨rfl,rfl,rfl⟩:=e1
   exact ⟨Y.nilPl,0,fun _=>q0,rfl,Nat.zero_le _,.inl ⟨rfl,fun c hc=>hc⟩⟩
 · simp only [List.cons.injEq,and_true,Value.slice.injEq] at e1
   obtain ⟨rfl,rfl,rfl⟩:=e1
   have hlm:len≤m:=by rw [hmm]; split<;>omega
   by_cases h0:len=0
   · subst h0
     exact ⟨⟨0,fun _=>some a',fun _=>cap,fun _=>False,fun _=>undef⟩,0,fun _=>q0,rfl,Nat.zero_le _,.inl ⟨rfl,fun c hc=>hc⟩⟩
   rw [hc] at hx
   have each:∀ i,i<len→∃ q,∀ j,j<sz→w.cell? (a'.add (i*sz+j))=((Lq q).map (Y.Lf.den Y.idE))[j]?∧((Lq q).map (Y.Lf.den Y.idE)).length=sz:=fun i hi=>by
    obtain ⟨cs',k1,k2⟩:=hx i (by omega)
    obtain ⟨q,hq⟩:=hel _ _ _ k2
    obtain ⟨_,k4,k5⟩:=World.cells?_some k1
    exact ⟨q,fun j hj=>⟨by rw [← Go.Deep.add_add,k5 j hj,hq],by rw [← hq]; exact k4⟩⟩
   haveI:Inhabited α:=⟨q0⟩
   obtain ⟨Q,hQ⟩:=Go.Deep.choose_lt each
   have hfst:∃ u,w.cell? a'=some u:=by
    have k:=hQ 0 (by omega) 0 h2
    have:(a'.add (0*sz+0))=a':=by simp [Addr.add]
    rw [this] at k
    rw [k.1]
    exact ⟨_,List.getElem?_eq_getElem (by rw [k.2]; exact h2)⟩
   obtain ⟨u,hu⟩:=hfst
   obtain ⟨hs,cs,t,fr,hcs⟩:=cell_cells hu
   obtain ⟨b,o,s⟩:=a'
   obtain rfl:s=none:=hs
   refine ⟨⟨b,fun m=>some ⟨b,o+m,none⟩,fun _=>cap,fun c=>c=b,fun _=>undef⟩,len,Q,rfl,by omega,.inr ⟨by omega,b,o,cs,t,fr,fun m=>rfl,fun c=>Iff.rfl,hcs,fun j hj i v hv=>?_⟩⟩
   have hi:i<sz:=by
    have h4:i<((Lq (Q j)).map (Y.Lf.den Y.idE)).length:=(List.getElem?_eq_some_iff.1 hv).1
    have h5:=(hQ j hj 0 h2).2
    omega
   have h6:=(hQ j hj i hi).1
   rw [Addr.add_mid] at h6
   rw [Nat.add_assoc,h6]
   exact hv
end
section
variable {H:Type} {enc:TypeId × Value→H} {w:World} {base:Nat} {spare:Nat→Bool} {held:Bool}
theorem cellsOf_pt:Tryz.prog.cellsOf 52=9:=by kernel_rfl
theorem open_pt_row {r:Reach} {b0:Nat} {v:Value} {d:DataW H} {p:List MemPlace} (hv:Value.okWide Tryz.prog w r b0 61 v) (h:DataW.Trod enc Tryz.prog w base spare held 61 v d p) :
  ∃ (g:Y.Pl) (n:Nat) (Q:Nat→Pp),v=.slice (g.v 0) n (g.c 0)∧n≤maxLen∧Y.RwD 9 n (fun j=>Y.lsX (Q j).w.C) w g:=by
 refine open_rows Tryz.underlying61 cellsOf_pt (by decide) (fun q:Pp=>Y.lsX q.w.C) .inf (fun fuel cs x hx=>?_) hv h
 obtain ⟨i,a,b,rfl,ha,hb⟩:=trod_point hx
 obtain ⟨q,e⟩:=pp_of ⟨i,a,b⟩ ⟨ha,hb⟩
 refine ⟨q,?_⟩
 rw [e]
 rfl
end
end Go.Proofs.YtmfedaakeeiolaaGreat
end
