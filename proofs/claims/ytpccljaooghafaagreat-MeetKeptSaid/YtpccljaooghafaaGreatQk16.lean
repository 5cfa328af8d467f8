/- MwL, MwW, Open, OpnB, OpnM, OpnT, OpnD. -/
import Derived.ProofKit
import Derived.OpenShut
import Derived.ShutString
import Derived.ChangeOld
import Derived.Below
import Derived.Test.YtpccljaooghafaaGreatQk15
set_option linter.unnecessarySimpa false
set_option linter.unusedVariables false
set_option linter.unusedSimpArgs false
section
namespace Go.Proofs.YtpccljaooghafaaGreat.Y
open Go Go.RowKit
set_option maxRecDepth 100000
abbrev lkA (p q r:Cp) (a b c d:Gn) (t:Bool):List SV:=[.one (.a (c4 p++c4 q++c4 r)),mgS a b c d t]
abbrev lkN:List (Nat × Nat):=[(1,4010003009011)]
def Z0 (a b c d:Gn):Bool:=smB 12 a.x a.y&&(smB 12 b.x b.y&&(smB 12 c.x c.y&&smB 12 d.x d.y))
noncomputable def lk1 (p q r:Cp) (a b c d:Gn) (t:Bool) (h:fewB3 p q r=false):Spec Tryz.prog :=
 Spec.auto Tryz.call13 (lkA p q r a b c d t) [] (tB' true) [] [sKnown13.e,(sFew3 p q r h).e] lkN 2000 Tryz.func13 hmA (by kernel_rfl) (fun β=>by kernel_rfl)
noncomputable def lk2 (p q r:Cp) (a b c d:Gn) (t:Bool) (h:fewB3 p q r=true) (k:CkV a b c d t 2):Spec Tryz.prog :=
 Spec.auto Tryz.call13 (lkA p q r a b c d t) [] (tB' true) [] [sKnown13.e,(sFew3 p q r h).e,(sR8Ck k).e] lkN 2000 Tryz.func13 hmA (by kernel_rfl) (fun β=>by kernel_rfl)
noncomputable def lk3 (p q r:Cp) (a b c d:Gn) (t:Bool) (h:fewB3 p q r=true) (k:CkV a b c d t 0) (n:Z0 a b c d=false):Spec Tryz.prog :=
 Spec.auto Tryz.call13 (lkA p q r a b c d t) [] (tB' true) [] [sKnown13.e,(sFew3 p q r h).e,(sR8Ck k).e,(sR4Small4 12 a.x a.y b.x b.y c.x c.y d.x d.y n).e] lkN 2000 Tryz.func13 hmA (by kernel_rfl) (fun β=>by kernel_rfl)
def Z1 (x:Rat):Ev Tryz.prog:=eqEvF (fR x) (fR x) true (R4.eq_iff.2 rfl)
abbrev okF (x:Rat):SV:=.tup [.a (fC x),nI' 0]
theorem Z2 {x y:Rat} (e:x=y) (h:Fit y):SV.tup [.a (fA x),nI' (ansK x)]=okF y:=by
 rw [e,(fA_fit h).1,(fA_fit h).2]
structure LkD (f g h:RQ) (m:MQ):Prop where
 hf:MayC f
 hg:MayC g
 hh:MayC h
 hm:MayQ m
 fw:fewB3 (.ok f hf) (.ok g hg) (.ok h hh)=true
 ck:CkV (.ok m.a hm.1.1) (.ok m.b hm.1.2.1) (.ok m.c hm.1.2.2.1) (.ok m.d hm.1.2.2.2) m.t 0
 sm:Z0 (.ok m.a hm.1.1) (.ok m.b hm.1.2.1) (.ok m.c hm.1.2.2.1) (.ok m.d hm.1.2.2.2)=true
 sf:RSz 14 f
 sg:RSz 14 g
 sM:MSz 12 m
 h0:gzero (bif gzero (mconj (mundo0 m) m.t).c then (mconj (mundo0 m) m.t).d else (mconj (mundo0 m) m.t).c)=false
 fq:Fit (fsq f g)
section
variable {f g h:RQ} {m:MQ} (D:LkD f g h m)
abbrev bM (m:MQ):Bool:=gzero (mconj (mundo0 m) m.t).c
abbrev iM (r:RQ) (m:MQ):RQ:=rone (imX0 r m (bM m))
include D in
theorem Z3:MayC (iM f m)∧MayC (iM g m):=⟨im_may D.hf D.sf D.sM D.hm.2.1 D.h0,im_may D.hg D.sg D.sM D.hm.2.1 D.h0⟩
include D in
theorem Z4:fsq (iM f m) (iM g m)=fsq f g∧fsq (iM g m) (iM f m)=fsq f g:=by
 have hd:=dt_un D.hm.2.1 D.h0
 have hne:dtN (unQ m (bM m))≠0:=by intro e; rw [e] at hd; exact absurd hd (by decide)
 have k:=fsq_of (f:=f) (g:=g) (f':=imX0 f m (bM m)) (g':=imX0 g m (bM m)) hne (mul_ne D.hf.ff D.hg.ff) (im_fpr ..) (im_fpr ..) (im_fpr ..)
 have y1:=rby_ne (wt_pos (im_pos D.hf D.hm.2.1 D.h0))
 have y2:=rby_ne (wt_pos (im_pos D.hg D.hm.2.1 D.h0))
 have e:fsq (iM f m) (iM g m)=fsq f g:=(fsq_rnm _ _ y1 y2 k.2).trans k.1
 exact ⟨e,by rw [fsq_comm]; exact e⟩
include D in
theorem Z5 {s:Bool} (hs:eqRone f g=s):eqRone (iM g m) (iM f m)=s:=by
 have hd:=dt_un D.hm.2.1 D.h0
 have y1:=rby_ne (wt_pos (im_pos D.hf D.hm.2.1 D.h0))
 have y2:=rby_ne (wt_pos (im_pos D.hg D.hm.2.1 D.h0))
 cases s with
 | true=>rw [eqRone_iff.1 hs]; exact eqRone_iff.2 rfl
 | false =>
  cases e:eqRone (iM g m) (iM f m) with
  | false=>rfl
  | true =>
   have:=im_inj D.hg D.hf hd y2 y1 (eqRone_iff.1 e)
   rw [eqRone_iff.2 this.symm] at hs
   cases hs
abbrev oM (k f:RQ):RQ:=rone (ovQ k f)
theorem Z6 {k f:RQ} (hk:MayC k) (hf:MayC f):wtB (ovQ k f)=false:=by
 unfold wtB
 rw [ov_pow hk.ff]
 exact hf.pow
end
section
variable {f g h:RQ} {m:MQ} (D:LkD f g h m) (sh:RSz 14 h)
include D sh in
theorem Z7:MayC (oM h f)∧MayC (oM h g):=⟨may_rone (ov14 sh D.sf D.hh.ff) (Z6 D.hh D.hf),may_rone (ov14 sh D.sg D.hh.ff) (Z6 D.hh D.hg)⟩
include D in
theorem Z8:fsq (oM h f) (oM h g)=fsq f g:=by
 have k:=fsq_of (f:=f) (g:=g) (f':=ovQ h f) (g':=ovQ h g) (d:=1) (by decide) (mul_ne D.hf.ff D.hg.ff) (ov_fpr D.hh.ff) (ov_fpr D.hh.ff) (ov_fpr D.hh.ff)
 exact (fsq_rnm _ _ (rby_ne (Z6 D.hh D.hf)) (rby_ne (Z6 D.hh D.hg)) k.2).trans k.1
abbrev lkP (D:LkD f g h m):List SV:=lkA (.ok f D.hf) (.ok g D.hg) (.ok h D.hh) (.ok m.a D.hm.1.1) (.ok m.b D.hm.1.2.1) (.ok m.c D.hm.1.2.2.1) (.ok m.d D.hm.1.2.2.2) m.t
noncomputable def lkE {s:Bool} (hs:eqRone f g=s) {c:Int} (hc:cmpQ (fsq f g) one1=c) (S:Ev Tryz.prog):List (Ev Tryz.prog) :=
 [sKnown13.e,(sFew3 (.ok f D.hf) (.ok g D.hg) (.ok h D.hh) D.fw).e,(sR8Ck D.ck).e,(sR4Small4 12 (fR m.a.re) (fR m.a.im) (fR m.b.re) (fR m.b.im) (fR m.c.re) (fR m.c.im) (fR m.d.re) (fR m.d.im) D.sm).e,
  ((sMSq D.hf D.hg).conv (okF (fsq f g)) (Z2 rfl D.fq)).e,((sMSq D.hg D.hf).conv (okF (fsq f g)) (Z2 (fsq_comm g f) D.fq)).e,(sMLies D.hf D.hg hs hc).e,
  (sCImg D.hf D.sf D.hm D.sM rfl D.h0).e,(sCImg D.hg D.sg D.hm D.sM rfl D.h0).e,(sNum13 0).e,(sNum13 0).e,(sNum13 0).e,(sNum13 0).e,(sNum13 0).e,Z1 (fsq f g),
  ((sMSq (Z3 D).1 (Z3 D).2).conv (okF (fsq f g)) (Z2 (Z4 D).1 D.fq)).e,(sMLies (Z3 D).2 (Z3 D).1 (Z5 D hs) ((congrArg (fun x=>cmpQ x one1) (Z4 D).2).trans hc)).e,
  ((sMOver D.hh D.hf).conv (okC (oM h f)) (mx_eq (Z6 D.hh D.hf) rfl (Z7 D sh).1.fit)).e,((sMOver D.hh D.hg).conv (okC (oM h g)) (mx_eq (Z6 D.hh D.hg) rfl (Z7 D sh).2.fit)).e,
  ((sMSq (Z7 D sh).1 (Z7 D sh).2).conv (okF (fsq f g)) (Z2 (Z8 D) D.fq)).e,(sNum13 0).e,(sNum13 0).e,(sNum13 0).e,(sNum13 0).e,(sNum13 0).e,Z1 (fsq f g),Z1 (fsq f g),S]
abbrev LkG (D:LkD f g h m):Prop:=∀ (β:Env) (w:World),Calls Tryz.prog 13 ((lkP D).map (SV.den β)).toArray w fun e w'=>∃ xs:List Pl,freshS β w 0 xs∧e=.returned ((tB' true).den (extE β 0 xs))∧newHold w' [] xs∧Below w.heap.size w w'
include sh in
theorem Z9 {c:Int} (hs:eqRone f g=true) (hc:cmpQ (fsq f g) one1=c) (S:ShT f g 0):LkG D:=fun β w =>
 spec_auto (evs:=lkE D sh hs hc (sSh S).e) (Ns:=lkN) (m:=2000) Tryz.func13 hmA (fun β=>by kernel_rfl) (by kernel_rfl) β w (sh_no β w)
include sh in
theorem Za (hs:eqRone f g=false) (hc:cmpQ (fsq f g) one1 = -1) (S:ShT f g 2):LkG D:=fun β w =>
 spec_auto (evs:=lkE D sh hs hc (sSh S).e) (Ns:=lkN) (m:=2000) Tryz.func13 hmA (fun β=>by kernel_rfl) (by kernel_rfl) β w (sh_no β w)
include sh in
theorem Zb (hs:eqRone f g=false) (hc:cmpQ (fsq f g) one1=0) (S:ShT f g 1):LkG D:=fun β w =>
 spec_auto (evs:=lkE D sh hs hc (sSh S).e) (Ns:=lkN) (m:=2000) Tryz.func13 hmA (fun β=>by kernel_rfl) (by kernel_rfl) β w (sh_no β w)
include sh in
theorem Zc (hs:eqRone f g=false) (hc:cmpQ (fsq f g) one1=1) (S:ShT f g 3):LkG D:=fun β w =>
 spec_auto (evs:=lkE D sh hs hc (sSh S).e) (Ns:=lkN) (m:=2000) Tryz.func13 hmA (fun β=>by kernel_rfl) (by kernel_rfl) β w (sh_no β w)
end
theorem Zd {m:MQ} (hd:gzero (mdet m)=false):gzero (bif gzero (mconj (mundo0 m) m.t).c then (mconj (mundo0 m) m.t).d else (mconj (mundo0 m) m.t).c)=false:=by
 cases e:gzero (mconj (mundo0 m) m.t).c with
 | false=>exact e
 | true =>
  show gzero (mconj (mundo0 m) m.t).d=false
  cases e2:gzero (mconj (mundo0 m) m.t).d with
  | false=>rfl
  | true =>
   exfalso
   have h1:=gzero_iff.1 e
   have h2:=gzero_iff.1 e2
   have hz:gzero (mdet m)=true:=by
    rw [gzero_iff]
    obtain ⟨⟨ax,ay⟩,⟨bx,by'⟩,⟨cx,cy⟩,⟨dx,dy⟩,nt⟩:=m
    cases nt<;>(simp only [mconj,mundo0,gneg,gconj,cond_true,cond_false] at h1 h2; simp only [mdet,gsub,gmul]; constructor<;>grind)
   rw [hz] at hd
   cases hd
theorem Ze {f g:RQ} (hf:RSz 14 f) (hg:RSz 14 g) (h0:fpr f f*fpr g g≠0):Fit (fsq f g):=(fsq_sz hf hg h0).fit (by decide)
theorem Zf {f:RQ} (hf:MayC f) (h:sm14 (.ok f hf)=true):RSz 14 f:=by
 have h2:smB 14 (fR f.a) (fR f.c)=true∧smB 14 (fR f.b.re) (fR f.b.im)=true:=by
  have:=h
  unfold sm14 at this
  rw [Bool.and_eq_true] at this
  exact this
 obtain ⟨a,c⟩:=mpSmB_sz h2.1
 exact ⟨a,mpSmB_sz h2.2,c⟩
theorem Zg {a b c d:GQ} (ha:FitG a) (hb:FitG b) (hc:FitG c) (hd:FitG d) (t:Bool) (h:Z0 (.ok a ha) (.ok b hb) (.ok c hc) (.ok d hd)=true):MSz 12 ⟨a,b,c,d,t⟩:=by
 have h2:smB 12 (fR a.re) (fR a.im)=true∧smB 12 (fR b.re) (fR b.im)=true∧smB 12 (fR c.re) (fR c.im)=true∧smB 12 (fR d.re) (fR d.im)=true:=by
  have:=h
  unfold Z0 at this
  rw [Bool.and_eq_true,Bool.and_eq_true,Bool.and_eq_true] at this
  exact this
 exact ⟨mpSmB_sz h2.1,mpSmB_sz h2.2.1,mpSmB_sz h2.2.2.1,mpSmB_sz h2.2.2.2⟩
theorem Zh {f g h:RQ} {m:MQ} (D:LkD f g h m) (sh:RSz 14 h):LkG D:=by
 have s60:=D.sf.mono (show 14≤60 by decide)
 have t60:=D.sg.mono (show 14≤60 by decide)
 cases hs:eqRone f g with
 | true=>exact Z9 D sh hs rfl (sh_same (sPtsSame D.hf D.hg hs rfl).ok)
 | false =>
  rcases cmpQ_cases (fsq f g) one1 with hc | hc | hc
  · rcases pts_cross D.hf D.hg s60 t60 hs hc with p | p | ⟨A,B,⟨⟨fA,oA⟩,⟨fB,oB⟩,ho⟩,p⟩
    · exact Za D sh hs hc (sh_c230 p)
    · exact Za D sh hs hc (sh_c4 p)
    · exact Za D sh hs hc (sh_two D.hf D.hg fA oA fB oB ho p)
  · rcases pts_touch D.hf D.hg s60 t60 hs hc with p | ⟨A,⟨fA,oA⟩,p⟩
    · exact Zb D sh hs hc (sh_t4 p)
    · exact Zb D sh hs hc (sh_one D.hf D.hg fA oA p)
  · exact Zc D sh hs hc (sh_apart (sPtsApart D.hf D.hg hs hc).ok)
theorem _root_.Go.Proofs.YtpccljaooghafaaGreat.MeetKept_walk (p q r:Cp) (x0 y0 x1 y1 x2 y2 x3 y3:R4) (t:Bool) (hx0:x0.s.size≤maxLen∧x0.t.size≤maxLen) (hy0:y0.s.size≤maxLen∧y0.t.size≤maxLen) (hx1:x1.s.size≤maxLen∧x1.t.size≤maxLen) (hy1:y1.s.size≤maxLen∧y1.t.size≤maxLen) (hx2:x2.s.size≤maxLen∧x2.t.size≤maxLen) (hy2:y2.s.size≤maxLen∧y2.t.size≤maxLen) (hx3:x3.s.size≤maxLen∧x3.t.size≤maxLen) (hy3:y3.s.size≤maxLen∧y3.t.size≤maxLen) (W:World) :
  Calls Tryz.prog 13 #[.agg ((p.a.V++p.b.V++p.b'.V++p.c.V)++(q.a.V++q.b.V++q.b'.V++q.c.V)++(r.a.V++r.b.V++r.b'.V++r.c.V)).toArray,.agg (x0.V++y0.V++x1.V++y1.V++x2.V++y2.V++x3.V++y3.V++[Value.bool t]).toArray] W fun e W'=>e=.returned (.bool true)∧Below W.heap.size W W':=by
 obtain ⟨a,rfl,rfl⟩:=gn_of x0 y0 hx0 hy0
 obtain ⟨b,rfl,rfl⟩:=gn_of x1 y1 hx1 hy1
 obtain ⟨c,rfl,rfl⟩:=gn_of x2 y2 hx2 hy2
 obtain ⟨d,rfl,rfl⟩:=gn_of x3 y3 hx3 hy3
 cases h:fewB3 p q r with
 | false=>exact spec_yes (lk1 p q r a b c d t h) rfl rfl W
 | true =>
  cases n:(a.B&&(b.B&&(c.B&&d.B))) with
  | false=>exact spec_yes (lk2 p q r a b c d t h (ck_no n)) rfl rfl W
  | true =>
   rw [Bool.and_eq_true,Bool.and_eq_true,Bool.and_eq_true] at n
   obtain ⟨n1,n2,n3,n4⟩:=n
   cases a with
   | no g0 e0=>cases n1
   | ok z1 f1=>cases b with
    | no g0 e0=>cases n2
    | ok z2 f2=>cases c with
     | no g0 e0=>cases n3
     | ok z3 f3=>cases d with
      | no g0 e0=>cases n4
      | ok z4 f4 =>
       rcases ck_q ⟨z1,z2,z3,z4,t⟩ ⟨f1,f2,f3,f4⟩ with ⟨hm,k⟩ | k
       · cases s:Z0 (.ok z1 f1) (.ok z2 f2) (.ok z3 f3) (.ok z4 f4) with
         | false=>exact spec_yes (lk3 p q r (.ok z1 f1) (.ok z2 f2) (.ok z3 f3) (.ok z4 f4) t h k s) rfl rfl W
         | true =>
          have h':=h
          unfold fewB3 at h'
          rw [Bool.and_eq_true,Bool.and_eq_true,Bool.and_eq_true,Bool.and_eq_true,Bool.and_eq_true] at h'
          obtain ⟨⟨w1,w2,w3⟩,b1,b2,b3⟩:=h'
          cases p with
          | no=>cases b1
          | ok f hf=>cases q with
           | no=>cases b2
           | ok g hg=>cases r with
            | no=>cases b3
            | ok hq hh =>
             have sf:=Zf hf w1
             have sg:=Zf hg w2
             have sh:=Zf hh w3
             have D:LkD f g hq ⟨z1,z2,z3,z4,t⟩:=⟨hf,hg,hh,hm,h,k,s,sf,sg,Zg f1 f2 f3 f4 t s,Zd hm.2.1,Ze sf sg (mul_ne hf.ff hg.ff)⟩
             refine (Zh D sh idE W).mono ?_
             rintro e w' ⟨xs,_,h2,_,h4⟩
             exact ⟨h2,h4⟩
       · exact spec_yes (lk2 p q r (.ok z1 f1) (.ok z2 f2) (.ok z3 f3) (.ok z4 f4) t h k) rfl rfl W
end Go.Proofs.YtpccljaooghafaaGreat.Y
end
section
namespace Go.Proofs.YtpccljaooghafaaGreat
open Go.ChangeShapes Go.WideShapes Go.ChangeAt Go.RowKit
theorem Zi:Tryz.prog.cellsOf 4=1:=by kernel_rfl
theorem Zj:Tryz.prog.cellsOf 9=1:=by kernel_rfl
theorem Zk:Tryz.prog.cellsOf 23=2:=by kernel_rfl
theorem Zl:Tryz.prog.cellsOf 25=4:=by kernel_rfl
section
variable {H:Type} {enc:TypeId × Value→H} {w:World} {base:Nat} {spare:Nat→Bool} {held:Bool}
set_option maxRecDepth 100000 in
theorem Zm {fuel:Nat} {cs:List Value} {x:DataW H × List MemPlace} (h:DataW.trod enc Tryz.prog w base spare held fuel 23 cs=some x) :
  ∃ (b:Bool) (s:ByteArray),cs=[.bool b,.string s]∧s.size≤maxLen:=by
 obtain ⟨xs,n,rfl,_,hlen,hxl,hf⟩:=DataW.trod_struct Tryz.underlying23 h
 rw [Zk] at hlen
 have hx0:xs[0]?=some (xs[0]'(by rw [hxl]; decide)):=List.getElem?_eq_getElem _
 have hx1:xs[1]?=some (xs[1]'(by rw [hxl]; decide)):=List.getElem?_eq_getElem _
 have h0:DataW.trod enc Tryz.prog w base spare held n 4 ((cs.drop 0).take (Tryz.prog.cellsOf 4))=some _:=(hf 0 _ rfl).trans hx0
 have h1:DataW.trod enc Tryz.prog w base spare held n 9 ((cs.drop 1).take (Tryz.prog.cellsOf 9))=some _:=(hf 1 _ rfl).trans hx1
 rw [Zi] at h0
 rw [Zj] at h1
 match cs,hlen with
 | [a,b],_ =>
  obtain ⟨p,e0,_⟩:=DataW.trod_bool Tryz.underlying4 h0
  obtain ⟨s,e1,_,hs⟩:=DataW.trod_string Tryz.underlying9 h1
  cases e0
  cases e1
  exact ⟨p,s,rfl,hs⟩
set_option maxRecDepth 100000 in
theorem Zn {fuel:Nat} {cs:List Value} {x:DataW H × List MemPlace} (h:DataW.trod enc Tryz.prog w base spare held fuel 25 cs=some x) :
  ∃ (b c:Bool) (s t:ByteArray),cs=[.bool b,.string s,.bool c,.string t]∧s.size≤maxLen∧t.size≤maxLen:=by
 obtain ⟨xs,n,rfl,_,hlen,hxl,hf⟩:=DataW.trod_struct Tryz.underlying25 h
 rw [Zl] at hlen
 have hx0:xs[0]?=some (xs[0]'(by rw [hxl]; decide)):=List.getElem?_eq_getElem _
 have hx1:xs[1]?=some (xs[1]'(by rw [hxl]; decide)):=List.getElem?_eq_getElem _
 have h0:DataW.trod enc Tryz.prog w base spare held n 23 ((cs.drop 0).take (Tryz.prog.cellsOf 23))=some _:=(hf 0 _ rfl).trans hx0
 have h1:DataW.trod enc Tryz.prog w base spare held n 23 ((cs.drop 2).take (Tryz.prog.cellsOf 23))=some _:=(hf 1 _ rfl).trans hx1
 rw [Zk] at h0 h1
 match cs,hlen with
 | [a,b,c,d],_ =>
  obtain ⟨p,s,e0,hs⟩:=Zm h0
  obtain ⟨q,t,e1,ht⟩:=Zm h1
  cases e0
  cases e1
  exact ⟨p,q,s,t,rfl,hs,ht⟩
end
end Go.Proofs.YtpccljaooghafaaGreat
end
section
namespace Go.Proofs.YtpccljaooghafaaGreat
open Go Go.ChangeShapes Go.WideShapes Go.ChangeAt Go.RowKit
theorem Zo:Tryz.prog.cellsOf 49=8:=by kernel_rfl
theorem Zp:Tryz.prog.cellsOf 78=33:=by kernel_rfl
theorem Zq {P:Program} {w:World} {r:Reach} {base:Nat} {t e:TypeId} {v:Value} {n:Nat} (ht:P.underlying t=some (.array n e)) (h:Value.okWide P w r base t v):∃ cs,v=.agg cs∧cs.size=P.cellsOf t:=by
 simp only [Value.okWide,ht] at h
 obtain ⟨cs,h1,h2,_⟩:=h
 exact ⟨cs,h1,h2⟩
theorem Zr {α:Type} (cs:List α) (a b:Nat):cs.drop a=(cs.drop a).take b++cs.drop (a+b):=by
 rw [← List.drop_drop,List.take_append_drop]
def R4.ok (x:R4):Prop:=x.s.size≤maxLen∧x.t.size≤maxLen
section
variable {H:Type} {enc:TypeId × Value→H} {w:World} {base:Nat} {spare:Nat→Bool} {held:Bool}
theorem Zs {fuel:Nat} {cs:List Value} {x:DataW H × List MemPlace} (h:DataW.trod enc Tryz.prog w base spare held fuel 25 cs=some x):∃ r:R4,cs=r.V∧r.ok:=by
 obtain ⟨b,c,s,t,e,h1,h2⟩:=Zn h
 exact ⟨⟨b,s,c,t⟩,e,h1,h2⟩
set_option maxRecDepth 100000 in
theorem Zt {fuel:Nat} {cs:List Value} {x:DataW H × List MemPlace} (h:DataW.trod enc Tryz.prog w base spare held fuel 49 cs=some x):∃ r s:R4,cs=r.V++s.V∧r.ok∧s.ok:=by
 obtain ⟨xs,n,rfl,_,hlen,hxl,hf⟩:=DataW.trod_struct Tryz.underlying49 h
 rw [Zo] at hlen
 have hx0:xs[0]?=some (xs[0]'(by rw [hxl]; decide)):=List.getElem?_eq_getElem _
 have hx1:xs[1]?=some (xs[1]'(by rw [hxl]; decide)):=List.getElem?_eq_getElem _
 have h0:DataW.trod enc Tryz.prog w base spare held n 25 ((cs.drop 0).take (Tryz.prog.cellsOf 25))=some _:=(hf 0 _ rfl).trans hx0
 have h1:DataW.trod enc Tryz.prog w base spare held n 25 ((cs.drop 4).take (Tryz.prog.cellsOf 25))=some _:=(hf 1 _ rfl).trans hx1
 rw [Zl] at h0 h1
 obtain ⟨r,e0,k0⟩:=Zs h0
 obtain ⟨s,e1,k1⟩:=Zs h1
 refine ⟨r,s,?_,k0,k1⟩
 have:=Zr cs 0 4
 rw [e0,List.drop_zero] at this
 rw [this,Zr cs (0+4) 4,e1,List.drop_of_length_le (by omega),List.append_nil]
end
end Go.Proofs.YtpccljaooghafaaGreat
end
section
namespace Go.Proofs.YtpccljaooghafaaGreat
open Go.ChangeShapes Go.WideShapes Go.ChangeAt Go.RowKit
section
variable {H:Type} {enc:TypeId × Value→H} {w:World} {base:Nat} {spare:Nat→Bool} {held:Bool}
theorem Zu:Tryz.prog.cellsOf 112=16:=by kernel_rfl
set_option maxRecDepth 100000 in
theorem Zv {fuel:Nat} {cs:List Value} {x:DataW H × List MemPlace} (h:DataW.trod enc Tryz.prog w base spare held fuel 112 cs=some x) :
  ∃ (a b b' c:R4),cs=a.V++b.V++b'.V++c.V∧a.ok∧b.ok∧b'.ok∧c.ok:=by
 obtain ⟨xs,n,rfl,_,hlen,hxl,hf⟩:=DataW.trod_struct Tryz.underlying112 h
 rw [Zu] at hlen
 have hx0:xs[0]?=some (xs[0]'(by rw [hxl]; decide)):=List.getElem?_eq_getElem _
 have hx1:xs[1]?=some (xs[1]'(by rw [hxl]; decide)):=List.getElem?_eq_getElem _
 have hx2:xs[2]?=some (xs[2]'(by rw [hxl]; decide)):=List.getElem?_eq_getElem _
 have h0:DataW.trod enc Tryz.prog w base spare held n 25 ((cs.drop 0).take (Tryz.prog.cellsOf 25))=some _:=(hf 0 _ rfl).trans hx0
 have h1:DataW.trod enc Tryz.prog w base spare held n 49 ((cs.drop 4).take (Tryz.prog.cellsOf 49))=some _:=(hf 1 _ rfl).trans hx1
 have h2:DataW.trod enc Tryz.prog w base spare held n 25 ((cs.drop 12).take (Tryz.prog.cellsOf 25))=some _:=(hf 2 _ rfl).trans hx2
 rw [Zl] at h0 h2
 rw [Zo] at h1
 obtain ⟨a0,e0,k0⟩:=Zs h0
 obtain ⟨a1,b1,e1,k1⟩:=Zt h1
 obtain ⟨a2,e2,k2⟩:=Zs h2
 refine ⟨a0,a1,b1,a2,?_,k0,k1.1,k1.2,k2⟩
 have c0:=Zr cs 0 4
 have c1:=Zr cs (0+4) 8
 have c2:=Zr cs (0+4+8) 4
 rw [List.drop_eq_nil_of_le (show cs.length≤0+4+8+4 by omega),List.append_nil] at c2
 rw [e2] at c2
 rw [e1,c2] at c1
 rw [e0,c1,List.drop_zero] at c0
 rw [c0]
 simp only [List.append_assoc]
end
section
variable {H:Type} {enc:TypeId × Value→H} {w:World} {base:Nat} {spare:Nat→Bool} {held:Bool}
theorem Zw:Tryz.prog.cellsOf 127=48:=by kernel_rfl
set_option maxRecDepth 100000 in
theorem Zx {r:Reach} {b0:Nat} {v:Value} {d:DataW H} {p:List MemPlace} (hv:Value.okWide Tryz.prog w r b0 127 v) (h:DataW.Trod enc Tryz.prog w base spare held 127 v d p) :
  ∃ q q' q2:Y.Cp,v=.agg ((q.a.V++q.b.V++q.b'.V++q.c.V)++(q'.a.V++q'.b.V++q'.b'.V++q'.c.V)++(q2.a.V++q2.b.V++q2.b'.V++q2.c.V)).toArray:=by
 obtain ⟨cs,rfl,hsz⟩:=Zq Tryz.underlying127 hv
 obtain ⟨fuel,hf⟩:=h
 obtain ⟨l⟩:=cs
 obtain ⟨xs,n,rfl,_,hlen,hxl,hg⟩:=DataW.trod_array Tryz.underlying127 hf
 simp only [Value.cells] at hlen hg
 rw [Zw] at hlen
 rw [Zu] at hg
 have key:∀ i,i<3→∃ q:Y.Cp,(l.drop (i*16)).take 16=q.a.V++q.b.V++q.b'.V++q.c.V:=fun i hi=>by
  have hx:xs[i]?=some (xs[i]'(by rw [hxl]; exact hi)):=List.getElem?_eq_getElem _
  obtain ⟨a,b,b',c,e,h1,h2,h3,h4⟩:=Zv ((hg i hi).trans hx)
  obtain ⟨q,rfl,rfl,rfl,rfl⟩:=Y.cp_of a b b' c h1 h2 h3 h4
  exact ⟨q,e⟩
 obtain ⟨q0,e0⟩:=key 0 (by decide)
 obtain ⟨q1,e1⟩:=key 1 (by decide)
 obtain ⟨q2,e2⟩:=key 2 (by decide)
 refine ⟨q0,q1,q2,?_⟩
 have c0:=Zr l (0*16) 16
 have c1:=Zr l (1*16) 16
 have c2:=Zr l (2*16) 16
 rw [e2,List.drop_of_length_le (show l.length≤2*16+16 by omega),List.append_nil] at c2
 rw [e1,show 1*16+16=2*16 by rfl,c2] at c1
 rw [e0,show 0*16+16=1*16 by rfl,c1,show 0*16=0 by rfl,List.drop_zero] at c0
 rw [c0]
 simp only [List.append_assoc]
end
end Go.Proofs.YtpccljaooghafaaGreat
end
section
namespace Go.Proofs.YtpccljaooghafaaGreat
open Go Go.ChangeShapes Go.WideShapes Go.ChangeAt Go.RowKit
section
variable {H:Type} {enc:TypeId × Value→H} {w:World} {base:Nat} {spare:Nat→Bool} {held:Bool}
set_option maxRecDepth 100000 in
theorem Zy {fuel:Nat} {cs:List Value} {x:DataW H × List MemPlace} (h:DataW.trod enc Tryz.prog w base spare held fuel 78 cs=some x) :
  ∃ (a b c d e f g k:R4) (t:Bool),cs=a.V++b.V++c.V++d.V++e.V++f.V++g.V++k.V++[Value.bool t]∧a.ok∧b.ok∧c.ok∧d.ok∧e.ok∧f.ok∧g.ok∧k.ok:=by
 obtain ⟨xs,n,rfl,_,hlen,hxl,hf⟩:=DataW.trod_struct Tryz.underlying78 h
 rw [Zp] at hlen
 have hx0:xs[0]?=some (xs[0]'(by rw [hxl]; decide)):=List.getElem?_eq_getElem _
 have hx1:xs[1]?=some (xs[1]'(by rw [hxl]; decide)):=List.getElem?_eq_getElem _
 have hx2:xs[2]?=some (xs[2]'(by rw [hxl]; decide)):=List.getElem?_eq_getElem _
 have hx3:xs[3]?=some (xs[3]'(by rw [hxl]; decide)):=List.getElem?_eq_getElem _
 have hx4:xs[4]?=some (xs[4]'(by rw [hxl]; decide)):=List.getElem?_eq_getElem _
 have h0:DataW.trod enc Tryz.prog w base spare held n 49 ((cs.drop 0).take (Tryz.prog.cellsOf 49))=some _:=(hf 0 _ rfl).trans hx0
 have h1:DataW.trod enc Tryz.prog w base spare held n 49 ((cs.drop 8).take (Tryz.prog.cellsOf 49))=some _:=(hf 1 _ rfl).trans hx1
 have h2:DataW.trod enc Tryz.prog w base spare held n 49 ((cs.drop 16).take (Tryz.prog.cellsOf 49))=some _:=(hf 2 _ rfl).trans hx2
 have h3:DataW.trod enc Tryz.prog w base spare held n 49 ((cs.drop 24).take (Tryz.prog.cellsOf 49))=some _:=(hf 3 _ rfl).trans hx3
 have h4:DataW.trod enc Tryz.prog w base spare held n 4 ((cs.drop 32).take (Tryz.prog.cellsOf 4))=some _:=(hf 4 _ rfl).trans hx4
 rw [Zo] at h0 h1 h2 h3
 rw [Zi] at h4
 obtain ⟨a0,b0,e0,k0⟩:=Zt h0
 obtain ⟨a1,b1,e1,k1⟩:=Zt h1
 obtain ⟨a2,b2,e2,k2⟩:=Zt h2
 obtain ⟨a3,b3,e3,k3⟩:=Zt h3
 obtain ⟨t,e4⟩:∃ t,cs.drop 32=[Value.bool t]:=by
  match hc:(cs.drop 32),(show (cs.drop 32).length=1 by rw [List.length_drop]; omega) with
  | [a],_ =>
   rw [hc] at h4
   obtain ⟨i,e0,_⟩:=DataW.trod_bool Tryz.underlying4 h4
   refine ⟨i,?_⟩
   cases e0
   rfl
 refine ⟨a0,b0,a1,b1,a2,b2,a3,b3,t,?_,k0.1,k0.2,k1.1,k1.2,k2.1,k2.2,k3.1,k3.2⟩
 have c0:=Zr cs 0 8
 have c1:=Zr cs (0+8) 8
 have c2:=Zr cs (0+8+8) 8
 have c3:=Zr cs (0+8+8+8) 8
 rw [e3,show 0+8+8+8+8=32 by rfl,e4] at c3
 rw [e2,c3] at c2
 rw [e1,c2] at c1
 rw [e0,c1,List.drop_zero] at c0
 rw [c0]
 simp only [List.append_assoc]
set_option maxRecDepth 100000 in
theorem Zz {r:Reach} {b0:Nat} {v:Value} {d:DataW H} {p:List MemPlace} (hv:Value.okWide Tryz.prog w r b0 78 v) (h:DataW.Trod enc Tryz.prog w base spare held 78 v d p) :
  ∃ (x0 y0 x1 y1 x2 y2 x3 y3:R4) (t:Bool),v=.agg (x0.V++y0.V++x1.V++y1.V++x2.V++y2.V++x3.V++y3.V++[Value.bool t]).toArray∧x0.ok∧y0.ok∧x1.ok∧y1.ok∧x2.ok∧y2.ok∧x3.ok∧y3.ok:=by
 obtain ⟨cs,rfl,hsz⟩:=okWide_struct Tryz.underlying78 hv
 obtain ⟨fuel,hf⟩:=h
 obtain ⟨l⟩:=cs
 obtain ⟨a,b,c,d,e,f,g,k,t,rfl,hh⟩:=Zy hf
 exact ⟨a,b,c,d,e,f,g,k,t,rfl,hh⟩
end
end Go.Proofs.YtpccljaooghafaaGreat
end
