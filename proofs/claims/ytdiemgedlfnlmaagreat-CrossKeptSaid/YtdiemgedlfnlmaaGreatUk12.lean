/- Sm4, CzD, CzE, Mcp, CzF, Yd, CzG, CzW, Open, OpnB, OpnQ, OpnP. -/
import Derived.ProofKit
import Derived.OpenShut
import Derived.ShutString
import Derived.ChangeOld
import Derived.Below
import Derived.Test.YtdiemgedlfnlmaaGreatUk11
set_option linter.unnecessarySimpa false
set_option linter.unusedVariables false
set_option linter.unusedSimpArgs false
section
namespace Go.Proofs.YtdiemgedlfnlmaaGreat.Y
open Go Go.RowKit
set_option maxRecDepth 100000
inductive Mw5 where
 | a
 | b
 | c
 | d
 | ok
def Mw5.at (k:Nat) (x y:R4):Mw5→Prop
 | .a=>big k x.s=true
 | .b=>big k x.s=false∧big k x.t=true
 | .c=>big k x.s=false∧big k x.t=false∧big k y.s=true
 | .d=>big k x.s=false∧big k x.t=false∧big k y.s=false∧big k y.t=true
 | .ok=>big k x.s=false∧big k x.t=false∧big k y.s=false∧big k y.t=false
def Mw5.yes:Mw5→Bool
 | .ok=>true
 | _=>false
theorem Mw5.all (k:Nat) (x y:R4):∃ t:Mw5,t.at k x y∧t.yes=smB k x y:=by
 unfold smB
 cases h1:big k x.s with
 | true=>exact ⟨.a,h1,rfl⟩
 | false=>cases h2:big k x.t with
  | true=>exact ⟨.b,⟨h1,h2⟩,rfl⟩
  | false=>cases h3:big k y.s with
   | true=>exact ⟨.c,⟨h1,h2,h3⟩,rfl⟩
   | false=>cases h4:big k y.t with
    | true=>exact ⟨.d,⟨h1,h2,h3,h4⟩,rfl⟩
    | false=>exact ⟨.ok,⟨h1,h2,h3,h4⟩,rfl⟩
def mwW (k:Nat) (x y:R4):(t:Mw5)→t.at k x y→List (Ev Tryz.prog)
 | .a,h=>[evBig k x.s 23 true h]
 | .b,h=>[evBig k x.s 23 false h.1,evBig k x.t 31 true h.2]
 | .c,h=>[evBig k x.s 23 false h.1,evBig k x.t 31 false h.2.1,evBig k y.s 40 true h.2.2]
 | .d,h=>[evBig k x.s 23 false h.1,evBig k x.t 31 false h.2.1,evBig k y.s 40 false h.2.2.1,evBig k y.t 49 true h.2.2.2]
 | .ok,h=>[evBig k x.s 23 false h.1,evBig k x.t 31 false h.2.1,evBig k y.s 40 false h.2.2.1,evBig k y.t 49 false h.2.2.2]
abbrev mw4A (k:Nat):List SV:=[.one (.c (.b (.v (.int .i64 (k:Int))))),.one (.c (.b (.s 0 0 4 4)))]
theorem small44_ok (k:Nat) (x y x' y' x2 y2 x3 y3:R4) {r:Bool} (hr:(smB k x y&&(smB k x' y'&&(smB k x2 y2&&smB k x3 y3)))=r) (β:Env) (w:World) (hh:(Ob.box (x.L++y.L++x'.L++y'.L++x2.L++y2.L++x3.L++y3.L) 37).holds β w (β 0)) :
  Calls Tryz.prog 47 ((mw4A k).map (SV.den β)).toArray w fun e w'=>e=.returned (.bool r)∧Below w.heap.size w w':=by
 obtain ⟨t,ht,et⟩:=Mw5.all k x y
 obtain ⟨t',ht',et'⟩:=Mw5.all k x' y'
 obtain ⟨t2,ht2,et2⟩:=Mw5.all k x2 y2
 obtain ⟨t3,ht3,et3⟩:=Mw5.all k x3 y3
 rw [← hr,← et,← et',← et2,← et3]
 cases t
 case ok =>
  cases t'
  case ok =>
   cases t2
   case ok=>cases t3<;>exact bspec_ok (mwW k x y .ok ht++mwW k x' y' .ok ht'++mwW k x2 y2 .ok ht2++mwW k x3 y3 _ ht3) [] 1600 Tryz.func47 hmA (fun β=>by kernel_rfl) (by kernel_rfl) (fun β=>rfl) β w hh
   all_goals exact bspec_ok (mwW k x y .ok ht++mwW k x' y' .ok ht'++mwW k x2 y2 _ ht2) [] 1600 Tryz.func47 hmA (fun β=>by kernel_rfl) (by kernel_rfl) (fun β=>rfl) β w hh
  all_goals exact bspec_ok (mwW k x y .ok ht++mwW k x' y' _ ht') [] 1600 Tryz.func47 hmA (fun β=>by kernel_rfl) (by kernel_rfl) (fun β=>rfl) β w hh
 all_goals exact bspec_ok (mwW k x y _ ht) [] 1600 Tryz.func47 hmA (fun β=>by kernel_rfl) (by kernel_rfl) (fun β=>rfl) β w hh
def sR4Small4 (k:Nat) (x y x' y' x2 y2 x3 y3:R4) {b:Bool} (hb:(smB k x y&&(smB k x' y'&&(smB k x2 y2&&smB k x3 y3)))=b):BSpec Tryz.prog :=
 ⟨47,Tryz.call47,mw4A k,x.L++y.L++x'.L++y'.L++x2.L++y2.L++x3.L++y3.L,37,.bool b,small44_ok k x y x' y' x2 y2 x3 y3 hb,by kernel_rfl,fun _=>rfl⟩
abbrev PT:TypeId:=39
abbrev c5A:List SV:=[.one (.c (.b (.s 0 0 5 5)))]
theorem all5_ok (p q r s u:Pp) {b:Bool} (hb:(p.B&&(q.B&&(r.B&&(s.B&&u.B))))=b) (β:Env) (w:World) (hh:(Ob.box (p.w.C++q.w.C++r.w.C++s.w.C++u.w.C) PT).holds β w (β 0)) :
  Calls Tryz.prog 25 (c5A.map (SV.den β)).toArray w fun e w'=>e=.returned (.bool b)∧Below w.heap.size w w':=by
 cases h1:p.B with
 | false =>
  obtain rfl:b=false:=by rw [← hb,h1]; rfl
  exact bspec_ok [(sR7May p h1).e] [] 800 Tryz.func25 hmA (fun β=>by kernel_rfl) (by kernel_rfl) (fun β=>rfl) β w hh
 | true=>cases h2:q.B with
 | false =>
  obtain rfl:b=false:=by rw [← hb,h1,h2]; rfl
  exact bspec_ok [(sR7May p h1).e,(sR7May q h2).e] [] 800 Tryz.func25 hmA (fun β=>by kernel_rfl) (by kernel_rfl) (fun β=>rfl) β w hh
 | true=>cases h3:r.B with
 | false =>
  obtain rfl:b=false:=by rw [← hb,h1,h2,h3]; rfl
  exact bspec_ok [(sR7May p h1).e,(sR7May q h2).e,(sR7May r h3).e] [] 800 Tryz.func25 hmA (fun β=>by kernel_rfl) (by kernel_rfl) (fun β=>rfl) β w hh
 | true=>cases h4:s.B with
 | false =>
  obtain rfl:b=false:=by rw [← hb,h1,h2,h3,h4]; rfl
  exact bspec_ok [(sR7May p h1).e,(sR7May q h2).e,(sR7May r h3).e,(sR7May s h4).e] [] 800 Tryz.func25 hmA (fun β=>by kernel_rfl) (by kernel_rfl) (fun β=>rfl) β w hh
 | true =>
  obtain rfl:b=u.B:=by rw [← hb,h1,h2,h3,h4]; rfl
  cases h5:u.B<;>exact bspec_ok [(sR7May p h1).e,(sR7May q h2).e,(sR7May r h3).e,(sR7May s h4).e,(sR7May u h5).e] [] 800 Tryz.func25 hmA (fun β=>by kernel_rfl) (by kernel_rfl) (fun β=>rfl) β w hh
def sR7All5 (p q r s u:Pp) {b:Bool} (hb:(p.B&&(q.B&&(r.B&&(s.B&&u.B))))=b):BSpec Tryz.prog :=
 ⟨25,Tryz.call25,c5A,p.w.C++q.w.C++r.w.C++s.w.C++u.w.C,PT,.bool b,all5_ok p q r s u hb,by kernel_rfl,fun _=>rfl⟩
abbrev c5K (k:Nat):List SV:=[.one (.c (.b (.v (.int .i64 (k:Int))))),.one (.c (.b (.s 0 0 5 5)))]
theorem small75_ok (k:Nat) (p q r s u:Rw) {b:Bool} (hb:(p.sm k&&(q.sm k&&(r.sm k&&(s.sm k&&u.sm k))))=b) (β:Env) (w:World) (hh:(Ob.box (p.C++q.C++r.C++s.C++u.C) PT).holds β w (β 0)) :
  Calls Tryz.prog 21 ((c5K k).map (SV.den β)).toArray w fun e w'=>e=.returned (.bool b)∧Below w.heap.size w w':=by
 cases h1:p.sm k with
 | false =>
  obtain rfl:b=false:=by rw [← hb,h1]; rfl
  exact bspec_ok [(sR4Small k p.x p.y h1).e] [] 800 Tryz.func21 hmA (fun β=>by kernel_rfl) (by kernel_rfl) (fun β=>rfl) β w hh
 | true=>cases h2:q.sm k with
 | false =>
  obtain rfl:b=false:=by rw [← hb,h1,h2]; rfl
  exact bspec_ok [(sR4Small k p.x p.y h1).e,(sR4Small k q.x q.y h2).e] [] 800 Tryz.func21 hmA (fun β=>by kernel_rfl) (by kernel_rfl) (fun β=>rfl) β w hh
 | true=>cases h3:r.sm k with
 | false =>
  obtain rfl:b=false:=by rw [← hb,h1,h2,h3]; rfl
  exact bspec_ok [(sR4Small k p.x p.y h1).e,(sR4Small k q.x q.y h2).e,(sR4Small k r.x r.y h3).e] [] 800 Tryz.func21 hmA (fun β=>by kernel_rfl) (by kernel_rfl) (fun β=>rfl) β w hh
 | true=>cases h4:s.sm k with
 | false =>
  obtain rfl:b=false:=by rw [← hb,h1,h2,h3,h4]; rfl
  exact bspec_ok [(sR4Small k p.x p.y h1).e,(sR4Small k q.x q.y h2).e,(sR4Small k r.x r.y h3).e,(sR4Small k s.x s.y h4).e] [] 800 Tryz.func21 hmA (fun β=>by kernel_rfl) (by kernel_rfl) (fun β=>rfl) β w hh
 | true =>
  obtain rfl:b=u.sm k:=by rw [← hb,h1,h2,h3,h4]; rfl
  cases h5:u.sm k<;>exact bspec_ok [(sR4Small k p.x p.y h1).e,(sR4Small k q.x q.y h2).e,(sR4Small k r.x r.y h3).e,(sR4Small k s.x s.y h4).e,(sR4Small k u.x u.y h5).e] [] 800 Tryz.func21 hmA (fun β=>by kernel_rfl) (by kernel_rfl) (fun β=>rfl) β w hh
def sR7Small5 (k:Nat) (p q r s u:Rw) {b:Bool} (hb:(p.sm k&&(q.sm k&&(r.sm k&&(s.sm k&&u.sm k))))=b):BSpec Tryz.prog :=
 ⟨21,Tryz.call21,c5K k,p.C++q.C++r.C++s.C++u.C,PT,.bool b,small75_ok k p q r s u hb,by kernel_rfl,fun _=>rfl⟩
theorem few5_ok (p q r s u:Pp) {a b:Bool} (ha:(p.B&&(q.B&&(r.B&&(s.B&&u.B))))=a) (hb:(p.w.sm 12&&(q.w.sm 12&&(r.w.sm 12&&(s.w.sm 12&&u.w.sm 12))))=b) (β:Env) (w:World) (hh:(Ob.box (p.w.C++q.w.C++r.w.C++s.w.C++u.w.C) PT).holds β w (β 0)) :
  Calls Tryz.prog 56 (c5A.map (SV.den β)).toArray w fun e w'=>e=.returned (.bool (a&&b))∧Below w.heap.size w w':=by
 cases a
 · exact bspec_ok [(sR7All5 p q r s u ha).e] [] 800 Tryz.func56 hmA (fun β=>by kernel_rfl) (by kernel_rfl) (fun β=>rfl) β w hh
 · cases b<;>exact bspec_ok [(sR7All5 p q r s u ha).e,(sR7Small5 12 p.w q.w r.w s.w u.w hb).e] [] 800 Tryz.func56 hmA (fun β=>by kernel_rfl) (by kernel_rfl) (fun β=>rfl) β w hh
def sFew5 (p q r s u:Pp) {a b:Bool} (ha:(p.B&&(q.B&&(r.B&&(s.B&&u.B))))=a) (hb:(p.w.sm 12&&(q.w.sm 12&&(r.w.sm 12&&(s.w.sm 12&&u.w.sm 12))))=b):BSpec Tryz.prog :=
 ⟨56,Tryz.call56,c5A,p.w.C++q.w.C++r.w.C++s.w.C++u.w.C,PT,.bool (a&&b),few5_ok p q r s u ha hb,by kernel_rfl,fun _=>rfl⟩
def cConj (p:Pt):Spec Tryz.prog :=
 ⟨42,Tryz.call42,[svP p],[],svP (pcj true p),[],fun β w hh=>by
  cases p
  · exact spec_auto (evs:=[]) (Ns:=[]) (m:=400) Tryz.func42 hmA (fun β=>by kernel_rfl) (by kernel_rfl) β w hh
  · rename_i z
    exact spec_auto (evs:=[(sR4Conj z).e,(sR7Of (gconj z)).e]) (Ns:=[]) (m:=400) Tryz.func42 hmA (fun β=>by kernel_rfl) (by kernel_rfl) β w hh,by kernel_rfl⟩
noncomputable def cMirrored:Spec Tryz.prog :=
 Spec.auto Tryz.call203 [] [] (mV 0 (mid true)) (mM (mid true)) [sOne.e,(sOpenYes mid_may).e] [] 400 Tryz.func203 hmA (by kernel_rfl) (fun β=>by kernel_rfl)
abbrev cRes3 (a b:Bool) (k:Int):SV:=.tup [.c (.b (.v (.bool a))),.c (.b (.v (.bool b))),nI k]
section
variable {p q r s p' q' r' s':Pt} (hp:FitP p) (hq:FitP q) (hr:FitP r) (hs:FitP s) (hp':FitP p') (hq':FitP q') (hr':FitP r') (hs':FitP s')
variable {a b c d e f:Bool} (ha:ptB p q=a) (hb:ptB p r=b) (hc:ptB p s=c) (hd:ptB q r=d) (he:ptB q s=e) (hf:ptB r s=f) (ha':ptB p' q'=a) (hb':ptB p' r'=b) (hc':ptB p' s'=c) (hd':ptB q' r'=d) (he':ptB q' s'=e) (hf':ptB r' s'=f)
noncomputable def cMostE (k:Nat) (ht:decide (2<mostI a b c d e f)=false):List (Ev Tryz.prog):=[(sMost ha hb hc hd he hf).e,.eqv k (.bool (decide (2<mostI a b c d e f))) (.bool false) (gtZ ht)]
theorem cNe (a:Bool):Value.bool (!(a==a))=.bool false:=by rw [beq_self_eq_true]; rfl
def cPair {u v u' v':Pt} {a:Bool} (h:ptB u v=a) (k:ptB u' v'=a):List (Ev Tryz.prog):=[eqEvPt (ptB_comm' h),eqEvPt (ptB_comm' k),.eqv 63 (.bool (!(a==a))) (.bool false) (cNe a)]
noncomputable def sCzAlike (ht:decide (2<mostI a b c d e f)=false) {g g':Bool} (hg:gzero (ratY p q r s)=g) (hg':gzero (ratY p' q' r' s')=g') {k:Bool} (hk:gzero (msD (mid true) (prat p q r s g))=k) (z:PSz KE (prat p q r s g)) (z':PSz KE (prat p' q' r' s' g')) (z2:PSz KE (msend (mid true) (prat p q r s g) k)):Spec Tryz.prog :=
 Spec.auto Tryz.call62 [a4 p.w q.w r.w s.w,a4 p'.w q'.w r'.w s'.w] [] (cRes3 (sameP (prat p q r s g) (prat p' q' r' s' g')) (sameP (msend (mid true) (prat p q r s g) k) (prat p' q' r' s' g')) 0) []
  ([(sOpenC hp hq hr hs).e,(sOpenC hp' hq' hr' hs').e]++cMostE ha hb hc hd he hf 36 ht++cMostE ha' hb' hc' hd' he' hf' 40 ht++cPair ha ha'++cPair hb hb'++cPair hd hd'++cPair hc hc'++cPair he he'++cPair hf hf' ++
   [(sRat4 hp hq hr hs hg).e,(sRat4 hp' hq' hr' hs' hg').e,cMirrored.e,(sSend ((fitM_sz (mid_fit true)).mono (by decide)) z hk).e,(sSameP _ _ z z').e,(sSameP _ _ z2 z').e]) [(13,15),(17,6),(18,4),(19,9)] 1200 Tryz.func62 hmA (by kernel_rfl) (fun β=>by kernel_rfl)
end
theorem iz_fit {k n:Nat} {z:GQ} (h:IZ k n z) (h1:1≤k) (hk:k≤1024) (hn:n≤1024):FitG z:=by
 obtain ⟨u,v,w,h0,hu,hv,hw,e1,e2⟩:=h
 exact ⟨(sz_over h0 hu hw e1 h1).fit (Nat.max_le.2 ⟨hk,hn⟩),(sz_over h0 hv hw e2 h1).fit (Nat.max_le.2 ⟨hk,hn⟩)⟩
theorem piz_fit {k n:Nat} {p:Pt} (h:PIZ k n p) (h1:1≤k) (hk:k≤1024) (hn:n≤1024):FitP p:=by
 cases p
 · trivial
 · exact iz_fit h h1 hk hn
theorem piz_of {p:Pt} (h:PSz 12 p):PIZ 24 24 p:=by
 cases p
 · trivial
 · exact IZ.of_sz h.1 h.2
theorem psz_fit {p:Pt} (h:PSz 12 p):FitP p:=by
 cases p
 · trivial
 · exact ⟨h.1.fit (by decide),h.2.fit (by decide)⟩
structure MIZ (k n:Nat) (m:MQ):Prop where
 a:IZ k n m.a
 b:IZ k n m.b
 c:IZ k n m.c
 d:IZ k n m.d
theorem miz_of {m:MQ} (h:MSz 12 m):MIZ 24 24 m:=⟨IZ.of_sz h.a.1 h.a.2,IZ.of_sz h.b.1 h.b.2,IZ.of_sz h.c.1 h.c.2,IZ.of_sz h.d.1 h.d.2⟩
theorem mcj_iz {k n:Nat} {z:GQ} (t:Bool) (h:IZ k n z):IZ k n (mcj t z):=by
 cases t
 · exact h
 · exact h.conj
theorem lin_iz {k n:Nat} {z w v:GQ} (hz:IZ k n z) (hv:IZ 24 24 v) (hw:IZ k n w):IZ (k+n+26) (n+24+n) (gadd (gmul z v) w) :=
 (IZ.add (m:=k+n+25) (hz.mul hv) hw (by omega) (by omega)).mono (by omega) (by omega)
theorem msN_iz {k n:Nat} {m:MQ} (h:MIZ k n m) {p:Pt} (hp:PIZ 24 24 p):IZ (k+n+26) (n+24+n) (msN m p):=by
 cases p with
 | inf=>exact h.a.mono (by omega) (by omega)
 | fin z=>exact lin_iz h.a (mcj_iz _ hp) h.b
theorem msD_iz {k n:Nat} {m:MQ} (h:MIZ k n m) {p:Pt} (hp:PIZ 24 24 p):IZ (k+n+26) (n+24+n) (msD m p):=by
 cases p with
 | inf=>exact h.c.mono (by omega) (by omega)
 | fin z=>exact lin_iz h.c (mcj_iz _ hp) h.d
theorem send_iz {k n i j:Nat} {m:MQ} (h:MIZ k n m) {p:Pt} (hp:PIZ 24 24 p) (hi:k+n+26+(k+n+26)+1+(n+24+n)≤i) (hj:n+24+n+(2*(k+n+26)+1)≤j):PIZ i j (mSend m p):=by
 unfold mSend msend
 cases hb:gzero (msD m p)
 · have n0:msD m p≠0:=fun e=>by
    rw [gz0.2 e] at hb
    cases hb
   exact (IZ.div (m:=2*(k+n+26)+1) (msN_iz h hp) (msD_iz h hp) n0 (Nat.le_refl _)).mono hi hj
 · trivial
theorem rchart_iz {a b c:Pt} (ha:PIZ 24 24 a) (hb:PIZ 24 24 b) (hc:PIZ 24 24 c):MIZ 77 74 (rchart0 a b c):=by
 have A:=across_iz ha hb (by decide) (by decide)
 have B:=across_iz hb hc (by decide) (by decide)
 exact ⟨(((byB_iz c).mul A).neg).mono (by decide) (by decide),((byA_iz hc (by decide) (by decide)).mul A).mono (by decide) (by decide),((byB_iz a).mul B).mono (by decide) (by decide),(((byA_iz ha (by decide) (by decide)).mul B).neg).mono (by decide) (by decide)⟩
theorem minv_iz {k n:Nat} {m:MQ} (ht:m.t=false) (h:MIZ k n m):MIZ k n (minv0 m):=by
 unfold minv0
 rw [ht]
 exact ⟨h.d,h.b.neg,h.c.neg,h.a⟩
theorem norm_iz {m:MQ} (h:MIZ 77 74 m) {f:Bool} (h0:(bif f then m.d else m.c)≠g0):MIZ 229 229 (mnormB m f):=by
 have hu:IZ 77 74 (bif f then m.d else m.c):=by
  cases f
  · exact h.c
  · exact h.d
 have h1:(bif f then m.d else m.c)≠0:=fun e=>h0 (e.trans g0_def.symm)
 exact ⟨(IZ.div (m:=155) h.a hu h1 (by decide)).mono (by decide) (by decide),(IZ.div (m:=155) h.b hu h1 (by decide)).mono (by decide) (by decide),(IZ.div (m:=155) h.c hu h1 (by decide)).mono (by decide) (by decide),(IZ.div (m:=155) h.d hu h1 (by decide)).mono (by decide) (by decide)⟩
theorem czMay {q:MQ} (hF:FitM q) (hr:Reg q) (hn:Nrm q):MayQ q:=by
 refine ⟨hF,gz_false.2 hr,?_⟩
 unfold Nrm at hn
 have one0:∀ {z:GQ},z=⟨1,0⟩→gzero (gsub z (gint 1 0))=true:=fun {z} e=>by
  rw [e,gz_true,gint10]
  refine GQ.ext2 ?_ ?_<;>(simp only [gsub,g0]; grind)
 cases hc:gzero q.c with
 | false=>rw [hc] at hn; exact .inl (one0 hn)
 | true=>rw [hc] at hn; exact .inr ⟨rfl,one0 hn⟩
section
variable {a b c:Pt} (ha:PSz 12 a) (hb:PSz 12 b) (hc:PSz 12 c) (h1:a≠b) (h2:b≠c) (h3:c≠a)
include ha hb hc h1 h2 h3
theorem cz_chart_may:MayQ (mcha c b a):=by
 have e:mcha c b a=pchart a b c:=by
  unfold pchart
  rw [rchart_eq]
  rfl
 have hz:MIZ 229 229 (pchart a b c):=norm_iz (rchart_iz (piz_of ha) (piz_of hb) (piz_of hc)) ((rchart_reg h1 h2 h3).by_ rfl)
 have hF:FitM (mcha c b a):=by
  rw [e]
  exact ⟨iz_fit hz.a (by decide) (by decide) (by decide),iz_fit hz.b (by decide) (by decide) (by decide),iz_fit hz.c (by decide) (by decide) (by decide),iz_fit hz.d (by decide) (by decide) (by decide)⟩
 have hr:Reg (mchart0 c b a):=Reg.chart (Ne.symm h2) (Ne.symm h1) h3
 exact czMay hF hr.mnorm hr.nrm
omit ha hb hc in
theorem cz_chart_send (p:Pt):mSend (mcha c b a) p=pRat a b c p:=by
 rw [show mcha c b a=pchart a b c by
  unfold pchart
  rw [rchart_eq]
  rfl]
 exact chart_is h1 h2 h3 p
omit ha hb hc in
theorem four_raw (r:Pt):pfourth a b c r=mSend (minv0 (rchart0 a b c)) r:=by
 have hr:=rchart_reg h1 h2 h3
 have e1:mSend (rchart0 a b c) (mSend (minv0 (rchart0 a b c)) r)=r:=send_inv hr rfl r
 have e2:mSend (pchart a b c) (mSend (minv0 (rchart0 a b c)) r)=r:=by
  rw [← e1]
  show mSend (mnormB (rchart0 a b c) _) _=_
  rw [norm_send hr (hr.by_ rfl),e1,e1]
 rw [pfourth_is h1 h2 h3]
 have e3:=inv_send (pchart_reg h1 h2 h3) (pchart_t a b c) (mSend (minv0 (rchart0 a b c)) r)
 rw [e2] at e3
 exact e3
theorem four_fit {r:Pt} (hr:PSz 12 r):FitP (pfourth a b c r):=by
 rw [four_raw h1 h2 h3]
 exact piz_fit (send_iz (i:=527) (j:=527) (minv_iz rfl (rchart_iz (piz_of ha) (piz_of hb) (piz_of hc))) (piz_of hr) (by decide) (by decide)) (by decide) (by decide) (by decide)
omit h1 h2 h3 in
theorem rat_fit {r:Pt} (hr:PSz 12 r):FitP (pRat a b c r):=piz_fit (rat_iz (piz_of ha) (piz_of hb) (piz_of hc) (piz_of hr)) (by decide) (by decide) (by decide)
end
theorem send_fit {m:MQ} (hm:MSz 12 m) {p:Pt} (hp:PSz 12 p):FitP (mSend m p):=piz_fit (send_iz (i:=221) (j:=221) (miz_of hm) (piz_of hp) (by decide) (by decide)) (by decide) (by decide) (by decide)
theorem ptB_send {m:MQ} (h:Reg m) (p q:Pt):ptB (mSend m p) (mSend m q)=ptB p q:=by
 rw [Bool.eq_iff_iff,ptB_iff,ptB_iff]
 exact ⟨send_inj h,fun e=>by rw [e]⟩
theorem pcj_fit {p:Pt} (t:Bool) (h:FitP p):FitP (pcj t p):=by
 cases p with
 | inf=>trivial
 | fin z =>
  cases t
  · exact h
  · exact ⟨h.1,by have:=h.2; unfold Fit at this ⊢; exact ⟨by show (mag (-z.im).num.natAbs).size≤1024; rw [show (-z.im).num = -z.im.num from rfl,Int.natAbs_neg]; exact this.1,this.2⟩⟩
theorem czSame (p q:Pt):sameP p q=ptB p q:=by
 have sz:∀ {z w:GQ},gzero (gsub z w)=true↔z=w:=fun {z w}=>by
  rw [gz_true]
  constructor
  · intro h
    have h1:=congrArg GQ.re h
    have h2:=congrArg GQ.im h
    simp only [gsub,g0] at h1 h2
    exact GQ.ext2 (by grind) (by grind)
  · rintro rfl
    refine GQ.ext2 ?_ ?_<;>(simp only [gsub,g0]; grind)
 rw [Bool.eq_iff_iff,ptB_iff]
 cases p<;>cases q
 · exact ⟨fun _=>rfl,fun _=>rfl⟩
 · exact ⟨fun h=>(by cases h),fun h=>(by cases h)⟩
 · exact ⟨fun h=>(by cases h),fun h=>(by cases h)⟩
 · exact ⟨fun h=>congrArg Pt.fin (sz.1 h),fun h=>sz.2 (Pt.fin.inj h)⟩
theorem czTurn (p:Pt):msend (mid true) p (gzero (msD (mid true) p))=pcj true p:=by
 cases p with
 | inf=>rfl
 | fin z =>
  have hD:msD (mid true) (.fin z)=⟨1,0⟩:=by
   show gadd (gmul g0 (gconj z)) (gint 1 0)=_
   rw [show gmul g0 (gconj z)=g0 by refine GQ.ext2 ?_ ?_<;>(simp only [gmul,g0]; grind),gadd_0',gint10]
  rw [hD,gz_false.2 gq_one_ne]
  show Pt.fin (gdiv (msN (mid true) (.fin z)) (msD (mid true) (.fin z)))=_
  rw [hD,gq_div_one]
  show Pt.fin (gadd (gmul (gint 1 0) (gconj z)) g0)=_
  rw [gmul_1,gadd_0]
  rfl
end Go.Proofs.YtdiemgedlfnlmaaGreat.Y
end
section
namespace Go.Proofs.YtdiemgedlfnlmaaGreat
open Go Go.RowKit
set_option maxRecDepth 100000
end Go.Proofs.YtdiemgedlfnlmaaGreat
namespace Go.Proofs.YtdiemgedlfnlmaaGreat.Y
open Go Go.RowKit
set_option maxRecDepth 100000
abbrev mcI (k:Int):SC:=.c (.b (.v (.int .i64 k)))
def sMbChk {q:MQ} (h:MayQ q):Spec Tryz.prog :=
 Spec.auto Tryz.call58 [.one (.a (mCl q))] [] (.one (mcI 0)) [] [(sOpenYes h).e] [] 400 Tryz.func58 hmA (by kernel_rfl) (fun β=>by kernel_rfl)
def sMbChkNo {m:Mp} {t:Bool} (h:OpenNo m t):Spec Tryz.prog :=
 Spec.auto Tryz.call58 [.one (.a m.C)] [] (.one (mcI 2)) [] [(sOpenNo h).e] [] 400 Tryz.func58 hmA (by kernel_rfl) (fun β=>by kernel_rfl)
section
variable {m q:MQ} (hm:MayQ m) (hq:MayQ q)
include hm hq
end
theorem ma_fit {m:MQ} (h:FitM m):maC m=mCl m∧maK m=0:=by
 refine ⟨?_,(maC_yes h).2⟩
 unfold maC mCl
 simp only [gsC_yes h]
 rw [show selB (FitM m) m.t=m.t from if_pos h]
end Go.Proofs.YtdiemgedlfnlmaaGreat.Y
end
section
namespace Go.Proofs.YtdiemgedlfnlmaaGreat.Y
open Go Go.RowKit
set_option maxRecDepth 100000
theorem ck_most {p q r:Pt} (h1:p≠q) (h2:q≠r) (h3:r≠p) (s:Pt):decide (2<mostI false false (ptB p s) false (ptB q s) (ptB r s))=false:=by
 cases hc:ptB p s<;>cases he:ptB q s<;>cases hf:ptB r s
 · decide
 · decide
 · decide
 · exact absurd ((ptB_iff.1 he).trans (ptB_iff.1 hf).symm) h2
 · decide
 · exact absurd ((ptB_iff.1 hf).trans (ptB_iff.1 hc).symm) h3
 · exact absurd ((ptB_iff.1 hc).trans (ptB_iff.1 he).symm) h1
 · exact absurd ((ptB_iff.1 hc).trans (ptB_iff.1 he).symm) h1
abbrev ckV (V:Pt):SV:=.tup [.a V.w.C,svI 0]
noncomputable def ckRat {p q r s:Pt} (hp:FitP p) (hq:FitP q) (hr:FitP r) (hs:FitP s) (h1:p≠q) (h2:q≠r) (h3:r≠p) {V:Pt} (hV:pRat p q r s=V) (hF:FitP V):Spec Tryz.prog :=
 (sRatioZ hp hq hr hs (ptB_ne' h1) (ptB_ne' (Ne.symm h3)) (c:=ptB p s) rfl (ptB_ne' h2) (e:=ptB q s) rfl (f:=ptB r s) rfl (ck_most h1 h2 h3 s) (g:=gzero (ratY p q r s)) rfl).as
  [svP p,svP q,svP r,svP s] (ckV V) rfl (svA_fit hV hF)
noncomputable def ckAt {m:MQ} (hm:MayQ m) {p:Pt} (hp:FitP p) {V:Pt} (hV:mSend m p=V) (hF:FitP V):Spec Tryz.prog :=
 (sAt hm hp (b:=gzero (msD m p)) rfl).as [.one (.a (mCl m)),.one (.a (lsX p.w.C))] (ckV V) rfl (by
  show SV.tup [.a (lsX (paC (mSend m p))),.c (.b (.v (.int .i64 (paK (mSend m p)))))]=_
  rw [hV,paC_raw,(pa_fit hF).1,(pa_fit hF).2.1,(pa_fit hF).2.2,paK_fit hF]
  rfl)
noncomputable def ckFou {a b c:Pt} (ha:FitP a) (hb:FitP b) (hc:FitP c) (h1:a≠b) (h2:b≠c) (h3:c≠a) {r:Pt} (hr:FitP r) {V:Pt} (hV:pfourth a b c r=V) (hF:FitP V):Spec Tryz.prog :=
 (sCzFourth ha hb hc h1 h2 h3 hr (by rw [hV]; exact hF)).as [svP a,svP b,svP c,svP r] (ckV V) rfl (by
  show ckV (pfourth a b c r)=_
  rw [hV])
noncomputable def ckCha {a b c:Pt} (ha:FitP a) (hb:FitP b) (hc:FitP c) (h1:a≠b) (h2:b≠c) (h3:c≠a) (hF:FitM (mcha c b a)):Spec Tryz.prog :=
 (sCzChart ha hb hc h1 h2 h3).as [svP a,svP b,svP c] (.tup [.a (mCl (mcha c b a)),svI 0]) rfl (by
  show SV.tup [.a (lsX (maC (mcha c b a))),nI (maK (mcha c b a))]=_
  rw [(ma_fit hF).1,(ma_fit hF).2])
structure CkD (p q r s u:Pt) (m:MQ):Prop where
 zp:PSz 12 p
 zq:PSz 12 q
 zr:PSz 12 r
 zs:PSz 12 s
 zu:PSz 12 u
 zm:MSz 12 m
 hm:MayQ m
 h1:p≠q
 h2:q≠r
 h3:r≠p
section
variable {p q r s u:Pt} {m:MQ} (D:CkD p q r s u m)
include D
theorem CkD.i1:mSend m p≠mSend m q:=fun e=>D.h1 (send_inj D.hm.reg e)
theorem CkD.i2:mSend m q≠mSend m r:=fun e=>D.h2 (send_inj D.hm.reg e)
theorem CkD.i3:mSend m r≠mSend m p:=fun e=>D.h3 (send_inj D.hm.reg e)
theorem CkD.fX:FitP (pRat p q r s):=rat_fit D.zp D.zq D.zr D.zs
theorem CkD.fO:FitP (pfourth p q r u):=four_fit D.zp D.zq D.zr D.h1 D.h2 D.h3 D.zu
theorem CkD.fC:MayQ (mcha r q p):=cz_chart_may D.zp D.zq D.zr D.h1 D.h2 D.h3
theorem CkD.kept:pRat (mSend m p) (mSend m q) (mSend m r) (mSend m s)=pcj m.t (pRat p q r s):=rat_send D.hm.reg p q r s
end
abbrev ckY (t:Bool) (X:Pt):Pt:=bif t then pcj true X else X
theorem ckY_eq (t:Bool) (X:Pt):pcj t X=ckY t X:=by
 cases t
 · cases X<;>rfl
 · rfl
section
variable {p q r s u:Pt} {m:MQ} (D:CkD p q r s u m)
noncomputable def ckR1:Spec Tryz.prog:=ckRat (psz_fit D.zp) (psz_fit D.zq) (psz_fit D.zr) (psz_fit D.zs) D.h1 D.h2 D.h3 rfl D.fX
noncomputable def ckR2:Spec Tryz.prog:=ckRat (send_fit D.zm D.zp) (send_fit D.zm D.zq) (send_fit D.zm D.zr) (send_fit D.zm D.zs) D.i1 D.i2 D.i3 (V:=ckY m.t (pRat p q r s)) (D.kept.trans (ckY_eq _ _)) (by rw [← ckY_eq]; exact pcj_fit m.t D.fX)
noncomputable def ckR3:Spec Tryz.prog:=ckRat (psz_fit D.zp) (psz_fit D.zq) (psz_fit D.zr) D.fO D.h1 D.h2 D.h3 (rat_fourth D.h1 D.h2 D.h3 u) (psz_fit D.zu)
noncomputable def ckF1:Spec Tryz.prog:=ckFou (psz_fit D.zp) (psz_fit D.zq) (psz_fit D.zr) D.h1 D.h2 D.h3 D.fX (fourth_rat D.h1 D.h2 D.h3 s) (psz_fit D.zs)
noncomputable def ckF2:Spec Tryz.prog:=ckFou (psz_fit D.zp) (psz_fit D.zq) (psz_fit D.zr) D.h1 D.h2 D.h3 (psz_fit D.zu) rfl D.fO
noncomputable def ckC:Spec Tryz.prog:=ckCha (psz_fit D.zp) (psz_fit D.zq) (psz_fit D.zr) D.h1 D.h2 D.h3 D.fC.1
noncomputable def ckA:Spec Tryz.prog:=ckAt D.fC (psz_fit D.zs) (cz_chart_send D.h1 D.h2 D.h3 s) D.fX
noncomputable def ckAl:Spec Tryz.prog :=
 (sCzAlike (psz_fit D.zp) (psz_fit D.zq) (psz_fit D.zr) (psz_fit D.zs) (send_fit D.zm D.zp) (send_fit D.zm D.zq) (send_fit D.zm D.zr) (send_fit D.zm D.zs)
  (ptB_ne' D.h1) (ptB_ne' (Ne.symm D.h3)) (c:=ptB p s) rfl (ptB_ne' D.h2) (e:=ptB q s) rfl (f:=ptB r s) rfl (ptB_ne' D.i1) (ptB_ne' (Ne.symm D.i3)) (ptB_send D.hm.reg p s) (ptB_ne' D.i2) (ptB_send D.hm.reg q s) (ptB_send D.hm.reg r s)
  (ck_most D.h1 D.h2 D.h3 s) (g:=gzero (ratY p q r s)) rfl (g':=gzero (ratY (mSend m p) (mSend m q) (mSend m r) (mSend m s))) rfl (k:=gzero (msD (mid true) (pRat p q r s))) rfl
  (D.fX.sz.mono (by decide)) (by show PSz KE (pRat (mSend m p) (mSend m q) (mSend m r) (mSend m s)); rw [D.kept]; exact (pcj_fit m.t D.fX).sz.mono (by decide)) (by show PSz KE (msend (mid true) (pRat p q r s) _); rw [czTurn]; exact (pcj_fit true D.fX).sz.mono (by decide))).as
  [a4 p.w q.w r.w s.w,a4 (mSend m p).w (mSend m q).w (mSend m r).w (mSend m s).w] (cRes3 (bif m.t then ptB (pRat p q r s) (pcj m.t (pRat p q r s)) else true) (bif m.t then true else ptB (pcj true (pRat p q r s)) (pcj m.t (pRat p q r s))) 0) rfl (by
  show cRes3 (sameP (pRat p q r s) (pRat (mSend m p) (mSend m q) (mSend m r) (mSend m s))) (sameP (msend (mid true) (pRat p q r s) (gzero (msD (mid true) (pRat p q r s)))) (pRat (mSend m p) (mSend m q) (mSend m r) (mSend m s))) 0=_
  rw [czSame,czSame,czTurn,D.kept]
  cases ht:m.t
  · rw [show pcj false (pRat p q r s)=pRat p q r s by cases pRat p q r s<;>rfl,ptB_self]
    rfl
  · rw [ptB_self]
    rfl)
end
end Go.Proofs.YtdiemgedlfnlmaaGreat.Y
end
section
namespace Go.Proofs.YtdiemgedlfnlmaaGreat.Y
open Go Go.RowKit
theorem spec_yes {P:Program} (S:Spec P) (ho:S.obs=[]) (hr:S.res=.one (.c (.b (.v (.bool true))))) (w:World):Calls P S.f (S.args.map (SV.den idE)).toArray w fun e w'=>e=.returned (.bool true)∧Below w.heap.size w w':=by
 refine (S.ok idE w (by rw [ho]; intro k t h; simp at h)).mono ?_
 rintro e w' ⟨xs,_,rfl,_,hb⟩
 exact ⟨by rw [hr]; rfl,hb⟩
end Go.Proofs.YtdiemgedlfnlmaaGreat.Y
end
section
namespace Go.Proofs.YtdiemgedlfnlmaaGreat.Y
open Go Go.RowKit
set_option maxRecDepth 100000
theorem ckL1 {k:Nat} {s:ByteArray} (h:big k s=false):s.size≤k:=by
 have:=of_decide_eq_false h
 omega
theorem ckL2 {k:Nat} {x y:R4} (h:smB k x y=true):(x.s.size≤k∧x.t.size≤k)∧y.s.size≤k∧y.t.size≤k:=by
 unfold smB at h
 simp only [Bool.not_eq_true',Bool.or_eq_false_iff] at h
 exact ⟨⟨ckL1 h.1,ckL1 h.2.1⟩,ckL1 h.2.2.1,ckL1 h.2.2.2⟩
theorem ckL3 {x:Rat} {k:Nat} (h1:(fR x).s.size≤k) (h2:(fR x).t.size≤k):Sz k x:=⟨h1,by rw [sz_nat]; exact h2⟩
theorem ckL4 {z:GQ} {k:Nat} (h:smB k (fR z.re) (fR z.im)=true):GSz k z:=by
 obtain ⟨⟨h1,h2⟩,h3,h4⟩:=ckL2 h
 exact ⟨ckL3 h1 h2,ckL3 h3 h4⟩
theorem ckL5 {k:Nat} {p:Pt} (h:p.w.sm k=true):PSz k p:=by
 cases p
 · trivial
 · exact ckL4 h
abbrev ckNs:List (Nat × Nat):=[(10,501009010)]
abbrev ckArg (p q r s:Rw) (M:List Lf) (u:Rw):List SV:=[a4 p q r s,.one (.a (lsX M)),.one (.a (lsX u.C))]
noncomputable def ck1 (p q r s u:Pp) (M:Mp) {a b:Bool} (ha:(p.B&&(q.B&&(r.B&&(s.B&&u.B))))=a) (hb:(p.w.sm 12&&(q.w.sm 12&&(r.w.sm 12&&(s.w.sm 12&&u.w.sm 12))))=b) (h:(a&&b)=false):Spec Tryz.prog :=
 Spec.auto Tryz.call7 (ckArg p.w q.w r.w s.w M.C u.w) [] (svB true) [] [cKnown.e,(sFew5 p q r s u ha hb).e] ckNs 4000 Tryz.func7 hmA (by kernel_rfl) (fun β=>by cases a<;>cases b<;>first | (exact Bool.noConfusion h) | kernel_rfl)
section
variable {p q r s u:Pt} (hp:FitP p) (hq:FitP q) (hr:FitP r) (hs:FitP s) (hu:FitP u) (hsm:(p.w.sm 12&&(q.w.sm 12&&(r.w.sm 12&&(s.w.sm 12&&u.w.sm 12))))=true)
def ckFew:BSpec Tryz.prog :=
 ⟨56,Tryz.call56,c5A,p.w.C++q.w.C++r.w.C++s.w.C++u.w.C,PT,.bool true,fun β w hh=>by
  have:=few5_ok (ppt p hp) (ppt q hq) (ppt r hr) (ppt s hs) (ppt u hu) (a:=true) (b:=true) (by rw [ppt_B,ppt_B,ppt_B,ppt_B,ppt_B]; rfl) (by rw [ppt_w,ppt_w,ppt_w,ppt_w,ppt_w]; exact hsm) β w (by rw [ppt_w,ppt_w,ppt_w,ppt_w,ppt_w]; exact hh)
  exact this,by kernel_rfl,fun _=>rfl⟩
noncomputable def ck2 (M:Mp) {t:Bool} (ho:OpenNo M t):Spec Tryz.prog :=
 Spec.auto Tryz.call7 (ckArg p.w q.w r.w s.w M.C u.w) [] (svB true) [] [cKnown.e,(ckFew hp hq hr hs hu hsm).e,(sMbChkNo ho).e,(cNum 2).e] ckNs 4000 Tryz.func7 hmA (by kernel_rfl) (fun β=>by kernel_rfl)
abbrev ckSmB (m:MQ):Bool:=smB 12 (fR m.a.re) (fR m.a.im)&&(smB 12 (fR m.b.re) (fR m.b.im)&&(smB 12 (fR m.c.re) (fR m.c.im)&&smB 12 (fR m.d.re) (fR m.d.im)))
noncomputable def ckH {m:MQ} (hm:MayQ m) {b:Bool} (hb:ckSmB m=b):List (Ev Tryz.prog):=[cKnown.e,(ckFew hp hq hr hs hu hsm).e,(sMbChk hm).e,(cNum 0).e,(sR4Small4 12 (fR m.a.re) (fR m.a.im) (fR m.b.re) (fR m.b.im) (fR m.c.re) (fR m.c.im) (fR m.d.re) (fR m.d.im) hb).e]
noncomputable def ck3 {m:MQ} (hm:MayQ m) (hb:ckSmB m=false):Spec Tryz.prog :=
 Spec.auto Tryz.call7 (ckArg p.w q.w r.w s.w (mCl m) u.w) [] (svB true) [] (ckH hp hq hr hs hu hsm hm hb) ckNs 4000 Tryz.func7 hmA (by kernel_rfl) (fun β=>by kernel_rfl)
noncomputable def ckTw {t:Bool} (h:(ptB p q||(ptB q r||ptB p r))=t):Spec Tryz.prog:=(sR10Twins p.w q.w r.w (t1:=ptB p q) (t2:=ptB q r) (t3:=ptB p r) rfl rfl rfl).as [svP p,svP q,svP r] (svB t) rfl (congrArg svB h)
noncomputable def ck4 {m:MQ} (hm:MayQ m) (hb:ckSmB m=true) (h:(ptB p q||(ptB q r||ptB p r))=true):Spec Tryz.prog :=
 Spec.auto Tryz.call7 (ckArg p.w q.w r.w s.w (mCl m) u.w) [] (svB true) [] (ckH hp hq hr hs hu hsm hm hb++[(ckTw h).e]) ckNs 4000 Tryz.func7 hmA (by kernel_rfl) (fun β=>by kernel_rfl)
noncomputable def ckE {m:MQ} (D:CkD p q r s u m) (hb:ckSmB m=true) (h:(ptB p q||(ptB q r||ptB p r))=false):List (Ev Tryz.prog) :=
 ckH hp hq hr hs hu hsm D.hm hb++[(ckTw h).e,(ckR1 D).e,(ckAt D.hm (psz_fit D.zp) rfl (send_fit D.zm D.zp)).e,(cNum 0).e,(ckAt D.hm (psz_fit D.zq) rfl (send_fit D.zm D.zq)).e,(cNum 0).e,(ckAt D.hm (psz_fit D.zr) rfl (send_fit D.zm D.zr)).e,(cNum 0).e,(ckAt D.hm (psz_fit D.zs) rfl (send_fit D.zm D.zs)).e,(cNum 0).e,(ckR2 D).e] ++
  (bif m.t then [(cConj (pRat p q r s)).e] else [])++[(ckAl D).e,(cNum 0).e,(cNum 0).e,(cNum 0).e,eqEvPt (ptB_self (ckY m.t (pRat p q r s))),
  (ckF1 D).e,(ckC D).e,(ckA D).e,(ckF2 D).e,(cNum 0).e,(cNum 0).e,(cNum 0).e,(cNum 0).e,eqEvPt (ptB_self s),eqEvPt (ptB_self (pRat p q r s)),(ckR3 D).e,(cNum 0).e,eqEvPt (ptB_self u)]
noncomputable def ck5t {a b c d:GQ} (D:CkD p q r s u ⟨a,b,c,d,true⟩) (hb:ckSmB ⟨a,b,c,d,true⟩=true) (h:(ptB p q||(ptB q r||ptB p r))=false):Spec Tryz.prog :=
 Spec.auto Tryz.call7 (ckArg p.w q.w r.w s.w (mCl ⟨a,b,c,d,true⟩) u.w) [] (svB true) [] (ckE hp hq hr hs hu hsm D hb h) ckNs 4000 Tryz.func7 hmA (by kernel_rfl) (fun β=>by kernel_rfl)
noncomputable def ck5f {a b c d:GQ} (D:CkD p q r s u ⟨a,b,c,d,false⟩) (hb:ckSmB ⟨a,b,c,d,false⟩=true) (h:(ptB p q||(ptB q r||ptB p r))=false):Spec Tryz.prog :=
 Spec.auto Tryz.call7 (ckArg p.w q.w r.w s.w (mCl ⟨a,b,c,d,false⟩) u.w) [] (svB true) [] (ckE hp hq hr hs hu hsm D hb h) ckNs 4000 Tryz.func7 hmA (by kernel_rfl) (fun β=>by kernel_rfl)
end
abbrev ckDen (p q r s:Rw) (M:List Lf) (u:Rw):Array Value:=((ckArg p q r s M u).map (SV.den idE)).toArray
theorem ck_main {p q r s u:Pt} (hp:FitP p) (hq:FitP q) (hr:FitP r) (hs:FitP s) (hu:FitP u) (hsm:(p.w.sm 12&&(q.w.sm 12&&(r.w.sm 12&&(s.w.sm 12&&u.w.sm 12))))=true) {m:MQ} (hm:MayQ m) (W:World) :
  Calls Tryz.prog 7 (ckDen p.w q.w r.w s.w (mCl m) u.w) W fun e w'=>e=.returned (.bool true)∧Below W.heap.size W w':=by
 cases hb:ckSmB m with
 | false=>exact spec_yes (ck3 hp hq hr hs hu hsm hm hb) rfl rfl W
 | true=>cases h:(ptB p q||(ptB q r||ptB p r)) with
  | true=>exact spec_yes (ck4 hp hq hr hs hu hsm hm hb h) rfl rfl W
  | false =>
   have hz:=hsm
   simp only [Bool.and_eq_true] at hz
   have hb2:=hb
   unfold ckSmB at hb2
   simp only [Bool.and_eq_true] at hb2
   have h':=h
   simp only [Bool.or_eq_false_iff] at h'
   have D:CkD p q r s u m:=⟨ckL5 hz.1,ckL5 hz.2.1,ckL5 hz.2.2.1,ckL5 hz.2.2.2.1,ckL5 hz.2.2.2.2,⟨ckL4 hb2.1,ckL4 hb2.2.1,ckL4 hb2.2.2.1,ckL4 hb2.2.2.2⟩,hm,ptB_ne h'.1,ptB_ne h'.2.1,Ne.symm (ptB_ne h'.2.2)⟩
   obtain ⟨a,b,c,d,t⟩:=m
   cases t
   · exact spec_yes (ck5f hp hq hr hs hu hsm D hb h) rfl rfl W
   · exact spec_yes (ck5t hp hq hr hs hu hsm D hb h) rfl rfl W
theorem ck_join (p q r s u:Pp) (M:Mp) (W:World):Calls Tryz.prog 7 (ckDen p.w q.w r.w s.w M.C u.w) W fun e w'=>e=.returned (.bool true)∧Below W.heap.size W w':=by
 cases ha:(p.B&&(q.B&&(r.B&&(s.B&&u.B)))) with
 | false=>exact spec_yes (ck1 p q r s u M ha rfl rfl) rfl rfl W
 | true=>cases hb:(p.w.sm 12&&(q.w.sm 12&&(r.w.sm 12&&(s.w.sm 12&&u.w.sm 12)))) with
  | false=>exact spec_yes (ck1 p q r s u M ha hb rfl) rfl rfl W
  | true =>
   simp only [Bool.and_eq_true] at ha
   obtain ⟨p,hp,rfl⟩:=Pp.good ha.1
   obtain ⟨q,hq,rfl⟩:=Pp.good ha.2.1
   obtain ⟨r,hr,rfl⟩:=Pp.good ha.2.2.1
   obtain ⟨s,hs,rfl⟩:=Pp.good ha.2.2.2.1
   obtain ⟨u,hu,rfl⟩:=Pp.good ha.2.2.2.2
   rw [ppt_w,ppt_w,ppt_w,ppt_w,ppt_w] at hb ⊢
   rcases open_all M with ⟨m,hm,e⟩ | ⟨t,ho⟩
   · rw [e]
     exact ck_main hp hq hr hs hu hb hm W
   · exact spec_yes (ck2 hp hq hr hs hu hb M ho) rfl rfl W
theorem _root_.Go.Proofs.YtdiemgedlfnlmaaGreat.CrossKept_walk (p q r s:Rw) (x2_0 y2_0 x2_1 y2_1 x2_2 y2_2 x2_3 y2_3:R4) (t2:Bool) (u:Rw) (hp:p.ok) (hq:q.ok) (hr:r.ok) (hs:s.ok)
  (hx2_0:x2_0.s.size≤maxLen∧x2_0.t.size≤maxLen) (hy2_0:y2_0.s.size≤maxLen∧y2_0.t.size≤maxLen) (hx2_1:x2_1.s.size≤maxLen∧x2_1.t.size≤maxLen) (hy2_1:y2_1.s.size≤maxLen∧y2_1.t.size≤maxLen) (hx2_2:x2_2.s.size≤maxLen∧x2_2.t.size≤maxLen) (hy2_2:y2_2.s.size≤maxLen∧y2_2.t.size≤maxLen) (hx2_3:x2_3.s.size≤maxLen∧x2_3.t.size≤maxLen) (hy2_3:y2_3.s.size≤maxLen∧y2_3.t.size≤maxLen) (hu:u.ok) (W:World) :
  Calls Tryz.prog 7 #[.agg ((.bool p.i::(p.x.V++p.y.V))++(.bool q.i::(q.x.V++q.y.V))++(.bool r.i::(r.x.V++r.y.V))++(.bool s.i::(s.x.V++s.y.V))).toArray,.agg (x2_0.V++y2_0.V++x2_1.V++y2_1.V++x2_2.V++y2_2.V++x2_3.V++y2_3.V++[Value.bool t2]).toArray,.agg (.bool u.i::(u.x.V++u.y.V)).toArray] W fun e w'=>e=.returned (.bool true)∧Below W.heap.size W w':=by
 obtain ⟨p,rfl⟩:=pp_of p hp
 obtain ⟨q,rfl⟩:=pp_of q hq
 obtain ⟨r,rfl⟩:=pp_of r hr
 obtain ⟨s,rfl⟩:=pp_of s hs
 obtain ⟨u,rfl⟩:=pp_of u hu
 obtain ⟨ax2_0,rfl⟩:=fr_of x2_0 hx2_0
 obtain ⟨ay2_0,rfl⟩:=fr_of y2_0 hy2_0
 obtain ⟨ax2_1,rfl⟩:=fr_of x2_1 hx2_1
 obtain ⟨ay2_1,rfl⟩:=fr_of y2_1 hy2_1
 obtain ⟨ax2_2,rfl⟩:=fr_of x2_2 hx2_2
 obtain ⟨ay2_2,rfl⟩:=fr_of y2_2 hy2_2
 obtain ⟨ax2_3,rfl⟩:=fr_of x2_3 hx2_3
 obtain ⟨ay2_3,rfl⟩:=fr_of y2_3 hy2_3
 exact ck_join p q r s u ⟨ax2_0,ay2_0,ax2_1,ay2_1,ax2_2,ay2_2,ax2_3,ay2_3,t2⟩ W
end Go.Proofs.YtdiemgedlfnlmaaGreat.Y
end
section
namespace Go.Proofs.YtdiemgedlfnlmaaGreat
open Go.ChangeShapes Go.WideShapes Go.ChangeAt Go.RowKit
theorem cellsOf_bool:Tryz.prog.cellsOf 4=1:=by kernel_rfl
theorem cellsOf_string:Tryz.prog.cellsOf 9=1:=by kernel_rfl
theorem cellsOf_whole:Tryz.prog.cellsOf 23=2:=by kernel_rfl
theorem cellsOf_frac:Tryz.prog.cellsOf 25=4:=by kernel_rfl
section
variable {H:Type} {enc:TypeId × Value→H} {w:World} {base:Nat} {spare:Nat→Bool} {held:Bool}
set_option maxRecDepth 100000 in
theorem trod_whole {fuel:Nat} {cs:List Value} {x:DataW H × List MemPlace} (h:DataW.trod enc Tryz.prog w base spare held fuel 23 cs=some x) :
  ∃ (b:Bool) (s:ByteArray),cs=[.bool b,.string s]∧s.size≤maxLen:=by
 obtain ⟨xs,n,rfl,_,hlen,hxl,hf⟩:=DataW.trod_struct Tryz.underlying23 h
 rw [cellsOf_whole] at hlen
 have hx0:xs[0]?=some (xs[0]'(by rw [hxl]; decide)):=List.getElem?_eq_getElem _
 have hx1:xs[1]?=some (xs[1]'(by rw [hxl]; decide)):=List.getElem?_eq_getElem _
 have h0:DataW.trod enc Tryz.prog w base spare held n 4 ((cs.drop 0).take (Tryz.prog.cellsOf 4))=some _:=(hf 0 _ rfl).trans hx0
 have h1:DataW.trod enc Tryz.prog w base spare held n 9 ((cs.drop 1).take (Tryz.prog.cellsOf 9))=some _:=(hf 1 _ rfl).trans hx1
 rw [cellsOf_bool] at h0
 rw [cellsOf_string] at h1
 match cs,hlen with
 | [a,b],_ =>
  obtain ⟨p,e0,_⟩:=DataW.trod_bool Tryz.underlying4 h0
  obtain ⟨s,e1,_,hs⟩:=DataW.trod_string Tryz.underlying9 h1
  cases e0
  cases e1
  exact ⟨p,s,rfl,hs⟩
set_option maxRecDepth 100000 in
theorem trod_frac {fuel:Nat} {cs:List Value} {x:DataW H × List MemPlace} (h:DataW.trod enc Tryz.prog w base spare held fuel 25 cs=some x) :
  ∃ (b c:Bool) (s t:ByteArray),cs=[.bool b,.string s,.bool c,.string t]∧s.size≤maxLen∧t.size≤maxLen:=by
 obtain ⟨xs,n,rfl,_,hlen,hxl,hf⟩:=DataW.trod_struct Tryz.underlying25 h
 rw [cellsOf_frac] at hlen
 have hx0:xs[0]?=some (xs[0]'(by rw [hxl]; decide)):=List.getElem?_eq_getElem _
 have hx1:xs[1]?=some (xs[1]'(by rw [hxl]; decide)):=List.getElem?_eq_getElem _
 have h0:DataW.trod enc Tryz.prog w base spare held n 23 ((cs.drop 0).take (Tryz.prog.cellsOf 23))=some _:=(hf 0 _ rfl).trans hx0
 have h1:DataW.trod enc Tryz.prog w base spare held n 23 ((cs.drop 2).take (Tryz.prog.cellsOf 23))=some _:=(hf 1 _ rfl).trans hx1
 rw [cellsOf_whole] at h0 h1
 match cs,hlen with
 | [a,b,c,d],_ =>
  obtain ⟨p,s,e0,hs⟩:=trod_whole h0
  obtain ⟨q,t,e1,ht⟩:=trod_whole h1
  cases e0
  cases e1
  exact ⟨p,q,s,t,rfl,hs,ht⟩
end
end Go.Proofs.YtdiemgedlfnlmaaGreat
end
section
namespace Go.Proofs.YtdiemgedlfnlmaaGreat
open Go Go.ChangeShapes Go.WideShapes Go.ChangeAt Go.RowKit
theorem cellsOf_gauss:Tryz.prog.cellsOf 37=8:=by kernel_rfl
theorem cellsOf_point:Tryz.prog.cellsOf 39=9:=by kernel_rfl
theorem cellsOf_mob:Tryz.prog.cellsOf 74=33:=by kernel_rfl
theorem cellsOf_p4:Tryz.prog.cellsOf 72=36:=by kernel_rfl
theorem okWide_array {P:Program} {w:World} {r:Reach} {base:Nat} {t e:TypeId} {v:Value} {n:Nat} (ht:P.underlying t=some (.array n e)) (h:Value.okWide P w r base t v):∃ cs,v=.agg cs∧cs.size=P.cellsOf t:=by
 simp only [Value.okWide,ht] at h
 obtain ⟨cs,h1,h2,_⟩:=h
 exact ⟨cs,h1,h2⟩
theorem chunk {α:Type} (cs:List α) (a b:Nat):cs.drop a=(cs.drop a).take b++cs.drop (a+b):=by
 rw [← List.drop_drop,List.take_append_drop]
def R4.ok (x:R4):Prop:=x.s.size≤maxLen∧x.t.size≤maxLen
section
variable {H:Type} {enc:TypeId × Value→H} {w:World} {base:Nat} {spare:Nat→Bool} {held:Bool}
theorem trod_r4 {fuel:Nat} {cs:List Value} {x:DataW H × List MemPlace} (h:DataW.trod enc Tryz.prog w base spare held fuel 25 cs=some x):∃ r:R4,cs=r.V∧r.ok:=by
 obtain ⟨b,c,s,t,e,h1,h2⟩:=trod_frac h
 exact ⟨⟨b,s,c,t⟩,e,h1,h2⟩
set_option maxRecDepth 100000 in
theorem trod_gauss {fuel:Nat} {cs:List Value} {x:DataW H × List MemPlace} (h:DataW.trod enc Tryz.prog w base spare held fuel 37 cs=some x):∃ r s:R4,cs=r.V++s.V∧r.ok∧s.ok:=by
 obtain ⟨xs,n,rfl,_,hlen,hxl,hf⟩:=DataW.trod_struct Tryz.underlying37 h
 rw [cellsOf_gauss] at hlen
 have hx0:xs[0]?=some (xs[0]'(by rw [hxl]; decide)):=List.getElem?_eq_getElem _
 have hx1:xs[1]?=some (xs[1]'(by rw [hxl]; decide)):=List.getElem?_eq_getElem _
 have h0:DataW.trod enc Tryz.prog w base spare held n 25 ((cs.drop 0).take (Tryz.prog.cellsOf 25))=some _:=(hf 0 _ rfl).trans hx0
 have h1:DataW.trod enc Tryz.prog w base spare held n 25 ((cs.drop 4).take (Tryz.prog.cellsOf 25))=some _:=(hf 1 _ rfl).trans hx1
 rw [cellsOf_frac] at h0 h1
 obtain ⟨r,e0,k0⟩:=trod_r4 h0
 obtain ⟨s,e1,k1⟩:=trod_r4 h1
 refine ⟨r,s,?_,k0,k1⟩
 have:=chunk cs 0 4
 rw [e0,List.drop_zero] at this
 rw [this,chunk cs (0+4) 4,e1,List.drop_of_length_le (by omega),List.append_nil]
set_option maxRecDepth 100000 in
theorem trod_point {fuel:Nat} {cs:List Value} {x:DataW H × List MemPlace} (h:DataW.trod enc Tryz.prog w base spare held fuel 39 cs=some x):∃ (i:Bool) (r s:R4),cs=.bool i::(r.V++s.V)∧r.ok∧s.ok:=by
 obtain ⟨xs,n,rfl,_,hlen,hxl,hf⟩:=DataW.trod_struct Tryz.underlying39 h
 rw [cellsOf_point] at hlen
 have hx0:xs[0]?=some (xs[0]'(by rw [hxl]; decide)):=List.getElem?_eq_getElem _
 have hx1:xs[1]?=some (xs[1]'(by rw [hxl]; decide)):=List.getElem?_eq_getElem _
 have h0:DataW.trod enc Tryz.prog w base spare held n 4 ((cs.drop 0).take (Tryz.prog.cellsOf 4))=some _:=(hf 0 _ rfl).trans hx0
 have h1:DataW.trod enc Tryz.prog w base spare held n 37 ((cs.drop 1).take (Tryz.prog.cellsOf 37))=some _:=(hf 1 _ rfl).trans hx1
 rw [cellsOf_bool] at h0
 rw [cellsOf_gauss] at h1
 obtain ⟨r,s,e1,k1⟩:=trod_gauss h1
 have e3:cs.drop 1=r.V++s.V:=by
  have:=chunk cs 1 8
  rw [e1] at this
  rw [this,List.drop_of_length_le (show cs.length≤1+8 by omega),List.append_nil]
 have e2:cs=cs.take 1++(r.V++s.V):=by rw [← e3,List.take_append_drop]
 match hc:(cs.take 1),(show (cs.take 1).length=1 by rw [List.length_take]; omega) with
 | [a],_ =>
  rw [List.drop_zero,hc] at h0
  obtain ⟨i,e0,_⟩:=DataW.trod_bool Tryz.underlying4 h0
  refine ⟨i,r,s,?_,k1⟩
  rw [hc] at e2
  rw [e2]
  cases e0
  rfl
set_option maxRecDepth 100000 in
theorem open_p4 {r:Reach} {b0:Nat} {v:Value} {d:DataW H} {p:List MemPlace} (hv:Value.okWide Tryz.prog w r b0 72 v) (h:DataW.Trod enc Tryz.prog w base spare held 72 v d p) :
  ∃ (i j k l:Bool) (a b c d e f g h:R4),v=.agg ((.bool i::(a.V++b.V))++(.bool j::(c.V++d.V))++(.bool k::(e.V++f.V))++(.bool l::(g.V++h.V))).toArray∧(a.ok∧b.ok)∧(c.ok∧d.ok)∧(e.ok∧f.ok)∧g.ok∧h.ok:=by
 obtain ⟨cs,rfl,hsz⟩:=okWide_array Tryz.underlying72 hv
 obtain ⟨fuel,hf⟩:=h
 obtain ⟨l⟩:=cs
 obtain ⟨xs,n,rfl,_,hlen,hxl,hg⟩:=DataW.trod_array Tryz.underlying72 hf
 simp only [Value.cells] at hlen hg
 rw [cellsOf_p4] at hlen
 rw [cellsOf_point] at hg
 have key:∀ i,i<4→∃ (j:Bool) (r s:R4),(l.drop (i*9)).take 9=.bool j::(r.V++s.V)∧r.ok∧s.ok:=fun i hi=>by
  have hx:xs[i]?=some (xs[i]'(by rw [hxl]; exact hi)):=List.getElem?_eq_getElem _
  exact trod_point ((hg i hi).trans hx)
 obtain ⟨i0,a0,b0,e0,k0⟩:=key 0 (by decide)
 obtain ⟨i1,a1,b1,e1,k1⟩:=key 1 (by decide)
 obtain ⟨i2,a2,b2,e2,k2⟩:=key 2 (by decide)
 obtain ⟨i3,a3,b3,e3,k3⟩:=key 3 (by decide)
 refine ⟨i0,i1,i2,i3,a0,b0,a1,b1,a2,b2,a3,b3,?_,k0,k1,k2,k3⟩
 have c0:=chunk l (0*9) 9
 have c1:=chunk l (1*9) 9
 have c2:=chunk l (2*9) 9
 have c3:=chunk l (3*9) 9
 rw [e3,List.drop_of_length_le (show l.length≤3*9+9 by omega),List.append_nil] at c3
 rw [e2,show 2*9+9=3*9 by rfl,c3] at c2
 rw [e1,show 1*9+9=2*9 by rfl,c2] at c1
 rw [e0,show 0*9+9=1*9 by rfl,c1,show 0*9=0 by rfl,List.drop_zero] at c0
 rw [c0]
 simp only [List.append_assoc,List.cons_append]
end
section
variable {H:Type} {enc:TypeId × Value→H} {w:World} {base:Nat} {spare:Nat→Bool} {held:Bool}
set_option maxRecDepth 100000 in
theorem trod_mob {fuel:Nat} {cs:List Value} {x:DataW H × List MemPlace} (h:DataW.trod enc Tryz.prog w base spare held fuel 74 cs=some x) :
  ∃ (a b c d e f g k:R4) (t:Bool),cs=a.V++b.V++c.V++d.V++e.V++f.V++g.V++k.V++[Value.bool t]∧a.ok∧b.ok∧c.ok∧d.ok∧e.ok∧f.ok∧g.ok∧k.ok:=by
 obtain ⟨xs,n,rfl,_,hlen,hxl,hf⟩:=DataW.trod_struct Tryz.underlying74 h
 rw [cellsOf_mob] at hlen
 have hx0:xs[0]?=some (xs[0]'(by rw [hxl]; decide)):=List.getElem?_eq_getElem _
 have hx1:xs[1]?=some (xs[1]'(by rw [hxl]; decide)):=List.getElem?_eq_getElem _
 have hx2:xs[2]?=some (xs[2]'(by rw [hxl]; decide)):=List.getElem?_eq_getElem _
 have hx3:xs[3]?=some (xs[3]'(by rw [hxl]; decide)):=List.getElem?_eq_getElem _
 have hx4:xs[4]?=some (xs[4]'(by rw [hxl]; decide)):=List.getElem?_eq_getElem _
 have h0:DataW.trod enc Tryz.prog w base spare held n 37 ((cs.drop 0).take (Tryz.prog.cellsOf 37))=some _:=(hf 0 _ rfl).trans hx0
 have h1:DataW.trod enc Tryz.prog w base spare held n 37 ((cs.drop 8).take (Tryz.prog.cellsOf 37))=some _:=(hf 1 _ rfl).trans hx1
 have h2:DataW.trod enc Tryz.prog w base spare held n 37 ((cs.drop 16).take (Tryz.prog.cellsOf 37))=some _:=(hf 2 _ rfl).trans hx2
 have h3:DataW.trod enc Tryz.prog w base spare held n 37 ((cs.drop 24).take (Tryz.prog.cellsOf 37))=some _:=(hf 3 _ rfl).trans hx3
 have h4:DataW.trod enc Tryz.prog w base spare held n 4 ((cs.drop 32).take (Tryz.prog.cellsOf 4))=some _:=(hf 4 _ rfl).trans hx4
 rw [cellsOf_gauss] at h0 h1 h2 h3
 rw [cellsOf_bool] at h4
 obtain ⟨a0,b0,e0,k0⟩:=trod_gauss h0
 obtain ⟨a1,b1,e1,k1⟩:=trod_gauss h1
 obtain ⟨a2,b2,e2,k2⟩:=trod_gauss h2
 obtain ⟨a3,b3,e3,k3⟩:=trod_gauss h3
 obtain ⟨t,e4⟩:∃ t,cs.drop 32=[Value.bool t]:=by
  match hc:(cs.drop 32),(show (cs.drop 32).length=1 by rw [List.length_drop]; omega) with
  | [a],_ =>
   rw [hc] at h4
   obtain ⟨i,e0,_⟩:=DataW.trod_bool Tryz.underlying4 h4
   refine ⟨i,?_⟩
   cases e0
   rfl
 refine ⟨a0,b0,a1,b1,a2,b2,a3,b3,t,?_,k0.1,k0.2,k1.1,k1.2,k2.1,k2.2,k3.1,k3.2⟩
 have c0:=chunk cs 0 8
 have c1:=chunk cs (0+8) 8
 have c2:=chunk cs (0+8+8) 8
 have c3:=chunk cs (0+8+8+8) 8
 rw [e3,show 0+8+8+8+8=32 by rfl,e4] at c3
 rw [e2,c3] at c2
 rw [e1,c2] at c1
 rw [e0,c1,List.drop_zero] at c0
 rw [c0]
 simp only [List.append_assoc]
set_option maxRecDepth 100000 in
theorem open_mob {r:Reach} {b0:Nat} {v:Value} {d:DataW H} {p:List MemPlace} (hv:Value.okWide Tryz.prog w r b0 74 v) (h:DataW.Trod enc Tryz.prog w base spare held 74 v d p) :
  ∃ (x0 y0 x1 y1 x2 y2 x3 y3:R4) (t:Bool),v=.agg (x0.V++y0.V++x1.V++y1.V++x2.V++y2.V++x3.V++y3.V++[Value.bool t]).toArray∧x0.ok∧y0.ok∧x1.ok∧y1.ok∧x2.ok∧y2.ok∧x3.ok∧y3.ok:=by
 obtain ⟨cs,rfl,hsz⟩:=okWide_struct Tryz.underlying74 hv
 obtain ⟨fuel,hf⟩:=h
 obtain ⟨l⟩:=cs
 obtain ⟨a,b,c,d,e,f,g,k,t,rfl,hh⟩:=trod_mob hf
 exact ⟨a,b,c,d,e,f,g,k,t,rfl,hh⟩
end
section
variable {H:Type} {enc:TypeId × Value→H} {w:World} {base:Nat} {spare:Nat→Bool} {held:Bool}
set_option maxRecDepth 100000 in
theorem open_pt {r:Reach} {b0:Nat} {v:Value} {d:DataW H} {p:List MemPlace} (hv:Value.okWide Tryz.prog w r b0 39 v) (h:DataW.Trod enc Tryz.prog w base spare held 39 v d p) :
  ∃ (i:Bool) (x y:R4),v=.agg (.bool i::(x.V++y.V)).toArray∧x.ok∧y.ok:=by
 obtain ⟨cs,rfl,hsz⟩:=okWide_struct Tryz.underlying39 hv
 obtain ⟨fuel,hf⟩:=h
 obtain ⟨l⟩:=cs
 obtain ⟨i,a,b,rfl,hh⟩:=trod_point hf
 exact ⟨i,a,b,rfl,hh⟩
end
end Go.Proofs.YtdiemgedlfnlmaaGreat
end
