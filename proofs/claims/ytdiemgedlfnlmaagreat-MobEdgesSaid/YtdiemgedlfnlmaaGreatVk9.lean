/- Gy, EyA, RefA, RefC, Arh, Frm, RefH, RefJ, Fra, RefB, EvB, EqA, Rs3, ExM, EyB. -/
import Derived.BigQuiet
import Derived.Deep.QuietTactic
import Derived.Test.YtdiemgedlfnlmaaGreatVk8
set_option linter.unnecessarySimpa false
set_option linter.unusedVariables false
set_option linter.unusedSimpArgs false
section
namespace Go.Proofs.YtdiemgedlfnlmaaGreat.Y
open Go Go.RowKit
def At1 (g:Pl) (b:Nat):Prop:=g.v 0=some ⟨b,0,none⟩∧∀ c,g.F c↔c=b
theorem Pl.one.at1 {g:Pl} (h:g.one):At1 g g.b:=⟨h.2 0,h.1⟩
def PR (x:Rat) (w:World) (g:Pl):Prop:=∃ b,At1 g b∧RatAt w b 0 x
def OR0 (x:Rat) (w:World) (g:Pl):Prop:=(g.v 0=none∧(∀ c,¬ g.F c)∧x=0)∨PR x w g
theorem RatAt.touchN {w w':World} {b o n g i:Nat} {q:Rat} (h:RatAt w g i q) (hs:NW w b) (k:Touch w w' b o n) (hd:g≠b):RatAt w' g i q:=by
 obtain ⟨h1,h2,d,h3,h4⟩:=h
 exact ⟨h1.touch k,h2.touchN hs k (.inl hd),d,h3.touchN hs k (.inl hd),h4⟩
theorem pr_stable (x:Rat):Stable (PR x) :=
 ⟨fun w g ⟨b,h,k⟩ c hc=>by rw [(h.2 c).1 hc]; exact k.lt,fun w w' g ⟨b,h,k⟩ hb=>⟨b,h,k.on hb⟩,
  fun w w' g b o n m ⟨d,h,k⟩ hs ht hne=>⟨d,h,RatAt.touchN k hs ht fun e=>hne ((h.2 b).2 e.symm)⟩⟩
theorem or_stable (x:Rat):Stable (OR0 x) :=
 ⟨fun w g h c hc=>h.elim (fun k=>absurd hc (k.2.1 c)) fun k=>(pr_stable x).lt w g k c hc,
  fun w w' g h hb=>h.imp id fun k=>(pr_stable x).below w w' g k hb,
  fun w w' g b o n m h hs ht hne=>h.imp id fun k=>(pr_stable x).touch w w' g b o n m k hs ht hne⟩
theorem nil_or {x:Rat} (h:decide (x=0)=true) (w:World):OR0 x w nilPl:=.inl ⟨rfl,fun _ h=>h,of_decide_eq_true h⟩
theorem pr_cells {x:Rat} (w:World) (g:Pl) (h:PR x w g) (c:Nat) (hc:g.F c):∃ cs t fr,w.heap[c]?=some (.cells cs t fr):=by
 obtain ⟨b,h,k⟩:=h
 rw [(h.2 c).1 hc]
 obtain ⟨cs,t,h1,_⟩:=k.1
 exact ⟨_,_,_,h1⟩
def ratT (x:Rat):Thing:=⟨PR x,pr_stable x,1,OR0 x,or_stable x,fun _ _ h=>.inr h,false,fun h=>(Bool.noConfusion h),decide (x=0),nil_or,true,fun _=>pr_cells,true,fun _ w g h c hc=>h.elim (fun k=>absurd hc (k.2.1 c)) fun k=>pr_cells w g k c hc⟩
def ratM (x:Rat):Thing:=(ratT x).weak
theorem needP {β:Env} {w:World} {k:Nat} {x:Rat} {l:List (Nat × Ob)} (h:holdsAll β w l) (hm:(k,(ratT x).ob)∈l):PR x w (β k):=h _ hm
theorem fillP {β:Env} {i:Nat} {f:FuncId} {args:Array Value} {w:World} {x:Rat} (ho:(β i).one) (h:Calls Tryz.prog f args w fun e w'=>e=.returned (.pointer (some ⟨(β i).b,0,none⟩))∧RatAt w' (β i).b 0 x∧Touch w w' (β i).b 0 4) :
  Calls Tryz.prog f args w fun e w'=>e=.returned (.pointer (some ⟨(β i).b,0,none⟩))∧(ratT x).D w' (β i)∧Touch w w' (β i).b 0 4 :=
 h.mono fun e w' ⟨he,h1,h2⟩=>⟨he,⟨_,ho.at1,h1⟩,h2⟩
abbrev KB:Nat:=4000000000
section
variable {x y:Rat} (i n k j:Nat)
def eFAdd (hx:Sz KB x) (hy:Sz KB y):Ev Tryz.prog:=.fill 255 Tryz.call255 (fun β=>#[.pointer (some ⟨(β i).b,0,none⟩),.pointer ((β k).v 0),.pointer ((β j).v 0)]) [(k,(ratT x).ob),(j,(ratT y).ob)] i 4 n (ratT (x+y))
 (fun β w h ho hs=>by
  obtain ⟨a,ha,ka⟩:=needP (x:=x) (k:=k) h (by simp)
  obtain ⟨b,hb,kb⟩:=needP (x:=y) (k:=j) h (by simp)
  simp only [ha.1,hb.1]
  exact fillP ho (rAdd_any hs ka kb (hx.okR2 (by decide)) (hy.okR2 (by decide))))
def eFSub (hx:Sz KB x) (hy:Sz KB y):Ev Tryz.prog:=.fill 168 Tryz.call168 (fun β=>#[.pointer (some ⟨(β i).b,0,none⟩),.pointer ((β k).v 0),.pointer ((β j).v 0)]) [(k,(ratT x).ob),(j,(ratT y).ob)] i 4 n (ratT (x-y))
 (fun β w h ho hs=>by
  obtain ⟨a,ha,ka⟩:=needP (x:=x) (k:=k) h (by simp)
  obtain ⟨b,hb,kb⟩:=needP (x:=y) (k:=j) h (by simp)
  simp only [ha.1,hb.1]
  exact fillP ho (rSub_any hs ka kb (hx.okR2 (by decide)) (hy.okR2 (by decide))))
def eFMul (hx:Sz KB x) (hy:Sz KB y):Ev Tryz.prog:=.fill 171 Tryz.call171 (fun β=>#[.pointer (some ⟨(β i).b,0,none⟩),.pointer ((β k).v 0),.pointer ((β j).v 0)]) [(k,(ratT x).ob),(j,(ratT y).ob)] i 4 n (ratT (x*y))
 (fun β w h ho hs=>by
  obtain ⟨a,ha,ka⟩:=needP (x:=x) (k:=k) h (by simp)
  obtain ⟨b,hb,kb⟩:=needP (x:=y) (k:=j) h (by simp)
  simp only [ha.1,hb.1]
  exact fillP ho (rMul_any hs ka kb (hx.okR2 (by decide)) (hy.okR2 (by decide))))
def eFNeg (x:Rat):Ev Tryz.prog:=.fill 267 Tryz.call267 (fun β=>#[.pointer (some ⟨(β i).b,0,none⟩),.pointer ((β k).v 0)]) [(k,(ratT x).ob)] i 4 n (ratT (-x))
 (fun β w h ho hs=>by
  obtain ⟨a,ha,ka⟩:=needP (x:=x) (k:=k) h (by simp)
  simp only [ha.1]
  exact fillP ho (rNeg_any hs ka))
def eFInv (hx:Sz KB x) (h0:x≠0):Ev Tryz.prog:=.fill 269 Tryz.call269 (fun β=>#[.pointer (some ⟨(β i).b,0,none⟩),.pointer ((β k).v 0)]) [(k,(ratT x).ob)] i 4 n (ratT x⁻¹)
 (fun β w h ho hs=>by
  obtain ⟨a,ha,ka⟩:=needP (x:=x) (k:=k) h (by simp)
  simp only [ha.1]
  exact fillP ho (rInv_any hs ka (hx.okR2 (by decide)) h0))
end
theorem extE_z (β:Env) (n i:Nat) (g:Pl):(SV.one (.c (.b (.z n i)))).den (extE β n [g])=.pointer (g.v i):=by
 have:=extE_in (β:=β) (n:=n) (i:=0) (xs:=[g]) rfl
 rw [Nat.add_zero] at this
 simp only [SV.den,SC.den,Lf.den,Lf0.den,this]
theorem one_new {f:FuncId} {args:Array Value} {w:World} {x:Rat} (h:Calls Tryz.prog f args w fun e w'=>∃ g,e=.returned (.pointer (some ⟨g,0,none⟩))∧w.heap.size≤g∧RatAt w' g 0 x∧Below w.heap.size w w') (β:Env) (n:Nat) (l:List (Nat × Ob)) :
  Calls Tryz.prog f args w fun e w'=>∃ xs:List Pl,fresh β w l xs∧e=.returned ((SV.one (.c (.b (.z n 0)))).den (extE β n xs))∧newHold w' [ratT x] xs∧Below w.heap.size w w' :=
 h.mono fun e w' ⟨g,he,h1,h2,h3⟩=>⟨[newPl g],fun x hx c hc=>by
  obtain rfl:=List.mem_singleton.1 hx
  rw [((newPl_one g).1 c).1 hc]
  exact .inl h1,by rw [he,extE_z]; rfl,⟨⟨g,(newPl_one g).at1,h2⟩,trivial⟩,h3⟩
def eNewRat (n:Nat) (a b:Int) (ha : -9223372036854775808≤a∧a≤9223372036854775807) (hb : -9223372036854775808≤b∧b≤9223372036854775807) (h0:b≠0):Ev Tryz.prog :=
 .call 170 Tryz.call170 (fun _=>#[.int .i64 a,.int .i64 b]) [] n (.one (.c (.b (.z n 0)))) [ratT (Rat.divInt a b)] (fun β w _=>one_new (NewRat_any ha hb h0) β n _)
def eRatSign {x:Rat} {c:Int} (k:Nat) (hc:x.num.sign=c):Ev Tryz.prog :=
 .call 237 Tryz.call237 (fun β=>#[.pointer ((β k).v 0)]) [(k,(ratT x).ob)] 0 (tag (.int .i64 c)) []
  (fun β w h=>by
   obtain ⟨a,ha,ka⟩:=needP (x:=x) (k:=k) h (by simp)
   simp only [ha.1]
   exact of_pure0 ((rSign_any ka).mono fun e w' ⟨he,hb⟩=>⟨by rw [he,hc],by rw [← hb]; exact Below.refl _ _⟩) (fun _=>rfl))
def PI (n:Int) (w:World) (g:Pl):Prop:=∃ b,At1 g b∧IntAt w b 0 n
theorem pi_stable (n:Int):Stable (PI n) :=
 ⟨fun w g ⟨b,h,k⟩ c hc=>by rw [(h.2 c).1 hc]; exact k.lt,fun w w' g ⟨b,h,k⟩ hb=>⟨b,h,k.on hb⟩,
  fun w w' g b o n m ⟨d,h,k⟩ hs ht hne=>⟨d,h,k.touchN hs ht (.inl fun e=>hne ((h.2 b).2 e.symm))⟩⟩
def intT (n:Int):Thing:=thingC (PI n) (pi_stable n) fun w g h c hc=>by
 obtain ⟨b,h,k⟩:=h
 rw [(h.2 c).1 hc]
 obtain ⟨cs,t,h1,_⟩:=k.1
 exact ⟨_,_,_,h1⟩
theorem needI {β:Env} {w:World} {k:Nat} {n:Int} {l:List (Nat × Ob)} (h:holdsAll β w l) (hm:(k,(intT n).ob)∈l):PI n w (β k):=h _ hm
theorem one_int {f:FuncId} {args:Array Value} {w:World} {x:Int} (h:Calls Tryz.prog f args w fun e w'=>∃ g,e=.returned (.pointer (some ⟨g,0,none⟩))∧w.heap.size≤g∧IntAt w' g 0 x∧Below w.heap.size w w') (β:Env) (n:Nat) (l:List (Nat × Ob)) :
  Calls Tryz.prog f args w fun e w'=>∃ xs:List Pl,fresh β w l xs∧e=.returned ((SV.one (.c (.b (.z n 0)))).den (extE β n xs))∧newHold w' [intT x] xs∧Below w.heap.size w w' :=
 h.mono fun e w' ⟨g,he,h1,h2,h3⟩=>⟨[newPl g],fun x hx c hc=>by
  obtain rfl:=List.mem_singleton.1 hx
  rw [((newPl_one g).1 c).1 hc]
  exact .inl h1,by rw [he,extE_z]; rfl,⟨⟨g,(newPl_one g).at1,h2⟩,trivial⟩,h3⟩
def eNum (x:Rat) (k n:Nat):Ev Tryz.prog:=.call 268 Tryz.call268 (fun β=>#[.pointer ((β k).v 0)]) [(k,(ratT x).ob)] n (.one (.c (.b (.z n 0)))) [intT x.num] (fun β w h=>by
 obtain ⟨a,ha,ka⟩:=needP (x:=x) (k:=k) h (by simp)
 simp only [ha.1]
 exact one_int (rNum_any ka) β n _)
def eDenom (x:Rat) (k n:Nat):Ev Tryz.prog:=.call 286 Tryz.call286 (fun β=>#[.pointer ((β k).v 0)]) [(k,(ratT x).ob)] n (.one (.c (.b (.z n 0)))) [intT x.den] (fun β w h=>by
 obtain ⟨a,ha,ka⟩:=needP (x:=x) (k:=k) h (by simp)
 simp only [ha.1]
 exact one_int (rDenom_any ka) β n _)
def eIntCmp {a b c:Int} (k j:Nat) (hc:cmpI a b=c):Ev Tryz.prog :=
 .call 342 Tryz.call342 (fun β=>#[.pointer ((β k).v 0),.pointer ((β j).v 0)]) [(k,(intT a).ob),(j,(intT b).ob)] 0 (tag (.int .i64 c)) []
  (fun β w h=>by
   obtain ⟨p,hp,kp⟩:=needI (n:=a) (k:=k) h (by simp)
   obtain ⟨q,hq,kq⟩:=needI (n:=b) (k:=j) h (by simp)
   simp only [hp.1,hq.1]
   exact of_pure0 ((Cmp_any kp kq).mono fun e w' ⟨he,hb⟩=>⟨by rw [he,hc],hb⟩) (fun _=>rfl))
theorem okn_sz {n:Int} (h:sz n≤KB):Okn n:=by
 have:=wl_size h
 unfold Okn
 have h2:KB=4000000000:=rfl
 omega
def eSetFrac {a b:Int} (i n k j:Nat) (h0:b≠0) (ha:sz a≤KB) (hb:sz b≤KB):Ev Tryz.prog:=.fill 252 Tryz.call252 (fun β=>#[.pointer (some ⟨(β i).b,0,none⟩),.pointer ((β k).v 0),.pointer ((β j).v 0)]) [(k,(intT a).ob),(j,(intT b).ob)] i 4 n (ratT (Rat.divInt a b))
 (fun β w h ho hs=>by
  obtain ⟨p,hp,kp⟩:=needI (n:=a) (k:=k) h (by simp)
  obtain ⟨q,hq,kq⟩:=needI (n:=b) (k:=j) h (by simp)
  simp only [hp.1,hq.1]
  exact fillP ho (SetFrac_any hs kp kq h0 (okn_sz ha) (okn_sz hb)))
section
variable {x y:Rat}
def mkR:Ev Tryz.prog:=dynMk 188 4
def fAdd (hx:Sz KB x) (hy:Sz KB y):Ev Tryz.prog:=dyn3 fun i n k j=>eFAdd i n k j hx hy
def fSub (hx:Sz KB x) (hy:Sz KB y):Ev Tryz.prog:=dyn3 fun i n k j=>eFSub i n k j hx hy
def fMul (hx:Sz KB x) (hy:Sz KB y):Ev Tryz.prog:=dyn3 fun i n k j=>eFMul i n k j hx hy
def fNeg (x:Rat):Ev Tryz.prog:=dyn2 fun i n k=>eFNeg i n k x
def fInv (hx:Sz KB x) (h0:x≠0):Ev Tryz.prog:=dyn2 fun i n k=>eFInv i n k hx h0
def fSetFrac {a b:Int} (h0:b≠0) (ha:sz a≤KB) (hb:sz b≤KB):Ev Tryz.prog:=dyn3 fun i n k j=>eSetFrac i n k j h0 ha hb
def nNew (a b:Int) (ha : -9223372036854775808≤a∧a≤9223372036854775807) (hb : -9223372036854775808≤b∧b≤9223372036854775807) (h0:b≠0):Ev Tryz.prog:=dyn1 fun _ n=>eNewRat n a b ha hb h0
def nNum (x:Rat):Ev Tryz.prog:=dyn1 fun k n=>eNum x k n
def nDenom (x:Rat):Ev Tryz.prog:=dyn1 fun k n=>eDenom x k n
def nSign {c:Int} (hc:x.num.sign=c):Ev Tryz.prog:=dyn1 fun k _=>eRatSign k hc
def nIntCmp {a b c:Int} (hc:cmpI a b=c):Ev Tryz.prog:=dyn2 fun k _ j=>eIntCmp k j hc
end
end Go.Proofs.YtdiemgedlfnlmaaGreat.Y
end
section
namespace Go.Proofs.YtdiemgedlfnlmaaGreat.Y
open Go Go.RowKit
set_option maxRecDepth 100000
abbrev KE:Nat:=40000000
abbrev KM:Nat:=400000000
theorem sign_zero (x:Rat):(Value.bool (x.num.sign==0))=.bool (decide (x=0)):=by
 congr 1
 rw [Bool.eq_iff_iff,beq_iff_eq,decide_eq_true_iff,Int.sign_eq_zero_iff_zero,Rat.num_eq_zero]
theorem sign_lit {x:Rat} {b:Bool} (h:decide (x=0)=b):(Value.bool (x.num.sign==0))=.bool b:=by rw [sign_zero,h]
theorem exrat_nil {w:World}:Calls Tryz.prog 284 #[.pointer none] w fun e w'=>∃ g,e=.returned (.pointer (some ⟨g,0,none⟩))∧w.heap.size≤g∧RatAt w' g 0 0∧Below w.heap.size w w':=by
 have HB:=Lib.hid (below_new w (.cells #[.bool false,.slice none 0 0,.bool false,.slice none 0 0] 188))
 have HR:=Lib.hid (RatAt.new w)
 go_enter Tryz.func284,Tryz.ntmps284
 go_wp2
 go_ret
 exact ⟨w.heap.size,rfl,Nat.le_refl _,HR.out,HB.out⟩
theorem exrat_same {w:World} {b:Nat}:Calls Tryz.prog 284 #[.pointer (some ⟨b,0,none⟩)] w fun e w'=>e=.returned (.pointer (some ⟨b,0,none⟩))∧Below w.heap.size w w':=by
 have HB:=Lib.hid (Below.refl w.heap.size w)
 go_enter Tryz.func284,Tryz.ntmps284
 go_wp2
 go_ret
 exact ⟨rfl,HB.out⟩
def sRat (x:Rat):Spec Tryz.prog :=
 ⟨284,Tryz.call284,[.one (.c (.b (.z 0 0)))],[ratM x],.one (.c (.b (.z 1 0))),[ratT x],fun β w hh=>by
  have h:OR0 x w (β 0):=hh 0 (ratM x) rfl
  show Calls _ _ #[.pointer ((β 0).v 0)] w _
  rcases h with ⟨hv,_,rfl⟩ | ⟨b,hb,hx⟩
  · rw [hv]
    refine exrat_nil.mono fun e w' ⟨g,he,h1,h2,h3⟩=>⟨[newPl g],fun x hx c hc=>?_,by rw [he]; rfl,⟨⟨g,(newPl_one g).at1,h2⟩,trivial⟩,h3⟩
    obtain rfl:=List.mem_singleton.1 hx
    rw [((newPl_one g).1 c).1 hc]
    exact .inl h1
  · rw [hb.1]
    refine exrat_same.mono fun e w' ⟨he,h3⟩=>⟨[newPl b],fun x hx c hc=>?_,by rw [he]; rfl,⟨⟨b,(newPl_one b).at1,hx.on h3⟩,trivial⟩,h3⟩
    obtain rfl:=List.mem_singleton.1 hx
    exact .inr ⟨0,Nat.zero_lt_one,(hb.2 c).2 (((newPl_one b).1 c).1 hc)⟩,by kernel_rfl⟩
abbrev nA (k:Nat):SC:=.a [.b (.z k 0),.b (.z (k+1) 0)]
abbrev nV (k:Nat):SV:=.one (nA k)
abbrev rV (k:Nat):SV:=.one (.c (.b (.z k 0)))
abbrev gM (z:GQ):List Thing:=[ratM z.re,ratM z.im]
abbrev gT (z:GQ):List Thing:=[ratT z.re,ratT z.im]
def sMulR {x:Rat} (hx:Sz KB x) {y:Rat} (hy:Sz KB y):Spec Tryz.prog :=
 Spec.auto Tryz.call291 [rV 0,rV 1] ([ratM x,ratM y]) (rV 2) ([ratT (x*y)])
  [mkR,(sRat (x)).e,(sRat (y)).e,fMul (hx.mono (by decide)) (hy.mono (by decide))]
  [] 2000 Tryz.func291 hmA (by kernel_rfl) (fun β=>by kernel_rfl)
def sAdd {z:GQ} (hz:GSz KM z) {w:GQ} (hw:GSz KM w):Spec Tryz.prog :=
 Spec.auto Tryz.call190 [nV 0,nV 2] (gM z++gM w) (nV 4) (gT (gadd z w))
  [mkR,(sRat (z.re)).e,(sRat (w.re)).e,fAdd (hz.1.mono (by decide)) (hw.1.mono (by decide)),mkR,(sRat (z.im)).e,(sRat (w.im)).e,fAdd (hz.2.mono (by decide)) (hw.2.mono (by decide))]
  [(1,17)] 2000 Tryz.func190 hmA (by kernel_rfl) (fun β=>by kernel_rfl)
def sSub {z:GQ} (hz:GSz KM z) {w:GQ} (hw:GSz KM w):Spec Tryz.prog :=
 Spec.auto Tryz.call309 [nV 0,nV 2] (gM z++gM w) (nV 4) (gT (gsub z w))
  [mkR,(sRat (z.re)).e,(sRat (w.re)).e,fSub (hz.1.mono (by decide)) (hw.1.mono (by decide)),mkR,(sRat (z.im)).e,(sRat (w.im)).e,fSub (hz.2.mono (by decide)) (hw.2.mono (by decide))]
  [(1,17)] 2000 Tryz.func309 hmA (by kernel_rfl) (fun β=>by kernel_rfl)
def sMul {z:GQ} (hz:GSz KM z) {w:GQ} (hw:GSz KM w):Spec Tryz.prog :=
 Spec.auto Tryz.call166 [nV 0,nV 2] (gM z++gM w) (nV 4) (gT (gmul z w))
  [mkR,(sMulR (hz.1.mono (by decide)) (hw.1.mono (by decide))).e,(sMulR (hz.2.mono (by decide)) (hw.2.mono (by decide))).e,fSub ((Sz.mul hz.1 hw.1).mono (by decide)) ((Sz.mul hz.2 hw.2).mono (by decide)),mkR,(sMulR (hz.1.mono (by decide)) (hw.2.mono (by decide))).e,(sMulR (hz.2.mono (by decide)) (hw.1.mono (by decide))).e,fAdd ((Sz.mul hz.1 hw.2).mono (by decide)) ((Sz.mul hz.2 hw.1).mono (by decide))]
  [(1,25)] 2000 Tryz.func166 hmA (by kernel_rfl) (fun β=>by kernel_rfl)
def sScale {z:GQ} (hz:GSz KB z) {x:Rat} (hx:Sz KB x):Spec Tryz.prog :=
 Spec.auto Tryz.call330 [nV 0,rV 2] (gM z++[ratM x]) (nV 3) (gT (gscale z x))
  [(sMulR (hz.1.mono (by decide)) (hx.mono (by decide))).e,(sMulR (hz.2.mono (by decide)) (hx.mono (by decide))).e]
  [(1,9)] 2000 Tryz.func330 hmA (by kernel_rfl) (fun β=>by kernel_rfl)
def sNorm {z:GQ} (hz:GSz KM z):Spec Tryz.prog :=
 Spec.auto Tryz.call169 [nV 0] (gM z) (rV 2) ([ratT (gnorm z)])
  [mkR,(sMulR (hz.1.mono (by decide)) (hz.1.mono (by decide))).e,(sMulR (hz.2.mono (by decide)) (hz.2.mono (by decide))).e,fAdd ((Sz.mul hz.1 hz.1).mono (by decide)) ((Sz.mul hz.2 hz.2).mono (by decide))]
  [] 2000 Tryz.func169 hmA (by kernel_rfl) (fun β=>by kernel_rfl)
def sNeg (z:GQ):Spec Tryz.prog :=
 Spec.auto Tryz.call160 [nV 0] (gM z) (nV 2) (gT (gneg z))
  [mkR,(sRat (z.re)).e,fNeg z.re,mkR,(sRat (z.im)).e,fNeg z.im]
  [(1,11)] 2000 Tryz.func160 hmA (by kernel_rfl) (fun β=>by kernel_rfl)
def sConj (z:GQ):Spec Tryz.prog :=
 Spec.auto Tryz.call162 [nV 0] (gM z) (nV 2) (gT (gconj z))
  [(sRat (z.re)).e,mkR,(sRat (z.im)).e,fNeg z.im]
  [(1,9)] 2000 Tryz.func162 hmA (by kernel_rfl) (fun β=>by kernel_rfl)
theorem zero_ok {z:GQ} {b:Bool} (hb:gzero z=b) (β:Env) (w:World) (hh:∀ (k:Nat) (t:Thing),(gM z)[k]?=some t→t.D w (β k)) :
  Calls Tryz.prog 289 ([nV 0].map (SV.den β)).toArray w fun e w'=>∃ xs:List Pl,freshS β w 2 xs∧e=.returned ((SV.one (.c (.b (.v (.bool b))))).den (extE β 2 xs))∧newHold w' [] xs∧Below w.heap.size w w':=by
 cases h1:decide (z.re=0) with
 | false =>
  obtain rfl:b=false:=by rw [← hb]; unfold gzero; rw [h1]; rfl
  exact spec_auto (args:=[nV 0]) (obs:=gM z) (res:=.one (.c (.b (.v (.bool false))))) (news:=[]) (Ns:=[]) (m:=400) (evs:=[(sRat (z.re)).e,nSign (x:=z.re) rfl,.eqv 7 (.bool ((z.re).num.sign==0)) (.bool false) (sign_lit h1)]) Tryz.func289 hmA (fun β=>by kernel_rfl) (by kernel_rfl) β w hh
 | true =>
  cases h2:decide (z.im=0) with
  | false =>
   obtain rfl:b=false:=by rw [← hb]; unfold gzero; rw [h1,h2]; rfl
   exact spec_auto (args:=[nV 0]) (obs:=gM z) (res:=.one (.c (.b (.v (.bool false))))) (news:=[]) (Ns:=[]) (m:=400) (evs:=[(sRat (z.re)).e,nSign (x:=z.re) rfl,.eqv 7 (.bool ((z.re).num.sign==0)) (.bool true) (sign_lit h1),(sRat (z.im)).e,nSign (x:=z.im) rfl,.eqv 13 (.bool ((z.im).num.sign==0)) (.bool false) (sign_lit h2)]) Tryz.func289 hmA (fun β=>by kernel_rfl) (by kernel_rfl) β w hh
  | true =>
   obtain rfl:b=true:=by rw [← hb]; unfold gzero; rw [h1,h2]; rfl
   exact spec_auto (args:=[nV 0]) (obs:=gM z) (res:=.one (.c (.b (.v (.bool true))))) (news:=[]) (Ns:=[]) (m:=400) (evs:=[(sRat (z.re)).e,nSign (x:=z.re) rfl,.eqv 7 (.bool ((z.re).num.sign==0)) (.bool true) (sign_lit h1),(sRat (z.im)).e,nSign (x:=z.im) rfl,.eqv 13 (.bool ((z.im).num.sign==0)) (.bool true) (sign_lit h2)]) Tryz.func289 hmA (fun β=>by kernel_rfl) (by kernel_rfl) β w hh
def sZero {z:GQ} {b:Bool} (hb:gzero z=b):Spec Tryz.prog :=
 ⟨289,Tryz.call289,[nV 0],gM z,.one (.c (.b (.v (.bool b)))),[],zero_ok hb,by kernel_rfl⟩
def sSame {z:GQ} (hz:GSz KE z) {w:GQ} (hw:GSz KE w) {b:Bool} (hb:gzero (gsub z w)=b):Spec Tryz.prog :=
 Spec.auto Tryz.call307 [nV 0,nV 2] (gM z++gM w) (.one (.c (.b (.v (.bool b))))) ([])
  [(sSub (hz.mono (by decide)) (hw.mono (by decide))).e,(sZero hb).e]
  [] 2000 Tryz.func307 hmA (by kernel_rfl) (fun β=>by kernel_rfl)
def sDiv {z:GQ} (hz:GSz KM z) {w:GQ} (hw:GSz KM w) (h0:gzero w=false):Spec Tryz.prog :=
 Spec.auto Tryz.call290 [nV 0,nV 2] (gM z++gM w) (nV 4) (gT (gdiv z w))
  [(sConj w).e,(sMul (hz.mono (by decide)) ((GSz.conj hw).mono (by decide))).e,mkR,(sNorm (hw.mono (by decide))).e,fInv ((GSz.norm hw).mono (by decide)) (gnorm_ne h0),(sScale ((GSz.mul hz (GSz.conj hw)).mono (by decide)) ((Sz.inv (GSz.norm hw) (gnorm_ne h0)).mono (by decide))).e]
  [(1,9)] 2000 Tryz.func290 hmA (by kernel_rfl) (fun β=>by kernel_rfl)
end Go.Proofs.YtdiemgedlfnlmaaGreat.Y
end
section
namespace Go.Proofs.YtdiemgedlfnlmaaGreat
open Go.RowKit
set_option maxRecDepth 100000 in
theorem rcut_any {w:World} {A:Option Addr} {n cap:Nat} {xs:List Nat} (h:Words w (.slice A n cap) xs) :
  Calls Tryz.prog 344 #[.slice A n cap] w fun e w'=>e=.returned (.slice A (trim xs).length cap)∧w=w':=by
 have hl:=h.len.1
 have hb:=h.2.1
 have hcap:=h.len.2
 have HX:=Lib.hid h
 have HL:=Lib.hid hl
 have hbn:n≤17179869184:=by omega
 clear h hb hl
 go_enter Tryz.func344,Tryz.ntmps344
 go_wp2
 go_loop [3] (fun i=>∃ k:Nat,k≤n∧i=.int .i64 (k:Int)∧Hid (trim (xs.take k)=trim xs)) (fun i=>(intOf i).toNat)
 case atStart=>exact ⟨n,Nat.le_refl _,rfl,by rw [Hid,List.take_of_length_le (by rw [HL.out]; exact Nat.le_refl _)]⟩
 case round =>
  obtain ⟨k,hk,rfl,HT⟩:=hrel
  by_cases hk0:0<k
  · obtain ⟨b,o,rfl,hall⟩:=HX.out.open_ (by omega)
    have hc:=hall (k-1) (by have:=HL.out; omega)
    obtain ⟨x,hx⟩:∃ x,x=xs.getD (k-1) 0:=⟨_,rfl⟩
    replace hc:w.cell? ⟨b,o+(k-1),none⟩=some (.int .u32 (x:Int)):=by rw [hx]; exact hc
    have hk1:(k:Int)-1=((k-1:Nat):Int):=by omega
    have HXX:=Lib.hid hx
    have hkl:k-1<n:=by omega
    clear hall hx
    by_cases hx0:x=0
    · subst hx0
      have HT2:=Lib.hid (trim_take_pred xs k hk0 (by rw [← HL.out]; exact hk) HXX.out.symm)
      go_wp2
      go_round
      case rel=>exact ⟨k-1,by omega,by go_num,by rw [Hid,HT2.out]; exact HT.out⟩
      case measure=>simp [intOf]; omega
    · have hq:((x:Int)==0)=false:=by rw [beq_eq_false_iff_ne]; omega
      have HT2:=Lib.hid (trim_take_done xs k hk0 (by rw [← HL.out]; exact hk) (by rw [← HXX.out]; exact hx0))
      clear hx0
      go_wp2
      go_ret
      refine ⟨?_,rfl⟩
      rw [← HT.out,HT2.out]
      rfl
  · obtain rfl:k=0:=by omega
    have HT2:Hid ((trim xs).length=0):=by rw [Hid,← HT.out]; rfl
    go_wp2
    go_ret
    refine ⟨?_,rfl⟩
    rw [HT2.out]
    rfl
theorem made_byte {N k:Nat} (hk:0<k) (hN:N<256^k):(N/256^(k-1) % 256=0→N<256^(k-1))∧(N/256^(k-1) % 256≠0→(led N).length=k):=by
 obtain ⟨j,rfl⟩:∃ j,k=j+1:=⟨k-1,by omega⟩
 rw [Nat.add_sub_cancel]
 have hP:0<256^j:=Nat.pow_pos (by decide)
 have h1:N/256^j<256:=Nat.div_lt_of_lt_mul (by rw [Nat.pow_succ] at hN; exact hN)
 rw [Nat.mod_eq_of_lt h1]
 constructor
 · intro h
   rcases Nat.lt_or_ge N (256^j) with h2 | h2
   · exact h2
   · have:=Nat.div_pos h2 hP
     omega
 · intro h
   have h2:256^j≤N:=by
    rcases Nat.lt_or_ge N (256^j) with h2 | h2
    · exact absurd (Nat.div_eq_of_lt h2) h
    · exact h2
   have h3:=led_len_le N (j+1) hN
   have h4:=led_lt N
   have h5:=(Nat.pow_lt_pow_iff_right (by decide:1<256)).1 (Nat.lt_of_le_of_lt h2 h4)
   omega
theorem wholeV_sg {neg:Bool} {N:Nat} (h:N≠0):wholeV (sg neg N)=.agg #[.bool neg,.string (strN (led N).reverse)]:=by
 unfold wholeV sg
 cases neg
 · simp only [Bool.false_eq_true,if_false,Int.natAbs_natCast]
   rw [show decide ((N:Int)<0)=false by simp]
   rfl
 · simp only [if_true,Int.natAbs_neg,Int.natAbs_natCast]
   rw [show decide (-(N:Int)<0)=true by simp; omega]
   rfl
theorem wholeV_sg0 {neg:Bool}:wholeV (sg neg 0)=.agg #[.bool false,.string ⟨#[]⟩]:=by
 have h:(if neg=true then -((0:Nat):Int) else ((0:Nat):Int))=0:=by cases neg<;>rfl
 unfold wholeV sg
 rw [h]
 show Value.agg #[.bool false,.string (mag 0)]=_
 rw [mag_zero]
 rfl
set_option maxHeartbeats 1600000 in
set_option maxRecDepth 100000 in
theorem made_any {w:World} {A:Option Addr} {n cap:Nat} {xs:List Nat} (neg:Bool) (h:Words w (.slice A n cap) xs) (hn:n≤4294967296) :
  Calls Tryz.prog 264 #[.bool neg,.slice A n cap] w fun e w'=>e=.returned (wholeV (sg neg (val xs)))∧Below w.heap.size w w':=by
 have HB:=Lib.hid (below_new w (.cells #[.bool false,.string ⟨#[]⟩] 23))
 have HC:=Lib.hid (BoxAt.new w #[.bool false,.string ⟨#[]⟩] 23)
 have HX:=Lib.hid (h.below HB.out)
 have HZ:=Lib.hid (size_alloc w (.cells #[.bool false,.string ⟨#[]⟩] 23))
 obtain ⟨N,hN⟩:∃ N,N=val xs:=⟨_,rfl⟩
 have HNN:=Lib.hid hN
 have hdl:trim xs=dig N:=by rw [hN]; exact (dig_val xs h.1).symm
 have HD:=Lib.hid hdl
 obtain ⟨l,hl⟩:∃ l,l=(dig N).length:=⟨_,rfl⟩
 have HL:=Lib.hid hl
 have hln:l≤n:=by rw [hl,← hdl,h.len.1]; exact trim_length_le xs
 clear h hN hdl hl
 go_enter Tryz.func264,Tryz.ntmps264
 go_wp2_with fail
 refine (rcut_any HX.out).mono ?_
 rintro e w1 ⟨rfl,rfl⟩
 have hw:=HX.out.trim_
 rw [HD.out] at hw ⊢
 rw [← HL.out] at hw ⊢
 have HW:=Lib.hid hw
 clear hw
 by_cases hl0:l=0
 · subst hl0
   have hN0:N=0:=(dig_nil_iff N).1 (List.eq_nil_of_length_eq_zero HL.out.symm)
   have HN0:=Lib.hid hN0
   have hp0:=HC.out.cell 0 _ rfl
   have hp1:=HC.out.cell 1 _ rfl
   have hf:=HC.out.frozen
   clear hN0
   go_wp2
   have hk:=(HC.out.set 0 (.bool false)).set 1 (.string ⟨#[]⟩)
   have k0:=hk.cell 0 _ rfl
   have k1:=hk.cell 1 _ rfl
   exact bodyPost_ret (v:=.agg #[.bool false,.string ⟨#[]⟩]) (by simp [results,Tryz.results264,go_sem,k0,k1]) rfl ⟨by rw [← HNN.out,HN0.out,wholeV_sg0],by first | exact HB.out | exact (HB.out.setCell (Nat.le_refl _) _).setCell (Nat.le_refl _) _⟩
 · have hl00:((l:Int)==0)=false:=by rw [beq_eq_false_iff_ne]; omega
   have HNP:Hid (N≠0):=fun e=>hl0 (by rw [HL.out,e,dig_zero]; rfl)
   clear hl0
   go_wp2
   go_loop [5] (fun i=>∃ k:Nat,k≤4*l∧i=.int .i64 (k:Int)∧Hid (N<256^k)) (fun i=>(intOf i).toNat)
   case atStart =>
    refine ⟨4*l,Nat.le_refl _,by go_num,?_⟩
    have:=dig_lt N
    rw [← HL.out,p32] at this
    rw [Hid,p256,show 8*(4*l)=32*l by omega]
    exact this
   case round =>
    obtain ⟨k,hk,rfl,hNk⟩:=hrel
    have hk0:0<k:=by
     rcases Nat.eq_zero_or_pos k with h | h
     · subst h
       have h1:=hNk.out
       have h2:=HNP.out
       simp at h1
       exact absurd h1 h2
     · exact h
    obtain ⟨b,o,rfl,hall⟩:=HW.out.open_ (by omega)
    obtain ⟨q,hq⟩:∃ q,q=(k-1)/4:=⟨_,rfl⟩
    obtain ⟨r,hr⟩:∃ r,r=(k-1) % 4:=⟨_,rfl⟩
    obtain ⟨s,hs⟩:∃ s,s=(k-1) % 4*8:=⟨_,rfl⟩
    have hc:=hall q (by omega)
    obtain ⟨x,hx'⟩:∃ x,x=N/4294967296^q % 4294967296:=⟨_,rfl⟩
    have hx32:x<4294967296:=by rw [hx']; exact Nat.mod_lt _ (by decide)
    obtain ⟨y,hy⟩:∃ y,y=x/2^s:=⟨_,rfl⟩
    have hsh:(x:Int)/2^s=(y:Int):=by rw [hy,Int.natCast_ediv]; simp
    have hyb:y<4294967296:=by rw [hy]; exact Nat.lt_of_le_of_lt (Nat.div_le_self _ _) hx32
    have hbyte:y % 256=N/256^(k-1) % 256:=by rw [hy,hx',hq,hs]; exact byte_word N (k-1)
    have HMB:=Lib.hid (made_byte hk0 hNk.out)
    rw [← hbyte] at HMB
    have hki:(k:Int)-1=((k-1:Nat):Int):=by omega
    have hqi:((k-1:Nat):Int)/4=(q:Int):=by omega
    have hri:((k-1:Nat):Int) % 4=(r:Int):=by omega
    have hsi:8*(r:Int)=(s:Int):=by omega
    have hs24:s≤24:=by omega
    have hql:q<l:=by omega
    have hc2:(w.alloc (.cells #[.bool false,.string ⟨#[]⟩] 23)).cell? ⟨b,o+q,none⟩=some (.int .u32 (x:Int)):=by rw [hx',← dig_getD]; exact hc
    clear hall hc hx' hy hbyte hq hr hs
    by_cases hy0:y % 256=0
    · have hyi:(((y:Int) % 256)==0)=true:=by rw [beq_iff_eq]; omega
      have HK1:=Lib.hid (HMB.out.1 hy0)
      clear hy0
      go_wp2
      go_round
      case rel=>exact ⟨k-1,by omega,by go_num,HK1.out⟩
      case measure=>simp [intOf]; omega
    · have hyi:(((y:Int) % 256)==0)=false:=by rw [beq_eq_false_iff_ne]; omega
      have HM:=Lib.hid (HMB.out.2 hy0)
      clear hy0
      go_wp2_with (at_make; refine wpList_make_bytes rfl _ _ rfl _ _ _ _ k k rfl rfl (by omega) (by omega) (Nat.le_refl _) (by omega) ?_)
      intro w2 hbuf hb2 hz2
      have HZ2:=Lib.hid hz2
      have HCC:=Lib.hid HC
      clear hz2 hyi hsh hqi hri hsi hki hyb hx32 hql hc2
      obtain ⟨m,hm⟩:∃ m,m=k:=⟨_,rfl⟩
      have HSZ:Hid (w.heap.size≤(w.alloc (.cells #[.bool false,.string ⟨#[]⟩] 23)).heap.size):=HB.out.size
      go_wp2
      go_loopw [7] (fun i wr=>∃ (j:Nat),j≤k∧i=.int .i64 (j:Int)∧BBuf wr (w.heap.size+1) (List.replicate (k-j) 0++(led N).reverse.drop (k-j))∧Below (w.heap.size+1) (w.alloc (.cells #[.bool false,.string ⟨#[]⟩] 23)) wr) (fun i _=>k-(intOf i).toNat)
      case atStart =>
       exact ⟨0,by omega,rfl,by rw [Nat.sub_zero,List.drop_of_length_le (by rw [List.length_reverse,HM.out]; exact Nat.le_refl _),List.append_nil]; first | exact hbuf | (rw [HZ.out] at hbuf; exact hbuf),by first | exact hb2 | (rw [HZ.out] at hb2; exact hb2)⟩
      case round =>
       obtain ⟨j,hj,rfl,hbuf',hb'⟩:=hrel
       have hblt:=hbuf'.lt
       clear hbuf hb2 HZ2
       by_cases hj0:j<k
       · have hw3:=HW.out.below (w':=wr) (by rw [HZ.out]; exact hb')
         obtain ⟨b3,o3,e3,hall⟩:=hw3.open_ (by omega)
         cases e3
         obtain ⟨q,hq⟩:∃ q,q=j/4:=⟨_,rfl⟩
         obtain ⟨r,hr⟩:∃ r,r=j % 4:=⟨_,rfl⟩
         obtain ⟨s,hs⟩:∃ s,s=j % 4*8:=⟨_,rfl⟩
         have hc:=hall q (by omega)
         obtain ⟨x,hx'⟩:∃ x,x=N/4294967296^q % 4294967296:=⟨_,rfl⟩
         have hx32:x<4294967296:=by rw [hx']; exact Nat.mod_lt _ (by decide)
         replace hc:wr.cell? ⟨b,o+q,none⟩=some (.int .u32 (x:Int)):=by rw [hx',← dig_getD]; exact hc
         obtain ⟨y,hy⟩:∃ y,y=x/2^s:=⟨_,rfl⟩
         have hsh:(x:Int)/2^s=(y:Int):=by rw [hy,Int.natCast_ediv]; simp
         have hyb:y<4294967296:=by rw [hy]; exact Nat.lt_of_le_of_lt (Nat.div_le_self _ _) hx32
         have hbyte:y % 256=N/256^j % 256:=by rw [hy,hx',hq,hs]; exact byte_word N j
         have HBY:=Lib.hid hbyte
         have hqi:(j:Int)/4=(q:Int):=by omega
         have hri:(j:Int) % 4=(r:Int):=by omega
         have hsi:8*(r:Int)=(s:Int):=by omega
         have hs24:s≤24:=by omega
         have hql:q<l:=by omega
         have hkj:((k:Int)-1-(j:Int))=((k-1-j:Nat):Int):=by omega
         have hc2:=hbuf'.cell (k-1-j) (by rw [List.length_append,List.length_replicate]; omega)
         have hf:=hbuf'.frozen (k-1-j)
         have HBF:=Lib.hid (hbuf'.set (k-1-j) (y % 256) _ (Nat.mod_lt _ (by decide)) rfl)
         have HH:=Lib.hid hb'
         clear hall hw3 hx' hy hbyte hbuf' hb' hq hr hs
         go_wp2
         go_roundw
         case rel =>
          refine ⟨j+1,by omega,by go_num,?_,HH.out.setCell (Nat.le_refl _) _⟩
          have h:=HBF.out
          have h2:=led_back N k j HM.out hj0
          rw [← HBY.out] at h2
          rw [h2] at h
          exact h
         case measure=>simp [intOf]; omega
       · obtain rfl:j=k:=by omega
         rw [Nat.sub_self,List.replicate_zero,List.nil_append,List.drop_zero] at hbuf'
         have hcv:=string_of_byt (hbuf'.byt (n:=j) (cap:=j) (by rw [List.length_reverse]; exact HM.out))
         have HCW:Hid (BoxAt wr w.heap.size #[.bool false,.string ⟨#[]⟩] 23):=by
          have:=HC.out
          unfold BoxAt at this
          unfold Hid BoxAt
          rw [hb'.block _ (by omega)]
          exact this
         have HH:=Lib.hid (HB.out.trans (hb'.mono (Nat.le_succ _)))
         have hp0:=HCW.out.cell 0 _ rfl
         have hp1:=HCW.out.cell 1 _ rfl
         have hf:=HCW.out.frozen
         clear hbuf' hb'
         go_wp2
         have hk:=(HCW.out.set 0 (.bool neg)).set 1 (.string (strN (led N).reverse))
         have k0:=hk.cell 0 _ rfl
         have k1:=hk.cell 1 _ rfl
         exact bodyPost_ret (v:=.agg #[.bool neg,.string (strN (led N).reverse)]) (by simp [results,Tryz.results264,go_sem,k0,k1]) rfl ⟨by rw [← HNN.out,wholeV_sg HNP.out],(HH.out.setCell (Nat.le_refl _) _).setCell (Nat.le_refl _) _⟩
end Go.Proofs.YtdiemgedlfnlmaaGreat
end
section
namespace Go.Proofs.YtdiemgedlfnlmaaGreat
section
open Go.RowKit
theorem dig_len_bytes (n:Nat):(dig n).length=((led n).length+3)/4:=by
 refine Nat.le_antisymm (dig_len_le _ _ ?_) ?_
 · have h:=led_lt n
   rw [p256] at h
   rw [p32]
   exact Nat.lt_of_lt_of_le h (Nat.pow_le_pow_right (by decide) (by omega))
 · rcases Nat.eq_zero_or_pos n with h0 | h0
   · subst h0; rw [led_zero]; exact Nat.zero_le _
   · have h1:=led_len_pos n h0
     have h2:=dig_lt n
     rw [p256] at h1
     rw [p32] at h2
     have:=(Nat.pow_lt_pow_iff_right (by decide:1<2)).1 (Nat.lt_of_le_of_lt h1 h2)
     omega
theorem full_dig {ls:List Nat} {n:Nat} (hw:Wf ls) (hv:val ls=n) (hl:ls.length=(dig n).length):ls=dig n:=by
 have h:=dig_of ls n hw hv
 have h2:=trim_eq_take ls
 rw [h,← hl,List.take_of_length_le (Nat.le_refl _)] at h2
 exact h2.symm
theorem str_at {s:ByteArray} {n:Nat} (hs:s=mag n) (m k:Nat) (hm:m=s.size) (hk:k<m) (h:m-1-k<s.size):(s[m-1-k]'h).toNat=(led n).getD k 0:=by
 have e:leS s=led n:=by rw [hs,leS_mag]
 have h1:=leS_getD s k (by omega)
 rw [e] at h1
 rw [h1]
 subst hm
 rfl
set_option maxHeartbeats 1600000 in
set_option maxRecDepth 100000 in
theorem words_any {w:World} (s:ByteArray) (n:Nat) (hs:s=mag n) (hm:s.size≤4294967296) :
  Calls Tryz.prog 276 #[.string s] w fun e w'=>∃ A c,e=.returned (.slice A (dig n).length c)∧Words w' (.slice A (dig n).length c) (dig n)∧Below w.heap.size w w':=by
 obtain ⟨m,hms⟩:∃ m,m=s.size:=⟨_,rfl⟩
 have HN:Hid ((led n).length=m):=by rw [hms,hs,Hid,mag_size]
 have hmi:(s.size:Int)=(m:Int):=by rw [hms]
 have hmb:m≤4294967296:=by omega
 have HS:=Lib.hid hs
 have HM:=Lib.hid hms
 clear hs hms
 go_enter Tryz.func276,Tryz.ntmps276
 go_wp2_with (at_make; refine wpList_make_words rfl _ _ rfl _ _ _ _ ((m+3)/4) ((m+3)/4) rfl rfl (by omega) (by omega) (by omega) (by omega) ?_)
 intro w1 hbuf hb1 hz1
 have HZ1:=Lib.hid hz1
 clear hz1
 go_wp2
 go_loopw [4] (fun i wr=>∃ (k:Nat) (ls:List Nat),k≤m∧i=.int .i64 (k:Int)∧Hid (ls.length=(m+3)/4)∧Hid (val ls=bval ((led n).take k))∧Buf wr w.heap.size ls∧Below w.heap.size w wr) (fun i _=>m-(intOf i).toNat)
 case atStart=>exact ⟨0,List.replicate ((m+3)/4) 0,by omega,rfl,by simp [Hid],by rw [Hid,val_zeros]; rfl,hbuf,hb1⟩
 case round =>
  obtain ⟨k,ls,hk,rfl,HL,HVL,hbuf',hb'⟩:=hrel
  have hsz:=hb'.size
  have hblt:=hbuf'.lt
  clear hbuf hb1 HZ1
  by_cases hk0:k<m
  · obtain ⟨q,hq⟩:∃ q,q=k/4:=⟨_,rfl⟩
    obtain ⟨r,hr⟩:∃ r,r=k % 4:=⟨_,rfl⟩
    obtain ⟨sh,hs⟩:∃ sh,sh=k % 4*8:=⟨_,rfl⟩
    obtain ⟨x,hx⟩:∃ x,x=(led n).getD k 0:=⟨_,rfl⟩
    obtain ⟨a,ha⟩:∃ a,a=ls.getD q 0:=⟨_,rfl⟩
    obtain ⟨k1,k2,k3,k4,k5⟩:=byte_into ls (led n) k x q sh hbuf'.1 (by rw [HL.out]; omega) HVL.out (B8_led n) (by rw [HN.out]; exact hk0) hx.symm hq hs
    have hidx:m-1-k<s.size:=by omega
    have hch:(s[m-1-k]'hidx).toNat=x:=by rw [hx]; exact str_at HS.out m k HM.out hk0 hidx
    have hqi:(k:Int)/4=(q:Int):=by omega
    have hri:(k:Int) % 4=(r:Int):=by omega
    have hsi:8*(r:Int)=(sh:Int):=by omega
    have hs24:sh≤24:=by omega
    have hc2:=hbuf'.cell q (by rw [HL.out]; omega)
    rw [← ha] at hc2 k2 k3 k4 k5
    have hf:=hbuf'.frozen q
    have HB:=Lib.hid (hbuf'.set q (a+x*2^sh) _ k4 rfl)
    obtain ⟨t,ht⟩:∃ t,t=x*2^sh:=⟨_,rfl⟩
    have hti:(x:Int)*2^sh=(t:Int):=by rw [ht,Int.natCast_mul,Int.natCast_pow]; rfl
    rw [← ht] at k3 k4 k5 HB
    rw [Int.natCast_add] at HB
    have hmk2:((m:Int)-1-(k:Int))=((m-1-k:Nat):Int):=by omega
    have HK5:=Lib.hid k5
    have hql:q<(m+3)/4:=by omega
    clear ha hx ht hq hr hs k2 k3 k5 hbuf'
    go_wp2
    go_region
    go_wp2
    go_roundw
    case rel =>
     refine ⟨k+1,ls.set q (a+t),by omega,by go_num,by rw [Hid,List.length_set]; exact HL.out,HK5.out,HB.out,Below.drew (hb'.setCell (Nat.le_refl _) _)⟩
    case measure=>simp [intOf]; omega
  · obtain rfl:k=m:=by omega
    have hv:=HVL.out
    rw [List.take_of_length_le (by rw [HN.out]; exact Nat.le_refl _),bval_led] at hv
    have hd:ls=dig n:=full_dig hbuf'.1 hv (by rw [HL.out,dig_len_bytes,HN.out])
    have hln:(dig n).length=(k+3)/4:=by rw [← hd]; exact HL.out
    have hw:=hbuf'.words (cap:=(k+3)/4) (by rw [HL.out]; omega) (by rw [HL.out]; exact Nat.le_refl _)
    rw [hd] at hw
    have HW:=Lib.hid hw
    have HLN:=Lib.hid hln
    clear hbuf' hw hv hd hln
    go_wp2
    go_ret
    exact ⟨some ⟨w.heap.size,0,none⟩,(k+3)/4,by rw [HLN.out]; rfl,HW.out,hb'⟩
set_option maxHeartbeats 800000 in
theorem small_any {A:Option Addr} {la ca:Nat} {xs:List Nat} {w:World} (hx:Words w (.slice A la ca) xs) (h1:la≤17179869184) (d:Nat) (hd0:0<d) (hd:d<4294967296) :
  Calls Tryz.prog 378 #[.slice A la ca,.int .u64 (d:Int)] w fun e w'=>∃ v,e=.returned (.tuple #[v,.int .u64 ((val xs % d:Nat):Int)])∧Words w' v (dig (val xs/d))∧Below w.heap.size w w':=by
 have hla:=Lib.hid hx.len.1
 have HA:=Lib.hid hx
 have hwx:=Lib.hid hx.1
 clear hx
 have hd1:(1:Int)≤(d:Int):=by omega
 go_enter Tryz.func378,Tryz.ntmps378
 go_wp2_with (at_make; refine wpList_make_words rfl _ _ rfl _ _ _ _ la la rfl rfl rfl rfl (by omega) (by omega) ?_)
 intro w1 hbuf hb1 hz1
 have HZ:=Lib.hid hz1
 clear hz1
 go_wp2
 go_loopw [7,8] (fun c i wr=>∃ (k r:Nat) (qs:List Nat),k≤la∧r<d∧c=.int .u64 (r:Int)∧i=.int .i64 ((k:Int)-1)∧Hid (qs.length=la-k)∧Hid (val qs*d+r=val (xs.drop k))∧Buf wr w.heap.size (List.replicate k 0++qs)∧Below w.heap.size w wr) (fun _ i _=>(intOf i+1).toNat)
 case atStart=>exact ⟨la,0,[],by omega,hd0,rfl,rfl,by simp [Hid],by rw [Hid,List.drop_of_length_le (by rw [hla.out]; exact Nat.le_refl _)]; simp [val],by simpa using hbuf,hb1⟩
 case round =>
  obtain ⟨k,r,qs,hk,hr,rfl,rfl,HK,HV,hbuf',hb'⟩:=hrel
  have hlt:=hb'.size
  have hblt:=hbuf'.lt
  clear hbuf hb1 HZ
  by_cases hk0:0<k
  · obtain ⟨k,rfl⟩:∃ j,k=j+1:=⟨k-1,by omega⟩
    have e1:((k+1:Nat):Int)-1=(k:Int):=by omega
    rw [e1]
    clear e1
    have hX:=(HA.out.below hb')
    obtain ⟨b,o,rfl,hall⟩:=hX.open_ (by omega)
    obtain ⟨x,hx⟩:∃ x,x=xs.getD k 0:=⟨_,rfl⟩
    have hcx:wr.cell? ⟨b,o+k,none⟩=some (.int .u32 (x:Int)):=by rw [hx]; exact hall k (by omega)
    have hxl:x<4294967296:=by rw [hx]; exact hwx.out.getD k
    have hst:=hbuf'.cell k (by rw [List.length_append,HK.out,List.length_replicate]; omega)
    have hfz:=hbuf'.frozen k
    have HBUF:=Lib.hid hbuf'
    obtain ⟨t,ht⟩:∃ t,t=r*4294967296+x:=⟨_,rfl⟩
    have hti:(r:Int)*4294967296+(x:Int)=(t:Int):=by omega
    have hrb:(r:Int)*4294967296≤18446744069414584320:=by omega
    have htb:t≤18446744073709551615:=by omega
    obtain ⟨q,hqd⟩:∃ q,q=t/d:=⟨_,rfl⟩
    obtain ⟨r',hrd⟩:∃ r',r'=t % d:=⟨_,rfl⟩
    have hq:((t:Int)/(d:Int))=(q:Int):=by rw [hqd]; rfl
    have hq2:((t:Int) % (d:Int))=(r':Int):=by rw [hrd]; rfl
    have hqb:q≤4294967295:=by have:=short_word r d x hr hxl; rw [← ht,← hqd] at this; omega
    have hrb:r'<d:=by rw [hrd]; exact Nat.mod_lt _ hd0
    have HQ:=Lib.hid hqd
    have HR:=Lib.hid hrd
    have HT:=Lib.hid ht
    have HXX:=Lib.hid hx
    have hk1:(0:Int)≤(k:Int):=by omega
    clear hX hall hbuf' ht hqd hrd hx
    go_wp2
    go_roundw
    case rel =>
     refine ⟨k,r',q::qs,by omega,hrb,by rw [hq2],rfl,?_,by rw [HQ.out,HR.out]; exact short_val xs qs k r d t (by have:=hla.out; omega) HV.out (by rw [HT.out,HXX.out]),?_,hb'.setCell (Nat.le_refl _) _⟩
     · rw [Hid,List.length_cons,HK.out]; omega
     · have:=HBUF.out.set k q _ (by omega) rfl
       rw [set_zero_append] at this
       exact this
    case measure=>simp [intOf]
  · obtain rfl:k=0:=by omega
    rw [List.replicate_zero,List.nil_append] at hbuf'
    have hw:=hbuf'.words (cap:=la) (by rw [HK.out]; omega) (by rw [HK.out]; omega)
    rw [HK.out,Nat.sub_zero] at hw
    have HW:=Lib.hid hw
    have hend:=Lib.hid (short_end xs qs r d hr (by have:=HV.out; rwa [List.drop_zero] at this))
    clear hbuf' hw
    go_wp2_with (go_at_call 344; refine (rcut_any HW.out).mono ?_; rintro e w2 ⟨rfl,rfl⟩)
    go_ret2
    refine ⟨.slice (some ⟨w.heap.size,0,none⟩) (trim qs).length la,?_,?_,hb'⟩
    · rw [← hend.out.2]; rfl
    · rw [← dig_of qs _ HW.out.1 hend.out.1]
      exact HW.out.trim_
end
end Go.Proofs.YtdiemgedlfnlmaaGreat
end
section
namespace Go.Proofs.YtdiemgedlfnlmaaGreat
open Go.RowKit
structure Two (w0 w:World) (v1 v2:Array Value):Prop where
 below:Below w0.heap.size w0 w
 one:BoxAt w w0.heap.size v1 25
 two:BoxAt w (w0.heap.size+1) v2 25
 place:BoxAt w (w0.heap.size+1+1) #[.bool false,.string ⟨#[]⟩,.bool false,.string ⟨#[]⟩] 25
theorem Two.size {w0 w:World} {v1 v2:Array Value} (h:Two w0 w v1 v2):w0.heap.size+3≤w.heap.size:=h.place.lt
instance (q:Rat):Decidable (Fit q):=inferInstanceAs (Decidable (_∧_))
def ansK (q:Rat):Int:=if Fit q then 0 else 4
def Frames (w:World) (l:List (Nat × Array Value × TypeId)):Prop:=∀ x∈l,BoxAt w x.1 x.2.1 x.2.2
def FormedB (p:Bool) (s:ByteArray):Prop:=s.size=0∧p=false∨s.size≠0∧head s≠0
end Go.Proofs.YtdiemgedlfnlmaaGreat
end
section
namespace Go.Proofs.YtdiemgedlfnlmaaGreat
section
open Go.RowKit
theorem divInt_parts (n m:Int) (hm:m≠0) (g:Int) (hg:g=if m<0 then -((Nat.gcd n.natAbs m.natAbs:Nat):Int) else ((Nat.gcd n.natAbs m.natAbs:Nat):Int)) :
  g≠0∧g ∣ n∧g ∣ m∧(Rat.divInt n m).num=n/g∧((Rat.divInt n m).den:Int)=m/g:=by
 have hG:0<Nat.gcd n.natAbs m.natAbs:=Nat.gcd_pos_of_pos_right _ (by omega)
 obtain ⟨G,hGG⟩:∃ G:Nat,G=Nat.gcd n.natAbs m.natAbs:=⟨_,rfl⟩
 rw [← hGG] at hg hG
 have d1:(G:Int) ∣ n:=by rw [hGG]; exact Int.ofNat_dvd_left.2 (Nat.gcd_dvd_left _ _)
 have d2:(G:Int) ∣ m:=by rw [hGG]; exact Int.ofNat_dvd_left.2 (Nat.gcd_dvd_right _ _)
 have e1:Int.gcd m n=G:=by rw [hGG,Int.gcd_comm]; rfl
 have h1:=Rat.num_divInt n m
 have h2:=Rat.den_divInt n m
 rw [e1] at h1 h2
 rw [if_neg hm] at h2
 by_cases h:m<0
 · rw [if_pos h] at hg
   subst hg
   refine ⟨by omega,Int.neg_dvd.2 d1,Int.neg_dvd.2 d2,?_,?_⟩
   · rw [h1,Int.sign_eq_neg_one_of_neg h,Int.ediv_neg,show (-1:Int)*n = -n by omega,Int.neg_ediv_of_dvd d1]
   · rw [h2,Int.natCast_ediv,Int.ediv_neg,show ((m.natAbs:Nat):Int) = -m by omega,Int.neg_ediv_of_dvd d2]
 · rw [if_neg h] at hg
   subst hg
   refine ⟨by omega,d1,d2,?_,?_⟩
   · rw [h1,Int.sign_eq_one_of_pos (by omega),Int.one_mul]
   · rw [h2,Int.natCast_ediv,show ((m.natAbs:Nat):Int)=m by omega]
end
end Go.Proofs.YtdiemgedlfnlmaaGreat
end
section
namespace Go.Proofs.YtdiemgedlfnlmaaGreat
open Go.RowKit
structure Fr (w0 w:World) (l:List (Nat × Array Value × TypeId)):Prop where
 below:Below w0.heap.size w0 w
 boxes:Frames w l
 dist:l.Pairwise (fun x y=>x.1≠y.1)
 low:∀ x∈l,w0.heap.size≤x.1
theorem formed_num {p:Bool} {s:ByteArray} (h:FormedB p s):decide (numOf p s<0)=p∧mag (numOf p s).natAbs=s:=by
 have hp:Plain1 s:=by
  rcases h with h1 | h1
  · exact .inl h1.1
  · exact .inr h1.2
 have h1:=mag_num hp
 have h2:s.size≠0→num s≠0:=by
  intro k e
  rw [e,mag_zero] at h1
  rw [← h1] at k
  exact k rfl
 have h3:(numOf p s).natAbs=num s:=by unfold numOf sg; cases p<;>simp
 refine ⟨?_,by rw [h3,h1]⟩
 rcases h with h4 | h4
 · have:num s=0:=by have:=num_lt s; rw [h4.1] at this; omega
   rw [h4.2]
   unfold numOf sg
   simp [this]
 · have:=h2 h4.1
   unfold numOf sg
   cases p
   · simp
   · simp; omega
theorem isFrac_doc {b c:Bool} {s t:ByteArray}:IsFrac (.agg #[.bool b,.string s,.bool c,.string t]) ↔
  (s.size≤1024∧t.size≤1024)∧FormedB b s∧FormedB c t∧0<numOf c t∧Nat.gcd (numOf b s).natAbs (numOf c t).natAbs=1:=by
 constructor
 · intro h
   obtain ⟨h1,h2,h3,h4,h5,h6⟩:=isFrac_parts h
   refine ⟨⟨h3,h4⟩,h1.1,h2.1,h5,?_⟩
   obtain ⟨q,hf,hv⟩:=h
   obtain ⟨rfl,rfl,rfl,rfl⟩:=agg4 hv
   have n2:=numOf_mag (q.den:Int)
   rw [show decide ((q.den:Int)<0)=false by simp,Int.natAbs_natCast] at n2
   rw [numOf_mag,n2,Int.natAbs_natCast]
   exact q.reduced
 · rintro ⟨⟨h1,h2⟩,h3,h4,h5,h6⟩
   obtain ⟨e1,e2⟩:=formed_num h3
   obtain ⟨e3,e4⟩:=formed_num h4
   refine isFrac_of h1 h2 (q:=Rat.divInt (numOf b s) (numOf c t)) ?_
   obtain ⟨_,_,_,d4,d5⟩:=divInt_parts (numOf b s) (numOf c t) (by omega) 1 (by rw [if_neg (by omega),h6]; rfl)
   rw [Int.ediv_one] at d4 d5
   rw [fracV,d4,e1,e2]
   have hc:c=false:=by rw [← e3]; exact decide_eq_false (by omega)
   have hd:(Rat.divInt (numOf b s) (numOf c t)).den=(numOf c t).natAbs:=by omega
   rw [hd,e4,hc]
set_option maxRecDepth 100000 in
theorem rof_any {w:World} {n:Int} (hr : -9223372036854775808≤n∧n≤9223372036854775807) :
  Calls Tryz.prog 125 #[.int .i64 n] w fun e w'=>e=.returned (wholeV n)∧Below w.heap.size w w':=by
 have HR:=Lib.hid hr
 have HB:=Lib.hid (below_new w (.cells #[.bool false,.string ⟨#[]⟩] 23))
 have HC:=Lib.hid (BoxAt.new w #[.bool false,.string ⟨#[]⟩] 23)
 obtain ⟨k,hk⟩:∃ k,k=n.natAbs:=⟨_,rfl⟩
 have hkb:k≤9223372036854775808:=by omega
 obtain ⟨x,hx⟩:∃ x,x=k % 4294967296:=⟨_,rfl⟩
 obtain ⟨y,hy⟩:∃ y,y=k/4294967296:=⟨_,rfl⟩
 have hx32:x<4294967296:=by omega
 have hy32:y<4294967296:=by omega
 have hxi:(k:Int) % 4294967296=(x:Int):=by omega
 have hyi:(k:Int)/4294967296=(y:Int):=by omega
 have HS:Hid (sg (decide (n<0)) (val [x,y])=n):=by
  have:val [x,y]=k:=by simp [val]; omega
  rw [Hid,this,hk,sg_of]
 have HWW:=Lib.hid (words_two (w.alloc (.cells #[.bool false,.string ⟨#[]⟩] 23)) x y _ _ hx32 hy32 rfl rfl)
 have HBW:=Lib.hid (below_new (w.alloc (.cells #[.bool false,.string ⟨#[]⟩] 23)) (.cells #[.int .u32 (x:Int),.int .u32 (y:Int)] 283))
 have HC1:=Lib.hid (HC.out.on HBW.out)
 have HB1:=Lib.hid (HB.out.trans (HBW.out.mono HB.out.size))
 rw [size_alloc] at HWW
 by_cases h:n<0
 all_goals
  have hw1:IntKind.u64.wrap n=if n<0 then 18446744073709551616+n else n:=by simp [IntKind.wrap,IntKind.bits,IntKind.signed]; omega
 · rw [if_pos h] at hw1
   have hw2:IntKind.u64.wrap (-(18446744073709551616+n)) = -n:=by simp [IntKind.wrap,IntKind.bits,IntKind.signed]; omega
   have hnk : -n=(k:Int):=by omega
   rw [hnk] at hw2
   have hd:decide (n<0)=true:=by simpa using h
   rw [hd] at HS
   clear hr hk hnk hx hy
   go_enter Tryz.func125,Tryz.ntmps125
   go_wp2_with fail
   refine (made_any true HWW.out (by decide)).mono ?_
   rintro e w1 ⟨rfl,hb⟩
   rw [HS.out]
   obtain ⟨p,s,hps⟩:∃ p s,wholeV n=.agg #[.bool p,.string s]:=⟨_,_,rfl⟩
   have HPS:=Lib.hid hps
   rw [hps]
   have HC2:=Lib.hid (HC1.out.on hb)
   have HB2:=Lib.hid (HB1.out.trans (hb.mono HB1.out.size))
   have hp0:=HC2.out.cell 0 _ rfl
   have hp1:=HC2.out.cell 1 _ rfl
   have hf:=HC2.out.frozen
   clear hps hb
   go_wp2
   have hk:=(HC2.out.set 0 (.bool p)).set 1 (.string s)
   have k0:=hk.cell 0 _ rfl
   have k1:=hk.cell 1 _ rfl
   exact bodyPost_ret (v:=.agg #[.bool p,.string s]) (by simp [results,Tryz.results125,go_sem,k0,k1]) rfl ⟨by rw [HPS.out],(HB2.out.setCell (Nat.le_refl _) _).setCell (Nat.le_refl _) _⟩
 · rw [if_neg h] at hw1
   have hnk:n=(k:Int):=by omega
   have hd:decide (n<0)=false:=by simpa using h
   rw [hd] at HS
   have hw3:IntKind.u64.wrap n=(k:Int):=by rw [hw1]; exact hnk
   have HNK:=Lib.hid hnk
   clear hr hk hx hy hw1 hnk
   go_enter Tryz.func125,Tryz.ntmps125
   go_wp2_with fail
   refine (made_any false HWW.out (by decide)).mono ?_
   rintro e w1 ⟨rfl,hb⟩
   rw [HS.out]
   obtain ⟨p,s,hps⟩:∃ p s,wholeV n=.agg #[.bool p,.string s]:=⟨_,_,rfl⟩
   have HPS:=Lib.hid hps
   rw [hps]
   have HC2:=Lib.hid (HC1.out.on hb)
   have HB2:=Lib.hid (HB1.out.trans (hb.mono HB1.out.size))
   have hp0:=HC2.out.cell 0 _ rfl
   have hp1:=HC2.out.cell 1 _ rfl
   have hf:=HC2.out.frozen
   clear hps hb
   go_wp2
   have hk:=(HC2.out.set 0 (.bool p)).set 1 (.string s)
   have k0:=hk.cell 0 _ rfl
   have k1:=hk.cell 1 _ rfl
   exact bodyPost_ret (v:=.agg #[.bool p,.string s]) (by simp [results,Tryz.results125,go_sem,k0,k1]) rfl ⟨by rw [HPS.out],(HB2.out.setCell (Nat.le_refl _) _).setCell (Nat.le_refl _) _⟩
end Go.Proofs.YtdiemgedlfnlmaaGreat
end
section
namespace Go.Proofs.YtdiemgedlfnlmaaGreat
open Go.Proofs.YtdiemgedlfnlmaaGreat.Y
open Go Go.RowKit
set_option maxRecDepth 100000
def ansB (q:Rat):Bool:=if Fit q then decide (q.num<0) else false
def ansS (q:Rat):ByteArray:=if Fit q then mag q.num.natAbs else ⟨#[]⟩
def ansD (q:Rat):ByteArray:=if Fit q then mag q.den else ⟨#[]⟩
def rawV (b c:Bool) (s t:ByteArray):Value:=.agg #[.bool b,.string s,.bool c,.string t]
theorem fitF (x:Rat) (h:Fit x):IsFrac (rawV (decide (x.num<0)) false (mag x.num.natAbs) (mag x.den)):=⟨x,h,rfl⟩
theorem iff_true_of {P:Prop} (k:P):true=true↔P:=⟨fun _=>k,fun _=>rfl⟩
def fC (x:Rat):List Lf:=[.b (.v (.bool (decide (x.num<0)))),.b (.v (.string (mag x.num.natAbs))),.b (.v (.bool false)),.b (.v (.string (mag x.den)))]
section
variable {n m:Int}
def eWOf (n:Int) (hr : -9223372036854775808≤n∧n≤9223372036854775807):Ev Tryz.prog:=.ret 125 Tryz.call125 #[.int .i64 n] (wholeV n) (fun w=>rof_any hr)
end
theorem run_eqF_cons {P : Program} {w : World} {d : Nat} {xs ys : Array Value} {f : Field} {fs : List Field} {a b : Value} {r : Bool} (hn : decide (f.name = "_") = false) (ha : (part f.type xs f.offset).run P w = .ok a w) (hb : (part f.type ys f.offset).run P w = .ok b w)
  (hr:(Op.equalIn d f.type a b).run P w=.ok r w) {s:Bool} (hs:(Op.eqFields d xs ys fs).run P w=.ok s w):(Op.eqFields d xs ys (f::fs)).run P w=.ok (r&&s) w:=by
 unfold Op.eqFields
 rw [if_pos (of_decide_eq_false hn)]
 simp only [Sem.run_bind,ha,hb,hr,Result.andThen_ok]
 cases r
 · rfl
 · simpa using hs
theorem eqW {w:World} (d:Nat) (b b':Bool) (s s':ByteArray):(Op.equalIn (d+2) 23 (.agg #[.bool b,.string s]) (.agg #[.bool b',.string s'])).run Tryz.prog w=.ok ((b==b')&&((s.toList==s'.toList)&&true)) w:=by
 rw [run_equalIn_agg _ _ _ _ _ (by kernel_rfl) (by kernel_rfl)]
 refine run_eqF_cons (a:=.bool b) (b:=.bool b') (by kernel_rfl) (by kernel_rfl) (by kernel_rfl) (run_equalIn_bool' _ _ _ _ _ (by kernel_rfl)) ?_
 refine run_eqF_cons (a:=.string s) (b:=.string s') (by kernel_rfl) (by kernel_rfl) (by kernel_rfl) (run_equalIn_string _ _ _ _ _ (by kernel_rfl)) ?_
 kernel_rfl
def weq (b b':Bool) (s s':ByteArray):Bool:=(b==b')&&((s.toList==s'.toList)&&true)
def feq (b b':Bool) (s s':ByteArray) (c c':Bool) (t t':ByteArray):Bool:=weq b b' s s'&&(weq c c' t t'&&true)
theorem eqF {w:World} (d:Nat) (b b' c c':Bool) (s s' t t':ByteArray):(Op.equalIn (d+3) 25 (.agg #[.bool b,.string s,.bool c,.string t]) (.agg #[.bool b',.string s',.bool c',.string t'])).run Tryz.prog w=.ok (feq b b' s s' c c' t t') w:=by
 rw [run_equalIn_agg _ _ _ _ _ (by kernel_rfl) (by kernel_rfl)]
 refine run_eqF_cons (a:=.agg #[.bool b,.string s]) (b:=.agg #[.bool b',.string s']) (by kernel_rfl) (by kernel_rfl) (by kernel_rfl) (eqW d _ _ _ _) ?_
 refine run_eqF_cons (a:=.agg #[.bool c,.string t]) (b:=.agg #[.bool c',.string t']) (by kernel_rfl) (by kernel_rfl) (by kernel_rfl) (eqW d _ _ _ _) ?_
 kernel_rfl
structure R4 where
 b:Bool
 s:ByteArray
 c:Bool
 t:ByteArray
def R4.eq (x y:R4):Bool:=feq x.b y.b x.s y.s x.c y.c x.t y.t
theorem weq_iff {b b':Bool} {s s':ByteArray}:weq b b' s s'=true↔b=b'∧s=s':=by
 unfold weq
 rw [Bool.and_true,Bool.and_eq_true,beq_iff_eq,beq_iff_eq,toList_inj]
theorem R4.eq_iff {x y:R4}:x.eq y=true↔x=y:=by
 unfold R4.eq feq
 rw [Bool.and_true,Bool.and_eq_true,weq_iff,weq_iff]
 obtain ⟨b,s,c,t⟩:=x
 obtain ⟨b',s',c',t'⟩:=y
 constructor
 · rintro ⟨⟨rfl,rfl⟩,rfl,rfl⟩; rfl
 · intro h; injection h with h1 h2 h3 h4; exact ⟨⟨h1,h2⟩,h3,h4⟩
theorem eqG {w:World} (d:Nat) (x y x' y':R4):(Op.equalIn (d+4) 37 (.agg #[.bool x.b,.string x.s,.bool x.c,.string x.t,.bool y.b,.string y.s,.bool y.c,.string y.t]) (.agg #[.bool x'.b,.string x'.s,.bool x'.c,.string x'.t,.bool y'.b,.string y'.s,.bool y'.c,.string y'.t])).run Tryz.prog w=.ok (x.eq x'&&(y.eq y'&&true)) w:=by
 rw [run_equalIn_agg _ _ _ _ _ (by kernel_rfl) (by kernel_rfl)]
 refine run_eqF_cons (a:=.agg #[.bool x.b,.string x.s,.bool x.c,.string x.t]) (b:=.agg #[.bool x'.b,.string x'.s,.bool x'.c,.string x'.t]) (by kernel_rfl) (by kernel_rfl) (by kernel_rfl) (eqF d _ _ _ _ _ _ _ _) ?_
 refine run_eqF_cons (a:=.agg #[.bool y.b,.string y.s,.bool y.c,.string y.t]) (b:=.agg #[.bool y'.b,.string y'.s,.bool y'.c,.string y'.t]) (by kernel_rfl) (by kernel_rfl) (by kernel_rfl) (eqF d _ _ _ _ _ _ _ _) ?_
 kernel_rfl
theorem eqP {w:World} (d:Nat) (i i':Bool) (x y x' y':R4):(Op.equalIn (d+5) 39 (.agg #[.bool i,.bool x.b,.string x.s,.bool x.c,.string x.t,.bool y.b,.string y.s,.bool y.c,.string y.t]) (.agg #[.bool i',.bool x'.b,.string x'.s,.bool x'.c,.string x'.t,.bool y'.b,.string y'.s,.bool y'.c,.string y'.t])).run Tryz.prog w=.ok ((i==i')&&((x.eq x'&&(y.eq y'&&true))&&true)) w:=by
 rw [run_equalIn_agg _ _ _ _ _ (by kernel_rfl) (by kernel_rfl)]
 refine run_eqF_cons (a:=.bool i) (b:=.bool i') (by kernel_rfl) (by kernel_rfl) (by kernel_rfl) (run_equalIn_bool' _ _ _ _ _ (by kernel_rfl)) ?_
 refine run_eqF_cons (a:=.agg #[.bool x.b,.string x.s,.bool x.c,.string x.t,.bool y.b,.string y.s,.bool y.c,.string y.t]) (b:=.agg #[.bool x'.b,.string x'.s,.bool x'.c,.string x'.t,.bool y'.b,.string y'.s,.bool y'.c,.string y'.t]) (by kernel_rfl) (by kernel_rfl) (by kernel_rfl) (eqG d _ _ _ _) ?_
 kernel_rfl
theorem exec_eql {w:World} {t u:TypeId} {xs ys:Array Value} {r:Bool} (hg:Tryz.prog.eqGuardType Tryz.prog.depth t=false) (h:(Op.equalIn 10000 t (.agg xs) (.agg ys)).run Tryz.prog w=.ok r w) (x y:Operand) (ρ:Operand→Value) (o:Oper) (ho:o.op=.binOp .eql t x y u) (hx:ρ x=.agg xs) (hy:ρ y=.agg ys):(execOp ρ o).run Tryz.prog w=.ok (.value (.bool r)) w:=by
 unfold execOp
 rw [ho]
 simp only [hx,hy,Sem.run_bind,run_eqGuard_agg w _ _ _ _ _ _ hg,run_eql_struct,h,Result.andThen_ok]
 rfl
theorem exec_neq {w:World} {t u:TypeId} {xs ys:Array Value} {r:Bool} (hg:Tryz.prog.eqGuardType Tryz.prog.depth t=false) (h:(Op.equalIn 10000 t (.agg xs) (.agg ys)).run Tryz.prog w=.ok r w) (x y:Operand) (ρ:Operand→Value) (o:Oper) (ho:o.op=.binOp .neq t x y u) (hx:ρ x=.agg xs) (hy:ρ y=.agg ys):(execOp ρ o).run Tryz.prog w=.ok (.value (.bool (!r))) w:=by
 unfold execOp
 rw [ho]
 simp only [hx,hy,Sem.run_bind,run_eqGuard_agg w _ _ _ _ _ _ hg,run_neq_struct,h,Result.andThen_ok]
 rfl
def eqEv (t:TypeId) (xs ys:Array Value) (r:Bool) (hg:Tryz.prog.eqGuardType Tryz.prog.depth t=false) (h:∀ w,(Op.equalIn 10000 t (.agg xs) (.agg ys)).run Tryz.prog w=.ok r w):Ev Tryz.prog :=
 .dyn (fun o _ _=>match o.op with
  | .binOp .eql t' _ _ _=>Nat.beq t' t
  | .binOp .neq t' _ _ _=>Nat.beq t' t
  | _=>false) fun o _ _=>match o.op with
  | .binOp .eql _ a b u=>.gen (o.dst.getD 0) (.binOp .eql t a b u) [.agg xs,.agg ys] (.bool r) (fun ρ o w ho hx=>by
    simp only [Op.operands,List.map_cons,List.map_nil,List.cons.injEq] at hx
    exact exec_eql hg (h w) a b ρ o ho hx.1 hx.2.1)
  | .binOp .neq _ a b u=>.gen (o.dst.getD 0) (.binOp .neq t a b u) [.agg xs,.agg ys] (.bool (!r)) (fun ρ o w ho hx=>by
    simp only [Op.operands,List.map_cons,List.map_nil,List.cons.injEq] at hx
    exact exec_neq hg (h w) a b ρ o ho hx.1 hx.2.1)
  | _=>.eqv 0 undef undef rfl
def eqEvP (i i':Bool) (x y x' y':R4) (r:Bool) (h:((i==i')&&((x.eq x'&&(y.eq y'&&true))&&true))=r):Ev Tryz.prog :=
 eqEv 39 #[.bool i,.bool x.b,.string x.s,.bool x.c,.string x.t,.bool y.b,.string y.s,.bool y.c,.string y.t] #[.bool i',.bool x'.b,.string x'.s,.bool x'.c,.string x'.t,.bool y'.b,.string y'.s,.bool y'.c,.string y'.t] r (by kernel_rfl) (fun w=>by rw [← h]; exact eqP 9995 i i' x y x' y')
def eqEvW (b b':Bool) (s s':ByteArray) (r:Bool) (h:weq b b' s s'=r):Ev Tryz.prog :=
 eqEv 23 #[.bool b,.string s] #[.bool b',.string s'] r (by kernel_rfl) (fun w=>by rw [← h]; exact eqW 9998 ..)
def eqEvG (x y x' y':R4) (r:Bool) (h:(x.eq x'&&(y.eq y'&&true))=r):Ev Tryz.prog :=
 eqEv 37 #[.bool x.b,.string x.s,.bool x.c,.string x.t,.bool y.b,.string y.s,.bool y.c,.string y.t] #[.bool x'.b,.string x'.s,.bool x'.c,.string x'.t,.bool y'.b,.string y'.s,.bool y'.c,.string y'.t] r (by kernel_rfl) (fun w=>by rw [← h]; exact eqG 9996 ..)
def Y.Spec.conv {P:Program} (S:Y.Spec P) (res:SV) (h:S.res=res):Y.Spec P:=⟨S.f,S.en,S.args,S.obs,res,S.news,fun β w hh=>h▸S.ok β w hh,h▸S.closed⟩
theorem divInt_one (n:Int):(Rat.divInt n 1).num=n∧(Rat.divInt n 1).den=1:=by
 obtain ⟨_,_,_,h4,h5⟩:=divInt_parts n 1 (by decide) 1 (by rw [if_neg (by decide),show (1:Int).natAbs=1 from rfl,Nat.gcd_one_right]; rfl)
 rw [Int.ediv_one] at h4 h5
 exact ⟨h4,by omega⟩
theorem fC_int (n:Int):fC (Rat.divInt n 1)=[.b (.v (.bool (decide (n<0)))),.b (.v (.string (mag n.natAbs))),.b (.v (.bool false)),.b (.v (.string (mag 1)))]:=by
 unfold fC
 rw [(divInt_one n).1,(divInt_one n).2]
def sR3Int (n:Int) (hr : -9223372036854775808≤n∧n≤9223372036854775807):Y.Spec Tryz.prog :=
 Y.Spec.conv (Y.Spec.auto Tryz.call136 [.one (.c (.b (.v (.int .i64 n))))] [] (.one (.a [.b (.v (.bool (decide (n<0)))),.b (.v (.string (mag n.natAbs))),.b (.v (.bool false)),.b (.v (.string (mag 1)))])) []
  [eWOf n hr,eWOf 1 (by decide)] [] 400 Tryz.func136 hmA (by kernel_rfl) (fun β=>by kernel_rfl)) (.one (.a (fC (Rat.divInt n 1)))) (congrArg (fun l=>SV.one (.a l)) (fC_int n).symm)
abbrev KE:Nat:=10000000
theorem exformed_any {w:World} (p:Bool) (s:ByteArray) (r:Bool) (hr:r=true↔FormedB p s) :
  Calls Tryz.prog 365 #[.agg #[.bool p,.string s]] w fun e w'=>e=.returned (.bool r)∧Below w.heap.size w w':=by
 have HB:=Lib.hid (below_new w (.cells #[.bool p,.string s] 23))
 have HR:=Lib.hid hr
 clear hr
 by_cases h0:s.size=0
 · obtain rfl:=empty_data h0
   have HQ:Hid (r=!p):=by
    have h1:=HR.out
    unfold FormedB at h1
    cases p<;>cases r<;>simp_all [Hid]
   clear h0
   go_enter Tryz.func365,Tryz.ntmps365
   go_wp2
   go_ret
   exact ⟨by rw [HQ.out]; rfl,HB.out⟩
 · obtain ⟨hE,hE2⟩:=toList_some h0
   have hp:0<s.size:=by omega
   obtain ⟨t,ht⟩:∃ t,t=head s:=⟨_,rfl⟩
   have ht2:s[0].toNat=t:=by rw [ht]; exact head_eq hp
   have HQ:Hid (r=true↔t≠0):=by
    have h1:=HR.out
    unfold FormedB at h1
    rw [← ht] at h1
    exact ⟨fun h=>(h1.1 h).elim (fun k=>absurd k.1 h0) (fun k=>k.2),fun h=>h1.2 (.inr ⟨h0,h⟩)⟩
   clear ht
   by_cases hz:t=0
   · subst hz
     go_enter Tryz.func365,Tryz.ntmps365
     go_wp2
     go_ret
     refine ⟨?_,HB.out⟩
     cases r
     · rfl
     · exact absurd rfl (HQ.out.1 rfl)
   · have hz1:((t:Int)==0)=false:=by rw [beq_eq_false_iff_ne]; omega
     have hz2:((t:Int) != 0)=true:=by rw [bne_iff_ne]; omega
     go_enter Tryz.func365,Tryz.ntmps365
     go_wp2
     go_ret
     refine ⟨?_,HB.out⟩
     rw [HQ.out.2 hz]
     rfl
theorem exwhole_any {w:World} (b:Bool) (s:ByteArray) (hs:s.size≤4294967296) :
  Calls Tryz.prog 366 #[.agg #[.bool b,.string s]] w fun e w'=>∃ g,e=.returned (.pointer (some ⟨g,0,none⟩))∧w.heap.size≤g∧IntAt w' g 0 (numOf b s)∧Below w.heap.size w w':=by
 have hcv:=fun (w:World)=>run_bytes_of_string (P:=Tryz.prog) w 9 245 5 s Tryz.underlying9 Tryz.underlying245 Tryz.underlying5
 have HS:=Lib.hid hs
 have HB:=Lib.hid (below_new w (.cells #[.bool b,.string s] 23))
 have HX:=Lib.hid (BoxAt.new w #[.bool b,.string s] 23)
 clear hs
 go_enter Tryz.func366,Tryz.ntmps366
 go_wp2_with fail
 generalize hW2:(w.alloc (.cells #[.bool b,.string s] 23)).alloc (.cells #[.bool false,.slice none 0 0] 186)=W2
 have hi:IntAt W2 (w.heap.size+1) 0 0:=by rw [← hW2]; exact IntAt.new_at (size_alloc _ _).symm
 have hx:BoxAt W2 w.heap.size #[.bool b,.string s] 23:=by rw [← hW2]; exact HX.out.on (below_new _ _)
 have hb:Below w.heap.size w W2:=by rw [← hW2]; exact HB.out.trans ((below_new _ _).mono (by simp))
 have hsz:w.heap.size+1+1=W2.heap.size:=by rw [← hW2]; simp
 have hby:=byt_row (W:=W2) s (grownCap W2 s.size 0 5) (grownCap W2 s.size 0 5) (w.heap.size+1+1) ((bytesRow s (grownCap W2 s.size 0 5)).size,(bytesRow s (grownCap W2 s.size 0 5)).size+1) hsz
 have hbl:=below_row W2 (bytesRow s (grownCap W2 s.size 0 5)) 5 ((bytesRow s (grownCap W2 s.size 0 5)).size,(bytesRow s (grownCap W2 s.size 0 5)).size+1)
 clear hW2
 generalize grownCap W2 s.size 0 5=c at hby hbl ⊢
 generalize (W2.alloc (.cells (bytesRow s c) 5 ((bytesRow s c).size,(bytesRow s c).size+1))).drew=W3 at hby hbl ⊢
 refine (SetBytes_any (hi.on hbl).slot hby HS.out).mono ?_
 rintro e w1 ⟨rfl,h1,h2⟩
 rw [List.reverse_reverse] at h1
 have HX1:=Lib.hid (hx.on hbl)
 have HB1:=Lib.hid (hb.trans (hbl.mono hb.size))
 have HI:=Lib.hid h1
 have HT:=Lib.hid (h2.below (B:=w.heap.size+1) (Nat.le_refl _) (by have:=hbl.size; omega))
 have hc0:w1.cell? ⟨w.heap.size,0,none⟩=some (.bool b):=by rw [HT.out.cell (by simp)]; exact HX1.out.cell 0 _ rfl
 have hc1:w1.cell? ⟨w.heap.size,1,none⟩=some (.string s):=by rw [HT.out.cell (by simp)]; exact HX1.out.cell 1 _ rfl
 have HBB:=Lib.hid (HB1.out.trans (HT.out.mono (by omega)))
 clear h1 h2 hi hx hb hsz hby hbl
 cases b
 · go_wp2
   go_ret
   refine ⟨_,rfl,by omega,?_,HBB.out⟩
   have:=HI.out
   simpa [numOf,sg,num] using this
 · go_wp2_with fail
   refine (neg_any HI.out.slot HI.out).mono ?_
   rintro e w2 ⟨rfl,h1,h2⟩
   have H1:=Lib.hid h1
   have H2:=Lib.hid (HBB.out.trans (h2.below (by omega) HBB.out.size))
   clear h1 h2 hc0 hc1
   go_wp2
   go_ret
   refine ⟨_,rfl,by omega,?_,H2.out⟩
   have:=H1.out
   simpa [numOf,sg,num] using this
theorem formedB_dec (b:Bool) (s:ByteArray):∃ r:Bool,r=true↔FormedB b s:=by
 by_cases h:FormedB b s
 · exact ⟨true,by simp [h]⟩
 · exact ⟨false,by simp [h]⟩
theorem eq_empty {t:ByteArray} {r:Bool} (h:decide (t.size=0)=r):Value.bool (t.toList==(⟨#[]⟩:ByteArray).toList)=.bool r:=by
 rw [← h]
 congr 1
 rw [Bool.eq_iff_iff,beq_iff_eq,decide_eq_true_iff,toList_inj]
 exact ⟨fun h=>by rw [h]; rfl,fun h=>empty_data h⟩
theorem len_gt {t:ByteArray} {r:Bool} (h:decide (1024<t.size)=r):Value.bool (decide ((1024:Int)<(t.size:Int)))=.bool r:=by
 rw [← h]
 congr 1
 rw [Bool.eq_iff_iff,decide_eq_true_iff,decide_eq_true_iff]
 omega
theorem cmp_ne {a b:Int} {r:Bool} (h:decide (a=b)=r):Value.bool (cmpI a b != 0)=.bool (!r):=by
 rw [← h]
 congr 1
 unfold cmpI
 by_cases h1:a<b
 · rw [if_pos h1]; simp; omega
 · by_cases h2:b<a
   · rw [if_neg h1,if_pos h2]; simp; omega
   · rw [if_neg h1,if_neg h2]; simp; omega
set_option maxRecDepth 100000 in
theorem Bytes_at {w:World} {b o:Nat} {n:Int} (hx:IntAt w b o n) (hn:Okn n) :
  Calls Tryz.prog 285 #[.pointer (some ⟨b,o,none⟩)] w fun e w'=>∃ g,e=.returned (.slice (some ⟨g,0,none⟩) (led n.natAbs).length (led n.natAbs).length)∧w.heap.size≤g∧Byt w' (.slice (some ⟨g,0,none⟩) (led n.natAbs).length (led n.natAbs).length) (led n.natAbs).reverse∧Below w.heap.size w w':=by
 have HX:=Lib.hid hx
 have HO:=Lib.hid hn
 clear hx hn
 go_enter Tryz.func285,Tryz.ntmps285
 go_wp2_with fail
 refine (BitLen_any HX.out).mono ?_
 rintro e w1 ⟨L,rfl,hL,hLb,hb1⟩
 obtain ⟨N,hN⟩:∃ N,N=n.natAbs:=⟨_,rfl⟩
 have ho:=HO.out
 unfold Okn at ho
 rw [← hN] at hL ho
 obtain ⟨m,hm⟩:∃ m,m=(L+7)/8:=⟨_,rfl⟩
 have HM:Hid ((led N).length=m):=by rw [hm]; exact led_len_bits N L hL.1 hL.2
 have hmi:((L:Int)+7)/8=(m:Int):=by omega
 have hLL:=hL.le (by have:=dig_lt N; rw [p32] at this; exact this)
 have hmb:m≤17179869185:=by omega
 have HN:=Lib.hid hN
 have HB1:=Lib.hid hb1
 have HS1:Hid (w.heap.size≤w1.heap.size):=hb1.size
 clear hL hm hb1 hN hLL ho
 go_wp2_with (at_make; refine wpList_make_bytes rfl _ _ rfl _ _ _ _ m m rfl rfl (by omega) (by omega) (Nat.le_refl _) (by omega) ?_)
 intro w2 hbuf hb2 hz2
 have HB2:=Lib.hid hz2
 clear hz2
 go_wp2
 go_loopw [14] (fun i wr=>∃ (k:Nat),k≤m∧i=.int .i64 (k:Int)∧BBuf wr w1.heap.size (List.replicate (m-k) 0++(led N).reverse.drop (m-k))∧Below w1.heap.size w1 wr) (fun i _=>m-(intOf i).toNat)
 case atStart=>exact ⟨0,by omega,rfl,by rw [Nat.sub_zero,List.drop_of_length_le (by rw [List.length_reverse,HM.out]; exact Nat.le_refl _),List.append_nil]; exact hbuf,hb2⟩
 case round =>
  obtain ⟨k,hk,rfl,hbuf',hb'⟩:=hrel
  have hsz:=hb'.size
  have hblt:=hbuf'.lt
  clear hbuf hb2 HB2
  by_cases hk0:k<m
  · have hx:=HX.out.on (HB1.out.trans (hb'.mono HS1.out))
    obtain ⟨A,l,c,h0,h1,h2,hlt⟩:=hx.open_
    rw [← HN.out] at h2
    have hl:=h2.len.1
    obtain ⟨q,hq⟩:∃ q,q=k/4:=⟨_,rfl⟩
    obtain ⟨r,hr⟩:∃ r,r=k % 4:=⟨_,rfl⟩
    obtain ⟨s,hs⟩:∃ s,s=k % 4*8:=⟨_,rfl⟩
    have hql:q<l:=by
     have h3:=led_len_le N (4*l) (by have:=dig_lt N; rw [← hl,p32] at this; rw [p256]; rwa [show 8*(4*l)=32*l by omega])
     have:=HM.out
     omega
    obtain ⟨g,p,rfl,hall⟩:=h2.open_ (by omega)
    have hc:=hall q hql
    obtain ⟨x,hx'⟩:∃ x,x=N/4294967296^q % 4294967296:=⟨_,rfl⟩
    have hx32:x<4294967296:=by rw [hx']; exact Nat.mod_lt _ (by decide)
    replace hc:wr.cell? ⟨g,p+q,none⟩=some (.int .u32 (x:Int)):=by rw [hx',← dig_getD]; exact hc
    obtain ⟨y,hy⟩:∃ y,y=x/2^s:=⟨_,rfl⟩
    have hsh:(x:Int)/2^s=(y:Int):=by rw [hy,Int.natCast_ediv]; simp
    have hyb:y<4294967296:=by rw [hy]; exact Nat.lt_of_le_of_lt (Nat.div_le_self _ _) hx32
    have hbyte:y % 256=N/256^k % 256:=by rw [hy,hx',hq,hs]; exact byte_word N k
    have HBY:=Lib.hid hbyte
    have hqi:(k:Int)/4=(q:Int):=by omega
    have hri:(k:Int) % 4=(r:Int):=by omega
    have hsi:(r:Int)*8=(s:Int):=by omega
    have hs24:s≤24:=by omega
    have hmk2:((m:Int)-1-(k:Int))=((m-1-k:Nat):Int):=by omega
    have hc2:=hbuf'.cell (m-1-k) (by rw [List.length_append,List.length_replicate]; omega)
    have hf:=hbuf'.frozen (m-1-k)
    have HB:=Lib.hid (hbuf'.set (m-1-k) (y % 256) _ (Nat.mod_lt _ (by decide)) rfl)
    have HH:=Lib.hid hb'
    clear hall h0 h2 hx hl hx' hy hbyte hbuf' hb' hq hr hs
    go_wp2
    go_roundw
    case rel =>
     refine ⟨k+1,by omega,by go_num,?_,HH.out.setCell (Nat.le_refl _) _⟩
     have h:=HB.out
     have h2:=led_back N m k HM.out hk0
     rw [← HBY.out] at h2
     rw [h2] at h
     exact h
    case measure=>simp [intOf]; omega
  · obtain rfl:k=m:=by omega
    rw [Nat.sub_self,List.replicate_zero,List.nil_append,List.drop_zero] at hbuf'
    have HV:=Lib.hid (hbuf'.byt (n:=k) (cap:=k) (by rw [List.length_reverse]; exact HM.out))
    clear hbuf'
    go_wp2
    go_ret
    exact ⟨w1.heap.size,by rw [← HN.out,HM.out]; rfl,HS1.out,by rw [← HN.out,HM.out]; exact HV.out,HB1.out.trans (hb'.mono HS1.out)⟩
theorem led_gt {n:Int} {r:Bool} (h:decide (1024<sz n)=r):Value.bool (decide ((1024:Int)<((led n.natAbs).length:Int)))=.bool r:=by
 rw [← h]
 congr 1
 have:sz n=(led n.natAbs).length:=by unfold sz mag; rw [strN_size,List.length_reverse]
 rw [Bool.eq_iff_iff,decide_eq_true_iff,decide_eq_true_iff,this]
 omega
theorem sign_lt {x:Rat}:Value.bool (decide (x.num.sign<0))=.bool (decide (x.num<0)):=by
 congr 1
 rw [Bool.eq_iff_iff,decide_eq_true_iff,decide_eq_true_iff,Int.sign_neg_iff]
inductive Fp where
 | ok (x:Rat) (h:Fit x)
 | no (b c:Bool) (s t:ByteArray) (h:¬ IsFrac (rawV b c s t)) (hs:s.size≤maxLen) (ht:t.size≤maxLen)
def Fp.C:Fp→List Lf
 | .ok x _=>[.b (.v (.bool (decide (x.num<0)))),.b (.v (.string (mag x.num.natAbs))),.b (.v (.bool false)),.b (.v (.string (mag x.den)))]
 | .no b c s t _ _ _=>[.b (.v (.bool b)),.b (.v (.string s)),.b (.v (.bool c)),.b (.v (.string t))]
def Fp.B:Fp→Bool
 | .ok ..=>true
 | .no ..=>false
def FitG (z:GQ):Prop:=Fit z.re∧Fit z.im
open Classical in
noncomputable def gaK (z:GQ):Int:=if FitG z then 0 else 4
open Classical in
noncomputable def gaB (z:GQ):Bool:=if FitG z then decide (z.re.num<0) else false
open Classical in
noncomputable def gaS (z:GQ):ByteArray:=if FitG z then mag z.re.num.natAbs else ⟨#[]⟩
open Classical in
noncomputable def gaD (z:GQ):ByteArray:=if FitG z then mag z.re.den else ⟨#[]⟩
open Classical in
noncomputable def gaB' (z:GQ):Bool:=if FitG z then decide (z.im.num<0) else false
open Classical in
noncomputable def gaS' (z:GQ):ByteArray:=if FitG z then mag z.im.num.natAbs else ⟨#[]⟩
open Classical in
noncomputable def gaD' (z:GQ):ByteArray:=if FitG z then mag z.im.den else ⟨#[]⟩
noncomputable def gaC (z:GQ):List Lf:=[.b (.v (.bool (gaB z))),.b (.v (.string (gaS z))),.b (.v (.bool false)),.b (.v (.string (gaD z))),.b (.v (.bool (gaB' z))),.b (.v (.string (gaS' z))),.b (.v (.bool false)),.b (.v (.string (gaD' z)))]
def g0C:List Lf:=[.b (.v (.bool false)),.b (.v (.string ⟨#[]⟩)),.b (.v (.bool false)),.b (.v (.string ⟨#[]⟩)),.b (.v (.bool false)),.b (.v (.string ⟨#[]⟩)),.b (.v (.bool false)),.b (.v (.string ⟨#[]⟩))]
def gC (z:GQ):List Lf:=[.b (.v (.bool (decide (z.re.num<0)))),.b (.v (.string (mag z.re.num.natAbs))),.b (.v (.bool false)),.b (.v (.string (mag z.re.den))),.b (.v (.bool (decide (z.im.num<0)))),.b (.v (.string (mag z.im.num.natAbs))),.b (.v (.bool false)),.b (.v (.string (mag z.im.den)))]
theorem ga_fit {z:GQ} (h:FitG z):gaC z=gC z∧gaK z=0:=by
 unfold gaC gC gaB gaS gaD gaB' gaS' gaD' gaK
 constructor<;>simp only [if_pos h]
theorem ga_not {z:GQ} (h:¬ FitG z):gaC z=g0C∧gaK z=4:=by
 unfold gaC g0C gaB gaS gaD gaB' gaS' gaD' gaK
 constructor<;>simp only [if_neg h]
theorem ansK_ne {x:Rat} {r:Bool} (h:(ansK x != 0)=r):Value.bool (ansK x != 0)=.bool r:=by rw [h]
theorem ansF_fit {x:Rat} (h:Fit x):ansB x=decide (x.num<0)∧ansS x=mag x.num.natAbs∧ansD x=mag x.den∧ansK x=0:=⟨if_pos h,if_pos h,if_pos h,if_pos h⟩
inductive Pt where
 | inf
 | fin (z:GQ)
def PSz (k:Nat):Pt→Prop
 | .inf=>True
 | .fin z=>GSz k z
def byA:Pt→GQ
 | .inf=>gint 1 0
 | .fin z=>z
def byB:Pt→GQ
 | .inf=>gint 0 0
 | .fin _=>gint 1 0
theorem byA_sz {k:Nat} {p:Pt} (h:PSz k p) (hk:1≤k):GSz k (byA p):=by
 cases p
 · exact (GSz.int (by decide) (by decide)).mono hk
 · exact h
theorem byB_sz {k:Nat} {p:Pt} (hk:1≤k):GSz k (byB p):=by
 cases p
 · exact (GSz.int (by decide) (by decide)).mono hk
 · exact (GSz.int (by decide) (by decide)).mono hk
def gacross (p q:Pt):GQ:=gsub (gmul (byA p) (byB q)) (gmul (byB p) (byA q))
theorem gacross_sz {k:Nat} {p q:Pt} (hp:PSz k p) (hq:PSz k q) (hk:1≤k):GSz (k+k+(k+k)+1+(k+k+(k+k)+1)+1) (gacross p q) :=
 ((byA_sz hp hk).mul (byB_sz hk)).sub ((byB_sz hk).mul (byA_sz hq hk))
theorem sz_zero:Sz 1 (0:Rat):=⟨sz_le.2 (by decide),sz_le.2 (by decide)⟩
def g0:GQ:=⟨0,0⟩
theorem g0_sz {k:Nat} (hk:1≤k):GSz k g0:=⟨sz_zero.mono hk,sz_zero.mono hk⟩
structure MQ where
 a:GQ
 b:GQ
 c:GQ
 d:GQ
 t:Bool
structure MSz (k:Nat) (m:MQ):Prop where
 a:GSz k m.a
 b:GSz k m.b
 c:GSz k m.c
 d:GSz k m.d
theorem MSz.mono {i k:Nat} {m:MQ} (h:MSz i m) (hk:i≤k):MSz k m:=⟨h.a.mono hk,h.b.mono hk,h.c.mono hk,h.d.mono hk⟩
def mdet (m:MQ):GQ:=gsub (gmul m.a m.d) (gmul m.b m.c)
def mnormB (m:MQ) (b:Bool):MQ:=⟨gdiv m.a (bif b then m.d else m.c),gdiv m.b (bif b then m.d else m.c),gdiv m.c (bif b then m.d else m.c),gdiv m.d (bif b then m.d else m.c),m.t⟩
abbrev dsz (k:Nat):Nat:=k+k+(k+k)+1+(k+k+(k+k)+1)
theorem MSz.normB {k:Nat} {m:MQ} {b:Bool} (h:MSz k m) (h0:gzero (bif b then m.d else m.c)=false):MSz (dsz k) (mnormB m b):=by
 cases b
 · exact ⟨h.a.div h.c h0,h.b.div h.c h0,h.c.div h.c h0,h.d.div h.c h0⟩
 · exact ⟨h.a.div h.d h0,h.b.div h.d h0,h.c.div h.d h0,h.d.div h.d h0⟩
def mconj (m:MQ) (t:Bool):MQ:=⟨bif t then gconj m.a else m.a,bif t then gconj m.b else m.b,bif t then gconj m.c else m.c,bif t then gconj m.d else m.d,m.t⟩
def mundo0 (m:MQ):MQ:=⟨m.d,gneg m.b,gneg m.c,m.a,m.t⟩
theorem MSz.undo0 {k:Nat} {m:MQ} (h:MSz k m):MSz k (mundo0 m):=⟨h.d,h.b.neg,h.c.neg,h.a⟩
theorem MSz.conj {k:Nat} {m:MQ} (h:MSz k m) (t:Bool):MSz k (mconj m t):=by
 cases t
 · exact ⟨h.a,h.b,h.c,h.d⟩
 · exact ⟨h.a.conj,h.b.conj,h.c.conj,h.d.conj⟩
def mbeh (m n:MQ):MQ:=⟨gadd (gmul m.a (mconj n m.t).a) (gmul m.b (mconj n m.t).c),gadd (gmul m.a (mconj n m.t).b) (gmul m.b (mconj n m.t).d),
 gadd (gmul m.c (mconj n m.t).a) (gmul m.d (mconj n m.t).c),gadd (gmul m.c (mconj n m.t).b) (gmul m.d (mconj n m.t).d),m.t != n.t⟩
abbrev bsz (i j:Nat):Nat:=i+j+(i+j)+1+(i+j+(i+j)+1)+1
theorem MSz.beh {i j:Nat} {m n:MQ} (h:MSz i m) (k:MSz j n):MSz (bsz i j) (mbeh m n) :=
 ⟨(h.a.mul (k.conj _).a).add (h.b.mul (k.conj _).c),(h.a.mul (k.conj _).b).add (h.b.mul (k.conj _).d),(h.c.mul (k.conj _).a).add (h.d.mul (k.conj _).c),(h.c.mul (k.conj _).b).add (h.d.mul (k.conj _).d)⟩
def mchart0 (p q r:Pt):MQ:=⟨gmul (byB p) (gacross q r),gneg (gmul (byA p) (gacross q r)),gmul (byB r) (gacross q p),gneg (gmul (byA r) (gacross q p)),false⟩
abbrev KC:Nat:=100000
theorem chart0_sz {p q r:Pt} (hp:PSz KC p) (hq:PSz KC q) (hr:PSz KC r):MSz KE (mchart0 p q r) :=
 ⟨((byB_sz (k:=KC) (by decide)).mul (gacross_sz hq hr (by decide))).mono (by decide),((byA_sz hp (by decide)).mul (gacross_sz hq hr (by decide))).neg.mono (by decide),
  ((byB_sz (k:=KC) (by decide)).mul (gacross_sz hq hp (by decide))).mono (by decide),((byA_sz hr (by decide)).mul (gacross_sz hq hp (by decide))).neg.mono (by decide)⟩
theorem PSz.mono {i k:Nat} {p:Pt} (h:PSz i p) (hk:i≤k):PSz k p:=by
 cases p
 · trivial
 · exact GSz.mono h hk
theorem gaK_ne {z:GQ} {r:Bool} (h:(gaK z != 0)=r):Value.bool (gaK z != 0)=.bool r:=by rw [h]
theorem gaK_fit {z:GQ} (h:FitG z):(gaK z != 0)=false:=by rw [(ga_fit h).2]; rfl
theorem gaK_not {z:GQ} (h:¬ FitG z):(gaK z != 0)=true:=by rw [(ga_not h).2]; rfl
def FitM (m:MQ):Prop:=FitG m.a∧FitG m.b∧FitG m.c∧FitG m.d
open Classical in
noncomputable def selB (F:Prop) (b:Bool):Bool:=if F then b else false
open Classical in
noncomputable def selS (F:Prop) (s:ByteArray):ByteArray:=if F then s else ⟨#[]⟩
open Classical in
noncomputable def maK (m:MQ):Int:=if FitM m then 0 else 4
noncomputable def gsC (F:Prop) (z:GQ):List Lf:=[.b (.v (.bool (selB F (decide (z.re.num<0))))),.b (.v (.string (selS F (mag z.re.num.natAbs)))),.b (.v (.bool false)),.b (.v (.string (selS F (mag z.re.den)))),.b (.v (.bool (selB F (decide (z.im.num<0))))),.b (.v (.string (selS F (mag z.im.num.natAbs)))),.b (.v (.bool false)),.b (.v (.string (selS F (mag z.im.den))))]
theorem gsC_yes {F:Prop} (h:F) (z:GQ):gsC F z=gC z:=by
 unfold gsC gC selB selS
 simp only [if_pos h]
theorem gsC_no {F:Prop} (h:¬ F) (z:GQ):gsC F z=g0C:=by
 unfold gsC g0C selB selS
 simp only [if_neg h]
noncomputable def maC (m:MQ):List Lf:=gsC (FitM m) m.a++gsC (FitM m) m.b++gsC (FitM m) m.c++gsC (FitM m) m.d++[.b (.v (.bool (selB (FitM m) m.t)))]
theorem maC_yes {m:MQ} (h:FitM m):maC m=gaC m.a++gaC m.b++gaC m.c++gaC m.d++[.b (.v (.bool m.t))]∧maK m=0:=by
 unfold maC
 simp only [gsC_yes h,(ga_fit h.1).1,(ga_fit h.2.1).1,(ga_fit h.2.2.1).1,(ga_fit h.2.2.2).1]
 exact ⟨by rw [show selB (FitM m) m.t=m.t from if_pos h],if_pos h⟩
theorem maC_no {m:MQ} (h:¬ FitM m):maC m=g0C++g0C++g0C++g0C++[.b (.v (.bool false))]∧maK m=4:=by
 unfold maC
 simp only [gsC_no h]
 exact ⟨by rw [show selB (FitM m) m.t=false from if_neg h],if_neg h⟩
noncomputable def paC:Pt→List Lf
 | .inf=>.b (.v (.bool true))::g0C
 | .fin z=>.b (.v (.bool false))::gaC z
noncomputable def paK:Pt→Int
 | .inf=>0
 | .fin z=>gaK z
def mcj (t:Bool) (z:GQ):GQ:=bif t then gconj z else z
theorem mcj_sz {k:Nat} {t:Bool} {z:GQ} (h:GSz k z):GSz k (mcj t z):=by
 cases t
 · exact h
 · exact h.conj
def msN (m:MQ):Pt→GQ
 | .inf=>m.a
 | .fin z=>gadd (gmul m.a (mcj m.t z)) m.b
def msD (m:MQ):Pt→GQ
 | .inf=>m.c
 | .fin z=>gadd (gmul m.c (mcj m.t z)) m.d
abbrev ssz (i j:Nat):Nat:=i+j+(i+j)+1+i+1
theorem msN_sz {i j:Nat} {m:MQ} {p:Pt} (h:MSz i m) (hp:PSz j p):GSz (ssz i j) (msN m p):=by
 cases p
 · exact h.a.mono (by unfold ssz; omega)
 · exact (h.a.mul (mcj_sz hp)).add h.b
theorem msD_sz {i j:Nat} {m:MQ} {p:Pt} (h:MSz i m) (hp:PSz j p):GSz (ssz i j) (msD m p):=by
 cases p
 · exact h.c.mono (by unfold ssz; omega)
 · exact (h.c.mul (mcj_sz hp)).add h.d
def msend (m:MQ) (p:Pt) (b:Bool):Pt:=bif b then .inf else .fin (gdiv (msN m p) (msD m p))
inductive Pp where
 | inf
 | fin (a b:Fp)
 | odd (x y:R4) (h:¬ (x=⟨false,⟨#[]⟩,false,⟨#[]⟩⟩∧y=⟨false,⟨#[]⟩,false,⟨#[]⟩⟩))
def R4.L (x:R4):List Lf:=[.b (.v (.bool x.b)),.b (.v (.string x.s)),.b (.v (.bool x.c)),.b (.v (.string x.t))]
def Pp.C:Pp→List Lf
 | .inf=>.b (.v (.bool true))::g0C
 | .fin a b=>.b (.v (.bool false))::(a.C++b.C)
 | .odd x y _=>.b (.v (.bool true))::(x.L++y.L)
def Pp.B:Pp→Bool
 | .inf=>true
 | .fin a b=>a.B&&b.B
 | .odd ..=>false
def r40:R4:=⟨false,⟨#[]⟩,false,⟨#[]⟩⟩
theorem odd_ne {x y:R4} (h:¬ (x=⟨false,⟨#[]⟩,false,⟨#[]⟩⟩∧y=⟨false,⟨#[]⟩,false,⟨#[]⟩⟩)):((true==true)&&((x.eq r40&&(y.eq r40&&true))&&true))=false:=by
 refine Bool.eq_false_iff.2 fun e=>h ?_
 simp only [Bool.and_true,Bool.and_eq_true,R4.eq_iff] at e
 exact e.2
end Go.Proofs.YtdiemgedlfnlmaaGreat
end
section
namespace Go.Proofs.YtdiemgedlfnlmaaGreat.Y
open Go Go.RowKit
set_option maxRecDepth 100000
abbrev lsX (l:List Lf):List Lf:=l
def Spec.ofX {P:Program} (S:Spec P) (ho:S.obs=[]) (hn:S.news=[]):Spec P:=S
def BY (n:Int) (w:World) (g:Pl):Prop:=(∀ c,g.F c↔c=g.b)∧Byt w (.slice (some ⟨g.b,0,none⟩) (led n.natAbs).length (led n.natAbs).length) (led n.natAbs).reverse
theorem by_stable (n:Int):Stable (BY n) :=
 ⟨fun w g ⟨h,k⟩ c hc=>by rw [(h c).1 hc]; exact k.open_.2.2.1,fun w w' g ⟨h,k⟩ hb=>⟨h,k.on hb⟩,
  fun w w' g b o m n ⟨h,k⟩ hs ht hne=>⟨h,by
   obtain ⟨h0,b',cap,cs,t,fr,h1,h2,h3⟩:=k
   have hb:g.b=b':=by injection h1 with h1 _ _; cases Option.some.inj h1; rfl
   subst hb
   exact ⟨h0,g.b,cap,cs,t,fr,h1,by rw [ht.block g.b (heap_some_lt h2) fun e=>hne ((h b).2 e.symm)]; exact h2,h3⟩⟩⟩
def bytT (n:Int):Thing:=thing (BY n) (by_stable n)
theorem extE_s (β:Env) (n a b:Nat) (g:Pl):(SV.one (.c (.b (.s n 0 a b)))).den (extE β n [g])=.slice (some ⟨g.b,0,none⟩) a b:=by
 have:=extE_in (β:=β) (n:=n) (i:=0) (xs:=[g]) rfl
 rw [Nat.add_zero] at this
 simp only [SV.den,SC.den,Lf.den,Lf0.den,this]
def nBytes {n:Int} (hn:sz n≤KB):Ev Tryz.prog:=dyn1 fun k m=>.call 285 Tryz.call285 (fun β=>#[.pointer ((β k).v 0)]) [(k,(intT n).ob)] m (.one (.c (.b (.s m 0 (led n.natAbs).length (led n.natAbs).length)))) [bytT n] (fun β w h=>by
 obtain ⟨a,ha,ka⟩:=needI (n:=n) (k:=k) h (by simp)
 simp only [ha.1]
 refine (Bytes_at ka (okn_sz hn)).mono fun e w' ⟨g,he,h1,h2,h3⟩=>⟨[newPl g],fun x hx c hc=>?_,by rw [he,extE_s]; rfl,⟨⟨fun _=>Iff.rfl,h2⟩,trivial⟩,h3⟩
 obtain rfl:=List.mem_singleton.1 hx
 rw [((newPl_one g).1 c).1 hc]
 exact .inl h1)
def slOf:SV→Nat
 | .one (.c (.b (.s k _ _ _)))=>k
 | _=>0
def rdStr (d t:Nat) (n:Int) (k:Nat):Ev Tryz.prog:=.rd d (.convert 245 9 (.tmp t)) (fun β=>[.slice (some ⟨(β k).b,0,none⟩) (led n.natAbs).length (led n.natAbs).length]) [(k,(bytT n).ob)] 0 (.one (.c (.b (.v (.string (mag n.natAbs)))))) [] (fun β w h ρ o ho hx=>by
 have h1:BY n w (β k):=h (k,(bytT n).ob) (by simp)
 have h2:ρ (.tmp t)=.slice (some ⟨(β k).b,0,none⟩) (led n.natAbs).length (led n.natAbs).length:=by simpa [Op.operands] using hx
 refine ⟨[],w,(fun _ h=>by cases h),?_,trivial,Below.refl _ _⟩
 unfold execOp
 rw [ho]
 simp only [h2]
 have h3:=string_of_byt h1.2
 simp [go_sem,h3]
 rfl)
def dStr (n:Int):Ev Tryz.prog:=.dyn (fun o _ _=>match o.op with
 | .convert a b (.tmp _)=>Nat.beq a 245&&Nat.beq b 9
 | _=>false) fun o xs _=>match o.op with
 | .convert _ _ (.tmp t)=>lit (slOf (xs.getD 0 undefS)) fun k=>rdStr (o.dst.getD 0) t n k
 | _=>.eqv 0 undef undef rfl
theorem frac_ok {x:Rat} (hx:Sz KB x) (β:Env) (w:World) (hh:∀ (k:Nat) (t:Thing),[ratM x][k]?=some t→t.D w (β k)) :
  Calls Tryz.prog 151 (([rV 0]:List SV).map (SV.den β)).toArray w fun e w'=>∃ xs:List Pl,freshS β w 1 xs∧e=.returned ((SV.tup [.a [.b (.v (.bool (ansB x))),.b (.v (.string (ansS x))),.b (.v (.bool false)),.b (.v (.string (ansD x)))],.c (.b (.v (.int .i64 (ansK x))))]).den (extE β 1 xs))∧newHold w' [] xs∧Below w.heap.size w w':=by
 cases h1:decide (1024<sz x.num) with
 | true =>
  have hf:¬ Fit x:=fun h=>by have:=of_decide_eq_true h1; have:=h.1; unfold sz at *; omega
  rw [show ansB x=false from if_neg hf,show ansS x=⟨#[]⟩ from if_neg hf,show ansD x=⟨#[]⟩ from if_neg hf,show ansK x=4 from if_neg hf]
  exact spec_auto (obs:=[ratM x]) (Ns:=[(5,10)]) (m:=400) (evs:=[(sRat x).e,nNum x,nBytes (n:=x.num) (Nat.le_trans hx.1 (by decide)),nDenom x,nBytes (n:=(x.den:Int)) (Nat.le_trans hx.2 (by decide)),.eqv 16 (.bool (decide ((1024:Int)<((led x.num.natAbs).length:Int)))) (.bool true) (led_gt h1)]) Tryz.func151 hmA (fun β=>by kernel_rfl) (by kernel_rfl) β w hh
 | false=>cases h2:decide (1024<sz (x.den:Int)) with
 | true =>
  have hf:¬ Fit x:=fun h=>by have:=of_decide_eq_true h2; have:=h.2; unfold sz at *; rw [Int.natAbs_natCast] at *; omega
  rw [show ansB x=false from if_neg hf,show ansS x=⟨#[]⟩ from if_neg hf,show ansD x=⟨#[]⟩ from if_neg hf,show ansK x=4 from if_neg hf]
  exact spec_auto (obs:=[ratM x]) (Ns:=[(5,10)]) (m:=400) (evs:=[(sRat x).e,nNum x,nBytes (n:=x.num) (Nat.le_trans hx.1 (by decide)),nDenom x,nBytes (n:=(x.den:Int)) (Nat.le_trans hx.2 (by decide)),.eqv 16 (.bool (decide ((1024:Int)<((led x.num.natAbs).length:Int)))) (.bool false) (led_gt h1),.eqv 20 (.bool (decide ((1024:Int)<((led (x.den:Int).natAbs).length:Int)))) (.bool true) (led_gt h2)]) Tryz.func151 hmA (fun β=>by kernel_rfl) (by kernel_rfl) β w hh
 | false =>
  have hf:Fit x:=⟨by have:=of_decide_eq_false h1; unfold sz at *; omega,by have:=of_decide_eq_false h2; unfold sz at *; rw [Int.natAbs_natCast] at *; omega⟩
  rw [show ansB x=decide (x.num<0) from if_pos hf,show ansS x=mag x.num.natAbs from if_pos hf,show ansD x=mag (x.den:Int).natAbs from if_pos hf,show ansK x=0 from if_pos hf]
  exact spec_auto (obs:=[ratM x]) (Ns:=[(5,10)]) (m:=400) (evs:=[(sRat x).e,nNum x,nBytes (n:=x.num) (Nat.le_trans hx.1 (by decide)),nDenom x,nBytes (n:=(x.den:Int)) (Nat.le_trans hx.2 (by decide)),.eqv 16 (.bool (decide ((1024:Int)<((led x.num.natAbs).length:Int)))) (.bool false) (led_gt h1),.eqv 20 (.bool (decide ((1024:Int)<((led (x.den:Int).natAbs).length:Int)))) (.bool false) (led_gt h2),nSign (x:=x) rfl,.eqv 25 (.bool (decide (x.num.sign<0))) (.bool (decide (x.num<0))) sign_lt,dStr x.num,dStr (x.den:Int)]) Tryz.func151 hmA (fun β=>by kernel_rfl) (by kernel_rfl) β w hh
noncomputable def sFrac {x:Rat} (hx:Sz KB x):Spec Tryz.prog :=
 ⟨151,Tryz.call151,[rV 0],[ratM x],(SV.tup [.a [.b (.v (.bool (ansB x))),.b (.v (.string (ansS x))),.b (.v (.bool false)),.b (.v (.string (ansD x)))],.c (.b (.v (.int .i64 (ansK x))))]),[],frac_ok hx,by kernel_rfl⟩
def AN (w:World) (g:Pl):Prop:=∀ c,g.F c→c<w.heap.size
theorem an_stable:Stable AN :=
 ⟨fun w g h=>h,fun w w' g h hb c hc=>Nat.lt_of_lt_of_le (h c hc) hb.size,fun w w' g b o m n h hs ht hne c hc=>Nat.lt_of_lt_of_le (h c hc) (ht.below (B:=0) (Nat.zero_le _) (Nat.zero_le _)).size⟩
def anyT:Thing:=⟨AN,an_stable,0,AN,an_stable,fun _ _ h=>h,true,fun _ _ _ h=>h.elim,true,fun _ _ _ h=>h.elim,false,fun h=>(Bool.noConfusion h),false,fun h=>(Bool.noConfusion h)⟩
theorem an_of {D:World→Pl→Prop} (st:Stable D) {w:World} {g:Pl} (h:D w g):AN w g:=st.lt w g h
def exFormed (b:Bool) (s:ByteArray) (r:Bool) (hr:r=true↔FormedB b s):Ev Tryz.prog:=.ret 365 Tryz.call365 #[.agg #[.bool b,.string s]] _ (fun w=>exformed_any b s r hr)
def exWhole (b:Bool) (s:ByteArray) (hs:s.size≤4294967296) (x:Int) (hx:numOf b s=x):Ev Tryz.prog:=dyn1 fun _ n=>.call 366 Tryz.call366 (fun _=>#[.agg #[.bool b,.string s]]) [] n (.one (.c (.b (.z n 0)))) [intT x] (fun β w _=>one_int (by rw [← hx]; exact exwhole_any b s hs) β n _)
theorem ratNo_ok {b c:Bool} {s t:ByteArray} (h:¬ IsFrac (rawV b c s t)) (β:Env) (w:World) (hh:∀ (k:Nat) (t:Thing),([]:List Thing)[k]?=some t→t.D w (β k)):Calls Tryz.prog 318 (([.one (.a [.b (.v (.bool b)),.b (.v (.string s)),.b (.v (.bool c)),.b (.v (.string t))])]:List SV).map (SV.den β)).toArray w fun e w'=>∃ xs:List Pl,freshS β w 0 xs∧e=.returned ((SV.one (.c (.b (.v (.pointer none))))).den (extE β ([]:List Thing).length xs))∧newHold w' [] xs∧Below w.heap.size w w':=by
 obtain ⟨r1,h1⟩:=formedB_dec b s
 obtain ⟨r2,h2⟩:=formedB_dec c t
 cases r1 with
 | false=>exact spec_ok (args:=[.one (.a [.b (.v (.bool b)),.b (.v (.string s)),.b (.v (.bool c)),.b (.v (.string t))])]) (obs:=[]) (idx:=[]) (Ns:=[]) (m:=400) (evs:=[exFormed b s false h1]) Tryz.func318 hmA (fun β=>by kernel_rfl) (by kernel_rfl) β w hh
 | true=>cases r2 with
 | false=>exact spec_ok (args:=[.one (.a [.b (.v (.bool b)),.b (.v (.string s)),.b (.v (.bool c)),.b (.v (.string t))])]) (obs:=[]) (idx:=[]) (Ns:=[]) (m:=400) (evs:=[exFormed b s true h1,exFormed c t false h2]) Tryz.func318 hmA (fun β=>by kernel_rfl) (by kernel_rfl) β w hh
 | true=>cases c with
 | true=>exact spec_ok (args:=[.one (.a [.b (.v (.bool b)),.b (.v (.string s)),.b (.v (.bool true)),.b (.v (.string t))])]) (obs:=[]) (idx:=[]) (Ns:=[]) (m:=400) (evs:=[exFormed b s true h1,exFormed true t true h2]) Tryz.func318 hmA (fun β=>by kernel_rfl) (by kernel_rfl) β w hh
 | false=>cases h4:decide (t.size=0) with
 | true=>exact spec_ok (args:=[.one (.a [.b (.v (.bool b)),.b (.v (.string s)),.b (.v (.bool false)),.b (.v (.string t))])]) (obs:=[]) (idx:=[]) (Ns:=[]) (m:=400) (evs:=[exFormed b s true h1,exFormed false t true h2,.eqv 25 (.bool (t.toList==(⟨#[]⟩:ByteArray).toList)) (.bool true) (eq_empty h4)]) Tryz.func318 hmA (fun β=>by kernel_rfl) (by kernel_rfl) β w hh
 | false=>cases h5:decide (1024<s.size) with
 | true=>exact spec_ok (args:=[.one (.a [.b (.v (.bool b)),.b (.v (.string s)),.b (.v (.bool false)),.b (.v (.string t))])]) (obs:=[]) (idx:=[]) (Ns:=[]) (m:=400) (evs:=[exFormed b s true h1,exFormed false t true h2,.eqv 25 (.bool (t.toList==(⟨#[]⟩:ByteArray).toList)) (.bool false) (eq_empty h4),.eqv 32 (.bool (decide ((1024:Int)<(s.size:Int)))) (.bool true) (len_gt h5)]) Tryz.func318 hmA (fun β=>by kernel_rfl) (by kernel_rfl) β w hh
 | false=>cases h6:decide (1024<t.size) with
 | true=>exact spec_ok (args:=[.one (.a [.b (.v (.bool b)),.b (.v (.string s)),.b (.v (.bool false)),.b (.v (.string t))])]) (obs:=[]) (idx:=[]) (Ns:=[]) (m:=400) (evs:=[exFormed b s true h1,exFormed false t true h2,.eqv 25 (.bool (t.toList==(⟨#[]⟩:ByteArray).toList)) (.bool false) (eq_empty h4),.eqv 32 (.bool (decide ((1024:Int)<(s.size:Int)))) (.bool false) (len_gt h5),.eqv 39 (.bool (decide ((1024:Int)<(t.size:Int)))) (.bool true) (len_gt h6)]) Tryz.func318 hmA (fun β=>by kernel_rfl) (by kernel_rfl) β w hh
 | false =>
  obtain ⟨n,e1⟩:∃ n,numOf b s=n:=⟨_,rfl⟩
  obtain ⟨d,e2⟩:∃ d,numOf false t=d:=⟨_,rfl⟩
  have l1:s.size≤1024:=by have:=of_decide_eq_false h5; omega
  have l2:t.size≤1024:=by have:=of_decide_eq_false h6; omega
  have l0:=of_decide_eq_false h4
  obtain ⟨f1,f2⟩:=formed_num (h1.1 rfl)
  obtain ⟨f3,f4⟩:=formed_num (h2.1 rfl)
  rw [e1] at f1 f2
  rw [e2] at f3 f4
  have z1:s.size≤4294967296:=by omega
  have z2:t.size≤4294967296:=by omega
  have h0:d≠0:=by
   rintro rfl
   have:sz 0=0:=Nat.le_zero.1 (sz_le.2 (by decide))
   unfold sz at this
   rw [f4] at this
   exact l0 this
  have k1:sz n≤KB:=by unfold sz; rw [f2]; exact Nat.le_trans l1 (by decide)
  have k2:sz d≤KB:=by unfold sz; rw [f4]; exact Nat.le_trans l2 (by decide)
  cases h7:decide ((Rat.divInt n d).num=n) with
  | false=>exact spec_ok (args:=[.one (.a [.b (.v (.bool b)),.b (.v (.string s)),.b (.v (.bool false)),.b (.v (.string t))])]) (obs:=[]) (idx:=[]) (Ns:=[]) (m:=400) (evs:=[exFormed b s true h1,exFormed false t true h2,.eqv 25 (.bool (t.toList==(⟨#[]⟩:ByteArray).toList)) (.bool false) (eq_empty h4),.eqv 32 (.bool (decide ((1024:Int)<(s.size:Int)))) (.bool false) (len_gt h5),.eqv 39 (.bool (decide ((1024:Int)<(t.size:Int)))) (.bool false) (len_gt h6),exWhole b s z1 n e1,exWhole false t z2 d e2,mkR,fSetFrac h0 k1 k2,nNum (Rat.divInt n d),nIntCmp (a:=(Rat.divInt n d).num) (b:=n) rfl,.eqv 55 (.bool (cmpI (Rat.divInt n d).num n != 0)) (.bool true) (cmp_ne h7)]) Tryz.func318 hmA (fun β=>by kernel_rfl) (by kernel_rfl) β w hh
  | true=>cases h8:decide (((Rat.divInt n d).den:Int)=d) with
  | false=>exact spec_ok (args:=[.one (.a [.b (.v (.bool b)),.b (.v (.string s)),.b (.v (.bool false)),.b (.v (.string t))])]) (obs:=[]) (idx:=[]) (Ns:=[]) (m:=400) (evs:=[exFormed b s true h1,exFormed false t true h2,.eqv 25 (.bool (t.toList==(⟨#[]⟩:ByteArray).toList)) (.bool false) (eq_empty h4),.eqv 32 (.bool (decide ((1024:Int)<(s.size:Int)))) (.bool false) (len_gt h5),.eqv 39 (.bool (decide ((1024:Int)<(t.size:Int)))) (.bool false) (len_gt h6),exWhole b s z1 n e1,exWhole false t z2 d e2,mkR,fSetFrac h0 k1 k2,nNum (Rat.divInt n d),nIntCmp (a:=(Rat.divInt n d).num) (b:=n) rfl,.eqv 55 (.bool (cmpI (Rat.divInt n d).num n != 0)) (.bool false) (cmp_ne h7),nDenom (Rat.divInt n d),nIntCmp (a:=((Rat.divInt n d).den:Int)) (b:=d) rfl,.eqv 61 (.bool (cmpI ((Rat.divInt n d).den:Int) d != 0)) (.bool true) (cmp_ne h8)]) Tryz.func318 hmA (fun β=>by kernel_rfl) (by kernel_rfl) β w hh
  | true =>
   refine absurd ?_ h
   refine isFrac_doc.2 ⟨⟨l1,l2⟩,h1.1 rfl,h2.1 rfl,?_,?_⟩
   · rw [e2,← of_decide_eq_true h8]
     exact Int.natCast_pos.2 (Rat.divInt n d).den_pos
   · rw [e1,e2]
     have:=(Rat.divInt n d).reduced
     rw [of_decide_eq_true h7] at this
     have h9:(Rat.divInt n d).den=d.natAbs:=by have:=of_decide_eq_true h8; omega
     rw [h9] at this
     exact this
def sRatNo {b c:Bool} {s t:ByteArray} (h:¬ IsFrac (rawV b c s t)):Spec Tryz.prog :=
 ⟨318,Tryz.call318,[.one (.a [.b (.v (.bool b)),.b (.v (.string s)),.b (.v (.bool c)),.b (.v (.string t))])],[],(SV.one (.c (.b (.v (.pointer none))))),[],ratNo_ok h,by kernel_rfl⟩
theorem ratIn_ok {x:Rat} (hx:Fit x) (β:Env) (w:World) (hh:∀ (k:Nat) (t:Thing),([]:List Thing)[k]?=some t→t.D w (β k)):Calls Tryz.prog 318 (([.one (.a [.b (.v (.bool (decide (x.num<0)))),.b (.v (.string (mag x.num.natAbs))),.b (.v (.bool false)),.b (.v (.string (mag x.den)))])]:List SV).map (SV.den β)).toArray w fun e w'=>∃ xs:List Pl,freshS β w 0 xs∧e=.returned ((SV.one (.c (.b (.z 0 0)))).den (extE β ([]:List Thing).length xs))∧newHold w' [ratT x] xs∧Below w.heap.size w w':=by
 obtain ⟨n,en⟩:∃ n,x.num=n:=⟨_,rfl⟩
 obtain ⟨d,ed⟩:∃ d:Int,(x.den:Int)=d:=⟨_,rfl⟩
 have hxe:x=Rat.divInt n d:=by rw [← en,← ed,Rat.num_divInt_den]
 obtain ⟨b,eb⟩:∃ b,decide (x.num<0)=b:=⟨_,rfl⟩
 obtain ⟨s,es⟩:∃ s,mag x.num.natAbs=s:=⟨_,rfl⟩
 obtain ⟨t,et⟩:∃ t,mag x.den=t:=⟨_,rfl⟩
 have e1:numOf b s=n:=by rw [← eb,← es,← en]; exact numOf_mag x.num
 have e2:numOf false t=d:=by
  have:=numOf_mag (x.den:Int)
  rw [show decide ((x.den:Int)<0)=false by simp,Int.natAbs_natCast] at this
  rw [← et,← ed]; exact this
 obtain ⟨⟨l1,l2⟩,q1,q2,q3,_⟩:=isFrac_doc.1 (fitF x hx)
 rw [eb,es] at q1
 rw [et] at q2 q3
 rw [es] at l1
 rw [et] at l2
 rw [e2] at q3
 have h1:true=true↔FormedB b s:=iff_true_of q1
 have h2:true=true↔FormedB false t:=iff_true_of q2
 have h4:decide (t.size=0)=false:=decide_eq_false fun h=>by
  obtain rfl:=empty_data h
  rw [show numOf false ⟨#[]⟩=0 from rfl] at e2
  omega
 have h5:decide (1024<s.size)=false:=decide_eq_false (by omega)
 have h6:decide (1024<t.size)=false:=decide_eq_false (by omega)
 have z1:s.size≤4294967296:=by omega
 have z2:t.size≤4294967296:=by omega
 have h0:d≠0:=by omega
 have k1:sz n≤KB:=by rw [← en]; unfold sz; rw [es]; exact Nat.le_trans l1 (by decide)
 have k2:sz d≤KB:=by rw [← ed]; unfold sz; rw [Int.natAbs_natCast,et]; exact Nat.le_trans l2 (by decide)
 have h7:decide ((Rat.divInt n d).num=n)=true:=decide_eq_true (by rw [← hxe]; exact en)
 have h8:decide (((Rat.divInt n d).den:Int)=d)=true:=decide_eq_true (by rw [← hxe]; exact ed)
 rw [eb,es,et]
 clear eb es et
 subst hxe
 exact spec_ok (args:=[.one (.a [.b (.v (.bool b)),.b (.v (.string s)),.b (.v (.bool false)),.b (.v (.string t))])]) (obs:=[]) (idx:=[4]) (Ns:=[]) (m:=400) (evs:=[exFormed b s true h1,exFormed false t true h2,.eqv 25 (.bool (t.toList==(⟨#[]⟩:ByteArray).toList)) (.bool false) (eq_empty h4),.eqv 32 (.bool (decide ((1024:Int)<(s.size:Int)))) (.bool false) (len_gt h5),.eqv 39 (.bool (decide ((1024:Int)<(t.size:Int)))) (.bool false) (len_gt h6),exWhole b s z1 n e1,exWhole false t z2 d e2,mkR,fSetFrac h0 k1 k2,nNum (Rat.divInt n d),nIntCmp (a:=(Rat.divInt n d).num) (b:=n) rfl,.eqv 55 (.bool (cmpI (Rat.divInt n d).num n != 0)) (.bool false) (cmp_ne h7),nDenom (Rat.divInt n d),nIntCmp (a:=((Rat.divInt n d).den:Int)) (b:=d) rfl,.eqv 61 (.bool (cmpI ((Rat.divInt n d).den:Int) d != 0)) (.bool false) (cmp_ne h8)]) Tryz.func318 hmA (fun β=>by kernel_rfl) (by kernel_rfl) β w hh
def sRatIn {x:Rat} (hx:Fit x):Spec Tryz.prog :=
 ⟨318,Tryz.call318,[.one (.a [.b (.v (.bool (decide (x.num<0)))),.b (.v (.string (mag x.num.natAbs))),.b (.v (.bool false)),.b (.v (.string (mag x.den)))])],[],(.one (.c (.b (.z 0 0)))),[ratT x],ratIn_ok hx,by kernel_rfl⟩
def rdNe (d t:Nat) (x:Rat) (k:Nat):Ev Tryz.prog:=.rd d (.binOp .neq 149 (.tmp t) (.const (.pointer none)) 149) (fun β=>[.pointer ((β k).v 0),.pointer none]) [(k,(ratT x).ob)] 0 (.one (.c (.b (.v (.bool true))))) [] (fun β w h ρ o ho hx=>by
 obtain ⟨a,ha,ka⟩:=needP (x:=x) (k:=k) h (by simp)
 have h2:ρ (.tmp t)=.pointer (some ⟨a,0,none⟩)∧ρ (.const (.pointer none))=.pointer none:=by
  rw [ha.1] at hx
  simpa [Op.operands] using hx
 refine ⟨[],w,(fun _ h=>by cases h),?_,trivial,Below.refl _ _⟩
 unfold execOp
 rw [ho]
 simp only [h2.1,h2.2]
 kernel_rfl)
def dNe (x:Rat):Ev Tryz.prog:=.dyn (fun o _ _=>match o.op with
 | .binOp .neq a (.tmp _) (.const (.pointer none)) _=>Nat.beq a 149
 | _=>false) fun o xs _=>match o.op with
 | .binOp _ _ (.tmp t) _ _=>lit (ptOf (xs.getD 0 undefS)) fun k=>rdNe (o.dst.getD 0) t x k
 | _=>.eqv 0 undef undef rfl
def fpC (a:Fp):List Lf:=lsX a.C
def ofT:Fp→Fp→List Thing
 | .ok x _,.ok y _=>[ratT x,ratT y]
 | _,_=>[anyT,anyT]
theorem sOf_ok (a b:Fp) (β:Env) (w:World) (hh:∀ (k:Nat) (t:Thing),([]:List Thing)[k]?=some t→t.D w (β k)) :
  Calls Tryz.prog 239 (([.one (.a (fpC a++fpC b))]:List SV).map (SV.den β)).toArray w fun e w'=>∃ xs:List Pl,freshS β w 0 xs∧e=.returned ((SV.tup [nA 0,.c (.b (.v (.bool (a.B&&b.B))))]).den (extE β 0 xs))∧newHold w' (ofT a b) xs∧Below w.heap.size w w':=by
 cases a with
 | ok x hx=>cases b with
  | ok y hy=>exact spec_auto (obs:=[]) (evs:=[(sRatIn hx).e,(sRatIn hy).e,dNe x,dNe y]) (Ns:=[]) (m:=400) Tryz.func239 hmA (fun β=>by kernel_rfl) (by kernel_rfl) β w hh
  | no b' c s t h hs ht =>
   refine (spec_auto (args:=[.one (.a (fpC (.ok x hx)++fpC (.no b' c s t h hs ht)))]) (obs:=[]) (res:=SV.tup [.a [.b (.z 0 0),.b (.v (.pointer none))],.c (.b (.v (.bool false)))]) (news:=[ratT x]) (evs:=[(sRatIn hx).e,(sRatNo h).e,dNe x]) (Ns:=[]) (m:=400) Tryz.func239 hmA (fun β=>by kernel_rfl) (by kernel_rfl) β w hh).mono fun e w' ⟨xs,h1,he,h2,h3⟩=>?_
   match xs,h1,he,h2 with
   | [p],h1,he,h2=>exact ⟨[p,nilPl],fun x hx c hc=>by
     rcases List.mem_cons.1 hx with rfl | hx
     · exact h1 _ (by simp) c hc
     · obtain rfl:=List.mem_singleton.1 hx
       exact hc.elim,he,⟨an_of (pr_stable x) h2.1,fun _ h=>h.elim,trivial⟩,h3⟩
 | no b' c s t h hs ht=>cases b with
  | ok y hy =>
   refine (spec_auto (args:=[.one (.a (fpC (.no b' c s t h hs ht)++fpC (.ok y hy)))]) (obs:=[]) (res:=SV.tup [.a [.b (.v (.pointer none)),.b (.z 0 0)],.c (.b (.v (.bool false)))]) (news:=[ratT y]) (evs:=[(sRatNo h).e,(sRatIn hy).e]) (Ns:=[]) (m:=400) Tryz.func239 hmA (fun β=>by kernel_rfl) (by kernel_rfl) β w hh).mono fun e w' ⟨xs,h1,he,h2,h3⟩=>?_
   match xs,h1,he,h2 with
   | [p],h1,he,h2=>exact ⟨[nilPl,p],fun x hx c hc=>by
     rcases List.mem_cons.1 hx with rfl | hx
     · exact hc.elim
     · obtain rfl:=List.mem_singleton.1 hx
       exact h1 _ (by simp) c hc,he,⟨fun _ h=>h.elim,an_of (pr_stable y) h2.1,trivial⟩,h3⟩
  | no b'' c' s' t' h' hs' ht' =>
   refine (spec_auto (args:=[.one (.a (fpC (.no b' c s t h hs ht)++fpC (.no b'' c' s' t' h' hs' ht')))]) (obs:=[]) (res:=SV.tup [.a [.b (.v (.pointer none)),.b (.v (.pointer none))],.c (.b (.v (.bool false)))]) (news:=[]) (evs:=[(sRatNo h).e,(sRatNo h').e]) (Ns:=[]) (m:=400) Tryz.func239 hmA (fun β=>by kernel_rfl) (by kernel_rfl) β w hh).mono fun e w' ⟨xs,h1,he,h2,h3⟩=>?_
   match xs,h1,he,h2 with
   | [],h1,he,h2=>exact ⟨[nilPl,nilPl],fun x hx c hc=>by
     rcases List.mem_cons.1 hx with rfl | hx
     · exact hc.elim
     · obtain rfl:=List.mem_singleton.1 hx
       exact hc.elim,he,⟨fun _ h=>h.elim,fun _ h=>h.elim,trivial⟩,h3⟩
def sOf (a b:Fp):Spec Tryz.prog :=
 ⟨239,Tryz.call239,[.one (.a (fpC a++fpC b))],[],.tup [nA 0,.c (.b (.v (.bool (a.B&&b.B))))],ofT a b,sOf_ok a b,by cases a<;>cases b<;>kernel_rfl⟩
def sInt (n m:Int) (hn : -9223372036854775808≤n∧n≤9223372036854775807) (hm : -9223372036854775808≤m∧m≤9223372036854775807):Spec Tryz.prog :=
 Spec.auto Tryz.call189 [.one (.c (.b (.v (.int .i64 n)))),.one (.c (.b (.v (.int .i64 m))))] [] (nV 0) (gT (gint n m))
  [nNew n 1 hn (by decide) (by decide),nNew m 1 hm (by decide) (by decide)] [] 400 Tryz.func189 hmA (by kernel_rfl) (fun β=>by kernel_rfl)
theorem told_ok {z:GQ} (hz:GSz KB z) (β:Env) (w:World) (hh:∀ (k:Nat) (t:Thing),(gM z)[k]?=some t→t.D w (β k)) :
  Calls Tryz.prog 212 (([nV 0]:List SV).map (SV.den β)).toArray w fun e w'=>∃ xs:List Pl,freshS β w 2 xs∧e=.returned ((SV.tup [.a (lsX (gaC z)),.c (.b (.v (.int .i64 (gaK z))))]).den (extE β 2 xs))∧newHold w' [] xs∧Below w.heap.size w w':=by
 by_cases h1:Fit z.re
 · by_cases h2:Fit z.im
   · rw [(ga_fit ⟨h1,h2⟩).1,(ga_fit ⟨h1,h2⟩).2]
     have e1:(ansK z.re != 0)=false:=by rw [(ansF_fit h1).2.2.2]; rfl
     have e2:(ansK z.im != 0)=false:=by rw [(ansF_fit h2).2.2.2]; rfl
     unfold gC
     rw [← (ansF_fit h1).1,← (ansF_fit h1).2.1,← (ansF_fit h1).2.2.1,← (ansF_fit h2).1,← (ansF_fit h2).2.1,← (ansF_fit h2).2.2.1]
     exact spec_auto (obs:=gM z) (evs:=[(sFrac hz.1).e,(sFrac hz.2).e,.eqv 21 (.bool (ansK z.re != 0)) (.bool false) (ansK_ne e1),.eqv 24 (.bool (ansK z.im != 0)) (.bool false) (ansK_ne e2)]) (Ns:=[]) (m:=400) Tryz.func212 hmA (fun β=>by kernel_rfl) (by kernel_rfl) β w hh
   · have hn:¬ FitG z:=fun h=>h2 h.2
     rw [(ga_not hn).1,(ga_not hn).2]
     have e1:(ansK z.re != 0)=false:=by rw [(ansF_fit h1).2.2.2]; rfl
     have e2:(ansK z.im != 0)=true:=by rw [show ansK z.im=4 from if_neg h2]; rfl
     exact spec_auto (obs:=gM z) (evs:=[(sFrac hz.1).e,(sFrac hz.2).e,.eqv 21 (.bool (ansK z.re != 0)) (.bool false) (ansK_ne e1),.eqv 24 (.bool (ansK z.im != 0)) (.bool true) (ansK_ne e2)]) (Ns:=[]) (m:=400) Tryz.func212 hmA (fun β=>by kernel_rfl) (by kernel_rfl) β w hh
 · have hn:¬ FitG z:=fun h=>h1 h.1
   rw [(ga_not hn).1,(ga_not hn).2]
   have e1:(ansK z.re != 0)=true:=by rw [show ansK z.re=4 from if_neg h1]; rfl
   exact spec_auto (obs:=gM z) (evs:=[(sFrac hz.1).e,(sFrac hz.2).e,.eqv 21 (.bool (ansK z.re != 0)) (.bool true) (ansK_ne e1)]) (Ns:=[]) (m:=400) Tryz.func212 hmA (fun β=>by kernel_rfl) (by kernel_rfl) β w hh
noncomputable def sTold {z:GQ} (hz:GSz KB z):Spec Tryz.prog :=
 ⟨212,Tryz.call212,[nV 0],gM z,.tup [.a (lsX (gaC z)),.c (.b (.v (.int .i64 (gaK z))))],[],told_ok hz,by kernel_rfl⟩
end Go.Proofs.YtdiemgedlfnlmaaGreat.Y
end
