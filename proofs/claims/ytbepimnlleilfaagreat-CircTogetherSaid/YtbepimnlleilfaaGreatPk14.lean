/- TgL, Open, OpnB, OpnL, OpnS. -/
import Derived.ProofKit
import Derived.OpenShut
import Derived.ShutString
import Derived.ChangeOld
import Derived.Below
import Derived.Deep.Slices
import Derived.Test.YtbepimnlleilfaaGreatPk13
set_option linter.unnecessarySimpa false
set_option linter.unusedVariables false
set_option linter.unusedSimpArgs false
section
namespace Go.Proofs.YtbepimnlleilfaaGreat.Y
open Go Go.RowKit
set_option maxRecDepth 100000
noncomputable abbrev toF:Func:=Tryz.f9
abbrev toAr (n:Nat):List SV:=[lpS0 n]
abbrev toNs:List (Nat × Nat):=[(8,9)]
section
variable {n:Nat} {P:Nat→Pp}
noncomputable def toOffP (h3:TlOff n P true):Spec Tryz.prog :=
 Spec.auto Tryz.call9 (toAr n) [lpT n P] (tB' true) [] [(sTlOff h3).e,sWorks11.e] [] 800 Tryz.func9 hmA (by kernel_rfl) (fun β=>by kernel_rfl)
noncomputable def toLenP (h3:TlOff n P false) (h4:20<n):Spec Tryz.prog :=
 Spec.auto Tryz.call9 (toAr n) [lpT n P] (tB' true) [] [(sTlOff h3).e,.eqv 16 (.bool (decide ((20:Int)<(n:Int)))) (.bool true) (by rw [decide_eq_true (by omega)]),sWorks11.e] [] 800 Tryz.func9 hmA (by kernel_rfl) (fun β=>by kernel_rfl)
end
section
variable (n:Nat) (P:Nat→Pp) (a b b' c:R4) (ok:Bool) (k:Int)
noncomputable abbrev toN (n:Nat):Nat:=sizeS toF (toAr n)
abbrev toSl (j:Nat):List (Nat × SV):=[(0,lpS0 n),(3,.one (.c (.b (.y 2 0 n)))),(4,.one (.c (.b (.p 3 0)))),(5,tB' ok),(6,.one (nI' k)),(7,.one (nI' (j:Int)))]
noncomputable abbrev toO:List Ob:=[(lpT n P).ob,.dead,(orT 9 PTT (n+1) (lsP P)).ob,.box (tg4 a b b' c) TCi]
noncomputable abbrev toC (j:Nat) (ev:List (Ev Tryz.prog)):Cf Tryz.prog:=mkC Tryz.prog (toN n) 1 (toSl n ok k j) (toO n P a b b' c) ev
noncomputable abbrev toH (β0:Env) (w:World) (c:Cf Tryz.prog):Prop:=HdOk Tryz.prog 1 (toN n) w.heap.size w β0 (bodyPost Tryz.prog toF (Said Tryz.prog toF 1 (tB' true) [] β0 w)) c (lpAt toF 0)
variable (β0:Env) (w:World) {j:Nat}
noncomputable def toE (hj:j<n) {t:Bool} (h:(P j).B=t):List (Ev Tryz.prog):=[.eqv 38 (.bool (decide ((j:Int)<(n:Int)))) (.bool true) (by rw [decide_eq_true (by omega)]),pIx0 (n:=n) (N:=n+1) P hj (Nat.le_succ n),pLd (N:=n+1) P (Nat.lt_succ_of_lt hj),pIx0 P hj (Nat.le_refl n),pLd P hj,tlEq (P j).w,pIx0 P hj (Nat.le_refl n),pLd P hj,(sTlMay (P j) h).e]
theorem to_step (hj:j<n) (h:(P j).B=true) {j2:Int} (hj2:IntKind.i64.wrap ((j:Int)+1)=j2) (e2:j2=((j+1:Nat):Int)) (kk:toH n β0 w (toC n P a b b' c ok k (j+1) [])) :
  toH n β0 w (toC n P a b b' c ok k j (toE n P hj h++[.eqv 40 (.int .i64 (IntKind.i64.wrap ((j:Int)+1))) (.int .i64 ((j+1:Nat):Int)) (by rw [hj2,e2]),.cut])) :=
 piece_ok (Ns:=toNs) (m:=800) [] [0,0,2,3] hmA (by kernel_rfl) (fun β=>ok_of_maps (by kernel_rfl)) kk
theorem to_bad (hj:j<n) (h:(P j).B=false):toH n β0 w (toC n P r40 r40 r40 r40 false 2 j (toE n P hj h++[eqC1 r40 r40 r40 r40,(sNum11 2).e,sWorks11.e])) :=
 last_ok (Ns:=toNs) (m:=800) hmA (fun β=>ok_of_maps (by kernel_rfl))
theorem to_end (hr:RtIs n n P a b b' c ok k):toH n β0 w (toC n P a b b' c ok k n [.eqv 38 (.bool (decide ((n:Int)<(n:Int)))) (.bool false) (by rw [decide_eq_false (by omega)]),(tgrS hr).e,eqC1 a b b' c,.eqv 83 (.bool (ok==ok)) (.bool true) (by simp),(sNum11 k).e,.eqv 89 (.bool (k==k)) (.bool true) (ieq_self _),sWorks11.e]) :=
 last_ok (Ns:=toNs) (m:=800) hmA (fun β=>ok_of_maps (by kernel_rfl))
theorem to_st (hn:n≤20) (h0:0<n) (ho:TlOff n P false) (hP:P n=tl77) (ht:TgIs n (n+1) P a b b' c ok k) (hh:(lpT n P).D w (β0 0)) (kk:toH n β0 w (toC n P a b b' c ok k 0 [])) :
  Calls Tryz.prog 9 ((toAr n).map (SV.den β0)).toArray w (Said Tryz.prog toF 1 (tB' true) [] β0 w) :=
 sx_cut (P:=Tryz.prog) (toAr n) [(lpT n P).ob] [(sTlOff ho).e,.eqv 16 (.bool (decide ((20:Int)<(n:Int)))) (.bool false) (by rw [decide_eq_false (by omega)]),.app lpApp,
   eApL lpApp .row (n0:=0) (m:=n) (N:=n) (L:=lsP P) (L':=lsP P) rfl (Nat.zero_add n) (lpOrL P (by omega)) h0 (Nat.le_refl n) (fun i hi=>by rw [Nat.zero_add]),(sR4Int 7 7).e,eAp1 lpApp .own (n0:=n) (L:=lsP P) (cs:=lsX tl77.w.C) trivial (lpOrL P (by omega)) (tl_hL hP) (fun β=>rfl),eSl tps_u tps_s (Nat.le_succ n) PTT (lsP P),eFrz,(tgS ht).e,.cut] [] toNs 800 (tB' true) [] Tryz.func9 hmA (u:=1) (sl:=toSl n ok k 0) (ob:=toO n P a b b' c) (σ:=[0,0,4,5]) (p':=lpAt toF 0) (by kernel_rfl) (fun β=>ok_of_maps (by kernel_rfl)) (by kernel_rfl) (by kernel_rfl) β0 w (fun i o ho=>by
   cases i with
   | zero=>simp only [List.getElem?_cons_zero] at ho; obtain rfl:=Option.some.inj ho; exact hh
   | succ i=>simp at ho) kk
theorem to_st0 (ho:TlOff 0 P false) (hP:P 0=tl77) (ht:TgIs 0 1 P a b b' c ok k) (hh:(lpT 0 P).D w (β0 0)) (kk:toH 0 β0 w (toC 0 P a b b' c ok k 0 [])) :
  Calls Tryz.prog 9 ((toAr 0).map (SV.den β0)).toArray w (Said Tryz.prog toF 1 (tB' true) [] β0 w) :=
 sx_cut (P:=Tryz.prog) (toAr 0) [(lpT 0 P).ob] [(sTlOff ho).e,.eqv 16 (.bool (decide ((20:Int)<((0:Nat):Int)))) (.bool false) (by rw [decide_eq_false (by decide)]),.app lpApp,
   eAp0 lpApp .row rfl (N:=0) (L':=lsP P),(sR4Int 7 7).e,eAp1 lpApp .row (n0:=0) (L:=lsP P) (cs:=lsX tl77.w.C) rfl (lpOrL P (by decide)) (tl_hL hP) (fun β=>rfl),eSl tps_u tps_s (Nat.le_succ 0) PTT (lsP P),eFrz,(tgS ht).e,.cut] [] toNs 800 (tB' true) [] Tryz.func9 hmA (u:=1) (sl:=toSl 0 ok k 0) (ob:=toO 0 P a b b' c) (σ:=[0,0,3,4]) (p':=lpAt toF 0) (by kernel_rfl) (fun β=>ok_of_maps (by kernel_rfl)) (by kernel_rfl) (by kernel_rfl) β0 w (fun i o ho=>by
   cases i with
   | zero=>simp only [List.getElem?_cons_zero] at ho; obtain rfl:=Option.some.inj ho; exact hh
   | succ i=>simp at ho) kk
end
theorem to_w {j n:Nat} (hj:j≤n) (hn:n≤20):IntKind.i64.wrap ((j:Int)+1)=((j+1:Nat):Int):=by rw [IntKind.wrap_i64]; omega
section
variable (n:Nat) (P:Nat→Pp) (a b b' c:R4) (ok:Bool) (k:Int) (β0:Env) (w:World) (hn:n≤20)
include hn in
theorem to_run {t:Nat} (ht:t≤n) (hB:∀ i,i<t→(P i).B=true) (kk:toH n β0 w (toC n P a b b' c ok k t [])):∀ d j,j+d=t→toH n β0 w (toC n P a b b' c ok k j [])
 | 0,j,e=>by
  obtain rfl:j=t:=by omega
  exact kk
 | d+1,j,e=>cx_hd (to_step n P a b b' c ok k β0 w (by omega) (hB j (by omega)) (to_w (n:=n) (by omega) hn) rfl (to_run ht hB kk d (j+1) (by omega)))
end
theorem to_walk (n:Nat) (hn63:n≤maxLen) (P:Nat→Pp) (hP:P n=tl77) (β0:Env) (w:World) (hh:(lpT n P).D w (β0 0)) :
  Calls Tryz.prog 9 ((toAr n).map (SV.den β0)).toArray w fun e w'=>e=.returned (.bool true)∧Below w.heap.size w w':=by
 have fin2:∀ (S:Spec Tryz.prog),S.f=9→S.args=toAr n→S.obs=[lpT n P]→S.res=tB' true→Calls Tryz.prog 9 ((toAr n).map (SV.den β0)).toArray w fun e w'=>e=.returned (.bool true)∧Below w.heap.size w w':=fun S h1 h2 h3 h4=>by
  have:=S.ok β0 w (fun k t ht=>by
   rw [h3] at ht
   match k,ht with
   | 0,ht=>obtain rfl:=Option.some.inj ht; exact hh
   | k+1,ht=>cases ht)
  rw [h1,h2] at this
  refine this.mono fun e w' ⟨xs,_,he,_,hb⟩=>⟨?_,hb⟩
  rw [he,h4]
  rfl
 have fin:∀ {e w'},Said Tryz.prog toF 1 (tB' true) [] β0 w e w'→e=.returned (.bool true)∧Below w.heap.size w w':=fun {e w'} h=>by
  obtain ⟨β',q,obj,_,rfl,_,_,_,g⟩:=h
  exact ⟨rfl,g.bel⟩
 obtain ⟨r3,ho⟩:=toff_all P hn63
 cases r3 with
 | true=>exact fin2 (toOffP ho) rfl rfl rfl rfl
 | false =>
 by_cases hn:n≤20
 · clear fin2
   have hNN:n≤n+1:=Nat.le_succ n
   have h4:n≤4096:=by omega
   have go:∀ {a b b' c:R4} {ok:Bool} {k:Int},TgIs n (n+1) P a b b' c ok k→toH n β0 w (toC n P a b b' c ok k 0 [])→Calls Tryz.prog 9 ((toAr n).map (SV.den β0)).toArray w fun e w'=>e=.returned (.bool true)∧Below w.heap.size w w':=fun {a b b' c ok k} ht kk=>by
    rcases Nat.eq_zero_or_pos n with rfl | hp
    · exact (to_st0 P a b b' c ok k β0 w ho hP ht hh kk).mono fun e w' h=>fin h
    · exact (to_st n P a b b' c ok k β0 w hn hp ho hP ht hh kk).mono fun e w' h=>fin h
   by_cases hB:∃ i,i<n∧(!(P i).B)=true
   · obtain ⟨i,i1,i2,i3⟩:=tl_first hB
     have i2:(P i).B=false:=by rw [Bool.not_eq_true'] at i2; exact i2
     have i3:∀ k,k<i→(P k).B=true:=fun k hk=>by have:=i3 k hk; rw [Bool.not_eq_false'] at this; exact this
     exact go ((sTgNo P hNN h4 i1 i2 i3).tg rfl rfl rfl rfl rfl) (to_run n P r40 r40 r40 r40 false 2 β0 w hn (Nat.le_of_lt i1) i3 (cx_hd (to_bad n P β0 w i1 i2)) i 0 (by omega))
   · have hA:∀ i,i<n→(P i).B=true:=fun i hi=>by
      cases hb:(P i).B with
      | true=>rfl
      | false=>exact absurd ⟨i,hi,by rw [hb]; rfl⟩ hB
     obtain ⟨a,b,b',c,ok,k,ht⟩:=tg_told (spQ P) n
     exact go (tg_is hNN h4 hA ht) (to_run n P a b b' c ok k β0 w hn (Nat.le_refl n) hA (cx_hd (to_end n P a b b' c ok k β0 w (tgr_is (Nat.le_refl n) h4 hA ht))) n 0 (by omega))
 · exact fin2 (toLenP ho (by omega)) rfl rfl rfl rfl
theorem RwD.congr {sz n:Nat} {L L':Nat→List Lf} {w:World} {g:Pl} (h:RwD sz n L w g) (e:∀ j,j<n→L j=L' j):RwD sz n L' w g:=by
 rcases h with h | ⟨h0,b,o,cs,t,fr,h1,h2,h3,h4⟩
 · exact .inl h
 · exact .inr ⟨h0,b,o,cs,t,fr,h1,h2,h3,fun j hj=>by rw [← e j hj]; exact h4 j hj⟩
end Go.Proofs.YtbepimnlleilfaaGreat.Y
namespace Go.Proofs.YtbepimnlleilfaaGreat
open Go.Proofs.YtbepimnlleilfaaGreat.Y Go Go.RowKit
theorem CircTogether_walk (g:Y.Pl) (n:Nat) (Q:Nat→Pp) (W:World) (hn:n≤maxLen) (hr:Y.RwD 9 n (fun j=>Y.lsX (Q j).w.C) W g) :
  Calls Tryz.prog 9 #[.slice (g.v 0) n (g.c 0)] W fun e W'=>e=.returned (.bool true)∧Below W.heap.size W W':=by
 have h:=Y.to_walk n hn (fun j=>if j<n then Q j else Y.tl77) (if_neg (Nat.lt_irrefl n)) (fun _=>g) W (hr.congr fun j hj=>by
  show _=Y.lsX (if j<n then Q j else Y.tl77).w.C
  rw [if_pos hj])
 exact h
end Go.Proofs.YtbepimnlleilfaaGreat
end
section
namespace Go.Proofs.YtbepimnlleilfaaGreat
open Go.ChangeShapes Go.WideShapes Go.ChangeAt Go.RowKit
theorem cellsOf_bool:Tryz.prog.cellsOf 4=1:=by kernel_rfl
theorem cellsOf_string:Tryz.prog.cellsOf 9=1:=by kernel_rfl
theorem cellsOf_whole:Tryz.prog.cellsOf 23=2:=by kernel_rfl
theorem cellsOf_frac:Tryz.prog.cellsOf 25=4:=by kernel_rfl
section
variable {H:Type} {enc:TypeId × Value→H} {w:World} {base:Nat} {spare:Nat→Bool} {held:Bool}
set_option maxRecDepth 100000 in
theorem trod_whole {fuel:Nat} {cs:List Value} {x:DataW H × List MemPlace} (h:DataW.trod enc Tryz.prog w base spare held fuel 23 cs=some x) :
  ∃ (b:Bool) (s:ByteArray),cs=[.bool b,.string s]∧s.size≤maxLen:=by
 obtain ⟨xs,n,rfl,_,hlen,hxl,hf⟩:=DataW.trod_struct Tryz.underlying23 h
 rw [cellsOf_whole] at hlen
 have hx0:xs[0]?=some (xs[0]'(by rw [hxl]; decide)):=List.getElem?_eq_getElem _
 have hx1:xs[1]?=some (xs[1]'(by rw [hxl]; decide)):=List.getElem?_eq_getElem _
 have h0:DataW.trod enc Tryz.prog w base spare held n 4 ((cs.drop 0).take (Tryz.prog.cellsOf 4))=some _:=(hf 0 _ rfl).trans hx0
 have h1:DataW.trod enc Tryz.prog w base spare held n 9 ((cs.drop 1).take (Tryz.prog.cellsOf 9))=some _:=(hf 1 _ rfl).trans hx1
 rw [cellsOf_bool] at h0
 rw [cellsOf_string] at h1
 match cs,hlen with
 | [a,b],_ =>
  obtain ⟨p,e0,_⟩:=DataW.trod_bool Tryz.underlying4 h0
  obtain ⟨s,e1,_,hs⟩:=DataW.trod_string Tryz.underlying9 h1
  cases e0
  cases e1
  exact ⟨p,s,rfl,hs⟩
set_option maxRecDepth 100000 in
theorem trod_frac {fuel:Nat} {cs:List Value} {x:DataW H × List MemPlace} (h:DataW.trod enc Tryz.prog w base spare held fuel 25 cs=some x) :
  ∃ (b c:Bool) (s t:ByteArray),cs=[.bool b,.string s,.bool c,.string t]∧s.size≤maxLen∧t.size≤maxLen:=by
 obtain ⟨xs,n,rfl,_,hlen,hxl,hf⟩:=DataW.trod_struct Tryz.underlying25 h
 rw [cellsOf_frac] at hlen
 have hx0:xs[0]?=some (xs[0]'(by rw [hxl]; decide)):=List.getElem?_eq_getElem _
 have hx1:xs[1]?=some (xs[1]'(by rw [hxl]; decide)):=List.getElem?_eq_getElem _
 have h0:DataW.trod enc Tryz.prog w base spare held n 23 ((cs.drop 0).take (Tryz.prog.cellsOf 23))=some _:=(hf 0 _ rfl).trans hx0
 have h1:DataW.trod enc Tryz.prog w base spare held n 23 ((cs.drop 2).take (Tryz.prog.cellsOf 23))=some _:=(hf 1 _ rfl).trans hx1
 rw [cellsOf_whole] at h0 h1
 match cs,hlen with
 | [a,b,c,d],_ =>
  obtain ⟨p,s,e0,hs⟩:=trod_whole h0
  obtain ⟨q,t,e1,ht⟩:=trod_whole h1
  cases e0
  cases e1
  exact ⟨p,q,s,t,rfl,hs,ht⟩
end
end Go.Proofs.YtbepimnlleilfaaGreat
end
section
namespace Go.Proofs.YtbepimnlleilfaaGreat
open Go Go.ChangeShapes Go.WideShapes Go.ChangeAt Go.RowKit
theorem cellsOf_gauss:Tryz.prog.cellsOf 46=8:=by kernel_rfl
theorem cellsOf_point:Tryz.prog.cellsOf 61=9:=by kernel_rfl
theorem chunk {α:Type} (cs:List α) (a b:Nat):cs.drop a=(cs.drop a).take b++cs.drop (a+b):=by
 rw [← List.drop_drop,List.take_append_drop]
def R4.ok (x:R4):Prop:=x.s.size≤maxLen∧x.t.size≤maxLen
section
variable {H:Type} {enc:TypeId × Value→H} {w:World} {base:Nat} {spare:Nat→Bool} {held:Bool}
theorem trod_r4 {fuel:Nat} {cs:List Value} {x:DataW H × List MemPlace} (h:DataW.trod enc Tryz.prog w base spare held fuel 25 cs=some x):∃ r:R4,cs=r.V∧r.ok:=by
 obtain ⟨b,c,s,t,e,h1,h2⟩:=trod_frac h
 exact ⟨⟨b,s,c,t⟩,e,h1,h2⟩
set_option maxRecDepth 100000 in
theorem trod_gauss {fuel:Nat} {cs:List Value} {x:DataW H × List MemPlace} (h:DataW.trod enc Tryz.prog w base spare held fuel 46 cs=some x):∃ r s:R4,cs=r.V++s.V∧r.ok∧s.ok:=by
 obtain ⟨xs,n,rfl,_,hlen,hxl,hf⟩:=DataW.trod_struct Tryz.underlying46 h
 rw [cellsOf_gauss] at hlen
 have hx0:xs[0]?=some (xs[0]'(by rw [hxl]; decide)):=List.getElem?_eq_getElem _
 have hx1:xs[1]?=some (xs[1]'(by rw [hxl]; decide)):=List.getElem?_eq_getElem _
 have h0:DataW.trod enc Tryz.prog w base spare held n 25 ((cs.drop 0).take (Tryz.prog.cellsOf 25))=some _:=(hf 0 _ rfl).trans hx0
 have h1:DataW.trod enc Tryz.prog w base spare held n 25 ((cs.drop 4).take (Tryz.prog.cellsOf 25))=some _:=(hf 1 _ rfl).trans hx1
 rw [cellsOf_frac] at h0 h1
 obtain ⟨r,e0,k0⟩:=trod_r4 h0
 obtain ⟨s,e1,k1⟩:=trod_r4 h1
 refine ⟨r,s,?_,k0,k1⟩
 have:=chunk cs 0 4
 rw [e0,List.drop_zero] at this
 rw [this,chunk cs (0+4) 4,e1,List.drop_of_length_le (by omega),List.append_nil]
set_option maxRecDepth 100000 in
theorem trod_point {fuel:Nat} {cs:List Value} {x:DataW H × List MemPlace} (h:DataW.trod enc Tryz.prog w base spare held fuel 61 cs=some x):∃ (i:Bool) (r s:R4),cs=.bool i::(r.V++s.V)∧r.ok∧s.ok:=by
 obtain ⟨xs,n,rfl,_,hlen,hxl,hf⟩:=DataW.trod_struct Tryz.underlying61 h
 rw [cellsOf_point] at hlen
 have hx0:xs[0]?=some (xs[0]'(by rw [hxl]; decide)):=List.getElem?_eq_getElem _
 have hx1:xs[1]?=some (xs[1]'(by rw [hxl]; decide)):=List.getElem?_eq_getElem _
 have h0:DataW.trod enc Tryz.prog w base spare held n 4 ((cs.drop 0).take (Tryz.prog.cellsOf 4))=some _:=(hf 0 _ rfl).trans hx0
 have h1:DataW.trod enc Tryz.prog w base spare held n 46 ((cs.drop 1).take (Tryz.prog.cellsOf 46))=some _:=(hf 1 _ rfl).trans hx1
 rw [cellsOf_bool] at h0
 rw [cellsOf_gauss] at h1
 obtain ⟨r,s,e1,k1⟩:=trod_gauss h1
 have e3:cs.drop 1=r.V++s.V:=by
  have:=chunk cs 1 8
  rw [e1] at this
  rw [this,List.drop_of_length_le (show cs.length≤1+8 by omega),List.append_nil]
 have e2:cs=cs.take 1++(r.V++s.V):=by rw [← e3,List.take_append_drop]
 match hc:(cs.take 1),(show (cs.take 1).length=1 by rw [List.length_take]; omega) with
 | [a],_ =>
  rw [List.drop_zero,hc] at h0
  obtain ⟨i,e0,_⟩:=DataW.trod_bool Tryz.underlying4 h0
  refine ⟨i,r,s,?_,k1⟩
  rw [hc] at e2
  rw [e2]
  cases e0
  rfl
end
end Go.Proofs.YtbepimnlleilfaaGreat
end
section
namespace Go.Proofs.YtbepimnlleilfaaGreat
open Go.ChangeShapes Go.WideShapes Go.ChangeAt Go.RowKit
set_option maxRecDepth 100000
section
variable {H:Type} {enc:TypeId × Value→H} {w:World} {base:Nat} {spare:Nat→Bool} {held:Bool}
theorem cell_cells {a:Addr} {v:Value} (h:w.cell? a=some v):a.spot=none∧∃ cs t fr,w.heap[a.block]?=some (.cells cs t fr):=by
 unfold World.cell? at h
 split at h
 · rename_i c t fr hb
   split at h
   · cases h
   · rename_i hs
     exact ⟨by simpa using hs,c,t,fr,hb⟩
 · cases h
theorem open_rows {α:Type} {T e:TypeId} (hT:Tryz.prog.underlying T=some (.slice e)) {sz:Nat} (hc:Tryz.prog.cellsOf e=sz) (h2:0<sz) (Lq:α→List Y.Lf) (q0:α)
  (hel:∀ fuel cs x,DataW.trod enc Tryz.prog w base spare held fuel e cs=some x→∃ q,cs=(Lq q).map (Y.Lf.den Y.idE))
  {r:Reach} {b0:Nat} {v:Value} {d:DataW H} {p:List MemPlace} (hv:Value.okWide Tryz.prog w r b0 T v) (h:DataW.Trod enc Tryz.prog w base spare held T v d p) :
  ∃ (g:Y.Pl) (n:Nat) (Q:Nat→α),v=.slice (g.v 0) n (g.c 0)∧n≤maxLen∧Y.RwD sz n (fun j=>Lq (Q j)) w g:=by
 obtain ⟨a,len,cap,rfl⟩:=okWide_slice hT hv
 obtain ⟨fuel,hf⟩:=h
 have hf:DataW.trod enc Tryz.prog w base spare held fuel T [.slice a len cap]=some (d,p):=hf
 rcases Go.Deep.open_slice hT hf with ⟨e1,_⟩ | ⟨a',len',cap',m,n,D,Pl,e1,hb,hl,hm,hmm,_,hx⟩
 · simp only [List.cons.injEq,and_true,Value.slice.injEq] at e1
   obtain ⟨rfl,rfl,rfl⟩:=e1
   exact ⟨Y.nilPl,0,fun _=>q0,rfl,Nat.zero_le _,.inl ⟨rfl,fun c hc=>hc⟩⟩
 · simp only [List.cons.injEq,and_true,Value.slice.injEq] at e1
   obtain ⟨rfl,rfl,rfl⟩:=e1
   have hlm:len≤m:=by rw [hmm]; split<;>omega
   by_cases h0:len=0
   · subst h0
     exact ⟨⟨0,fun _=>some a',fun _=>cap,fun _=>False,fun _=>undef⟩,0,fun _=>q0,rfl,Nat.zero_le _,.inl ⟨rfl,fun c hc=>hc⟩⟩
   rw [hc] at hx
   have each:∀ i,i<len→∃ q,∀ j,j<sz→w.cell? (a'.add (i*sz+j))=((Lq q).map (Y.Lf.den Y.idE))[j]?∧((Lq q).map (Y.Lf.den Y.idE)).length=sz:=fun i hi=>by
    obtain ⟨cs',k1,k2⟩:=hx i (by omega)
    obtain ⟨q,hq⟩:=hel _ _ _ k2
    obtain ⟨_,k4,k5⟩:=World.cells?_some k1
    exact ⟨q,fun j hj=>⟨by rw [← Go.Deep.add_add,k5 j hj,hq],by rw [← hq]; exact k4⟩⟩
   haveI:Inhabited α:=⟨q0⟩
   obtain ⟨Q,hQ⟩:=Go.Deep.choose_lt each
   have hfst:∃ u,w.cell? a'=some u:=by
    have k:=hQ 0 (by omega) 0 h2
    have:(a'.add (0*sz+0))=a':=by simp [Addr.add]
    rw [this] at k
    rw [k.1]
    exact ⟨_,List.getElem?_eq_getElem (by rw [k.2]; exact h2)⟩
   obtain ⟨u,hu⟩:=hfst
   obtain ⟨hs,cs,t,fr,hcs⟩:=cell_cells hu
   obtain ⟨b,o,s⟩:=a'
   obtain rfl:s=none:=hs
   refine ⟨⟨b,fun m=>some ⟨b,o+m,none⟩,fun _=>cap,fun c=>c=b,fun _=>undef⟩,len,Q,rfl,by omega,.inr ⟨by omega,b,o,cs,t,fr,fun m=>rfl,fun c=>Iff.rfl,hcs,fun j hj i v hv=>?_⟩⟩
   have hi:i<sz:=by
    have h4:i<((Lq (Q j)).map (Y.Lf.den Y.idE)).length:=(List.getElem?_eq_some_iff.1 hv).1
    have h5:=(hQ j hj 0 h2).2
    omega
   have h6:=(hQ j hj i hi).1
   rw [Addr.add_mid] at h6
   rw [Nat.add_assoc,h6]
   exact hv
end
section
variable {H:Type} {enc:TypeId × Value→H} {w:World} {base:Nat} {spare:Nat→Bool} {held:Bool}
theorem cellsOf_pt:Tryz.prog.cellsOf 61=9:=by kernel_rfl
theorem open_pt_row {r:Reach} {b0:Nat} {v:Value} {d:DataW H} {p:List MemPlace} (hv:Value.okWide Tryz.prog w r b0 70 v) (h:DataW.Trod enc Tryz.prog w base spare held 70 v d p) :
  ∃ (g:Y.Pl) (n:Nat) (Q:Nat→Pp),v=.slice (g.v 0) n (g.c 0)∧n≤maxLen∧Y.RwD 9 n (fun j=>Y.lsX (Q j).w.C) w g:=by
 refine open_rows Tryz.underlying70 cellsOf_pt (by decide) (fun q:Pp=>Y.lsX q.w.C) .inf (fun fuel cs x hx=>?_) hv h
 obtain ⟨i,a,b,rfl,ha,hb⟩:=trod_point hx
 obtain ⟨q,e⟩:=pp_of ⟨i,a,b⟩ ⟨ha,hb⟩
 refine ⟨q,?_⟩
 rw [e]
 rfl
end
end Go.Proofs.YtbepimnlleilfaaGreat
end
