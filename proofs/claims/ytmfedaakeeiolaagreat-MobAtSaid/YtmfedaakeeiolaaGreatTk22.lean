/- MaC, MaD, MaL, MaN, MaO, MaS, MaJ, Open. -/
import Derived.ProofKit
import Derived.OpenShut
import Derived.ShutString
import Derived.ChangeOld
import Derived.Below
import Derived.Test.YtmfedaakeeiolaaGreatTk21
set_option linter.unnecessarySimpa false
set_option linter.unusedVariables false
set_option linter.unusedSimpArgs false
section
namespace Go.Proofs.YtmfedaakeeiolaaGreat.Y
open Go Go.RowKit
set_option maxRecDepth 100000
noncomputable def sMaMay (p:Pp) {b:Bool} (hb:p.B=b):Spec Tryz.prog:=(sPMay p).as [.one (.a (lsX p.w.C))] (tB' b) (congrArg (fun l=>[SV.one (.a l)]) p.C_raw) (by rw [← hb]; rfl)
abbrev FPT:TypeId:=60
abbrev mi1L:List Lf:=[.f (.func 187) [] []]
noncomputable def sMi1 (p:Pp) {b:Bool} (hb:p.B=b):Spec Tryz.prog :=
 ⟨187,Tryz.call187,[.one (.a (lsX p.w.C))],[],tB' b,[],fun β w hh=>by
  cases b<;>exact spec_auto (evs:=[(sMaMay p hb).e]) (Ns:=[]) (m:=400) Tryz.func187 hmA (fun β=>by kernel_rfl) (by kernel_rfl) β w hh,by kernel_rfl⟩
noncomputable def sMi2 (p:Pp) (b:Bool) (hb:p.B=b):OSpec Tryz.prog :=
 OSpec.auto Tryz.call189 [.one (.a (lsX p.w.C)),.one (.c (.b (.p 0 0)))] [.box mi1L FPT] (tB' (!b)) [] [(sMi1 p hb).e] [] 400 Tryz.func189 hmA (by kernel_rfl) (fun β=>by kernel_rfl)
abbrev miV (b:Nat):SV:=.one (.c (.f (.func 189) [] [.p b 0]))
abbrev miA (n:Nat):List SV:=[lpS0 n,miV 1]
abbrev miO (N:Nat) (P:Nat→Pp):List Ob:=[(lpT N P).ob,.box mi1L FPT]
section
variable (n N:Nat) (P:Nat→Pp)
noncomputable abbrev miN:Nat:=sizeS ixF (miA n)
abbrev miSl (j:Nat):List (Nat × SV):=[(0,lpS0 n),(1,miV 1),(7,.one (nI' (n:Int))),(8,.one (nI' (j:Int)))]
noncomputable abbrev miC (j:Nat) (ev:List (Ev Tryz.prog)):Cf Tryz.prog:=mkC Tryz.prog (miN n) 2 (miSl n j) [(lpT N P).ob,.box mi1L FPT,.dead] ev
abbrev miH (r:Int) (β0:Env) (w:World) (c:Cf Tryz.prog):Prop:=HdOk Tryz.prog 2 (miN n) w.heap.size w β0 (bodyPost Tryz.prog ixF (Said Tryz.prog ixF 2 (.one (nI' r)) [] β0 w)) c (lpAt ixF 0)
variable (β0:Env) (w:World) {j:Nat} (hN:n≤N)
noncomputable def miE (hj:j<n):List (Ev Tryz.prog):=[.eqv 9 (.bool (decide ((j:Int)<(n:Int)))) (.bool true) (by rw [decide_eq_true (by omega)]),pIx0 P hj hN,pLd P (j:=j) (N:=N) (Nat.lt_of_lt_of_le hj hN)]
theorem mi_step (r:Int) (hj:j<n) (h:(P j).B=true) {j2:Int} (hj2:IntKind.i64.wrap ((j:Int)+1)=j2) (e2:j2=((j+1:Nat):Int)) (k:miH n r β0 w (miC n N P (j+1) [])):miH n r β0 w (miC n N P j (miE n N P hN hj++[(sMi2 (P j) true h).e,.eqv 18 (.int .i64 (IntKind.i64.wrap ((j:Int)+1))) (.int .i64 ((j+1:Nat):Int)) (by rw [hj2,e2]),.cut])) :=
 piece_ok (Ns:=[]) (m:=400) [] [0,1,0] hmA (by kernel_rfl) (fun β=>ok_of_maps (by kernel_rfl)) k
theorem mi_no (hj:j<n) (h:(P j).B=false):miH n (j:Int) β0 w (miC n N P j (miE n N P hN hj++[(sMi2 (P j) false h).e])) :=
 last_ok (Ns:=[]) (m:=400) hmA (fun β=>ok_of_maps (by kernel_rfl))
theorem mi_end:miH n (-1) β0 w (miC n N P n [.eqv 9 (.bool (decide ((n:Int)<(n:Int)))) (.bool false) (by rw [decide_eq_false (by omega)])]) :=
 last_ok (Ns:=[]) (m:=400) hmA (fun β=>ok_of_maps (by kernel_rfl))
include hN in
theorem mi_loop (hn:n≤1048576) (h:∀ i,i<n→(P i).B=true):∀ (d j:Nat),j+d=n→miH n (-1) β0 w (miC n N P j [])
 | 0,j,e=>by
  obtain rfl:j=n:=by omega
  exact hd_ev' (mi_end j N P β0 w)
 | d+1,j,e=>hd_ev' (mi_step n N P β0 w hN _ (by omega) (h j (by omega)) (j2:=((j+1:Nat):Int)) (by rw [IntKind.wrap_i64]; omega) rfl (mi_loop hn h d (j+1) (by omega)))
include hN in
theorem mi_loopN (hn:n≤1048576) {i:Nat} (hi:i<n) (h:(P i).B=false) (h2:∀ k,k<i→(P k).B=true):∀ (d j:Nat),j+d=i→miH n (i:Int) β0 w (miC n N P j [])
 | 0,j,e=>by
  obtain rfl:j=i:=by omega
  exact hd_ev' (mi_no n N P β0 w hN hi h)
 | d+1,j,e=>hd_ev' (mi_step n N P β0 w hN _ (by omega) (h2 j (by omega)) (j2:=((j+1:Nat):Int)) (by rw [IntKind.wrap_i64]; omega) rfl (mi_loopN hn hi h h2 d (j+1) (by omega)))
theorem mi_start (r:Int) (hh:(lpT N P).D w (β0 0)) (hb:(Ob.box mi1L FPT).holds β0 w (β0 1)) (h:miH n r β0 w (miC n N P 0 [])):Calls Tryz.prog 291 ((miA n).map (SV.den β0)).toArray w (Said Tryz.prog ixF 2 (.one (nI' r)) [] β0 w) :=
 sx_cut (P:=Tryz.prog) (miA n) (miO N P) [.cut] [] [] 400 (.one (nI' r)) [] Tryz.func291 hmA (u:=2) (sl:=miSl n 0) (ob:=[(lpT N P).ob,.box mi1L FPT,.dead]) (σ:=[0,1,0]) (p':=lpAt ixF 0) (by kernel_rfl) (fun β=>ok_of_maps (by kernel_rfl)) (by kernel_rfl) (by kernel_rfl) β0 w (fun i o ho=>by
  match i,ho with
  | 0,ho=>obtain rfl:=Option.some.inj ho; exact hh
  | 1,ho=>obtain rfl:=Option.some.inj ho; exact hb
  | i+2,ho=>cases ho) h
end
def fnPk:List SV→Nat
 | []=>0
 | .one (.c (.f _ _ [.p b _]))::_=>b
 | _::r=>fnPk r
def slPk:List SV→Nat
 | []=>0
 | .one (.c (.b (.y k _ _)))::_=>k
 | _::r=>slPk r
def env2 (g h:Pl):Env:=fun i=>match i with
 | 0=>g
 | _=>h
def miEv (f:FuncId) (en:Enters Tryz.prog f) (n N:Nat) (P:Nat→Pp) (r:Value) (hr:∀ β,(tag r).den β=r) (ok:∀ (β0:Env) (w:World),(lpT N P).D w (β0 0)→(Ob.box mi1L FPT).holds β0 w (β0 1)→Calls Tryz.prog f ((miA n).map (SV.den β0)).toArray w fun e w'=>e=.returned r∧Below w.heap.size w w'):Ev Tryz.prog :=
 .dyn (fun o _ _=>isCallB o) fun _ xs ob=>lit (slPk xs) fun k=>lit (fnPk xs) fun b =>
  .call f en (fun β=>((miA n).map (SV.den (env2 (β k) (β b)))).toArray) [(k,(lpT N P).ob),(b,.box mi1L FPT)] 0 (tag r) [] (fun β w h=>of_pure0 (ok (env2 (β k) (β b)) w (h (k,(lpT N P).ob) (List.mem_cons_self ..)) (by
   have:=h (b,.box mi1L FPT) (List.mem_cons_of_mem _ (List.mem_singleton.2 rfl))
   exact this)) hr)
theorem mi_fin {n:Nat} {r:Value} {β0:Env} {w:World} {e:Ending} {w':World} (res:SV) (hr:∀ β,res.den β=r) (fn:Func) (h:Said Tryz.prog fn 2 res [] β0 w e w'):e=.returned r∧Below w.heap.size w w':=by
 obtain ⟨β',q,obj,_,rfl,_,_,_,g⟩:=h
 exact ⟨by rw [hr],g.bel⟩
noncomputable def miIx {n N:Nat} (P:Nat→Pp) (hN:n≤N) (hn:n≤1048576) (h:∀ i,i<n→(P i).B=true):Ev Tryz.prog :=
 miEv 291 Tryz.call291 n N P (.int .i64 (-1)) (fun β=>rfl) fun β0 w hh hb=>(mi_start n N P β0 w _ hh hb (mi_loop n N P β0 w hN hn h n 0 (by omega))).mono fun e w' k=>mi_fin (n:=n) _ (fun β=>rfl) ixF k
noncomputable def miIxN {n N:Nat} (P:Nat→Pp) (hN:n≤N) (hn:n≤1048576) {i:Nat} (hi:i<n) (h:(P i).B=false) (h2:∀ k,k<i→(P k).B=true):Ev Tryz.prog :=
 miEv 291 Tryz.call291 n N P (.int .i64 (i:Int)) (fun β=>rfl) fun β0 w hh hb=>(mi_start n N P β0 w _ hh hb (mi_loopN n N P β0 w hN hn hi h h2 i 0 (by omega))).mono fun e w' k=>mi_fin (n:=n) _ (fun β=>rfl) ixF k
theorem mi_has {n N:Nat} (P:Nat→Pp) (hN:n≤N) (hn:n≤1048576) (h:∀ i,i<n→(P i).B=true) (β0:Env) (w:World) (hh:(lpT N P).D w (β0 0)) (hb:(Ob.box mi1L FPT).holds β0 w (β0 1)) :
  Calls Tryz.prog 188 ((miA n).map (SV.den β0)).toArray w fun e w'=>e=.returned (.bool false)∧Below w.heap.size w w' :=
 (sx (P:=Tryz.prog) (miA n) (miO N P) [miIx P hN hn h] [] 400 (tB' false) [] Tryz.func188 hmA (fun β=>ok_of_maps (by kernel_rfl)) (by kernel_rfl) (by kernel_rfl) β0 w (fun i o ho=>by
  match i,ho with
  | 0,ho=>obtain rfl:=Option.some.inj ho; exact hh
  | 1,ho=>obtain rfl:=Option.some.inj ho; exact hb
  | i+2,ho=>cases ho)).mono fun e w' ⟨β',q,obj,_,he,_,_,_,g⟩=>⟨by rw [he]; rfl,g.bel⟩
theorem mi_hasN {n N:Nat} (P:Nat→Pp) (hN:n≤N) (hn:n≤1048576) {i:Nat} (hi:i<n) (h:(P i).B=false) (h2:∀ k,k<i→(P k).B=true) (β0:Env) (w:World) (hh:(lpT N P).D w (β0 0)) (hb:(Ob.box mi1L FPT).holds β0 w (β0 1)) :
  Calls Tryz.prog 188 ((miA n).map (SV.den β0)).toArray w fun e w'=>e=.returned (.bool true)∧Below w.heap.size w w' :=
 (sx (P:=Tryz.prog) (miA n) (miO N P) [miIxN P hN hn hi h h2,.eqv 8 (.bool (decide ((0:Int)≤(i:Int)))) (.bool true) (by rw [decide_eq_true (by omega)])] [] 400 (tB' true) [] Tryz.func188 hmA (fun β=>ok_of_maps (by kernel_rfl)) (by kernel_rfl) (by kernel_rfl) β0 w (fun i o ho=>by
  match i,ho with
  | 0,ho=>obtain rfl:=Option.some.inj ho; exact hh
  | 1,ho=>obtain rfl:=Option.some.inj ho; exact hb
  | i+2,ho=>cases ho)).mono fun e w' ⟨β',q,obj,_,he,_,_,_,g⟩=>⟨by rw [he]; rfl,g.bel⟩
noncomputable def miHas {n N:Nat} (P:Nat→Pp) (hN:n≤N) (hn:n≤1048576) (h:∀ i,i<n→(P i).B=true):Ev Tryz.prog :=
 miEv 188 Tryz.call188 n N P (.bool false) (fun β=>rfl) (mi_has P hN hn h)
noncomputable def miHasN {n N:Nat} (P:Nat→Pp) (hN:n≤N) (hn:n≤1048576) {i:Nat} (hi:i<n) (h:(P i).B=false) (h2:∀ k,k<i→(P k).B=true):Ev Tryz.prog :=
 miEv 188 Tryz.call188 n N P (.bool true) (fun β=>rfl) (mi_hasN P hN hn hi h h2)
noncomputable abbrev maL (q:MQ) (P:Nat→Pp) (j:Nat):List Lf:=lsX (maR q (P j)).w.C
theorem maOrL (q:MQ) (P:Nat→Pp) {n:Nat} (hn:n≤10000):OrL lpApp (maL q P) n :=
 ⟨fun j _=>rfl,fun j _=>lp_one _,Nat.le_trans hn (by decide),Nat.le_trans (Nat.mul_le_mul_right _ hn) (by show 10000*104≤_; decide)⟩
noncomputable abbrev mgF:Func:=Tryz.f58
abbrev mgA (q:MQ) (n:Nat):List SV:=[.one (.a (mCl q)),lpS0 n]
abbrev maNil:SV:=.one (.c (.b (.v (.slice none 0 0))))
section
variable (n N:Nat) (P:Nat→Pp) {q:MQ} (hq:MayQ q)
noncomputable abbrev mgN (q:MQ):Nat:=sizeS mgF (mgA q n)
abbrev mgSl (o:SV) (j:Nat):List (Nat × SV):=[(2,.one (.c (.b (.p 2 0)))),(7,o),(23,lpS0 n),(24,.one (nI' (n:Int))),(25,.one (nI' (j:Int)))]
noncomputable abbrev mgOb (q:MQ):List Ob:=[(lpT N P).ob,.dead,.box (mCl q) MOB]
noncomputable abbrev mgC0 (q:MQ) (ev:List (Ev Tryz.prog)):Cf Tryz.prog:=mkC Tryz.prog (mgN n q) 1 (mgSl n maNil 0) (mgOb N P q) ev
noncomputable abbrev mgC (q:MQ) (j:Nat) (ev:List (Ev Tryz.prog)):Cf Tryz.prog:=mkC Tryz.prog (mgN n q) 1 (mgSl n (.one (.c (.b (.y 3 0 j)))) j) (mgOb N P q++[orO 9 PTT j (maL q P)]) ev
abbrev mgH (q:MQ) (X:Ending→World→Prop) (β0:Env) (w:World) (c:Cf Tryz.prog):Prop:=HdOk Tryz.prog 1 (mgN n q) w.heap.size w β0 (bodyPost Tryz.prog mgF X) c (lpAt mgF 0)
abbrev mgRN (k:Int):SV:=.tup [.c (.b (.v (.slice none 0 0))),nI' k]
variable (β0:Env) (w:World) (X:Ending→World→Prop) {j:Nat} (hN:n≤N)
noncomputable def mgE (hj:j<n):List (Ev Tryz.prog):=[.eqv 26 (.bool (decide ((j:Int)<(n:Int)))) (.bool true) (by rw [decide_eq_true (by omega)]),pIx0 P hj hN,pLd P (j:=j) (N:=N) (Nat.lt_of_lt_of_le hj hN)]
theorem mg_first (hj:0<n) (h:(P 0).B=true) (hF:FitP (maR q (P 0))) (k:mgH n q X β0 w (mgC n N P q 1 [])) :
  mgH n q X β0 w (mgC0 n N P q (mgE n N P hN hj++[(sMaAtT hq h hF).e,eAp1 lpApp .nil (n0:=0) (L:=maL q P) (cs:=maL q P 0) rfl (maOrL q P (by decide)) rfl (fun β=>rfl),.cut])) :=
 piece_ok (Ns:=[]) (m:=800) [] [0,0,2,6] hmA (by kernel_rfl) (fun β=>ok_of_maps (by kernel_rfl)) k
theorem mg_step (hj:j<n) (hn:n≤1000) (h:(P j).B=true) (hF:FitP (maR q (P j))) {j2:Int} (hj2:IntKind.i64.wrap ((j:Int)+1)=j2) (e2:j2=((j+1:Nat):Int)) (k:mgH n q X β0 w (mgC n N P q (j+1) [])) :
  mgH n q X β0 w (mgC n N P q j (mgE n N P hN hj++[(sMaAtT hq h hF).e,eAp1 lpApp .own (n0:=j) (L:=maL q P) (cs:=maL q P j) trivial (maOrL q P (by omega)) rfl (fun β=>rfl),.eqv 42 (.int .i64 (IntKind.i64.wrap ((j:Int)+1))) (.int .i64 ((j+1:Nat):Int)) (by rw [hj2,e2]),.cut])) :=
 piece_ok (Ns:=[]) (m:=800) [] [0,0,2,7] hmA (by kernel_rfl) (fun β=>ok_of_maps (by kernel_rfl)) k
theorem mg_no0 (hj:0<n) (h:(P 0).B=true) (hF:¬ FitP (maR q (P 0))):mgH n q (Said Tryz.prog mgF 1 (mgRN 4) [] β0 w) β0 w (mgC0 n N P q (mgE n N P hN hj++[(sMaAtN hq h hF).e])) :=
 last_ok (Ns:=[]) (m:=800) hmA (fun β=>ok_of_maps (by kernel_rfl))
theorem mg_no (hj:j<n) (h:(P j).B=true) (hF:¬ FitP (maR q (P j))):mgH n q (Said Tryz.prog mgF 1 (mgRN 4) [] β0 w) β0 w (mgC n N P q j (mgE n N P hN hj++[(sMaAtN hq h hF).e])) :=
 last_ok (Ns:=[]) (m:=800) hmA (fun β=>ok_of_maps (by kernel_rfl))
theorem mg_end0 (q:MQ) (P:Nat→Pp) (β0:Env) (w:World):mgH 0 q (Said Tryz.prog mgF 1 (mgRN 0) [] β0 w) β0 w (mgC0 0 N P q [.eqv 26 (.bool (decide ((0:Int)<(0:Int)))) (.bool false) (by rw [decide_eq_false (by decide)])]) :=
 last_ok (Ns:=[]) (m:=400) hmA (fun β=>ok_of_maps (by kernel_rfl))
theorem mg_end:mgH n q (SaidO Tryz.prog mgF 1 (.tup [.c (.b (.y 3 0 n)),nI' 0]) 3 (orO 9 PTT n (maL q P)) β0 w) β0 w (mgC n N P q n [.eqv 26 (.bool (decide ((n:Int)<(n:Int)))) (.bool false) (by rw [decide_eq_false (by omega)])]) :=
 last_okO (Ns:=[]) (m:=400) hmA (by kernel_rfl) (fun β=>ok_of_maps (by kernel_rfl))
include hq hN in
theorem mg_start (hn:n≤1000) (h:∀ i,i<n→(P i).B=true) (hh:(lpT N P).D w (β0 0)) (k:mgH n q X β0 w (mgC0 n N P q [])):Calls Tryz.prog 58 ((mgA q n).map (SV.den β0)).toArray w X :=
 sx_cutX (P:=Tryz.prog) (mgA q n) [(lpT N P).ob] [.eqv 14 (.bool (decide ((4096:Int)<(n:Int)))) (.bool false) (by rw [decide_eq_false (by omega)]),(sMbChk hq).e,miHas P hN (Nat.le_trans hn (by decide)) h,.cut] [] [] 400 Tryz.func58 hmA (u:=1) (sl:=mgSl n maNil 0) (ob:=mgOb N P q) (σ:=[0,0,1]) (p':=lpAt mgF 0) (by kernel_rfl) (fun β=>ok_of_maps (by kernel_rfl)) (by kernel_rfl) (by kernel_rfl) β0 w (fun i o ho=>by
  cases i with
  | zero=>simp only [List.getElem?_cons_zero] at ho; obtain rfl:=Option.some.inj ho; exact hh
  | succ i=>simp at ho) k
end
section
variable (n N:Nat) (P:Nat→Pp) {q:MQ} (hq:MayQ q) (β0:Env) (w:World) (X:Ending→World→Prop) (hN:n≤N)
include hq hN in
theorem mg_run (hn:n≤1000) (h:∀ i,i<n→(P i).B=true) {t:Nat} (ht:t≤n) (hF:∀ i,i<t→FitP (maR q (P i))) (k:mgH n q X β0 w (mgC n N P q t [])):∀ (d j:Nat),j+d=t→mgH n q X β0 w (mgC n N P q j [])
 | 0,j,e=>by
  obtain rfl:j=t:=by omega
  exact k
 | d+1,j,e=>hd_ev' (mg_step n N P hq β0 w X hN (by omega) hn (h j (by omega)) (hF j (by omega)) (j2:=((j+1:Nat):Int)) (by rw [IntKind.wrap_i64]; omega) rfl (mg_run hn h ht hF k d (j+1) (by omega)))
include hq hN in
theorem mg_all (hn:n≤1000) (h0:0<n) (h:∀ i,i<n→(P i).B=true) (hF:∀ i,i<n→FitP (maR q (P i))) (hh:(lpT N P).D w (β0 0)):Calls Tryz.prog 58 ((mgA q n).map (SV.den β0)).toArray w (SaidO Tryz.prog mgF 1 (.tup [.c (.b (.y 3 0 n)),nI' 0]) 3 (orO 9 PTT n (maL q P)) β0 w) :=
 mg_start n N P hq β0 w _ hN hn h hh (hd_ev' (mg_first n N P hq β0 w _ hN h0 (h 0 h0) (hF 0 h0) (mg_run n N P hq β0 w _ hN hn h (Nat.le_refl n) hF (hd_ev' (mg_end n N P β0 w)) (n-1) 1 (by omega))))
include hq hN in
theorem mg_unt (hn:n≤1000) (h:∀ i,i<n→(P i).B=true) {i:Nat} (hi:i<n) (hF:¬ FitP (maR q (P i))) (hF2:∀ k,k<i→FitP (maR q (P k))) (hh:(lpT N P).D w (β0 0)):Calls Tryz.prog 58 ((mgA q n).map (SV.den β0)).toArray w (Said Tryz.prog mgF 1 (mgRN 4) [] β0 w):=by
 refine mg_start n N P hq β0 w _ hN hn h hh ?_
 rcases Nat.eq_zero_or_pos i with rfl | h0
 · exact hd_ev' (mg_no0 n N P hq β0 w hN hi (h 0 hi) hF)
 · exact hd_ev' (mg_first n N P hq β0 w _ hN (by omega) (h 0 (by omega)) (hF2 0 h0) (mg_run n N P hq β0 w _ hN hn h (Nat.le_of_lt hi) hF2 (hd_ev' (mg_no n N P hq β0 w hN hi (h i hi) hF)) (i-1) 1 (by omega)))
end
theorem OrD.wr {sz:Nat} {e:TypeId} {n:Nat} {L:Nat→List Lf} {w:World} {g:Pl} (h:OrD sz e n L w g):WrD sz e n L w { g with c:=fun i=>g.c 0-i/sz }:=by
 obtain ⟨cur,h1,h2,h3,h4,h5⟩:=h.cells
 have hr:=OrD.rw w g h
 rcases hr with hr | ⟨r0,b,o,cs,t,fr,r1,r2,r3,r4⟩
 · exact absurd hr.1 (by have:=h.2.2.1.1; omega)
 · have hb:b=g.b∧o=0:=by
    have e1:=r1 0
    rw [h.2.1 0] at e1
    injection e1 with e1
    injection e1 with e1 e2
    exact ⟨e1.symm,by omega⟩
   obtain ⟨rfl,rfl⟩:=hb
   refine ⟨h.1,h.2.1,h.2.2.1,⟨cur,h1,?_⟩,fun j hj=>?_,fun i=>?_,?_⟩
   · rw [h4]
     exact Nat.mul_le_mul_right _ h2
   · have:=r4 j hj
     rw [Nat.zero_add] at this
     exact this
   · show g.c 0-i/sz=g.c 0-0/sz-i/sz
     rw [Nat.zero_div,Nat.sub_zero]
   · show n≤g.c 0-0/sz
     rw [Nat.zero_div,Nat.sub_zero]
     exact h2
noncomputable def mgOwn {n N:Nat} (P:Nat→Pp) {q:MQ} (hq:MayQ q) (hN:n≤N) (hn:n≤1000) (h0:0<n) (h:∀ i,i<n→(P i).B=true) (hF:∀ i,i<n→FitP (maR q (P i))):Ev Tryz.prog :=
 .dynU (fun o _ _=>isCallB o) fun _ xs ob=>lit (slPk xs) fun k=>lit ob.length fun M =>
  .ownC 58 Tryz.call58 (fun β=>((mgA q n).map (SV.den fun _=>β k)).toArray) [(k,(lpT N P).ob)] M (wrO 9 PTT n (maL q P)) (.tup [.c (.b (.y M 0 n)),nI' 0]) (fun β w hh=>(mg_all n N P hq (fun _=>β k) w hN hn h0 h hF (hh (k,(lpT N P).ob) (List.mem_singleton.2 rfl))).mono fun e w' hs=>by
   obtain ⟨β',_,rfl,⟨hr1,hr2⟩,hlow,g⟩:=hs
   have hr2:OrD 9 PTT n (maL q P) w' (β' 3):=hr2
   have e1:extE β M [{ (β' 3) with c:=fun i=>(β' 3).c 0-i/9 }] M={ (β' 3) with c:=fun i=>(β' 3).c 0-i/9 }:=by
    have:=extE_in (β:=β) (n:=M) (xs:=[({ (β' 3) with c:=fun i=>(β' 3).c 0-i/9 }:Pl)]) (i:=0) rfl
    simpa using this
   refine ⟨{ (β' 3) with c:=fun i=>(β' 3).c 0-i/9 },?_,⟨hr1,hr2.wr⟩,⟨hlow,g.bel⟩,fun c hc=>.inl ((hr2.1 c).1 hc)⟩
   show Ending.returned (Value.tuple #[.slice ((β' 3).v 0) n ((β' 3).c 0),.int .i64 0])=Ending.returned (Value.tuple #[.slice ((extE β M [{ (β' 3) with c:=fun i=>(β' 3).c 0-i/9 }] M).v 0) n ((extE β M [{ (β' 3) with c:=fun i=>(β' 3).c 0-i/9 }] M).c 0),.int .i64 0])
   rw [e1]
   show _=Ending.returned (Value.tuple #[.slice ((β' 3).v 0) n ((β' 3).c 0-0/9),.int .i64 0])
   rw [Nat.zero_div,Nat.sub_zero])
noncomputable def sMgAll {n N:Nat} (P:Nat→Pp) {q:MQ} (hq:MayQ q) (hN:n≤N) (hn:n≤1000) (h0:0<n) (h:∀ i,i<n→(P i).B=true) (hF:∀ i,i<n→FitP (maR q (P i))):Spec Tryz.prog :=
 ⟨58,Tryz.call58,mgA q n,[lpT N P],.tup [.c (.b (.y 1 0 n)),nI' 0],[rwT 9 n (maL q P)],fun β w hh=>(mg_all n N P hq β w hN hn h0 h hF (hh 0 _ rfl)).mono fun e w' hs=>by
  obtain ⟨β',_,rfl,⟨hr1,hr2⟩,hlow,g⟩:=hs
  have hr2:OrD 9 PTT n (maL q P) w' (β' 3):=hr2
  refine ⟨[β' 3],fun x hx c hc=>?_,?_,⟨OrD.rw w' _ hr2,trivial⟩,g.bel⟩
  · obtain rfl:=List.mem_singleton.1 hx
    rw [(hr2.1 c).1 hc]
    exact .inl hlow
  · have e1:extE β 1 [β' 3] 1=β' 3:=by
     have:=extE_in (β:=β) (n:=1) (xs:=[β' 3]) (i:=0) rfl
     simpa using this
    show Ending.returned (Value.tuple #[.slice ((β' 3).v 0) n ((β' 3).c 0),.int .i64 0])=Ending.returned (Value.tuple #[.slice ((extE β 1 [β' 3] 1).v 0) n ((extE β 1 [β' 3] 1).c 0),.int .i64 0])
    rw [e1],by kernel_rfl⟩
noncomputable def sMg0 {N:Nat} (P:Nat→Pp) {q:MQ} (hq:MayQ q):Spec Tryz.prog :=
 ⟨58,Tryz.call58,mgA q 0,[lpT N P],mgRN 0,[],fun β w hh=>(mg_start 0 N P hq β w _ (Nat.zero_le N) (by decide) (fun i hi=>absurd hi (Nat.not_lt_zero i)) (hh 0 _ rfl) (hd_ev' (mg_end0 N q P β w))).mono fun e w' h=>said_0 h fun β' _=>rfl,by kernel_rfl⟩
noncomputable def sMgUnt {n N:Nat} (P:Nat→Pp) {q:MQ} (hq:MayQ q) (hN:n≤N) (hn:n≤1000) (h:∀ i,i<n→(P i).B=true) {i:Nat} (hi:i<n) (hF:¬ FitP (maR q (P i))) (hF2:∀ k,k<i→FitP (maR q (P k))):Spec Tryz.prog :=
 ⟨58,Tryz.call58,mgA q n,[lpT N P],mgRN 4,[],fun β w hh=>(mg_unt n N P hq β w hN hn h hi hF hF2 (hh 0 _ rfl)).mono fun e w' h=>said_0 h fun β' _=>rfl,by kernel_rfl⟩
noncomputable def sMgNo {n N:Nat} (P:Nat→Pp) {q:MQ} (hq:MayQ q) (hN:n≤N) (hn:n≤1000) {i:Nat} (hi:i<n) (h:(P i).B=false) (h2:∀ k,k<i→(P k).B=true):Spec Tryz.prog :=
 Spec.auto Tryz.call58 (mgA q n) [lpT N P] (mgRN 2) [] [.eqv 14 (.bool (decide ((4096:Int)<(n:Int)))) (.bool false) (by rw [decide_eq_false (by omega)]),(sMbChk hq).e,miHasN P hN (Nat.le_trans hn (by decide)) hi h h2] [] 800 Tryz.func58 hmA (by kernel_rfl) (fun β=>by kernel_rfl)
noncomputable def sMgMap {n N:Nat} (P:Nat→Pp) {m:Mp} {t:Bool} (ho:OpenNo m t) (hn:n≤1000):Spec Tryz.prog :=
 Spec.auto Tryz.call58 [.one (.a m.C),lpS0 n] [lpT N P] (mgRN 2) [] [.eqv 14 (.bool (decide ((4096:Int)<(n:Int)))) (.bool false) (by rw [decide_eq_false (by omega)]),(sMbChkNo ho).e] [] 800 Tryz.func58 hmA (by kernel_rfl) (fun β=>by kernel_rfl)
theorem ma77_ne:¬ (fR (gint 7 7).re=⟨false,⟨#[]⟩,false,⟨#[]⟩⟩∧fR (gint 7 7).im=⟨false,⟨#[]⟩,false,⟨#[]⟩⟩):=fun h=>by
 have h1:=congrArg R4.t h.1
 exact absurd h1 (by decide +kernel)
def ma77:Pp:=.odd (fR (gint 7 7).re) (fR (gint 7 7).im) ma77_ne
theorem ma_ne {k:Int} (h:k≠0):Value.bool (k==0)=.bool false:=by
 rw [show (k==0)=false by rw [Bool.eq_false_iff]; intro e; exact h (eq_of_beq e)]
theorem ma_rself (r:Rw):((r.i==r.i)&&((r.x.eq r.x&&(r.y.eq r.y&&true))&&true))=true:=rwB_iff.2 ⟨rfl,rfl,rfl⟩
def maEq (r:Rw):Ev Tryz.prog:=eqEvP r.i r.i r.x r.y r.x r.y true (ma_rself r)
noncomputable abbrev mtF:Func:=Tryz.f9
abbrev mtA (M:List Lf) (n:Nat):List SV:=[.one (.a M),lpS0 n]
abbrev mtNs:List (Nat × Nat):=[(12,9),(14,20),(20,22),(26,501010012),(31,7),(36,17),(49,11)]
abbrev maN0:List Lf:=lsX g0C
abbrev maQ0:List Lf:=.b (.v (.bool false))::lsX g0C
section
variable (n:Nat) (P:Nat→Pp)
noncomputable abbrev mtN (M:List Lf) (n:Nat):Nat:=sizeS mtF (mtA M n)
abbrev mtH (M:List Lf) (i:Nat) (β0:Env) (w:World) (c:Cf Tryz.prog):Prop:=HdOk Tryz.prog 1 (mtN M n) w.heap.size w β0 (bodyPost Tryz.prog mtF (Said Tryz.prog mtF 1 (tB' true) [] β0 w)) c (lpAt mtF i)
abbrev m0Sl (kd kt kp:Int) (a b:SV) (E:Int) (j:Nat):List (Nat × SV):=[(1,lpS0 n),(2,.one (.c (.b (.p 2 0)))),(5,.one (.c (.b (.p 3 0)))),(6,.one (nI' kd)),(7,.one (.c (.b (.p 4 0)))),(8,.one (nI' kt)),(9,.one (.c (.b (.p 5 0)))),(10,.one (nI' kp)),(11,.one (.c (.b (.y 6 0 n)))),(12,a),(13,.one (nI' E)),(14,b),(16,.one (nI' (j:Int)))]
noncomputable abbrev m0Ob (M Dc Tc Pc:List Lf):List Ob:=[(lpT n P).ob,.dead,.box M MOB,.box Dc TG,.box Tc TG,.box Pc PTT,(orT 9 PTT (n+1) (lsP P)).ob]
noncomputable abbrev m0M (M:List Lf) (j:Nat) (ev:List (Ev Tryz.prog)):Cf Tryz.prog:=mkC Tryz.prog (mtN M n) 1 (m0Sl n 2 2 2 maNil maNil 2 j) (m0Ob n P M maN0 maN0 maQ0) ev
noncomputable abbrev m0Q (q:MQ) (E:Int) (j:Nat) (ev:List (Ev Tryz.prog)):Cf Tryz.prog:=mkC Tryz.prog (mtN (mCl q) n) 1 (m0Sl n (gaK (mdet q)) (gaK (gadd q.a q.d)) (paK (maPole q)) maNil maNil E j) (m0Ob n P (mCl q) (lsX (gaC (mdet q))) (lsX (gaC (gadd q.a q.d))) (maPc (maPole q))) ev
noncomputable abbrev m0T (q:MQ) (j:Nat) (ev:List (Ev Tryz.prog)):Cf Tryz.prog:=mkC Tryz.prog (mtN (mCl q) n) 1 (m0Sl n (gaK (mdet q)) (gaK (gadd q.a q.d)) (paK (maPole q)) (.one (.c (.b (.y 7 0 n)))) (.one (.c (.b (.y 8 0 n)))) 0 j) (m0Ob n P (mCl q) (lsX (gaC (mdet q))) (lsX (gaC (gadd q.a q.d))) (maPc (maPole q))++[wrO 9 PTT n (maL q P),(rwT 9 n (maL q P)).ob]) ev
abbrev m1Sl (a b:SV) (E:Int) (bad:Bool) (K:Int) (j:Nat):List (Nat × SV):=[(1,lpS0 n),(2,.one (.c (.b (.p 2 0)))),(12,a),(13,.one (nI' E)),(14,b),(17,tB' bad),(18,.one (nI' K)),(19,.one (nI' (j:Int)))]
noncomputable abbrev m1C (M:List Lf) (E:Int) (bad:Bool) (K:Int) (j:Nat) (ev:List (Ev Tryz.prog)):Cf Tryz.prog:=mkC Tryz.prog (mtN M n) 1 (m1Sl n maNil maNil E bad K j) [(lpT n P).ob,.dead,.box M MOB] ev
noncomputable abbrev m1T (q:MQ) (j:Nat) (ev:List (Ev Tryz.prog)):Cf Tryz.prog:=mkC Tryz.prog (mtN (mCl q) n) 1 (m1Sl n (.one (.c (.b (.y 3 0 n)))) (.one (.c (.b (.y 4 0 n)))) 0 false 0 j) [(lpT n P).ob,.dead,.box (mCl q) MOB,wrO 9 PTT n (maL q P),(rwT 9 n (maL q P)).ob] ev
noncomputable def maI (q:MQ) (P:Nat→Pp) (j i:Nat):List Lf:=bif Nat.blt i j then lsX (Pt.w .inf).C else maL q P i
noncomputable abbrev m2T (q:MQ) (j:Nat) (ev:List (Ev Tryz.prog)):Cf Tryz.prog:=mkC Tryz.prog (mtN (mCl q) n) 1 [(1,lpS0 n),(2,.one (.c (.b (.p 2 0)))),(12,.one (.c (.b (.y 3 0 n)))),(14,.one (.c (.b (.y 4 0 n)))),(23,.one (nI' (j:Int)))] [(lpT n P).ob,.dead,.box (mCl q) MOB,wrO 9 PTT n (maI q P j),(rwT 9 n (maL q P)).ob] ev
noncomputable abbrev m3T (q:MQ) (j:Nat) (ev:List (Ev Tryz.prog)):Cf Tryz.prog:=mkC Tryz.prog (mtN (mCl q) n) 1 [(1,lpS0 n),(2,.one (.c (.b (.p 2 0)))),(14,.one (.c (.b (.y 3 0 n)))),(24,.one (nI' (j:Int)))] [(lpT n P).ob,.dead,.box (mCl q) MOB,(rwT 9 n (maL q P)).ob] ev
variable (β0:Env) (w:World) {j:Nat}
noncomputable def m0E (hj:j<n) {j2:Int} (hj2:IntKind.i64.wrap ((j:Int)+1)=j2) (e2:j2=((j+1:Nat):Int)):List (Ev Tryz.prog) :=
 [.eqv 78 (.bool (decide ((j:Int)<(n:Int)))) (.bool true) (by rw [decide_eq_true (by omega)]),pIx0 (n:=n) (N:=n+1) P hj (Nat.le_succ n),pLd (N:=n+1) P (Nat.lt_succ_of_lt hj),pIx0 P hj (Nat.le_refl n),pLd P hj,maEq (P j).w,.eqv 80 (.int .i64 (IntKind.i64.wrap ((j:Int)+1))) (.int .i64 ((j+1:Nat):Int)) (by rw [hj2,e2]),.cut]
theorem m0_stepM {m:Mp} (hj:j<n) {j2:Int} (hj2:IntKind.i64.wrap ((j:Int)+1)=j2) (e2:j2=((j+1:Nat):Int)) (k:mtH n m.C 0 β0 w (m0M n P m.C (j+1) [])):mtH n m.C 0 β0 w (m0M n P m.C j (m0E n P hj hj2 e2)) :=
 piece_ok (Ns:=mtNs) (m:=800) [] [0,0,2,3,4,5,6] hmA (by kernel_rfl) (fun β=>ok_of_maps (by kernel_rfl)) k
theorem m0_stepQ {q:MQ} (E:Int) (hj:j<n) {j2:Int} (hj2:IntKind.i64.wrap ((j:Int)+1)=j2) (e2:j2=((j+1:Nat):Int)) (k:mtH n (mCl q) 0 β0 w (m0Q n P q E (j+1) [])):mtH n (mCl q) 0 β0 w (m0Q n P q E j (m0E n P hj hj2 e2)) :=
 piece_ok (Ns:=mtNs) (m:=800) [] [0,0,2,3,4,5,6] hmA (by kernel_rfl) (fun β=>ok_of_maps (by kernel_rfl)) k
theorem m0_stepT {q:MQ} (hj:j<n) {j2:Int} (hj2:IntKind.i64.wrap ((j:Int)+1)=j2) (e2:j2=((j+1:Nat):Int)) (k:mtH n (mCl q) 0 β0 w (m0T n P q (j+1) [])):mtH n (mCl q) 0 β0 w (m0T n P q j (m0E n P hj hj2 e2)) :=
 piece_ok (Ns:=mtNs) (m:=800) [] [0,0,2,3,4,5,6,7,8] hmA (by kernel_rfl) (fun β=>ok_of_maps (by kernel_rfl)) k
noncomputable def m0F (hP:P n=ma77) {n2:Int} (hn2:IntKind.i64.wrap ((n:Int)+1)=n2) (e2:n2=((n+1:Nat):Int)):List (Ev Tryz.prog) :=
 [.eqv 100 (.int .i64 (IntKind.i64.wrap ((n:Int)+1))) (.int .i64 ((n+1:Nat):Int)) (by rw [hn2,e2]),eSlG tps_u tps_s (N:=n+1) (l:=n) (n:=n+1) (Nat.le_refl _) PTT (lsP P),pIx0 (n:=n+1) (N:=n+1) (j:=n) P (Nat.lt_succ_self n) (Nat.le_refl _),maFz (n:=n+1) (j:=n) P (Nat.lt_succ_self n),maPz (n:=n+1) (j:=n) P (Nat.lt_succ_self n),(sIn8 7 7).e,
  eqEvG (P n).w.x (P n).w.y (fR (gint 7 7).re) (fR (gint 7 7).im) true (by rw [hP]; exact ma_geq _ _)]
noncomputable def m0x:Ev Tryz.prog:=.eqv 78 (.bool (decide ((n:Int)<(n:Int)))) (.bool false) (by rw [decide_eq_false (by omega)])
noncomputable def m0G {q:MQ} (hq:MayQ q):List (Ev Tryz.prog):=[(sR8Ck (ck_may hq)).e,(sR8Det (ckq_sz hq.1)).e,(sMaNum (mdet q)).e,(sMaRTr hq).e,(sMaNum (gadd q.a q.d)).e,(sMaRPole hq).e,(sMaPt (maPole q)).e,.cut]
theorem m0_midM {m:Mp} {t:Bool} (ho:OpenNo m t) (hk:CkMp m 2) (hP:P n=ma77) {n2:Int} (hn2:IntKind.i64.wrap ((n:Int)+1)=n2) (e2:n2=((n+1:Nat):Int)) (k:mtH n m.C 1 β0 w (m1C n P m.C 2 true 0 0 [])) :
  mtH n m.C 0 β0 w (m0M n P m.C n ([m0x n,(sMbChkNo ho).e,(sNum8 2).e,(sCkMp hk).e]++m0F n P hP hn2 e2++[(sCkMp hk).e,maG0,(sNum8 2).e,maG0,(sNum8 2).e,maP0,(sNum8 2).e,.cut])) :=
 piece_ok (Ns:=mtNs) (m:=1200) [] [0,0,2] hmA (by kernel_rfl) (fun β=>ok_of_maps (by kernel_rfl)) k
theorem m0_midQ {q:MQ} (hq:MayQ q) (E:Int) (hP:P n=ma77) {n2:Int} (hn2:IntKind.i64.wrap ((n:Int)+1)=n2) (e2:n2=((n+1:Nat):Int)) (k:mtH n (mCl q) 1 β0 w (m1C n P (mCl q) E false 0 0 [])) :
  mtH n (mCl q) 0 β0 w (m0Q n P q E n ([m0x n,(sMbChk hq).e,(sNum8 0).e,(sR8Ck (ck_may hq)).e]++m0F n P hP hn2 e2++m0G hq)) :=
 piece_ok (Ns:=mtNs) (m:=1200) [] [0,0,2] hmA (by kernel_rfl) (fun β=>ok_of_maps (by kernel_rfl)) k
theorem m0_midT {q:MQ} (hq:MayQ q) (hP:P n=ma77) {n2:Int} (hn2:IntKind.i64.wrap ((n:Int)+1)=n2) (e2:n2=((n+1:Nat):Int)) (k:mtH n (mCl q) 1 β0 w (m1T n P q 0 [])) :
  mtH n (mCl q) 0 β0 w (m0T n P q n ([m0x n,(sMbChk hq).e,(sNum8 0).e,(sR8Ck (ck_may hq)).e]++m0F n P hP hn2 e2++m0G hq)) :=
 piece_ok (Ns:=mtNs) (m:=1200) [] [0,0,2,7,8] hmA (by kernel_rfl) (fun β=>ok_of_maps (by kernel_rfl)) k
end
section
variable (n:Nat) (P:Nat→Pp) (β0:Env) (w:World) {j:Nat}
noncomputable def sMaRMay (p:Pp) {b:Bool} (hb:p.B=b):Spec Tryz.prog:=(sR7May p hb).as [.one (.a (lsX p.w.C))] (tB' b) rfl rfl
noncomputable def m1E (hj:j<n):List (Ev Tryz.prog):=[.eqv 167 (.bool (decide ((j:Int)<(n:Int)))) (.bool true) (by rw [decide_eq_true (by omega)]),pIx0 P hj (Nat.le_refl n),pLd P hj]
noncomputable def m1N (j:Nat) {j2:Int} (hj2:IntKind.i64.wrap ((j:Int)+1)=j2) (e2:j2=((j+1:Nat):Int)):List (Ev Tryz.prog):=[.eqv 169 (.int .i64 (IntKind.i64.wrap ((j:Int)+1))) (.int .i64 ((j+1:Nat):Int)) (by rw [hj2,e2]),.cut]
theorem m1_map {m:Mp} {t:Bool} (ho:OpenNo m t) (K:Int) (hj:j<n) {j2:Int} (hj2:IntKind.i64.wrap ((j:Int)+1)=j2) (e2:j2=((j+1:Nat):Int)) (k:mtH n m.C 1 β0 w (m1C n P m.C 2 true 2 (j+1) [])) :
  mtH n m.C 1 β0 w (m1C n P m.C 2 true K j (m1E n P hj++[(sAtNo ho (P j)).e,maP0,(sNum8 2).e]++m1N j hj2 e2)) :=
 piece_ok (Ns:=mtNs) (m:=800) [] [0,0,2] hmA (by kernel_rfl) (fun β=>ok_of_maps (by kernel_rfl)) k
variable {q:MQ} (hq:MayQ q)
theorem m1_bad (E K:Int) (hj:j<n) (h:(P j).B=false) {j2:Int} (hj2:IntKind.i64.wrap ((j:Int)+1)=j2) (e2:j2=((j+1:Nat):Int)) (k:mtH n (mCl q) 1 β0 w (m1C n P (mCl q) E false 2 (j+1) [])) :
  mtH n (mCl q) 1 β0 w (m1C n P (mCl q) E false K j (m1E n P hj++[(sAtNoP hq h).e,pIx0 P hj (Nat.le_refl n),pLd P hj,(sMaRMay (P j) h).e,maP0,(sNum8 2).e]++m1N j hj2 e2)) :=
 piece_ok (Ns:=mtNs) (m:=800) [] [0,0,2] hmA (by kernel_rfl) (fun β=>ok_of_maps (by kernel_rfl)) k
noncomputable def m1G (hj:j<n) (h:(P j).B=true):List (Ev Tryz.prog):=m1E n P hj++[(sMaAt hq h).e,pIx0 P hj (Nat.le_refl n),pLd P hj,(sMaRMay (P j) h).e,pIx0 P hj (Nat.le_refl n),pLd P hj,(sMaRAt hq h).e,(sMaPt (maR q (P j))).e]
theorem m1_more {E K:Int} (hE:E≠0) (hK:K≠0) (hj:j<n) (h:(P j).B=true) {j2:Int} (hj2:IntKind.i64.wrap ((j:Int)+1)=j2) (e2:j2=((j+1:Nat):Int)) (k:mtH n (mCl q) 1 β0 w (m1C n P (mCl q) E false K (j+1) [])) :
  mtH n (mCl q) 1 β0 w (m1C n P (mCl q) E false K j (m1G n P hq hj h++[.eqv 208 (.bool (K==0)) (.bool false) (ma_ne hK),(sNum8 E).e,.eqv 216 (.bool (E==0)) (.bool false) (ma_ne hE)]++m1N j hj2 e2)) :=
 piece_ok (Ns:=mtNs) (m:=800) [] [0,0,2] hmA (by kernel_rfl) (fun β=>ok_of_maps (by kernel_rfl)) k
theorem m1_fit {E:Int} (hE:E≠0) (hj:j<n) (h:(P j).B=true) (hF:FitP (maR q (P j))) {j2:Int} (hj2:IntKind.i64.wrap ((j:Int)+1)=j2) (e2:j2=((j+1:Nat):Int)) (k:mtH n (mCl q) 1 β0 w (m1C n P (mCl q) E false 0 (j+1) [])) :
  mtH n (mCl q) 1 β0 w (m1C n P (mCl q) E false 0 j (m1G n P hq hj h++[(sMaPF (maR q (P j)) (iff_true_of hF)).e,(sNum8 E).e,.eqv 216 (.bool (E==0)) (.bool false) (ma_ne hE)]++m1N j hj2 e2)) :=
 piece_ok (Ns:=mtNs) (m:=800) [] [0,0,2] hmA (by kernel_rfl) (fun β=>ok_of_maps (by kernel_rfl)) k
theorem m1_unt {E:Int} (hE:E≠0) (hj:j<n) (h:(P j).B=true) (hF:¬ FitP (maR q (P j))) {j2:Int} (hj2:IntKind.i64.wrap ((j:Int)+1)=j2) (e2:j2=((j+1:Nat):Int)) (k:mtH n (mCl q) 1 β0 w (m1C n P (mCl q) E false 4 (j+1) [])) :
  mtH n (mCl q) 1 β0 w (m1C n P (mCl q) E false 0 j (m1G n P hq hj h++[(sMaPF (maR q (P j)) (iff_false_of hF)).e,(sNum8 E).e,.eqv 216 (.bool (E==0)) (.bool false) (ma_ne hE)]++m1N j hj2 e2)) :=
 piece_ok (Ns:=mtNs) (m:=800) [] [0,0,2] hmA (by kernel_rfl) (fun β=>ok_of_maps (by kernel_rfl)) k
end
noncomputable def aIx (n:Nat) (P:Nat→Pp) (q:MQ) {j:Nat} (hj:j<n):Ev Tryz.prog:=eIx tps_u tps_s (maL q P) hj (Nat.le_refl n)
noncomputable def aLd (n:Nat) (P:Nat→Pp) (q:MQ) {j:Nat} (hj:j<n):Ev Tryz.prog:=eLd tptD_u.1 tptD_u.2 9 (L:=maL q P) (by kernel_rfl) (fun β=>rfl) hj
section
variable (n:Nat) (P:Nat→Pp) (β0:Env) (w:World) {j:Nat} {q:MQ} (hq:MayQ q)
noncomputable def sMaRMay' (p:Pp) {b:Bool} (hb:p.B=b):Spec Tryz.prog:=(sR7May p hb).as [.one (.a (lsX p.w.C))] (tB' b) rfl rfl
theorem m1_told (hj:j<n) (h:(P j).B=true) (hF:FitP (maR q (P j))) {j2:Int} (hj2:IntKind.i64.wrap ((j:Int)+1)=j2) (e2:j2=((j+1:Nat):Int)) (k:mtH n (mCl q) 1 β0 w (m1T n P q (j+1) [])) :
  mtH n (mCl q) 1 β0 w (m1T n P q j [.eqv 167 (.bool (decide ((j:Int)<(n:Int)))) (.bool true) (by rw [decide_eq_true (by omega)]),pIx0 P hj (Nat.le_refl n),pLd P hj,(sMaAt hq h).e,pIx0 P hj (Nat.le_refl n),pLd P hj,(sMaRMay' (P j) h).e,pIx0 P hj (Nat.le_refl n),pLd P hj,(sMaRAt hq h).e,(sMaPt (maR q (P j))).e,
   (sMaPF (maR q (P j)) (iff_true_of hF)).e,(sNum8 0).e,.eqv 221 (.bool (decide ((n:Int)≤(j:Int)))) (.bool false) (by rw [decide_eq_false (by omega)]),aIx n P q hj,aLd n P q hj,maEq (maR q (P j)).w,.eqv 169 (.int .i64 (IntKind.i64.wrap ((j:Int)+1))) (.int .i64 ((j+1:Nat):Int)) (by rw [hj2,e2]),.cut]) :=
 piece_ok (Ns:=mtNs) (m:=800) [] [0,0,2,3,4] hmA (by kernel_rfl) (fun β=>ok_of_maps (by kernel_rfl)) k
theorem m1_end (k:mtH n (mCl q) 2 β0 w (m2T n P q 0 [])):mtH n (mCl q) 1 β0 w (m1T n P q n [.eqv 167 (.bool (decide ((n:Int)<(n:Int)))) (.bool false) (by rw [decide_eq_false (by omega)]),(sNum8 0).e,.eqv 253 (.bool (!((n:Int)==(n:Int)))) (.bool false) (by simp),.eqv 259 (.bool (!((n:Int)==(n:Int)))) (.bool false) (by simp),.cut]) :=
 piece_ok (Ns:=mtNs) (m:=800) [] [0,0,2,3,4] hmA (by kernel_rfl) (fun β=>ok_of_maps (by kernel_rfl)) k
theorem maI_L {j i:Nat} (hi:i≠j):maI q P (j+1) i=maI q P j i:=by
 unfold maI
 congr 1
 rw [Bool.eq_iff_iff,Nat.blt_eq,Nat.blt_eq]
 omega
theorem maI_j (j:Nat):maI q P (j+1) j=lsX (Pt.w .inf).C:=by
 unfold maI
 rw [show Nat.blt j (j+1)=true by rw [Nat.blt_eq]; omega]
 rfl
theorem ma_psz9:(Tryz.prog.info? PTT).map (·.size)=some 9:=by kernel_rfl
theorem m2_step (hj:j<n) {j2:Int} (hj2:IntKind.i64.wrap ((j:Int)+1)=j2) (e2:j2=((j+1:Nat):Int)) (k:mtH n (mCl q) 2 β0 w (m2T n P q (j+1) [])) :
  mtH n (mCl q) 2 β0 w (m2T n P q j [.eqv 266 (.bool (decide ((j:Int)<(n:Int)))) (.bool true) (by rw [decide_eq_true (by omega)]),eIx tps_u tps_s (maI q P j) hj (Nat.le_refl n),eSt (T:=PTT) (e:=PTT) (sz:=9) (n:=n) (j:=j) (by decide) ma_psz9 (L:=maI q P j) (L':=maI q P (j+1)) hj (fun i _ hi=>maI_L P hi) (maI_j P j) rfl (lp_one _),.eqv 268 (.int .i64 (IntKind.i64.wrap ((j:Int)+1))) (.int .i64 ((j+1:Nat):Int)) (by rw [hj2,e2]),.cut]) :=
 piece_ok (Ns:=mtNs) (m:=800) [] [0,0,2,3,4] hmA (by kernel_rfl) (fun β=>ok_of_maps (by kernel_rfl)) k
theorem m2_end (k:mtH n (mCl q) 3 β0 w (m3T n P q 0 [])):mtH n (mCl q) 2 β0 w (m2T n P q n [.eqv 266 (.bool (decide ((n:Int)<(n:Int)))) (.bool false) (by rw [decide_eq_false (by omega)]),.cut]) :=
 piece_ok (Ns:=mtNs) (m:=800) [] [0,0,2,4] hmA (by kernel_rfl) (fun β=>ok_of_maps (by kernel_rfl)) k
theorem m3_step (hj:j<n) (h:(P j).B=true) {j2:Int} (hj2:IntKind.i64.wrap ((j:Int)+1)=j2) (e2:j2=((j+1:Nat):Int)) (k:mtH n (mCl q) 3 β0 w (m3T n P q (j+1) [])) :
  mtH n (mCl q) 3 β0 w (m3T n P q j [.eqv 276 (.bool (decide ((j:Int)<(n:Int)))) (.bool true) (by rw [decide_eq_true (by omega)]),aIx n P q hj,aLd n P q hj,pIx0 P hj (Nat.le_refl n),pLd P hj,(sMaRAt hq h).e,maEq (maR q (P j)).w,.eqv 278 (.int .i64 (IntKind.i64.wrap ((j:Int)+1))) (.int .i64 ((j+1:Nat):Int)) (by rw [hj2,e2]),.cut]) :=
 piece_ok (Ns:=mtNs) (m:=800) [] [0,0,2,3] hmA (by kernel_rfl) (fun β=>ok_of_maps (by kernel_rfl)) k
theorem m3_end:mtH n (mCl q) 3 β0 w (m3T n P q n [.eqv 276 (.bool (decide ((n:Int)<(n:Int)))) (.bool false) (by rw [decide_eq_false (by omega)]),sWorks.e]) :=
 last_ok (Ns:=mtNs) (m:=800) hmA (fun β=>ok_of_maps (by kernel_rfl))
theorem m1_end4:mtH n (mCl q) 1 β0 w (m1C n P (mCl q) 4 false 4 n [.eqv 167 (.bool (decide ((n:Int)<(n:Int)))) (.bool false) (by rw [decide_eq_false (by omega)]),(sNum8 4).e,sWorks.e]) :=
 last_ok (Ns:=mtNs) (m:=800) hmA (fun β=>ok_of_maps (by kernel_rfl))
theorem m1_end2:mtH n (mCl q) 1 β0 w (m1C n P (mCl q) 2 false 2 n [.eqv 167 (.bool (decide ((n:Int)<(n:Int)))) (.bool false) (by rw [decide_eq_false (by omega)]),(sNum8 2).e,sWorks.e]) :=
 last_ok (Ns:=mtNs) (m:=800) hmA (fun β=>ok_of_maps (by kernel_rfl))
theorem m1_endM {m:Mp} (K:Int):mtH n m.C 1 β0 w (m1C n P m.C 2 true K n [.eqv 167 (.bool (decide ((n:Int)<(n:Int)))) (.bool false) (by rw [decide_eq_false (by omega)]),(sNum8 2).e,sWorks.e]) :=
 last_ok (Ns:=mtNs) (m:=800) hmA (fun β=>ok_of_maps (by kernel_rfl))
end
theorem m1_end0 {q:MQ} (P:Nat→Pp) (β0:Env) (w:World):mtH 0 (mCl q) 1 β0 w (m1C 0 P (mCl q) 0 false 0 0 [(sNum8 0).e,sWorks.e]) :=
 last_ok (Ns:=mtNs) (m:=800) hmA (fun β=>ok_of_maps (by kernel_rfl))
def FarA (M:List Lf) (r:Bool):Prop:=∀ (β:Env) (w:World),(Ob.box M MOB).holds β w (β 0)→Calls Tryz.prog 22 (([.one (.c (.b (.s 0 0 1 1)))]:List SV).map (SV.den β)).toArray w fun e w'=>e=.returned (.bool r)∧Below w.heap.size w w'
def sFarA {q:MQ} {r:Bool} (h:FarA (mCl q) r):BSpec Tryz.prog:=⟨22,Tryz.call22,[.one (.c (.b (.s 0 0 1 1)))],mCl q,MOB,.bool r,h,by kernel_rfl,fun _=>rfl⟩
def sFarB {m:Mp} {r:Bool} (h:FarA m.C r):BSpec Tryz.prog:=⟨22,Tryz.call22,[.one (.c (.b (.s 0 0 1 1)))],m.C,MOB,.bool r,h,by kernel_rfl,fun _=>rfl⟩
noncomputable def mtFar {m:Mp} (n:Nat) (P:Nat→Pp) (h:FarA m.C true):Spec Tryz.prog :=
 Spec.auto Tryz.call9 (mtA m.C n) [lpT n P] (tB' true) [] [(sFarB h).e,sWorks.e] [] 800 Tryz.func9 hmA (by kernel_rfl) (fun β=>by kernel_rfl)
noncomputable def mtOff {m:Mp} {n:Nat} {P:Nat→Pp} (h:FarA m.C false) (h2:MaOff n P true):Spec Tryz.prog :=
 Spec.auto Tryz.call9 (mtA m.C n) [lpT n P] (tB' true) [] [(sFarB h).e,(sMaOff h2).e,sWorks.e] [] 800 Tryz.func9 hmA (by kernel_rfl) (fun β=>by kernel_rfl)
noncomputable def mtLong {m:Mp} {n:Nat} {P:Nat→Pp} (h:FarA m.C false) (h2:MaOff n P false) (h3:12<n):Spec Tryz.prog :=
 Spec.auto Tryz.call9 (mtA m.C n) [lpT n P] (tB' true) [] [(sFarB h).e,(sMaOff h2).e,.eqv 35 (.bool (decide ((12:Int)<(n:Int)))) (.bool true) (by rw [decide_eq_true (by omega)]),sWorks.e] [] 800 Tryz.func9 hmA (by kernel_rfl) (fun β=>by kernel_rfl)
theorem mt_hL {n:Nat} {P:Nat→Pp} (hP:P n=ma77):lsP P n=lsX ma77.w.C:=by
 show lsX (P n).w.C=_
 rw [hP]
section
variable (n:Nat) (P:Nat→Pp) (β0:Env) (w:World)
noncomputable def mtS0 (hn:n≤12) (hw:MaOff n P false):List (Ev Tryz.prog):=[(sMaOff hw).e,.eqv 35 (.bool (decide ((12:Int)<(n:Int)))) (.bool false) (by rw [decide_eq_false (by omega)])]
noncomputable def mtS1 (hn:n≤12) (h0:0<n) (hP:P n=ma77):List (Ev Tryz.prog) :=
 [.app lpApp,eApL lpApp .row (n0:=0) (m:=n) (N:=n) (L:=lsP P) (L':=lsP P) rfl (Nat.zero_add n) (lpOrL P (by omega)) h0 (Nat.le_refl n) (fun i hi=>by rw [Nat.zero_add]),(sIn8 7 7).e,eAp1 lpApp .own (n0:=n) (L:=lsP P) (cs:=lsX ma77.w.C) trivial (lpOrL P (by omega)) (mt_hL hP) (fun β=>rfl),eSl tps_u tps_s (Nat.le_succ n) PTT (lsP P),eFrz]
noncomputable def mtS2 (P:Nat→Pp) (hP:P 0=ma77):List (Ev Tryz.prog) :=
 [.app lpApp,eAp0 lpApp .row rfl (N:=0) (L':=lsP P),(sIn8 7 7).e,eAp1 lpApp .row (n0:=0) (L:=lsP P) (cs:=lsX ma77.w.C) rfl (lpOrL P (by decide)) (mt_hL hP) (fun β=>rfl),eSl tps_u tps_s (Nat.le_succ 0) PTT (lsP P),eFrz]
section
variable {q:MQ} (hq:MayQ q) (hf:FarA (mCl q) false)
noncomputable def mtD:List (Ev Tryz.prog):=[(sMaDet hq).e,(sMaTr hq).e,(sMaPole hq).e]
include hq hf in
theorem mt_stT (hn:n≤12) (h0:0<n) (hw:MaOff n P false) (hP:P n=ma77) (h:∀ i,i<n→(P i).B=true) (hF:∀ i,i<n→FitP (maR q (P i))) (hh:(lpT n P).D w (β0 0)) (k:mtH n (mCl q) 0 β0 w (m0T n P q 0 [])) :
  Calls Tryz.prog 9 ((mtA (mCl q) n).map (SV.den β0)).toArray w (Said Tryz.prog mtF 1 (tB' true) [] β0 w) :=
 sx_cut (P:=Tryz.prog) (mtA (mCl q) n) [(lpT n P).ob] ((sFarA hf).e::mtS0 n P hn hw++mtD hq++mtS1 n P hn h0 hP++[mgOwn (N:=n+1) P hq (Nat.le_succ n) (by omega) h0 h hF,(sMgAll (N:=n+1) P hq (Nat.le_succ n) (by omega) h0 h hF).e,.cut]) [] [] 800 (tB' true) [] Tryz.func9 hmA (u:=1) (sl:=m0Sl n (gaK (mdet q)) (gaK (gadd q.a q.d)) (paK (maPole q)) (.one (.c (.b (.y 7 0 n)))) (.one (.c (.b (.y 8 0 n)))) 0 0)
  (ob:=m0Ob n P (mCl q) (lsX (gaC (mdet q))) (lsX (gaC (gadd q.a q.d))) (maPc (maPole q))++[wrO 9 PTT n (maL q P),(rwT 9 n (maL q P)).ob]) (σ:=[0,0,1,3,4,5,9,10,11]) (p':=lpAt mtF 0) (by kernel_rfl) (fun β=>ok_of_maps (by kernel_rfl)) (by kernel_rfl) (by kernel_rfl) β0 w (fun i o ho=>by
  cases i with
  | zero=>simp only [List.getElem?_cons_zero] at ho; obtain rfl:=Option.some.inj ho; exact hh
  | succ i=>simp at ho) k
include hq hf in
theorem mt_stU (hn:n≤12) (hw:MaOff n P false) (hP:P n=ma77) (h:∀ i,i<n→(P i).B=true) {i:Nat} (hi:i<n) (hF:¬ FitP (maR q (P i))) (hF2:∀ k,k<i→FitP (maR q (P k))) (hh:(lpT n P).D w (β0 0)) (k:mtH n (mCl q) 0 β0 w (m0Q n P q 4 0 [])) :
  Calls Tryz.prog 9 ((mtA (mCl q) n).map (SV.den β0)).toArray w (Said Tryz.prog mtF 1 (tB' true) [] β0 w) :=
 sx_cut (P:=Tryz.prog) (mtA (mCl q) n) [(lpT n P).ob] ((sFarA hf).e::mtS0 n P hn hw++mtD hq++mtS1 n P hn (Nat.lt_of_le_of_lt (Nat.zero_le i) hi) hP++[(sMgUnt (N:=n+1) P hq (Nat.le_succ n) (by omega) h hi hF hF2).e,(sMgUnt (N:=n+1) P hq (Nat.le_succ n) (by omega) h hi hF hF2).e,.cut]) [] [] 800 (tB' true) [] Tryz.func9 hmA (u:=1) (sl:=m0Sl n (gaK (mdet q)) (gaK (gadd q.a q.d)) (paK (maPole q)) maNil maNil 4 0)
  (ob:=m0Ob n P (mCl q) (lsX (gaC (mdet q))) (lsX (gaC (gadd q.a q.d))) (maPc (maPole q))) (σ:=[0,0,1,3,4,5,9]) (p':=lpAt mtF 0) (by kernel_rfl) (fun β=>ok_of_maps (by kernel_rfl)) (by kernel_rfl) (by kernel_rfl) β0 w (fun i o ho=>by
  cases i with
  | zero=>simp only [List.getElem?_cons_zero] at ho; obtain rfl:=Option.some.inj ho; exact hh
  | succ i=>simp at ho) k
include hq hf in
theorem mt_stN (hn:n≤12) (hw:MaOff n P false) (hP:P n=ma77) {i:Nat} (hi:i<n) (h:(P i).B=false) (h2:∀ k,k<i→(P k).B=true) (hh:(lpT n P).D w (β0 0)) (k:mtH n (mCl q) 0 β0 w (m0Q n P q 2 0 [])) :
  Calls Tryz.prog 9 ((mtA (mCl q) n).map (SV.den β0)).toArray w (Said Tryz.prog mtF 1 (tB' true) [] β0 w) :=
 sx_cut (P:=Tryz.prog) (mtA (mCl q) n) [(lpT n P).ob] ((sFarA hf).e::mtS0 n P hn hw++mtD hq++mtS1 n P hn (Nat.lt_of_le_of_lt (Nat.zero_le i) hi) hP++[(sMgNo (N:=n+1) P hq (Nat.le_succ n) (by omega) hi h h2).e,(sMgNo (N:=n+1) P hq (Nat.le_succ n) (by omega) hi h h2).e,.cut]) [] [] 800 (tB' true) [] Tryz.func9 hmA (u:=1) (sl:=m0Sl n (gaK (mdet q)) (gaK (gadd q.a q.d)) (paK (maPole q)) maNil maNil 2 0)
  (ob:=m0Ob n P (mCl q) (lsX (gaC (mdet q))) (lsX (gaC (gadd q.a q.d))) (maPc (maPole q))) (σ:=[0,0,1,3,4,5,9]) (p':=lpAt mtF 0) (by kernel_rfl) (fun β=>ok_of_maps (by kernel_rfl)) (by kernel_rfl) (by kernel_rfl) β0 w (fun i o ho=>by
  cases i with
  | zero=>simp only [List.getElem?_cons_zero] at ho; obtain rfl:=Option.some.inj ho; exact hh
  | succ i=>simp at ho) k
include hq hf in
theorem mt_st0 (hw:MaOff 0 P false) (hP:P 0=ma77) (hh:(lpT 0 P).D w (β0 0)) (k:mtH 0 (mCl q) 0 β0 w (m0Q 0 P q 0 0 [])) :
  Calls Tryz.prog 9 ((mtA (mCl q) 0).map (SV.den β0)).toArray w (Said Tryz.prog mtF 1 (tB' true) [] β0 w) :=
 sx_cut (P:=Tryz.prog) (mtA (mCl q) 0) [(lpT 0 P).ob] ((sFarA hf).e::mtS0 0 P (by decide) hw++mtD hq++mtS2 P hP++[(sMg0 (N:=1) P hq).e,(sMg0 (N:=1) P hq).e,.cut]) [] [] 800 (tB' true) [] Tryz.func9 hmA (u:=1) (sl:=m0Sl 0 (gaK (mdet q)) (gaK (gadd q.a q.d)) (paK (maPole q)) maNil maNil 0 0)
  (ob:=m0Ob 0 P (mCl q) (lsX (gaC (mdet q))) (lsX (gaC (gadd q.a q.d))) (maPc (maPole q))) (σ:=[0,0,1,3,4,5,8]) (p':=lpAt mtF 0) (by kernel_rfl) (fun β=>ok_of_maps (by kernel_rfl)) (by kernel_rfl) (by kernel_rfl) β0 w (fun i o ho=>by
  cases i with
  | zero=>simp only [List.getElem?_cons_zero] at ho; obtain rfl:=Option.some.inj ho; exact hh
  | succ i=>simp at ho) k
end
section
variable {m:Mp} {t:Bool} (ho:OpenNo m t) (hf:FarA m.C false)
noncomputable def mtDN:List (Ev Tryz.prog):=[(sMaDetNo ho).e,(sMaTrNo ho).e,(sMaPoleNo ho).e]
include ho hf in
theorem mt_stM (hn:n≤12) (h0:0<n) (hw:MaOff n P false) (hP:P n=ma77) (hh:(lpT n P).D w (β0 0)) (k:mtH n m.C 0 β0 w (m0M n P m.C 0 [])) :
  Calls Tryz.prog 9 ((mtA m.C n).map (SV.den β0)).toArray w (Said Tryz.prog mtF 1 (tB' true) [] β0 w) :=
 sx_cut (P:=Tryz.prog) (mtA m.C n) [(lpT n P).ob] ((sFarB hf).e::mtS0 n P hn hw++mtDN ho++mtS1 n P hn h0 hP++[(sMgMap (n:=n) (N:=n+1) P ho (by omega)).e,(sMgMap (n:=n) (N:=n+1) P ho (by omega)).e,.cut]) [] [] 800 (tB' true) [] Tryz.func9 hmA (u:=1) (sl:=m0Sl n 2 2 2 maNil maNil 2 0)
  (ob:=m0Ob n P m.C maN0 maN0 maQ0) (σ:=[0,0,1,3,4,5,9]) (p':=lpAt mtF 0) (by kernel_rfl) (fun β=>ok_of_maps (by kernel_rfl)) (by kernel_rfl) (by kernel_rfl) β0 w (fun i o ho=>by
  cases i with
  | zero=>simp only [List.getElem?_cons_zero] at ho; obtain rfl:=Option.some.inj ho; exact hh
  | succ i=>simp at ho) k
include ho hf in
theorem mt_stM0 (hw:MaOff 0 P false) (hP:P 0=ma77) (hh:(lpT 0 P).D w (β0 0)) (k:mtH 0 m.C 0 β0 w (m0M 0 P m.C 0 [])) :
  Calls Tryz.prog 9 ((mtA m.C 0).map (SV.den β0)).toArray w (Said Tryz.prog mtF 1 (tB' true) [] β0 w) :=
 sx_cut (P:=Tryz.prog) (mtA m.C 0) [(lpT 0 P).ob] ((sFarB hf).e::mtS0 0 P (by decide) hw++mtDN ho++mtS2 P hP++[(sMgMap (n:=0) (N:=1) P ho (by decide)).e,(sMgMap (n:=0) (N:=1) P ho (by decide)).e,.cut]) [] [] 800 (tB' true) [] Tryz.func9 hmA (u:=1) (sl:=m0Sl 0 2 2 2 maNil maNil 2 0)
  (ob:=m0Ob 0 P m.C maN0 maN0 maQ0) (σ:=[0,0,1,3,4,5,8]) (p':=lpAt mtF 0) (by kernel_rfl) (fun β=>ok_of_maps (by kernel_rfl)) (by kernel_rfl) (by kernel_rfl) β0 w (fun i o ho=>by
  cases i with
  | zero=>simp only [List.getElem?_cons_zero] at ho; obtain rfl:=Option.some.inj ho; exact hh
  | succ i=>simp at ho) k
end
end
end Go.Proofs.YtmfedaakeeiolaaGreat.Y
end
section
namespace Go.Proofs.YtmfedaakeeiolaaGreat.Y
open Go Go.RowKit
set_option maxRecDepth 100000
open Classical in
noncomputable def maCd (q:MQ) (P:Nat→Pp):Nat→Int
 | 0=>0
 | j+1=>if (P j).B=true then (if maCd q P j=0 then (if FitP (maR q (P j)) then 0 else 4) else maCd q P j) else 2
section
variable (q:MQ) (P:Nat→Pp)
theorem md_bad {j:Nat} (h:(P j).B=false):maCd q P (j+1)=2:=by
 unfold maCd
 rw [h]
 rfl
theorem md_more {j:Nat} (h:(P j).B=true) (h0:maCd q P j≠0):maCd q P (j+1)=maCd q P j:=by
 show (if (P j).B=true then (if maCd q P j=0 then _ else _) else _)=_
 rw [if_pos h,if_neg h0]
theorem md_fit {j:Nat} (h:(P j).B=true) (h0:maCd q P j=0) (hF:FitP (maR q (P j))):maCd q P (j+1)=0:=by
 show (if (P j).B=true then (if maCd q P j=0 then _ else _) else _)=_
 rw [if_pos h,if_pos h0,if_pos hF]
theorem md_unt {j:Nat} (h:(P j).B=true) (h0:maCd q P j=0) (hF:¬ FitP (maR q (P j))):maCd q P (j+1)=4:=by
 show (if (P j).B=true then (if maCd q P j=0 then _ else _) else _)=_
 rw [if_pos h,if_pos h0,if_neg hF]
theorem md_04:∀ j,(∀ i,i<j→(P i).B=true)→maCd q P j=0∨maCd q P j=4
 | 0,_=>.inl rfl
 | j+1,h=>by
  by_cases h0:maCd q P j=0
  · by_cases hF:FitP (maR q (P j))
    · exact .inl (md_fit q P (h j (by omega)) h0 hF)
    · exact .inr (md_unt q P (h j (by omega)) h0 hF)
  · rw [md_more q P (h j (by omega)) h0]
    exact md_04 j fun i hi=>h i (by omega)
theorem md_4:∀ j,(∀ i,i<j→(P i).B=true)→(∃ i,i<j∧¬ FitP (maR q (P i)))→maCd q P j=4
 | 0,_,h=>by obtain ⟨i,hi,_⟩:=h; exact absurd hi (Nat.not_lt_zero i)
 | j+1,h,hF=>by
  by_cases h0:maCd q P j=0
  · by_cases h1:FitP (maR q (P j))
    · exfalso
      obtain ⟨i,hi,hn⟩:=hF
      rcases Nat.lt_succ_iff_lt_or_eq.1 hi with h2 | rfl
      · have:=md_4 j (fun i hi=>h i (by omega)) ⟨i,h2,hn⟩
        rw [h0] at this
        cases this
      · exact hn h1
    · exact md_unt q P (h j (by omega)) h0 h1
  · rw [md_more q P (h j (by omega)) h0]
    exact (md_04 q P j fun i hi=>h i (by omega)).resolve_left h0
theorem md_2:∀ j,(∃ i,i<j∧(P i).B=false)→maCd q P j=2
 | 0,h=>by obtain ⟨i,hi,_⟩:=h; exact absurd hi (Nat.not_lt_zero i)
 | j+1,h=>by
  cases hb:(P j).B with
  | false=>exact md_bad q P hb
  | true =>
   have:maCd q P j=2:=md_2 j (by
    obtain ⟨i,hi,hn⟩:=h
    rcases Nat.lt_succ_iff_lt_or_eq.1 hi with h2 | rfl
    · exact ⟨i,h2,hn⟩
    · rw [hb] at hn; cases hn)
   rw [md_more q P hb (by rw [this]; decide),this]
end
theorem ma_w {j n:Nat} (hj:j≤n) (hn:n≤12):IntKind.i64.wrap ((j:Int)+1)=((j+1:Nat):Int):=by rw [IntKind.wrap_i64]; omega
section
variable (n:Nat) (P:Nat→Pp) (β0:Env) (w:World) (hn:n≤12)
include hn in
theorem m0_runM {m:Mp} (k:mtH n m.C 0 β0 w (m0M n P m.C n [])):∀ d j,j+d=n→mtH n m.C 0 β0 w (m0M n P m.C j [])
 | 0,j,e=>by
  obtain rfl:j=n:=by omega
  exact k
 | d+1,j,e=>hd_ev' (m0_stepM n P β0 w (by omega) (ma_w (n:=n) (by omega) hn) rfl (m0_runM k d (j+1) (by omega)))
include hn in
theorem m0_runQ {q:MQ} (E:Int) (k:mtH n (mCl q) 0 β0 w (m0Q n P q E n [])):∀ d j,j+d=n→mtH n (mCl q) 0 β0 w (m0Q n P q E j [])
 | 0,j,e=>by
  obtain rfl:j=n:=by omega
  exact k
 | d+1,j,e=>hd_ev' (m0_stepQ n P β0 w E (by omega) (ma_w (n:=n) (by omega) hn) rfl (m0_runQ E k d (j+1) (by omega)))
include hn in
theorem m0_runT {q:MQ} (k:mtH n (mCl q) 0 β0 w (m0T n P q n [])):∀ d j,j+d=n→mtH n (mCl q) 0 β0 w (m0T n P q j [])
 | 0,j,e=>by
  obtain rfl:j=n:=by omega
  exact k
 | d+1,j,e=>hd_ev' (m0_stepT n P β0 w (by omega) (ma_w (n:=n) (by omega) hn) rfl (m0_runT k d (j+1) (by omega)))
include hn in
theorem m1_runM {m:Mp} {t:Bool} (ho:OpenNo m t):∀ d j (K:Int),j+d=n→mtH n m.C 1 β0 w (m1C n P m.C 2 true K j [])
 | 0,j,K,e=>by
  obtain rfl:j=n:=by omega
  exact hd_ev' (m1_endM j P β0 w K)
 | d+1,j,K,e=>hd_ev' (m1_map n P β0 w ho K (by omega) (ma_w (n:=n) (by omega) hn) rfl (m1_runM ho d (j+1) 2 (by omega)))
include hn in
theorem m1_run {q:MQ} (hq:MayQ q) {E:Int} (hE:E≠0) (k:mtH n (mCl q) 1 β0 w (m1C n P (mCl q) E false (maCd q P n) n [])):∀ d j,j+d=n→mtH n (mCl q) 1 β0 w (m1C n P (mCl q) E false (maCd q P j) j [])
 | 0,j,e=>by
  obtain rfl:j=n:=by omega
  exact k
 | d+1,j,e=>by
  have ih:=m1_run hq hE k d (j+1) (by omega)
  cases hb:(P j).B with
  | false =>
   rw [md_bad q P hb] at ih
   exact hd_ev' (m1_bad n P β0 w hq E (maCd q P j) (by omega) hb (ma_w (n:=n) (by omega) hn) rfl ih)
  | true =>
   by_cases h0:maCd q P j=0
   · by_cases hF:FitP (maR q (P j))
     · rw [md_fit q P hb h0 hF] at ih
       rw [h0]
       exact hd_ev' (m1_fit n P β0 w hq hE (by omega) hb hF (ma_w (n:=n) (by omega) hn) rfl ih)
     · rw [md_unt q P hb h0 hF] at ih
       rw [h0]
       exact hd_ev' (m1_unt n P β0 w hq hE (by omega) hb hF (ma_w (n:=n) (by omega) hn) rfl ih)
   · rw [md_more q P hb h0] at ih
     exact hd_ev' (m1_more n P β0 w hq hE h0 (by omega) hb (ma_w (n:=n) (by omega) hn) rfl ih)
include hn in
theorem m3_run {q:MQ} (hq:MayQ q) (h:∀ i,i<n→(P i).B=true):∀ d j,j+d=n→mtH n (mCl q) 3 β0 w (m3T n P q j [])
 | 0,j,e=>by
  obtain rfl:j=n:=by omega
  exact hd_ev' (m3_end j P β0 w)
 | d+1,j,e=>hd_ev' (m3_step n P β0 w hq (by omega) (h j (by omega)) (ma_w (n:=n) (by omega) hn) rfl (m3_run hq h d (j+1) (by omega)))
include hn in
theorem m2_run {q:MQ} (k:mtH n (mCl q) 3 β0 w (m3T n P q 0 [])):∀ d j,j+d=n→mtH n (mCl q) 2 β0 w (m2T n P q j [])
 | 0,j,e=>by
  obtain rfl:j=n:=by omega
  exact hd_ev' (m2_end j P β0 w k)
 | d+1,j,e=>hd_ev' (m2_step n P β0 w (by omega) (ma_w (n:=n) (by omega) hn) rfl (m2_run k d (j+1) (by omega)))
include hn in
theorem m1_runT {q:MQ} (hq:MayQ q) (h:∀ i,i<n→(P i).B=true) (hF:∀ i,i<n→FitP (maR q (P i))) (k:mtH n (mCl q) 2 β0 w (m2T n P q 0 [])):∀ d j,j+d=n→mtH n (mCl q) 1 β0 w (m1T n P q j [])
 | 0,j,e=>by
  obtain rfl:j=n:=by omega
  exact hd_ev' (m1_end j P β0 w k)
 | d+1,j,e=>hd_ev' (m1_told n P β0 w hq (by omega) (h j (by omega)) (hF j (by omega)) (ma_w (n:=n) (by omega) hn) rfl (m1_runT hq h hF k d (j+1) (by omega)))
end
theorem mt_walk (x0 y0 x1 y1 x2 y2 x3 y3:R4) (t:Bool) (h0:r4k x0) (k0:r4k y0) (h1:r4k x1) (k1:r4k y1) (h2:r4k x2) (k2:r4k y2) (h3:r4k x3) (k3:r4k y3) (n:Nat) (hn63:n≤maxLen) (P:Nat→Pp) (hP:P n=ma77) (β0:Env) (w:World) (hh:(lpT n P).D w (β0 0)) :
  Calls Tryz.prog 9 ((mtA (maM x0 y0 x1 y1 x2 y2 x3 y3 t) n).map (SV.den β0)).toArray w fun e w'=>e=.returned (.bool true)∧Below w.heap.size w w':=by
 have hfar:∃ r,FarA (maM x0 y0 x1 y1 x2 y2 x3 y3 t) r:=by
  obtain ⟨a,rfl,rfl⟩:=gn_of x0 y0 h0 k0
  obtain ⟨b,rfl,rfl⟩:=gn_of x1 y1 h1 k1
  obtain ⟨c,rfl,rfl⟩:=gn_of x2 y2 h2 k2
  obtain ⟨d,rfl,rfl⟩:=gn_of x3 y3 h3 k3
  obtain ⟨r,h⟩:=Lg4.all a b c d
  exact ⟨r,maFar_ok a b c d t h⟩
 obtain ⟨m,hmC,hmap⟩:=map_all x0 y0 x1 y1 x2 y2 x3 y3 t h0 k0 h1 k1 h2 k2 h3 k3
 rw [← hmC] at hfar ⊢
 have fin:∀ {e w'},Said Tryz.prog mtF 1 (tB' true) [] β0 w e w'→e=.returned (.bool true)∧Below w.heap.size w w':=fun {e w'} h=>by
  obtain ⟨β',q,obj,_,rfl,_,_,_,g⟩:=h
  exact ⟨rfl,g.bel⟩
 have fin2:∀ (S:Spec Tryz.prog),S.f=9→S.args=mtA m.C n→S.obs=[lpT n P]→S.res=tB' true→Calls Tryz.prog 9 ((mtA m.C n).map (SV.den β0)).toArray w fun e w'=>e=.returned (.bool true)∧Below w.heap.size w w':=fun S h1 h2 h3 h4=>by
  have:=S.ok β0 w (fun k t ht=>by
   rw [h3] at ht
   match k,ht with
   | 0,ht=>obtain rfl:=Option.some.inj ht; exact hh
   | k+1,ht=>cases ht)
  rw [h1,h2] at this
  refine this.mono fun e w' ⟨xs,_,he,_,hb⟩=>⟨?_,hb⟩
  rw [he,h4]
  rfl
 obtain ⟨r1,hf⟩:=hfar
 cases r1 with
 | true=>exact fin2 (mtFar n P hf) rfl rfl rfl rfl
 | false =>
 obtain ⟨r2,hw⟩:=off_all P hn63
 cases r2 with
 | true=>exact fin2 (mtOff hf hw) rfl rfl rfl rfl
 | false =>
 by_cases hn:n≤12
 · clear fin2
   rcases hmap with ⟨q,hq,e⟩ | ⟨⟨u,ho⟩,hk⟩
   · rw [e] at hf ⊢
     by_cases hB:∃ i,i<n∧(!(P i).B)=true
     · obtain ⟨i,i1,i2,i3⟩:=ma_first hB
       have i2:(P i).B=false:=by rw [Bool.not_eq_true'] at i2; exact i2
       have i3:∀ k,k<i→(P k).B=true:=fun k hk=>by have:=i3 k hk; rw [Bool.not_eq_false'] at this; exact this
       refine (mt_stN n P β0 w hq hf hn hw hP i1 i2 i3 hh ?_).mono fun e w' h=>fin h
       refine m0_runQ n P β0 w hn 2 (hd_ev' (m0_midQ n P β0 w hq 2 hP (ma_w (Nat.le_refl n) hn) rfl ?_)) n 0 (by omega)
       refine m1_run n P β0 w hn hq (E:=2) (by decide) ?_ n 0 (by omega)
       rw [md_2 q P n ⟨i,i1,i2⟩]
       exact hd_ev' (m1_end2 n P β0 w)
     · have hA:∀ i,i<n→(P i).B=true:=fun i hi=>by
        cases hb:(P i).B with
        | true=>rfl
        | false=>exact absurd ⟨i,hi,by rw [hb]; rfl⟩ hB
       by_cases hF:∀ i,i<n→FitP (maR q (P i))
       · rcases Nat.eq_zero_or_pos n with rfl | hp
         · exact (mt_st0 P β0 w hq hf hw hP hh (hd_ev' (m0_midQ 0 P β0 w hq 0 hP (ma_w (Nat.le_refl 0) hn) rfl (hd_ev' (m1_end0 P β0 w))))).mono fun e w' h=>fin h
         · refine (mt_stT n P β0 w hq hf hn hp hw hP hA hF hh ?_).mono fun e w' h=>fin h
           refine m0_runT n P β0 w hn (hd_ev' (m0_midT n P β0 w hq hP (ma_w (Nat.le_refl n) hn) rfl ?_)) n 0 (by omega)
           exact m1_runT n P β0 w hn hq hA hF (m2_run n P β0 w hn (m3_run n P β0 w hn hq hA n 0 (by omega)) n 0 (by omega)) n 0 (by omega)
       · have hx:∃ i,i<n∧(@decide (¬ FitP (maR q (P i))) (Classical.propDecidable _))=true:=by
          refine Classical.byContradiction fun hc=>hF fun i hi=>Classical.byContradiction fun hn=>hc ⟨i,hi,?_⟩
          exact @decide_eq_true _ (Classical.propDecidable _) hn
         obtain ⟨i,i1,i2,i3⟩:=ma_first hx
         have i2:¬ FitP (maR q (P i)):=@of_decide_eq_true _ (Classical.propDecidable _) i2
         have i3:∀ k,k<i→FitP (maR q (P k)):=fun k hk=>Classical.byContradiction fun hn=>(@of_decide_eq_false _ (Classical.propDecidable _) (i3 k hk)) hn
         refine (mt_stU n P β0 w hq hf hn hw hP hA i1 i2 i3 hh ?_).mono fun e w' h=>fin h
         refine m0_runQ n P β0 w hn 4 (hd_ev' (m0_midQ n P β0 w hq 4 hP (ma_w (Nat.le_refl n) hn) rfl ?_)) n 0 (by omega)
         refine m1_run n P β0 w hn hq (E:=4) (by decide) ?_ n 0 (by omega)
         rw [md_4 q P n hA ⟨i,i1,i2⟩]
         exact hd_ev' (m1_end4 n P β0 w)
   · have kk:mtH n m.C 0 β0 w (m0M n P m.C n []):=hd_ev' (m0_midM n P β0 w ho hk hP (ma_w (Nat.le_refl n) hn) rfl (m1_runM n P β0 w hn ho n 0 0 (by omega)))
     rcases Nat.eq_zero_or_pos n with rfl | hp
     · exact (mt_stM0 P β0 w ho hf hw hP hh kk).mono fun e w' h=>fin h
     · exact (mt_stM n P β0 w ho hf hn hp hw hP hh (m0_runM n P β0 w hn kk n 0 (by omega))).mono fun e w' h=>fin h
 · exact fin2 (mtLong hf hw (by omega)) rfl rfl rfl rfl
theorem RwD.congr {sz n:Nat} {L L':Nat→List Lf} {w:World} {g:Pl} (h:RwD sz n L w g) (e:∀ j,j<n→L j=L' j):RwD sz n L' w g:=by
 rcases h with h | ⟨h0,b,o,cs,t,fr,h1,h2,h3,h4⟩
 · exact .inl h
 · exact .inr ⟨h0,b,o,cs,t,fr,h1,h2,h3,fun j hj=>by rw [← e j hj]; exact h4 j hj⟩
end Go.Proofs.YtmfedaakeeiolaaGreat.Y
namespace Go.Proofs.YtmfedaakeeiolaaGreat
open Go.Proofs.YtmfedaakeeiolaaGreat.Y Go Go.RowKit
theorem MobAt_walk (x0 y0 x1 y1 x2 y2 x3 y3:R4) (t:Bool) (g:Y.Pl) (n:Nat) (Q:Nat→Pp) (W:World) (h0:Y.r4k x0) (k0:Y.r4k y0) (h1:Y.r4k x1) (k1:Y.r4k y1) (h2:Y.r4k x2) (k2:Y.r4k y2) (h3:Y.r4k x3) (k3:Y.r4k y3) (hn:n≤maxLen) (hr:Y.RwD 9 n (fun j=>Y.lsX (Q j).w.C) W g) :
  Calls Tryz.prog 9 #[.agg (x0.V++y0.V++x1.V++y1.V++x2.V++y2.V++x3.V++y3.V++[Value.bool t]).toArray,.slice (g.v 0) n (g.c 0)] W fun e W'=>e=.returned (.bool true)∧Below W.heap.size W W':=by
 have h:=Y.mt_walk x0 y0 x1 y1 x2 y2 x3 y3 t h0 k0 h1 k1 h2 k2 h3 k3 n hn (fun j=>if j<n then Q j else Y.ma77) (if_neg (Nat.lt_irrefl n)) (fun _=>g) W (hr.congr fun j hj=>by
  show _=Y.lsX (if j<n then Q j else Y.ma77).w.C
  rw [if_pos hj])
 exact h
end Go.Proofs.YtmfedaakeeiolaaGreat
end
section
namespace Go.Proofs.YtmfedaakeeiolaaGreat
open Go.ChangeShapes Go.WideShapes Go.ChangeAt Go.RowKit
theorem cellsOf_bool:Tryz.prog.cellsOf 4=1:=by kernel_rfl
theorem cellsOf_string:Tryz.prog.cellsOf 9=1:=by kernel_rfl
theorem cellsOf_whole:Tryz.prog.cellsOf 23=2:=by kernel_rfl
theorem cellsOf_frac:Tryz.prog.cellsOf 25=4:=by kernel_rfl
section
variable {H:Type} {enc:TypeId × Value→H} {w:World} {base:Nat} {spare:Nat→Bool} {held:Bool}
set_option maxRecDepth 100000 in
theorem trod_whole {fuel:Nat} {cs:List Value} {x:DataW H × List MemPlace} (h:DataW.trod enc Tryz.prog w base spare held fuel 23 cs=some x) :
  ∃ (b:Bool) (s:ByteArray),cs=[.bool b,.string s]∧s.size≤maxLen:=by
 obtain ⟨xs,n,rfl,_,hlen,hxl,hf⟩:=DataW.trod_struct Tryz.underlying23 h
 rw [cellsOf_whole] at hlen
 have hx0:xs[0]?=some (xs[0]'(by rw [hxl]; decide)):=List.getElem?_eq_getElem _
 have hx1:xs[1]?=some (xs[1]'(by rw [hxl]; decide)):=List.getElem?_eq_getElem _
 have h0:DataW.trod enc Tryz.prog w base spare held n 4 ((cs.drop 0).take (Tryz.prog.cellsOf 4))=some _:=(hf 0 _ rfl).trans hx0
 have h1:DataW.trod enc Tryz.prog w base spare held n 9 ((cs.drop 1).take (Tryz.prog.cellsOf 9))=some _:=(hf 1 _ rfl).trans hx1
 rw [cellsOf_bool] at h0
 rw [cellsOf_string] at h1
 match cs,hlen with
 | [a,b],_ =>
  obtain ⟨p,e0,_⟩:=DataW.trod_bool Tryz.underlying4 h0
  obtain ⟨s,e1,_,hs⟩:=DataW.trod_string Tryz.underlying9 h1
  cases e0
  cases e1
  exact ⟨p,s,rfl,hs⟩
set_option maxRecDepth 100000 in
theorem trod_frac {fuel:Nat} {cs:List Value} {x:DataW H × List MemPlace} (h:DataW.trod enc Tryz.prog w base spare held fuel 25 cs=some x) :
  ∃ (b c:Bool) (s t:ByteArray),cs=[.bool b,.string s,.bool c,.string t]∧s.size≤maxLen∧t.size≤maxLen:=by
 obtain ⟨xs,n,rfl,_,hlen,hxl,hf⟩:=DataW.trod_struct Tryz.underlying25 h
 rw [cellsOf_frac] at hlen
 have hx0:xs[0]?=some (xs[0]'(by rw [hxl]; decide)):=List.getElem?_eq_getElem _
 have hx1:xs[1]?=some (xs[1]'(by rw [hxl]; decide)):=List.getElem?_eq_getElem _
 have h0:DataW.trod enc Tryz.prog w base spare held n 23 ((cs.drop 0).take (Tryz.prog.cellsOf 23))=some _:=(hf 0 _ rfl).trans hx0
 have h1:DataW.trod enc Tryz.prog w base spare held n 23 ((cs.drop 2).take (Tryz.prog.cellsOf 23))=some _:=(hf 1 _ rfl).trans hx1
 rw [cellsOf_whole] at h0 h1
 match cs,hlen with
 | [a,b,c,d],_ =>
  obtain ⟨p,s,e0,hs⟩:=trod_whole h0
  obtain ⟨q,t,e1,ht⟩:=trod_whole h1
  cases e0
  cases e1
  exact ⟨p,q,s,t,rfl,hs,ht⟩
end
end Go.Proofs.YtmfedaakeeiolaaGreat
end
