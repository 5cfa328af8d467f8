/- RoL, RoS, RoJ, Open, OpnB, OpnL, OpnD, OpnU. -/
import Derived.ProofKit
import Derived.OpenShut
import Derived.ShutString
import Derived.ChangeOld
import Derived.Below
import Derived.Deep.Slices
import Derived.Test.YtbepimnlleilfaaGreatJk13
set_option linter.unnecessarySimpa false
set_option linter.unusedVariables false
set_option linter.unusedSimpArgs false
section
namespace Go.Proofs.YtbepimnlleilfaaGreat.Y
open Go Go.RowKit
set_option maxRecDepth 100000
theorem mob_some:(Tryz.prog.info? MOB).isSome=true:=by kernel_rfl
noncomputable def appMo:AppT Tryz.prog :=
 ⟨TMs,MOB,(Tryz.prog.info? MOB).get mob_some,.agg #[.bool false,.string ⟨#[]⟩,.bool false,.string ⟨#[]⟩,.bool false,.string ⟨#[]⟩,.bool false,.string ⟨#[]⟩,.bool false,.string ⟨#[]⟩,.bool false,.string ⟨#[]⟩,.bool false,.string ⟨#[]⟩,.bool false,.string ⟨#[]⟩,.bool false,.string ⟨#[]⟩,.bool false,.string ⟨#[]⟩,.bool false,.string ⟨#[]⟩,.bool false,.string ⟨#[]⟩,.bool false,.string ⟨#[]⟩,.bool false,.string ⟨#[]⟩,.bool false,.string ⟨#[]⟩,.bool false,.string ⟨#[]⟩,.bool false],33,392,Tryz.underlying74,(Option.some_get mob_some).symm,by kernel_rfl,by kernel_rfl,by kernel_rfl,rfl,by decide,by decide⟩
theorem rl_one {x:R4} {l:List Lf} (h:∀ u∈l.map (Lf.den idE),u.oneCell'=true):∀ u∈(rL x++l).map (Lf.den idE),u.oneCell'=true:=fun u hu=>by
 rw [List.map_append,List.mem_append] at hu
 rcases hu with hu | hu
 · have e:(rL x).map (Lf.den idE)=[.bool x.b,.string x.s,.bool x.c,.string x.t]:=rfl
   rw [e] at hu
   simp only [List.mem_cons,List.not_mem_nil,or_false] at hu
   rcases hu with rfl | rfl | rfl | rfl<;>rfl
 · exact h u hu
theorem moOne (p:Mo):∀ u∈(moL p).map (Lf.den idE),u.oneCell'=true:=by
 have e0:moL p=rL p.a.x++(rL p.a.y++(rL p.b.x++(rL p.b.y++(rL p.c.x++(rL p.c.y++(rL p.d.x++(rL p.d.y++[.b (.v (.bool p.t))]))))))):=by simp only [moL,mgL,List.append_assoc]
 rw [e0]
 refine rl_one (rl_one (rl_one (rl_one (rl_one (rl_one (rl_one (rl_one fun u hu=>?_)))))))
 have hu:u∈[Value.bool p.t]:=hu
 rw [List.mem_singleton.1 hu]
 rfl
theorem moOrL (C:Nat→Mo) {n:Nat} (hn:n≤1000):OrL appMo (moR C) n :=
 ⟨fun j _=>rfl,fun j _ u hu=>moOne (C j) u hu,Nat.le_trans hn (by decide),Nat.le_trans (Nat.mul_le_mul_right _ hn) (by show 1000*392≤_; decide)⟩
abbrev u77L:List Lf:=rL (fR (gint 7 7).re)++rL (fR (gint 7 7).im)++rL r40++rL r40++rL r40++rL r40++rL r40++rL r40++[.b (.v (.bool false))]
def U77 (p:Mo):Prop:=p.a.x=fR (gint 7 7).re∧p.a.y=fR (gint 7 7).im∧moL p=u77L
theorem u77_ex:∃ p:Mo,U77 p:=by
 obtain ⟨z,h1,h2⟩:=gn_of r40 r40 ⟨Nat.zero_le _,Nat.zero_le _⟩ ⟨Nat.zero_le _,Nat.zero_le _⟩
 refine ⟨⟨.ok (gint 7 7) (fit_int (by decide) (by decide)),z,z,z,false⟩,rfl,rfl,?_⟩
 show rL (Gn.x (.ok (gint 7 7) (fit_int (by decide) (by decide))))++rL (Gn.y (.ok (gint 7 7) (fit_int (by decide) (by decide))))++rL z.x++rL z.y++rL z.x++rL z.y++rL z.x++rL z.y++[Lf.b (.v (.bool false))]=_
 rw [h1,h2]
 rfl
noncomputable def sMoInv (p:Mo) (h:p.B=true):Spec Tryz.prog:=(sInv (moQ_ok h).1).as [.one (.a (moL p))] (.tup [.a (maC (minv (moQ p))),nI' (maK (minv (moQ p)))]) (by
 show [SV.one (.a (mCl (moQ p)))]=_
 rw [← (moQ_ok h).2]) rfl
noncomputable def sMoInvNo (p:Mo) (h:p.B=false):Spec Tryz.prog :=
 ⟨41,Tryz.call41,[.one (.a (moL p))],[],mpRN 2,[],fun β w hh=>by
  obtain ⟨m,u,ho,_,e⟩:=mo_no h
  rw [e]
  exact (sInvNo ho).ok β w hh,by kernel_rfl⟩
noncomputable def sMoRInv (p:Mo) (h:p.B=true):Spec Tryz.prog:=(sR8Inv (m:=moQ p) ((fitM_sz (moQ_ok h).1.1).mono (by decide)) (minv_reg (moQ_ok h).1.reg)).as [.one (.a (moL p))] (svM (minv (moQ p))) (by
 show [SV.one (.a (mCl (moQ p)))]=_
 rw [← (moQ_ok h).2]) rfl
structure R9 where
 x0:R4
 y0:R4
 x1:R4
 y1:R4
 x2:R4
 y2:R4
 x3:R4
 y3:R4
 t:Bool
abbrev r9L (p:R9):List Lf:=maM p.x0 p.y0 p.x1 p.y1 p.x2 p.y2 p.x3 p.y3 p.t
abbrev r9o:R9:=⟨r40,r40,r40,r40,r40,r40,r40,r40,false⟩
abbrev r9q (q:MQ):R9:=⟨fR q.a.re,fR q.a.im,fR q.b.re,fR q.b.im,fR q.c.re,fR q.c.im,fR q.d.re,fR q.d.im,q.t⟩
noncomputable abbrev roF:Func:=Tryz.f7
abbrev roNs:List (Nat × Nat):=[(10,9),(16,9),(18,12)]
section
variable (n:Nat) (C:Nat→Mo)
noncomputable abbrev roN (n:Nat):Nat:=sizeS roF (coA n)
abbrev roSl (E:Int) (bad:Bool) (j:Nat):List (Nat × SV):=[(0,moS n),(3,.one (.c (.b (.y 3 0 n)))),(4,.one (.c (.b (.p 2 0)))),(5,.one (nI' E)),(6,tB' bad),(7,.one (nI' (j:Int)))]
noncomputable abbrev roOb (M:R9):List Ob:=[(moT n C).ob,.dead,.box (r9L M) MOB,(orT 33 MOB (n+1) (moR C)).ob]
noncomputable abbrev roC (M:R9) (E:Int) (bad:Bool) (j:Nat) (ev:List (Ev Tryz.prog)):Cf Tryz.prog:=mkC Tryz.prog (roN n) 1 (roSl n E bad j) (roOb n C M) ev
abbrev roH (n:Nat) (β0:Env) (w:World) (c:Cf Tryz.prog):Prop:=HdOk Tryz.prog 1 (roN n) w.heap.size w β0 (bodyPost Tryz.prog roF (Said Tryz.prog roF 1 (tB' true) [] β0 w)) c (lpAt roF 0)
variable (M:R9) (E:Int) (β0:Env) (w:World) {j:Nat}
noncomputable def roLt (hj:j<n):Ev Tryz.prog:=.eqv 38 (.bool (decide ((j:Int)<(n:Int)))) (.bool true) (by rw [decide_eq_true (by omega)])
noncomputable def roLd (hj:j<n):List (Ev Tryz.prog):=[moIx C hj (Nat.le_refl n),moLd C hj]
noncomputable def roOwn (hj:j<n):List (Ev Tryz.prog):=[moIx (N:=n+1) C hj (Nat.le_succ n),moLd (n:=n+1) C (Nat.lt_succ_of_lt hj)]++roLd n C hj++[eqEvM (C j).a.x (C j).a.y (C j).b.x (C j).b.y (C j).c.x (C j).c.y (C j).d.x (C j).d.y (C j).t]
noncomputable def roY (hj:j<n) (h:(C j).B=true):List (Ev Tryz.prog):=roOwn n C hj++roLd n C hj++[(sMoInv (C j) h).e]++roLd n C hj++[(sMoRk (C j) h).e]++roLd n C hj++[(sMoRInv (C j) h).e,(sIs8 (minv (moQ (C j)))).e]
noncomputable def roNo (hj:j<n) (h:(C j).B=false):List (Ev Tryz.prog):=roOwn n C hj++roLd n C hj++[(sMoInvNo (C j) h).e]++roLd n C hj++[(sMoRk (C j) h).e,eqM0,(sNum8 2).e]
noncomputable def roEn (j:Nat) {j2:Int} (hj2:IntKind.i64.wrap ((j:Int)+1)=j2) (e2:j2=((j+1:Nat):Int)):List (Ev Tryz.prog):=[.eqv 40 (.int .i64 (IntKind.i64.wrap ((j:Int)+1))) (.int .i64 ((j+1:Nat):Int)) (by rw [hj2,e2]),.cut]
theorem ro_ff (hj:j<n) (h:(C j).B=true) {j2:Int} (hj2:IntKind.i64.wrap ((j:Int)+1)=j2) (e2:j2=((j+1:Nat):Int)) (k:roH n β0 w (roC n C M E false (j+1) [])) :
  roH n β0 w (roC n C M E false j (roLt n hj::roLd n C hj++[(sMoRk (C j) h).e]++roY n C hj h++roEn j hj2 e2)) :=
 piece_ok (Ns:=roNs) (m:=1200) [] [0,0,2,3] hmA (by kernel_rfl) (fun β=>ok_of_maps (by kernel_rfl)) k
theorem ro_ft (hj:j<n) (h:(C j).B=false) {j2:Int} (hj2:IntKind.i64.wrap ((j:Int)+1)=j2) (e2:j2=((j+1:Nat):Int)) (k:roH n β0 w (roC n C M E true (j+1) [])) :
  roH n β0 w (roC n C M E false j (roLt n hj::roLd n C hj++[(sMoRk (C j) h).e]++roNo n C hj h++roEn j hj2 e2)) :=
 piece_ok (Ns:=roNs) (m:=1200) [] [0,0,2,3] hmA (by kernel_rfl) (fun β=>ok_of_maps (by kernel_rfl)) k
theorem ro_tt (hj:j<n) (h:(C j).B=true) {j2:Int} (hj2:IntKind.i64.wrap ((j:Int)+1)=j2) (e2:j2=((j+1:Nat):Int)) (k:roH n β0 w (roC n C M E true (j+1) [])) :
  roH n β0 w (roC n C M E true j (roLt n hj::roY n C hj h++roEn j hj2 e2)) :=
 piece_ok (Ns:=roNs) (m:=1200) [] [0,0,2,3] hmA (by kernel_rfl) (fun β=>ok_of_maps (by kernel_rfl)) k
theorem ro_tn (hj:j<n) (h:(C j).B=false) {j2:Int} (hj2:IntKind.i64.wrap ((j:Int)+1)=j2) (e2:j2=((j+1:Nat):Int)) (k:roH n β0 w (roC n C M E true (j+1) [])) :
  roH n β0 w (roC n C M E true j (roLt n hj::roNo n C hj h++roEn j hj2 e2)) :=
 piece_ok (Ns:=roNs) (m:=1200) [] [0,0,2,3] hmA (by kernel_rfl) (fun β=>ok_of_maps (by kernel_rfl)) k
noncomputable def roEd (hC:U77 (C n)) {n2:Int} (hn2:IntKind.i64.wrap ((n:Int)+1)=n2) (e2:n2=((n+1:Nat):Int)):List (Ev Tryz.prog) :=
 [.eqv 38 (.bool (decide ((n:Int)<(n:Int)))) (.bool false) (by rw [decide_eq_false (by omega)]),.eqv 93 (.int .i64 (IntKind.i64.wrap ((n:Int)+1))) (.int .i64 ((n+1:Nat):Int)) (by rw [hn2,e2]),eSlG tms_u tms_s (N:=n+1) (l:=n) (n:=n+1) (Nat.le_refl _) MOB (moR C),moIx (n:=n+1) (N:=n+1) (j:=n) C (Nat.lt_succ_self n) (Nat.le_refl _),moFa (n:=n+1) (j:=n) C (Nat.lt_succ_self n),moPa (n:=n+1) (j:=n) C (Nat.lt_succ_self n),
  (sIn8 7 7).e,eqEvG (C n).a.x (C n).a.y (fR (gint 7 7).re) (fR (gint 7 7).im) true (by rw [hC.1,hC.2.1]; exact geq_self _ _)]
theorem ro_endB (hC:U77 (C n)) {n2:Int} (hn2:IntKind.i64.wrap ((n:Int)+1)=n2) (e2:n2=((n+1:Nat):Int)):roH n β0 w (roC n C r9o 2 true n (roEd n C hC hn2 e2++[eqM0,(sNum8 2).e,sWorks.e])) :=
 last_ok (Ns:=roNs) (m:=1200) hmA (fun β=>ok_of_maps (by kernel_rfl))
section
variable (h:∀ i,i<n→(C i).B=true) (hn:n≤4096)
theorem ro_endY (hF:MrFit (coQ C) n n) (hC:U77 (C n)) {n2:Int} (hn2:IntKind.i64.wrap ((n:Int)+1)=n2) (e2:n2=((n+1:Nat):Int)):roH n β0 w (roC n C (r9q (coX C n n)) 0 false n (roEd n C hC hn2 e2++[(sRRowY C h hn hF).e,(sPpIs (hF n (Nat.le_refl n))).e,sWorks.e])) :=
 last_ok (Ns:=roNs) (m:=1200) hmA (fun β=>ok_of_maps (by kernel_rfl))
theorem ro_endN {i:Nat} (hi:i<n) (hF:MrFit (coQ C) n i) (hF2:¬ FitM (coX C n (i+1))) (hC:U77 (C n)) {n2:Int} (hn2:IntKind.i64.wrap ((n:Int)+1)=n2) (e2:n2=((n+1:Nat):Int)):roH n β0 w (roC n C r9o 4 false n (roEd n C hC hn2 e2++[(sRRowN C h hn hi hF hF2).e,sPpBig.e,sWorks.e])) :=
 last_ok (Ns:=roNs) (m:=1200) hmA (fun β=>ok_of_maps (by kernel_rfl))
end
end
noncomputable def roFar {n:Nat} {C:Nat→Mo} (h:MoFar n C true):Spec Tryz.prog :=
 Spec.auto Tryz.call7 (coA n) [moT n C] (tB' true) [] [(sMoFar h).e,sWorks.e] [] 800 Tryz.func7 hmA (by kernel_rfl) (fun β=>by kernel_rfl)
noncomputable def roLong {n:Nat} {C:Nat→Mo} (h:MoFar n C false) (h3:10<n):Spec Tryz.prog :=
 Spec.auto Tryz.call7 (coA n) [moT n C] (tB' true) [] [(sMoFar h).e,.eqv 17 (.bool (decide ((10:Int)<(n:Int)))) (.bool true) (by rw [decide_eq_true (by omega)]),sWorks.e] [] 800 Tryz.func7 hmA (by kernel_rfl) (fun β=>by kernel_rfl)
section
variable (n:Nat) (C:Nat→Mo) (β0:Env) (w:World) (hf:MoFar n C false) (hC:U77 (C n))
noncomputable def roS0 (hn:n≤10):List (Ev Tryz.prog):=[(sMoFar hf).e,.eqv 17 (.bool (decide ((10:Int)<(n:Int)))) (.bool false) (by rw [decide_eq_false (by omega)]),.app appMo]
noncomputable def roS1 (hn:n≤10) (h0:0<n):List (Ev Tryz.prog) :=
 [eApL appMo .row (n0:=0) (m:=n) (N:=n) (L:=moR C) (L':=moR C) rfl (Nat.zero_add n) (moOrL C (by omega)) h0 (Nat.le_refl n) (fun i hi=>by rw [Nat.zero_add]),(sIn8 7 7).e,eAp1 appMo .own (n0:=n) (L:=moR C) (cs:=u77L) trivial (moOrL C (by omega)) hC.2.2 (fun β=>rfl),eSl tms_u tms_s (Nat.le_succ n) MOB (moR C),eFrz]
noncomputable def roS2 (C:Nat→Mo) (hC:U77 (C 0)):List (Ev Tryz.prog) :=
 [eAp0 appMo .row rfl (N:=0) (L':=moR C),(sIn8 7 7).e,eAp1 appMo .row (n0:=0) (L:=moR C) (cs:=u77L) rfl (moOrL C (by decide)) hC.2.2 (fun β=>rfl),eSl tms_u tms_s (Nat.le_succ 0) MOB (moR C),eFrz]
include hf hC in
theorem ro_stY (hn:n≤10) (h0:0<n) (h:∀ i,i<n→(C i).B=true) (hF:MrFit (coQ C) n n) (hh:(moT n C).D w (β0 0)) (k:roH n β0 w (roC n C (r9q (coX C n n)) 0 false 0 [])) :
  Calls Tryz.prog 7 ((coA n).map (SV.den β0)).toArray w (Said Tryz.prog roF 1 (tB' true) [] β0 w) :=
 sx_cut (P:=Tryz.prog) (coA n) [(moT n C).ob] (roS0 n C hf hn++roS1 n C hC hn h0++[(sCoY (N:=n+1) C (Nat.le_succ n) (by omega) h hF).e,.cut]) [] [] 800 (tB' true) [] Tryz.func7 hmA (u:=1) (sl:=roSl n 0 false 0)
  (ob:=roOb n C (r9q (coX C n n))) (σ:=[0,0,5,4]) (p':=lpAt roF 0) (by kernel_rfl) (fun β=>ok_of_maps (by kernel_rfl)) (by kernel_rfl) (by kernel_rfl) β0 w (fun i o ho=>by
  cases i with
  | zero=>simp only [List.getElem?_cons_zero] at ho; obtain rfl:=Option.some.inj ho; exact hh
  | succ i=>simp at ho) k
include hf hC in
theorem ro_stU (hn:n≤10) (h:∀ i,i<n→(C i).B=true) {i:Nat} (hi:i<n) (hF:MrFit (coQ C) n i) (hF2:¬ FitM (coX C n (i+1))) (hh:(moT n C).D w (β0 0)) (k:roH n β0 w (roC n C r9o 4 false 0 [])) :
  Calls Tryz.prog 7 ((coA n).map (SV.den β0)).toArray w (Said Tryz.prog roF 1 (tB' true) [] β0 w) :=
 sx_cut (P:=Tryz.prog) (coA n) [(moT n C).ob] (roS0 n C hf hn++roS1 n C hC hn (Nat.lt_of_le_of_lt (Nat.zero_le i) hi)++[(sCoN (N:=n+1) C (Nat.le_succ n) (by omega) h hi hF hF2).e,.cut]) [] [] 800 (tB' true) [] Tryz.func7 hmA (u:=1) (sl:=roSl n 4 false 0)
  (ob:=roOb n C r9o) (σ:=[0,0,5,4]) (p':=lpAt roF 0) (by kernel_rfl) (fun β=>ok_of_maps (by kernel_rfl)) (by kernel_rfl) (by kernel_rfl) β0 w (fun i o ho=>by
  cases i with
  | zero=>simp only [List.getElem?_cons_zero] at ho; obtain rfl:=Option.some.inj ho; exact hh
  | succ i=>simp at ho) k
include hf hC in
theorem ro_stB (hn:n≤10) {i:Nat} (hi:i<n) (h:(C i).B=false) (h2:∀ k,k<i→(C k).B=true) (hh:(moT n C).D w (β0 0)) (k:roH n β0 w (roC n C r9o 2 false 0 [])) :
  Calls Tryz.prog 7 ((coA n).map (SV.den β0)).toArray w (Said Tryz.prog roF 1 (tB' true) [] β0 w) :=
 sx_cut (P:=Tryz.prog) (coA n) [(moT n C).ob] (roS0 n C hf hn++roS1 n C hC hn (Nat.lt_of_le_of_lt (Nat.zero_le i) hi)++[(sCoNo (N:=n+1) C (Nat.le_succ n) (by omega) hi h h2).e,.cut]) [] [] 800 (tB' true) [] Tryz.func7 hmA (u:=1) (sl:=roSl n 2 false 0)
  (ob:=roOb n C r9o) (σ:=[0,0,5,4]) (p':=lpAt roF 0) (by kernel_rfl) (fun β=>ok_of_maps (by kernel_rfl)) (by kernel_rfl) (by kernel_rfl) β0 w (fun i o ho=>by
  cases i with
  | zero=>simp only [List.getElem?_cons_zero] at ho; obtain rfl:=Option.some.inj ho; exact hh
  | succ i=>simp at ho) k
end
theorem ro_st0 (C:Nat→Mo) (β0:Env) (w:World) (hf:MoFar 0 C false) (hC:U77 (C 0)) (h:∀ i,i<0→(C i).B=true) (hF:MrFit (coQ C) 0 0) (hh:(moT 0 C).D w (β0 0)) (k:roH 0 β0 w (roC 0 C (r9q (coX C 0 0)) 0 false 0 [])) :
  Calls Tryz.prog 7 ((coA 0).map (SV.den β0)).toArray w (Said Tryz.prog roF 1 (tB' true) [] β0 w) :=
 sx_cut (P:=Tryz.prog) (coA 0) [(moT 0 C).ob] (roS0 0 C hf (by decide)++roS2 C hC++[(sCoY (N:=1) C (Nat.le_succ 0) (by decide) h hF).e,.cut]) [] [] 800 (tB' true) [] Tryz.func7 hmA (u:=1) (sl:=roSl 0 0 false 0)
  (ob:=roOb 0 C (r9q (coX C 0 0))) (σ:=[0,0,4,3]) (p':=lpAt roF 0) (by kernel_rfl) (fun β=>ok_of_maps (by kernel_rfl)) (by kernel_rfl) (by kernel_rfl) β0 w (fun i o ho=>by
  cases i with
  | zero=>simp only [List.getElem?_cons_zero] at ho; obtain rfl:=Option.some.inj ho; exact hh
  | succ i=>simp at ho) k
end Go.Proofs.YtbepimnlleilfaaGreat.Y
end
section
namespace Go.Proofs.YtbepimnlleilfaaGreat.Y
open Go Go.RowKit
set_option maxRecDepth 100000
theorem ro_w {j n:Nat} (hj:j≤n) (hn:n≤10):IntKind.i64.wrap ((j:Int)+1)=((j+1:Nat):Int):=by rw [IntKind.wrap_i64]; omega
section
variable (n:Nat) (C:Nat→Mo) (M:R9) (E:Int) (β0:Env) (w:World) (hn:n≤10)
include hn in
theorem ro_runF {t:Nat} (ht:t≤n) (h:∀ i,i<t→(C i).B=true) (k:roH n β0 w (roC n C M E false t [])):∀ d j,j+d=t→roH n β0 w (roC n C M E false j [])
 | 0,j,e=>by
  obtain rfl:j=t:=by omega
  exact k
 | d+1,j,e=>hd_ev' (ro_ff n C M E β0 w (by omega) (h j (by omega)) (ro_w (n:=n) (by omega) hn) rfl (ro_runF ht h k d (j+1) (by omega)))
include hn in
theorem ro_runT (k:roH n β0 w (roC n C M E true n [])):∀ d j,j+d=n→roH n β0 w (roC n C M E true j [])
 | 0,j,e=>by
  obtain rfl:j=n:=by omega
  exact k
 | d+1,j,e=>by
  have ih:=ro_runT k d (j+1) (by omega)
  cases hb:(C j).B with
  | true=>exact hd_ev' (ro_tt n C M E β0 w (by omega) hb (ro_w (n:=n) (by omega) hn) rfl ih)
  | false=>exact hd_ev' (ro_tn n C M E β0 w (by omega) hb (ro_w (n:=n) (by omega) hn) rfl ih)
end
theorem ro_walk (n:Nat) (hn63:n≤maxLen) (C:Nat→Mo) (hC:U77 (C n)) (β0:Env) (w:World) (hh:(moT n C).D w (β0 0)) :
  Calls Tryz.prog 7 ((coA n).map (SV.den β0)).toArray w fun e w'=>e=.returned (.bool true)∧Below w.heap.size w w':=by
 have fin:∀ {e w'},Said Tryz.prog roF 1 (tB' true) [] β0 w e w'→e=.returned (.bool true)∧Below w.heap.size w w':=fun {e w'} h=>by
  obtain ⟨β',q,obj,_,rfl,_,_,_,g⟩:=h
  exact ⟨rfl,g.bel⟩
 have fin2:∀ (S:Spec Tryz.prog),S.f=7→S.args=coA n→S.obs=[moT n C]→S.res=tB' true→Calls Tryz.prog 7 ((coA n).map (SV.den β0)).toArray w fun e w'=>e=.returned (.bool true)∧Below w.heap.size w w':=fun S h1 h2 h3 h4=>by
  have:=S.ok β0 w (fun k t ht=>by
   rw [h3] at ht
   match k,ht with
   | 0,ht=>obtain rfl:=Option.some.inj ht; exact hh
   | k+1,ht=>cases ht)
  rw [h1,h2] at this
  refine this.mono fun e w' ⟨xs,_,he,_,hb⟩=>⟨?_,hb⟩
  rw [he,h4]
  rfl
 obtain ⟨r,hf⟩:=rowFar_all C hn63
 cases r with
 | true=>exact fin2 (roFar hf) rfl rfl rfl rfl
 | false =>
  by_cases hl:10<n
  · exact fin2 (roLong hf hl) rfl rfl rfl rfl
  have hn:n≤10:=by omega
  have hw1:=ro_w (Nat.le_refl n) hn
  by_cases hA:∃ i,i<n∧(!(C i).B)=true
  · obtain ⟨i,i1,i2,i3⟩:=ma_first (f:=fun i=>!(C i).B) hA
    have i2:(C i).B=false:=by simpa using i2
    have i3:∀ k,k<i→(C k).B=true:=fun k hk=>by simpa using i3 k hk
    refine (ro_stB n C β0 w hf hC hn i1 i2 i3 hh ?_).mono fun e w' h=>fin h
    refine ro_runF n C r9o 2 β0 w hn (Nat.le_of_lt i1) i3 ?_ i 0 (by omega)
    refine hd_ev' (ro_ft n C r9o 2 β0 w i1 i2 (ro_w (n:=n) (by omega) hn) rfl ?_)
    exact ro_runT n C r9o 2 β0 w hn (hd_ev' (ro_endB n C β0 w hC hw1 rfl)) (n-(i+1)) (i+1) (by omega)
  · have h:∀ i,i<n→(C i).B=true:=fun i hi=>by
     cases e:(C i).B with
     | true=>rfl
     | false=>exact absurd ⟨i,hi,by rw [e]; rfl⟩ hA
    rcases mr_cases (coQ C) n n with hF | ⟨i,hi,hF,hF2⟩
    · have hr:roH n β0 w (roC n C (r9q (coX C n n)) 0 false 0 []) :=
       ro_runF n C (r9q (coX C n n)) 0 β0 w hn (Nat.le_refl n) h (hd_ev' (ro_endY n C β0 w h (by omega) hF hC hw1 rfl)) n 0 (by omega)
      rcases Nat.eq_zero_or_pos n with rfl | hp
      · exact (ro_st0 C β0 w hf hC h hF hh hr).mono fun e w' h=>fin h
      · exact (ro_stY n C β0 w hf hC hn hp h hF hh hr).mono fun e w' h=>fin h
    · refine (ro_stU n C β0 w hf hC hn h hi hF hF2 hh ?_).mono fun e w' h=>fin h
      exact ro_runF n C r9o 4 β0 w hn (Nat.le_refl n) h (hd_ev' (ro_endN n C β0 w h (by omega) hi hF hF2 hC hw1 rfl)) n 0 (by omega)
theorem ro_congr {sz n:Nat} {L L':Nat→List Lf} {w:World} {g:Pl} (h:RwD sz n L w g) (e:∀ j,j<n→L j=L' j):RwD sz n L' w g:=by
 rcases h with h | ⟨h0,b,o,cs,t,fr,h1,h2,h3,h4⟩
 · exact .inl h
 · exact .inr ⟨h0,b,o,cs,t,fr,h1,h2,h3,fun j hj=>by rw [← e j hj]; exact h4 j hj⟩
end Go.Proofs.YtbepimnlleilfaaGreat.Y
namespace Go.Proofs.YtbepimnlleilfaaGreat
open Go.Proofs.YtbepimnlleilfaaGreat.Y Go Go.RowKit
theorem MobRow_walk (g:Y.Pl) (n:Nat) (Q:Nat→Y.Mo) (W:World) (hn:n≤maxLen) (hr:Y.RwD 33 n (fun j=>Y.moL (Q j)) W g) :
  Calls Tryz.prog 7 #[.slice (g.v 0) n (g.c 0)] W fun e W'=>e=.returned (.bool true)∧Below W.heap.size W W':=by
 obtain ⟨p,hp⟩:=Y.u77_ex
 exact Y.ro_walk n hn (fun j=>if j<n then Q j else p) (by
  show Y.U77 (if n<n then Q n else p)
  rw [if_neg (Nat.lt_irrefl n)]
  exact hp) (fun _=>g) W (Y.ro_congr hr fun j hj=>by
  show _=Y.moL (if j<n then Q j else p)
  rw [if_pos hj])
end Go.Proofs.YtbepimnlleilfaaGreat
end
section
namespace Go.Proofs.YtbepimnlleilfaaGreat
open Go.ChangeShapes Go.WideShapes Go.ChangeAt Go.RowKit
theorem cellsOf_bool:Tryz.prog.cellsOf 4=1:=by kernel_rfl
theorem cellsOf_string:Tryz.prog.cellsOf 9=1:=by kernel_rfl
theorem cellsOf_whole:Tryz.prog.cellsOf 23=2:=by kernel_rfl
theorem cellsOf_frac:Tryz.prog.cellsOf 25=4:=by kernel_rfl
section
variable {H:Type} {enc:TypeId × Value→H} {w:World} {base:Nat} {spare:Nat→Bool} {held:Bool}
set_option maxRecDepth 100000 in
theorem trod_whole {fuel:Nat} {cs:List Value} {x:DataW H × List MemPlace} (h:DataW.trod enc Tryz.prog w base spare held fuel 23 cs=some x) :
  ∃ (b:Bool) (s:ByteArray),cs=[.bool b,.string s]∧s.size≤maxLen:=by
 obtain ⟨xs,n,rfl,_,hlen,hxl,hf⟩:=DataW.trod_struct Tryz.underlying23 h
 rw [cellsOf_whole] at hlen
 have hx0:xs[0]?=some (xs[0]'(by rw [hxl]; decide)):=List.getElem?_eq_getElem _
 have hx1:xs[1]?=some (xs[1]'(by rw [hxl]; decide)):=List.getElem?_eq_getElem _
 have h0:DataW.trod enc Tryz.prog w base spare held n 4 ((cs.drop 0).take (Tryz.prog.cellsOf 4))=some _:=(hf 0 _ rfl).trans hx0
 have h1:DataW.trod enc Tryz.prog w base spare held n 9 ((cs.drop 1).take (Tryz.prog.cellsOf 9))=some _:=(hf 1 _ rfl).trans hx1
 rw [cellsOf_bool] at h0
 rw [cellsOf_string] at h1
 match cs,hlen with
 | [a,b],_ =>
  obtain ⟨p,e0,_⟩:=DataW.trod_bool Tryz.underlying4 h0
  obtain ⟨s,e1,_,hs⟩:=DataW.trod_string Tryz.underlying9 h1
  cases e0
  cases e1
  exact ⟨p,s,rfl,hs⟩
set_option maxRecDepth 100000 in
theorem trod_frac {fuel:Nat} {cs:List Value} {x:DataW H × List MemPlace} (h:DataW.trod enc Tryz.prog w base spare held fuel 25 cs=some x) :
  ∃ (b c:Bool) (s t:ByteArray),cs=[.bool b,.string s,.bool c,.string t]∧s.size≤maxLen∧t.size≤maxLen:=by
 obtain ⟨xs,n,rfl,_,hlen,hxl,hf⟩:=DataW.trod_struct Tryz.underlying25 h
 rw [cellsOf_frac] at hlen
 have hx0:xs[0]?=some (xs[0]'(by rw [hxl]; decide)):=List.getElem?_eq_getElem _
 have hx1:xs[1]?=some (xs[1]'(by rw [hxl]; decide)):=List.getElem?_eq_getElem _
 have h0:DataW.trod enc Tryz.prog w base spare held n 23 ((cs.drop 0).take (Tryz.prog.cellsOf 23))=some _:=(hf 0 _ rfl).trans hx0
 have h1:DataW.trod enc Tryz.prog w base spare held n 23 ((cs.drop 2).take (Tryz.prog.cellsOf 23))=some _:=(hf 1 _ rfl).trans hx1
 rw [cellsOf_whole] at h0 h1
 match cs,hlen with
 | [a,b,c,d],_ =>
  obtain ⟨p,s,e0,hs⟩:=trod_whole h0
  obtain ⟨q,t,e1,ht⟩:=trod_whole h1
  cases e0
  cases e1
  exact ⟨p,q,s,t,rfl,hs,ht⟩
end
end Go.Proofs.YtbepimnlleilfaaGreat
end
section
namespace Go.Proofs.YtbepimnlleilfaaGreat
open Go Go.ChangeShapes Go.WideShapes Go.ChangeAt Go.RowKit
theorem cellsOf_gauss:Tryz.prog.cellsOf 46=8:=by kernel_rfl
theorem cellsOf_mob:Tryz.prog.cellsOf 48=33:=by kernel_rfl
theorem chunk {α:Type} (cs:List α) (a b:Nat):cs.drop a=(cs.drop a).take b++cs.drop (a+b):=by
 rw [← List.drop_drop,List.take_append_drop]
def R4.ok (x:R4):Prop:=x.s.size≤maxLen∧x.t.size≤maxLen
section
variable {H:Type} {enc:TypeId × Value→H} {w:World} {base:Nat} {spare:Nat→Bool} {held:Bool}
theorem trod_r4 {fuel:Nat} {cs:List Value} {x:DataW H × List MemPlace} (h:DataW.trod enc Tryz.prog w base spare held fuel 25 cs=some x):∃ r:R4,cs=r.V∧r.ok:=by
 obtain ⟨b,c,s,t,e,h1,h2⟩:=trod_frac h
 exact ⟨⟨b,s,c,t⟩,e,h1,h2⟩
set_option maxRecDepth 100000 in
theorem trod_gauss {fuel:Nat} {cs:List Value} {x:DataW H × List MemPlace} (h:DataW.trod enc Tryz.prog w base spare held fuel 46 cs=some x):∃ r s:R4,cs=r.V++s.V∧r.ok∧s.ok:=by
 obtain ⟨xs,n,rfl,_,hlen,hxl,hf⟩:=DataW.trod_struct Tryz.underlying46 h
 rw [cellsOf_gauss] at hlen
 have hx0:xs[0]?=some (xs[0]'(by rw [hxl]; decide)):=List.getElem?_eq_getElem _
 have hx1:xs[1]?=some (xs[1]'(by rw [hxl]; decide)):=List.getElem?_eq_getElem _
 have h0:DataW.trod enc Tryz.prog w base spare held n 25 ((cs.drop 0).take (Tryz.prog.cellsOf 25))=some _:=(hf 0 _ rfl).trans hx0
 have h1:DataW.trod enc Tryz.prog w base spare held n 25 ((cs.drop 4).take (Tryz.prog.cellsOf 25))=some _:=(hf 1 _ rfl).trans hx1
 rw [cellsOf_frac] at h0 h1
 obtain ⟨r,e0,k0⟩:=trod_r4 h0
 obtain ⟨s,e1,k1⟩:=trod_r4 h1
 refine ⟨r,s,?_,k0,k1⟩
 have:=chunk cs 0 4
 rw [e0,List.drop_zero] at this
 rw [this,chunk cs (0+4) 4,e1,List.drop_of_length_le (by omega),List.append_nil]
end
end Go.Proofs.YtbepimnlleilfaaGreat
end
section
namespace Go.Proofs.YtbepimnlleilfaaGreat
open Go.ChangeShapes Go.WideShapes Go.ChangeAt Go.RowKit
set_option maxRecDepth 100000
section
variable {H:Type} {enc:TypeId × Value→H} {w:World} {base:Nat} {spare:Nat→Bool} {held:Bool}
theorem cell_cells {a:Addr} {v:Value} (h:w.cell? a=some v):a.spot=none∧∃ cs t fr,w.heap[a.block]?=some (.cells cs t fr):=by
 unfold World.cell? at h
 split at h
 · rename_i c t fr hb
   split at h
   · cases h
   · rename_i hs
     exact ⟨by simpa using hs,c,t,fr,hb⟩
 · cases h
theorem open_rows {α:Type} {T e:TypeId} (hT:Tryz.prog.underlying T=some (.slice e)) {sz:Nat} (hc:Tryz.prog.cellsOf e=sz) (h2:0<sz) (Lq:α→List Y.Lf) (q0:α)
  (hel:∀ fuel cs x,DataW.trod enc Tryz.prog w base spare held fuel e cs=some x→∃ q,cs=(Lq q).map (Y.Lf.den Y.idE))
  {r:Reach} {b0:Nat} {v:Value} {d:DataW H} {p:List MemPlace} (hv:Value.okWide Tryz.prog w r b0 T v) (h:DataW.Trod enc Tryz.prog w base spare held T v d p) :
  ∃ (g:Y.Pl) (n:Nat) (Q:Nat→α),v=.slice (g.v 0) n (g.c 0)∧n≤maxLen∧Y.RwD sz n (fun j=>Lq (Q j)) w g:=by
 obtain ⟨a,len,cap,rfl⟩:=okWide_slice hT hv
 obtain ⟨fuel,hf⟩:=h
 have hf:DataW.trod enc Tryz.prog w base spare held fuel T [.slice a len cap]=some (d,p):=hf
 rcases Go.Deep.open_slice hT hf with ⟨e1,_⟩ | ⟨a',len',cap',m,n,D,Pl,e1,hb,hl,hm,hmm,_,hx⟩
 · simp only [List.cons.injEq,and_true,Value.slice.injEq] at e1
   obtain ⟨rfl,rfl,rfl⟩:=e1
   exact ⟨Y.nilPl,0,fun _=>q0,rfl,Nat.zero_le _,.inl ⟨rfl,fun c hc=>hc⟩⟩
 · simp only [List.cons.injEq,and_true,Value.slice.injEq] at e1
   obtain ⟨rfl,rfl,rfl⟩:=e1
   have hlm:len≤m:=by rw [hmm]; split<;>omega
   by_cases h0:len=0
   · subst h0
     exact ⟨⟨0,fun _=>some a',fun _=>cap,fun _=>False,fun _=>undef⟩,0,fun _=>q0,rfl,Nat.zero_le _,.inl ⟨rfl,fun c hc=>hc⟩⟩
   rw [hc] at hx
   have each:∀ i,i<len→∃ q,∀ j,j<sz→w.cell? (a'.add (i*sz+j))=((Lq q).map (Y.Lf.den Y.idE))[j]?∧((Lq q).map (Y.Lf.den Y.idE)).length=sz:=fun i hi=>by
    obtain ⟨cs',k1,k2⟩:=hx i (by omega)
    obtain ⟨q,hq⟩:=hel _ _ _ k2
    obtain ⟨_,k4,k5⟩:=World.cells?_some k1
    exact ⟨q,fun j hj=>⟨by rw [← Go.Deep.add_add,k5 j hj,hq],by rw [← hq]; exact k4⟩⟩
   haveI:Inhabited α:=⟨q0⟩
   obtain ⟨Q,hQ⟩:=Go.Deep.choose_lt each
   have hfst:∃ u,w.cell? a'=some u:=by
    have k:=hQ 0 (by omega) 0 h2
    have:(a'.add (0*sz+0))=a':=by simp [Addr.add]
    rw [this] at k
    rw [k.1]
    exact ⟨_,List.getElem?_eq_getElem (by rw [k.2]; exact h2)⟩
   obtain ⟨u,hu⟩:=hfst
   obtain ⟨hs,cs,t,fr,hcs⟩:=cell_cells hu
   obtain ⟨b,o,s⟩:=a'
   obtain rfl:s=none:=hs
   refine ⟨⟨b,fun m=>some ⟨b,o+m,none⟩,fun _=>cap,fun c=>c=b,fun _=>undef⟩,len,Q,rfl,by omega,.inr ⟨by omega,b,o,cs,t,fr,fun m=>rfl,fun c=>Iff.rfl,hcs,fun j hj i v hv=>?_⟩⟩
   have hi:i<sz:=by
    have h4:i<((Lq (Q j)).map (Y.Lf.den Y.idE)).length:=(List.getElem?_eq_some_iff.1 hv).1
    have h5:=(hQ j hj 0 h2).2
    omega
   have h6:=(hQ j hj i hi).1
   rw [Addr.add_mid] at h6
   rw [Nat.add_assoc,h6]
   exact hv
end
end Go.Proofs.YtbepimnlleilfaaGreat
end
section
namespace Go.Proofs.YtbepimnlleilfaaGreat
open Go Go.ChangeShapes Go.WideShapes Go.ChangeAt Go.RowKit
section
variable {H:Type} {enc:TypeId × Value→H} {w:World} {base:Nat} {spare:Nat→Bool} {held:Bool}
set_option maxRecDepth 100000 in
theorem trod_mob {fuel:Nat} {cs:List Value} {x:DataW H × List MemPlace} (h:DataW.trod enc Tryz.prog w base spare held fuel 48 cs=some x) :
  ∃ (a b c d e f g k:R4) (t:Bool),cs=a.V++b.V++c.V++d.V++e.V++f.V++g.V++k.V++[Value.bool t]∧a.ok∧b.ok∧c.ok∧d.ok∧e.ok∧f.ok∧g.ok∧k.ok:=by
 obtain ⟨xs,n,rfl,_,hlen,hxl,hf⟩:=DataW.trod_struct Tryz.underlying48 h
 rw [cellsOf_mob] at hlen
 have hx0:xs[0]?=some (xs[0]'(by rw [hxl]; decide)):=List.getElem?_eq_getElem _
 have hx1:xs[1]?=some (xs[1]'(by rw [hxl]; decide)):=List.getElem?_eq_getElem _
 have hx2:xs[2]?=some (xs[2]'(by rw [hxl]; decide)):=List.getElem?_eq_getElem _
 have hx3:xs[3]?=some (xs[3]'(by rw [hxl]; decide)):=List.getElem?_eq_getElem _
 have hx4:xs[4]?=some (xs[4]'(by rw [hxl]; decide)):=List.getElem?_eq_getElem _
 have h0:DataW.trod enc Tryz.prog w base spare held n 46 ((cs.drop 0).take (Tryz.prog.cellsOf 46))=some _:=(hf 0 _ rfl).trans hx0
 have h1:DataW.trod enc Tryz.prog w base spare held n 46 ((cs.drop 8).take (Tryz.prog.cellsOf 46))=some _:=(hf 1 _ rfl).trans hx1
 have h2:DataW.trod enc Tryz.prog w base spare held n 46 ((cs.drop 16).take (Tryz.prog.cellsOf 46))=some _:=(hf 2 _ rfl).trans hx2
 have h3:DataW.trod enc Tryz.prog w base spare held n 46 ((cs.drop 24).take (Tryz.prog.cellsOf 46))=some _:=(hf 3 _ rfl).trans hx3
 have h4:DataW.trod enc Tryz.prog w base spare held n 4 ((cs.drop 32).take (Tryz.prog.cellsOf 4))=some _:=(hf 4 _ rfl).trans hx4
 rw [cellsOf_gauss] at h0 h1 h2 h3
 rw [cellsOf_bool] at h4
 obtain ⟨a0,b0,e0,k0⟩:=trod_gauss h0
 obtain ⟨a1,b1,e1,k1⟩:=trod_gauss h1
 obtain ⟨a2,b2,e2,k2⟩:=trod_gauss h2
 obtain ⟨a3,b3,e3,k3⟩:=trod_gauss h3
 obtain ⟨t,e4⟩:∃ t,cs.drop 32=[Value.bool t]:=by
  match hc:(cs.drop 32),(show (cs.drop 32).length=1 by rw [List.length_drop]; omega) with
  | [a],_ =>
   rw [hc] at h4
   obtain ⟨i,e0,_⟩:=DataW.trod_bool Tryz.underlying4 h4
   refine ⟨i,?_⟩
   cases e0
   rfl
 refine ⟨a0,b0,a1,b1,a2,b2,a3,b3,t,?_,k0.1,k0.2,k1.1,k1.2,k2.1,k2.2,k3.1,k3.2⟩
 have c0:=chunk cs 0 8
 have c1:=chunk cs (0+8) 8
 have c2:=chunk cs (0+8+8) 8
 have c3:=chunk cs (0+8+8+8) 8
 rw [e3,show 0+8+8+8+8=32 by rfl,e4] at c3
 rw [e2,c3] at c2
 rw [e1,c2] at c1
 rw [e0,c1,List.drop_zero] at c0
 rw [c0]
 simp only [List.append_assoc]
end
end Go.Proofs.YtbepimnlleilfaaGreat
end
section
namespace Go.Proofs.YtbepimnlleilfaaGreat
open Go.ChangeShapes Go.WideShapes Go.ChangeAt Go.RowKit
set_option maxRecDepth 100000
section
variable {H:Type} {enc:TypeId × Value→H} {w:World} {base:Nat} {spare:Nat→Bool} {held:Bool}
theorem cellsOf_mobr:Tryz.prog.cellsOf 48=33:=by kernel_rfl
theorem open_mob_row {r:Reach} {b0:Nat} {v:Value} {d:DataW H} {p:List MemPlace} (hv:Value.okWide Tryz.prog w r b0 74 v) (h:DataW.Trod enc Tryz.prog w base spare held 74 v d p) :
  ∃ (g:Y.Pl) (n:Nat) (Q:Nat→Y.Mo),v=.slice (g.v 0) n (g.c 0)∧n≤maxLen∧Y.RwD 33 n (fun j=>Y.moL (Q j)) w g:=by
 obtain ⟨p0,_⟩:=Y.mo_of r40 r40 r40 r40 r40 r40 r40 r40 false ⟨Nat.zero_le _,Nat.zero_le _⟩ ⟨Nat.zero_le _,Nat.zero_le _⟩ ⟨Nat.zero_le _,Nat.zero_le _⟩ ⟨Nat.zero_le _,Nat.zero_le _⟩ ⟨Nat.zero_le _,Nat.zero_le _⟩ ⟨Nat.zero_le _,Nat.zero_le _⟩ ⟨Nat.zero_le _,Nat.zero_le _⟩ ⟨Nat.zero_le _,Nat.zero_le _⟩
 refine open_rows Tryz.underlying74 cellsOf_mobr (by decide) (fun q:Y.Mo=>Y.moL q) p0 (fun fuel cs x hx=>?_) hv h
 obtain ⟨a,b,c,d,e,f,g,k,t,rfl,h1,h2,h3,h4,h5,h6,h7,h8⟩:=trod_mob hx
 obtain ⟨q,hq⟩:=Y.mo_of a b c d e f g k t h1 h2 h3 h4 h5 h6 h7 h8
 refine ⟨q,?_⟩
 rw [hq]
 rfl
end
end Go.Proofs.YtbepimnlleilfaaGreat
end
