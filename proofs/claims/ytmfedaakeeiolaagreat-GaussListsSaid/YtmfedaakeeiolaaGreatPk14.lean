/- GlL, GlW, Open, OpnB, OpnL. -/
import Derived.ProofKit
import Derived.OpenShut
import Derived.ShutString
import Derived.ChangeOld
import Derived.Below
import Derived.Deep.Slices
import Derived.Test.YtmfedaakeeiolaaGreatPk13
set_option linter.unnecessarySimpa false
set_option linter.unusedVariables false
set_option linter.unusedSimpArgs false
section
namespace Go.Proofs.YtmfedaakeeiolaaGreat.Y
open Go Go.RowKit
set_option maxRecDepth 100000
abbrev gK4:Nat:=Go.Proofs.YtmfedaakeeiolaaGreat.KE
theorem gauss_some:(Tryz.prog.info? 37).isSome=true:=by kernel_rfl
noncomputable def appG:AppT Tryz.prog :=
 ⟨TGs,TG,(Tryz.prog.info? 37).get gauss_some,.agg #[.bool false,.string ⟨#[]⟩,.bool false,.string ⟨#[]⟩,.bool false,.string ⟨#[]⟩,.bool false,.string ⟨#[]⟩],8,96,Tryz.underlying82,(Option.some_get gauss_some).symm,by kernel_rfl,by kernel_rfl,by kernel_rfl,rfl,by decide,by decide⟩
theorem glOrL (x y:Nat→R4) {n:Nat} (hn:n≤1000):OrL appG (lsG x y) n :=
 ⟨fun j _=>rfl,fun j _ u hu=>by
  simp only [lsG,R4.L,List.map_append,List.map_cons,List.map_nil,List.cons_append,List.nil_append,List.mem_cons,List.not_mem_nil,or_false,Lf.den,Lf0.den] at hu
  rcases hu with rfl | rfl | rfl | rfl | rfl | rfl | rfl | rfl<;>rfl,Nat.le_trans hn (by decide),Nat.le_trans (Nat.mul_le_mul_right _ hn) (by show 1000*96≤_; decide)⟩
theorem fit771:FitG (gint 771 0):=⟨Sz.fit (k:=2) (sz_divInt (k:=2) (by decide) (sz_le.2 (by decide)) (Nat.le_trans (sz_small (by decide)) (by decide))) (by decide),Sz.fit (k:=1) (Sz.small (by decide)) (by decide)⟩
def gn771:Gn:=.ok (gint 771 0) fit771
noncomputable abbrev glF:Func:=Tryz.f8
abbrev glR:SV:=tB' true
section
variable (n:Nat) (G:Nat→Gn)
noncomputable abbrev glN:Nat:=sizeS glF [lsSlc n]
abbrev glL:Nat→List Lf:=lsG (lqX G) (lqY G)
abbrev glSl (h:Nat) (j:Nat) (k1 k2:Int) (b:Bool):List (Nat × SV):=[(0,lsSlc n),(3,.one (.c (.b (.y 2 0 (n+1))))),(4,.one (.c (.b (.p 3 0)))),(5,.one (nI' k1)),(6,.one (.c (.b (.p 4 0)))),(7,.one (nI' k2)),(8,.one (.c (.b (.p 5 0)))),(9,.one (.c (.b (.p 6 0)))),(10,tB' b),(h,.one (nI' (j:Int)))]
noncomputable abbrev glOb (r1 r2 r3 r4:R4) (s p:GQ):List Ob:=[(lqT n G).ob,.dead,orO 8 TG (n+1) (glL G),.box (r1.L++r2.L) TG,.box (r3.L++r4.L) TG,.box (gC s) TG,.box (gC p) TG]
noncomputable abbrev glC (h:Nat) (r1 r2 r3 r4:R4) (k1 k2:Int) (s p:GQ) (j:Nat) (b:Bool) (ev:List (Ev Tryz.prog)):Cf Tryz.prog:=mkC Tryz.prog (glN n) 1 (glSl n h j k1 k2 b) (glOb n G r1 r2 r3 r4 s p) ev
abbrev glH (i:Nat) (β0:Env) (w:World) (C:Cf Tryz.prog):Prop:=HdOk Tryz.prog 1 (glN n) w.heap.size w β0 (bodyPost Tryz.prog glF (Said Tryz.prog glF 1 glR [] β0 w)) C (lpAt glF i)
variable (β0:Env) (w:World) (r1 r2 r3 r4:R4) (k1 k2:Int)
noncomputable def gl1E {j:Nat} (hj:j<n):List (Ev Tryz.prog):=[.eqv 48 (.bool (decide ((j:Int)<(n:Int)))) (.bool true) (by rw [decide_eq_true (by omega)]),gIx (lqX G) (lqY G) (Nat.lt_succ_of_lt hj) (Nat.le_refl (n+1)),gLd (lqX G) (lqY G) (Nat.lt_succ_of_lt hj),gIx (lqX G) (lqY G) hj (Nat.le_refl n),gLd (lqX G) (lqY G) hj,
 eqEvG (lqX G j) (lqY G j) (lqX G j) (lqY G j) true (geq_self2 _ _)]
theorem gl1_no {j:Nat} (hj:j<n) {j2:Int} (hj2:IntKind.i64.wrap ((j:Int)+1)=j2) (e2:j2=((j+1:Nat):Int)) (k:glH n 0 β0 w (glC n G 11 r1 r2 r3 r4 k1 k2 (gint 0 0) (gint 1 0) (j+1) false [])) :
  glH n 0 β0 w (glC n G 11 r1 r2 r3 r4 k1 k2 (gint 0 0) (gint 1 0) j false (gl1E n G hj++[.eqv 50 (.int .i64 (IntKind.i64.wrap ((j:Int)+1))) (.int .i64 ((j+1:Nat):Int)) (by rw [hj2,e2]),.cut])) :=
 piece_ok (Ns:=[(10,9)]) (m:=400) [] [0,0,2,3,4,5,6] hmA (by kernel_rfl) (fun β=>ok_of_maps (by kernel_rfl)) k
theorem gl1_yes {j:Nat} (hj:j<n) {b:Bool} (hb:(G j).B=b) {j2:Int} (hj2:IntKind.i64.wrap ((j:Int)+1)=j2) (e2:j2=((j+1:Nat):Int)) (k:glH n 0 β0 w (glC n G 11 r1 r2 r3 r4 k1 k2 (gint 0 0) (gint 1 0) (j+1) b [])) :
  glH n 0 β0 w (glC n G 11 r1 r2 r3 r4 k1 k2 (gint 0 0) (gint 1 0) j true (gl1E n G hj++[gIx (lqX G) (lqY G) hj (Nat.le_refl n),gLd (lqX G) (lqY G) hj,(sR4MayG (G j) hb).e,.eqv 50 (.int .i64 (IntKind.i64.wrap ((j:Int)+1))) (.int .i64 ((j+1:Nat):Int)) (by rw [hj2,e2]),.cut])):=by
 cases b
 · exact piece_ok (Ns:=[(10,9)]) (m:=400) [] [0,0,2,3,4,5,6] hmA (by kernel_rfl) (fun β=>ok_of_maps (by kernel_rfl)) k
 · exact piece_ok (Ns:=[(10,9)]) (m:=400) [] [0,0,2,3,4,5,6] hmA (by kernel_rfl) (fun β=>ok_of_maps (by kernel_rfl)) k
theorem gl1_end (b:Bool) (k:glH n 1 β0 w (glC n G 12 r1 r2 r3 r4 k1 k2 (gint 0 0) (gint 1 0) 0 b [])) :
  glH n 0 β0 w (glC n G 11 r1 r2 r3 r4 k1 k2 (gint 0 0) (gint 1 0) n b [.eqv 48 (.bool (decide ((n:Int)<(n:Int)))) (.bool false) (by rw [decide_eq_false (by omega)]),.cut]) :=
 piece_ok (Ns:=[(10,9)]) (m:=400) [] [0,0,2,3,4,5,6] hmA (by kernel_rfl) (fun β=>ok_of_maps (by kernel_rfl)) k
theorem gl1_loop (K:∀ b,(b=true↔∀ i,i<n→(G i).B=true)→glH n 1 β0 w (glC n G 12 r1 r2 r3 r4 k1 k2 (gint 0 0) (gint 1 0) 0 b [])) (hn:n≤40):∀ (d j:Nat) (b:Bool),j+d=n→(b=true↔∀ i,i<j→(G i).B=true)→glH n 0 β0 w (glC n G 11 r1 r2 r3 r4 k1 k2 (gint 0 0) (gint 1 0) j b [])
 | 0,j,b,e,hb=>by
  obtain rfl:j=n:=by omega
  exact hd_ev' (gl1_end j G β0 w r1 r2 r3 r4 k1 k2 b (K b hb))
 | d+1,j,false,e,hb=>hd_ev' (gl1_no n G β0 w r1 r2 r3 r4 k1 k2 (by omega) (j2:=((j+1:Nat):Int)) (by rw [IntKind.wrap_i64]; omega) rfl (gl1_loop K hn d (j+1) false (by omega) ⟨fun h=>(by cases h),fun h=>hb.2 fun i hi=>h i (by omega)⟩))
 | d+1,j,true,e,hb=>hd_ev' (gl1_yes n G β0 w r1 r2 r3 r4 k1 k2 (b:=(G j).B) (by omega) rfl (j2:=((j+1:Nat):Int)) (by rw [IntKind.wrap_i64]; omega) rfl (gl1_loop K hn d (j+1) (G j).B (by omega) ⟨fun h i hi=>by
   rcases Nat.lt_succ_iff_lt_or_eq.1 hi with h1 | rfl
   · exact hb.1 rfl i h1
   · exact h,fun h=>h j (by omega)⟩))
end
def plL {z:GQ} {X Y:R4} {u:GQ} (hz:GSz gK4 z) (hu:FitG u) (hx:X=fR u.re) (hy:Y=fR u.im):Spec Tryz.prog:=(sR4Plus hz (hu.gsz.mono (by decide))).as [svG z,.one (.a (X.L++Y.L))] (svG (gadd z u)) (by
 subst hx hy
 rfl) rfl
def tmL {z:GQ} {X Y:R4} {u:GQ} (hz:GSz gK4 z) (hu:FitG u) (hx:X=fR u.re) (hy:Y=fR u.im):Spec Tryz.prog:=(sR4Times hz (hu.gsz.mono (by decide))).as [svG z,.one (.a (X.L++Y.L))] (svG (gmul z u)) (by
 subst hx hy
 rfl) rfl
section
variable (n:Nat) (G:Nat→Gn) (β0:Env) (w:World)
theorem gl2_no (hG:G n=gn771) {t:Bool} (ht:decide ((0:Int)<(n:Int))=t):glH n 1 β0 w (glC n G 12 r40 r40 r40 r40 2 2 (gint 0 0) (gint 1 0) 0 false
  [.eqv 71 (.bool (decide ((0:Int)<(n:Int)))) (.bool t) (by rw [ht]),(sIs4No (fR (gint 0 0).re) (fR (gint 0 0).im)).e,(sIs4No (fR (gint 1 0).re) (fR (gint 1 0).im)).e,gIx (lqX G) (lqY G) (Nat.lt_succ_self n) (Nat.le_refl (n+1)),gLd (lqX G) (lqY G) (Nat.lt_succ_self n),(sR4Int 771 0).e,eqEvG (lqX G n) (lqY G n) (fR (gint 771 0).re) (fR (gint 771 0).im) true (by unfold lqX lqY; rw [hG]; exact geq_self2 _ _),sKnown4.e]):=by
 cases t
 · exact last_ok (Ns:=[(18,25)]) (m:=400) hmA (fun β=>ok_of_maps (by kernel_rfl))
 · exact last_ok (Ns:=[(18,25)]) (m:=400) hmA (fun β=>ok_of_maps (by kernel_rfl))
noncomputable abbrev gl2C (S P s p:GQ) (j:Nat) (ev:List (Ev Tryz.prog)):Cf Tryz.prog:=glC n G 12 (gaR S) (gaR' S) (gaR P) (gaR' P) (gaK S) (gaK P) s p j true ev
theorem gl2_step {S P s p:GQ} {j:Nat} (hj:j<n) (hs:GSz gK4 s) (hp:GSz gK4 p) (h:(G j).B=true) {j2:Int} (hj2:IntKind.i64.wrap ((j:Int)+1)=j2) (e2:j2=((j+1:Nat):Int)) (k:glH n 1 β0 w (gl2C n G S P (gadd s (G j).z) (gmul p (G j).z) (j+1) [])) :
  glH n 1 β0 w (gl2C n G S P s p j [.eqv 71 (.bool (decide ((j:Int)<(n:Int)))) (.bool true) (by rw [decide_eq_true (by omega)]),gIx (lqX G) (lqY G) hj (Nat.le_refl n),gLd (lqX G) (lqY G) hj,(plL hs (gn_ok h).1 (gn_ok h).2.1 (gn_ok h).2.2).e,gIx (lqX G) (lqY G) hj (Nat.le_refl n),gLd (lqX G) (lqY G) hj,(tmL hp (gn_ok h).1 (gn_ok h).2.1 (gn_ok h).2.2).e,
   .eqv 76 (.int .i64 (IntKind.i64.wrap ((j:Int)+1))) (.int .i64 ((j+1:Nat):Int)) (by rw [hj2,e2]),.cut]) :=
 piece_ok (Ns:=[(16,6),(17,6)]) (m:=400) [] [0,0,2,3,4,5,6] hmA (by kernel_rfl) (fun β=>ok_of_maps (by kernel_rfl)) k
theorem gl2_end (hG:G n=gn771) {S P:GQ}:glH n 1 β0 w (gl2C n G S P S P n
  [.eqv 71 (.bool (decide ((n:Int)<(n:Int)))) (.bool false) (by rw [decide_eq_false (by omega)]),(sIs4 S).e,(sIs4 P).e,gIx (lqX G) (lqY G) (Nat.lt_succ_self n) (Nat.le_refl (n+1)),gLd (lqX G) (lqY G) (Nat.lt_succ_self n),(sR4Int 771 0).e,eqEvG (lqX G n) (lqY G n) (fR (gint 771 0).re) (fR (gint 771 0).im) true (by unfold lqX lqY; rw [hG]; exact geq_self2 _ _),sKnown4.e]) :=
 last_ok (Ns:=[(18,25)]) (m:=400) hmA (fun β=>ok_of_maps (by kernel_rfl))
theorem gl2_loop (hG:G n=gn771) (hn:n≤40) {S P:GQ} (hS:S=lsAcc gadd (gint 0 0) (lqZ G) n) (hP:P=lsAcc gmul (gint 1 0) (lqZ G) n) (h:∀ i,i<n→(G i).B=true) (hs:∀ j,j≤n→GSz gK4 (lsAcc gadd (gint 0 0) (lqZ G) j)) (hp:∀ j,j≤n→GSz gK4 (lsAcc gmul (gint 1 0) (lqZ G) j)) :
  ∀ (d j:Nat),j+d=n→glH n 1 β0 w (gl2C n G S P (lsAcc gadd (gint 0 0) (lqZ G) j) (lsAcc gmul (gint 1 0) (lqZ G) j) j [])
 | 0,j,e=>by
  obtain rfl:j=n:=by omega
  rw [← hS,← hP]
  exact hd_ev' (gl2_end j G β0 w hG)
 | d+1,j,e=>hd_ev' (gl2_step n G β0 w (by omega) (hs j (by omega)) (hp j (by omega)) (h j (by omega)) (j2:=((j+1:Nat):Int)) (by rw [IntKind.wrap_i64]; omega) rfl (gl2_loop hG hn hS hP h hs hp d (j+1) (by omega)))
end
end Go.Proofs.YtmfedaakeeiolaaGreat.Y
end
section
namespace Go.Proofs.YtmfedaakeeiolaaGreat.Y
open Go Go.RowKit
set_option maxRecDepth 100000
section
variable (n:Nat) (G:Nat→Gn) (β0:Env) (w:World)
theorem gl_hL {n:Nat} {G:Nat→Gn} (hG:G n=gn771):lsG (lqX G) (lqY G) n=lsX (gC (gint 771 0)):=by
 show (lqX G n).L++(lqY G n).L=_
 unfold lqX lqY
 rw [hG]
 rfl
noncomputable def glA0 (hn:n≤40) (hs:lsAll (smOk 80 (lqX G) (lqY G)) n=true):List (Ev Tryz.prog):=[.eqv 15 (.bool (decide ((40:Int)<(n:Int)))) (.bool false) (by rw [decide_eq_false (by omega)]),(sR4SmallL 80 n (lqX G) (lqY G) (Nat.le_trans hn (by decide)) hs).e]
noncomputable def glA1 (hn:n≤40) (h0:0<n) (hG:G n=gn771):List (Ev Tryz.prog) :=
 [eApL appG .nil (n0:=0) (m:=n) (N:=n) (L:=lsG (lqX G) (lqY G)) (L':=lsG (lqX G) (lqY G)) rfl (Nat.zero_add n) (glOrL _ _ (by omega)) h0 (Nat.le_refl n) (fun i hi=>by rw [Nat.zero_add]),(sR4Int 771 0).e,eAp1 appG .own (n0:=n) (L:=lsG (lqX G) (lqY G)) (cs:=lsX (gC (gint 771 0))) trivial (glOrL _ _ (by omega)) (gl_hL hG) (fun β=>rfl)]
noncomputable def glA2 (hG:G 0=gn771):List (Ev Tryz.prog) :=
 [eAp0 appG .nil rfl (N:=0) (L':=lsG (lqX G) (lqY G)),(sR4Int 771 0).e,eAp1 appG .nil (n0:=0) (L:=lsG (lqX G) (lqY G)) (cs:=lsX (gC (gint 771 0))) rfl (glOrL _ _ (by decide)) (gl_hL hG) (fun β=>rfl)]
noncomputable def glSe:Ev Tryz.prog:=eSl tgs_u tgs_s (Nat.le_succ n) TG (lsG (lqX G) (lqY G))
theorem gl_st (hn:n≤40) (h0:0<n) (hs:lsAll (smOk 80 (lqX G) (lqY G)) n=true) (hG:G n=gn771) (hh:(lqT n G).D w (β0 0)) (h:∀ i,i<n→(G i).B=true) {S P:GQ} (hS:S=lsAcc gadd (gint 0 0) (lqZ G) n) (hP:P=lsAcc gmul (gint 1 0) (lqZ G) n)
  (hs1:∀ j,j≤n→GSz KM (lsAcc gadd (gint 0 0) (lqZ G) j)) (hp1:∀ j,j≤n→GSz KM (lsAcc gmul (gint 1 0) (lqZ G) j))
  (k:glH n 0 β0 w (glC n G 11 (gaR S) (gaR' S) (gaR P) (gaR' P) (gaK S) (gaK P) (gint 0 0) (gint 1 0) 0 true [])):Calls Tryz.prog 8 (([lsSlc n]:List SV).map (SV.den β0)).toArray w (Said Tryz.prog glF 1 glR [] β0 w):=by
 subst hS hP
 exact sx_cut (P:=Tryz.prog) [lsSlc n] [(lqT n G).ob] (glA0 n G hn hs++glA1 n G hn h0 hG++[glSe n G,(sGSum G (Nat.le_succ n) (Nat.le_trans hn (by decide)) h hs1).e,glSe n G,(sGProduct G (Nat.le_succ n) (Nat.le_trans hn (by decide)) h hp1).e,(sR4Int 0 0).e,(sR4Int 1 0).e,.cut]) [] [] 400 glR [] Tryz.func8 hmA (u:=1) (sl:=glSl n 11 0 (gaK _) (gaK _) true)
  (ob:=glOb n G (gaR _) (gaR' _) (gaR _) (gaR' _) (gint 0 0) (gint 1 0)) (σ:=[0,0,3,4,5,6,7]) (p':=lpAt glF 0) (by kernel_rfl) (fun β=>ok_of_maps (by kernel_rfl)) (by kernel_rfl) (by kernel_rfl) β0 w (fun i o ho=>by
  cases i with
  | zero=>simp only [List.getElem?_cons_zero] at ho; obtain rfl:=Option.some.inj ho; exact hh
  | succ i=>simp at ho) k
theorem gl_stN (hn:n≤40) (h0:0<n) (hs:lsAll (smOk 80 (lqX G) (lqY G)) n=true) (hG:G n=gn771) (hh:(lqT n G).D w (β0 0)) {i:Nat} (hi:i<n) (h:(G i).B=false) (h2:∀ k,k<i→(G k).B=true)
  (k:glH n 0 β0 w (glC n G 11 r40 r40 r40 r40 2 2 (gint 0 0) (gint 1 0) 0 true [])):Calls Tryz.prog 8 (([lsSlc n]:List SV).map (SV.den β0)).toArray w (Said Tryz.prog glF 1 glR [] β0 w) :=
 sx_cut (P:=Tryz.prog) [lsSlc n] [(lqT n G).ob] (glA0 n G hn hs++glA1 n G hn h0 hG++[glSe n G,(sGSumNo G (Nat.le_succ n) (Nat.le_trans hn (by decide)) hi h h2).e,glSe n G,(sGProductNo G (Nat.le_succ n) (Nat.le_trans hn (by decide)) hi h h2).e,(sR4Int 0 0).e,(sR4Int 1 0).e,.cut]) [] [] 400 glR [] Tryz.func8 hmA (u:=1) (sl:=glSl n 11 0 2 2 true)
  (ob:=glOb n G r40 r40 r40 r40 (gint 0 0) (gint 1 0)) (σ:=[0,0,3,4,5,6,7]) (p':=lpAt glF 0) (by kernel_rfl) (fun β=>ok_of_maps (by kernel_rfl)) (by kernel_rfl) (by kernel_rfl) β0 w (fun i o ho=>by
  cases i with
  | zero=>simp only [List.getElem?_cons_zero] at ho; obtain rfl:=Option.some.inj ho; exact hh
  | succ i=>simp at ho) k
theorem gl_st0 (hs:lsAll (smOk 80 (lqX G) (lqY G)) 0=true) (hG:G 0=gn771) (hh:(lqT 0 G).D w (β0 0)) {S P:GQ} (hS:S=gint 0 0) (hP:P=gint 1 0) (hs1:∀ j,j≤0→GSz KM (lsAcc gadd (gint 0 0) (lqZ G) j)) (hp1:∀ j,j≤0→GSz KM (lsAcc gmul (gint 1 0) (lqZ G) j))
  (k:glH 0 0 β0 w (glC 0 G 11 (gaR S) (gaR' S) (gaR P) (gaR' P) (gaK S) (gaK P) (gint 0 0) (gint 1 0) 0 true [])):Calls Tryz.prog 8 (([lsSlc 0]:List SV).map (SV.den β0)).toArray w (Said Tryz.prog glF 1 glR [] β0 w):=by
 subst hS hP
 exact sx_cut (P:=Tryz.prog) [lsSlc 0] [(lqT 0 G).ob] (glA0 0 G (by decide) hs++glA2 G hG++[glSe 0 G,(sGSum G (Nat.le_succ 0) (by decide) (fun i hi=>absurd hi (Nat.not_lt_zero i)) hs1).e,glSe 0 G,(sGProduct G (Nat.le_succ 0) (by decide) (fun i hi=>absurd hi (Nat.not_lt_zero i)) hp1).e,(sR4Int 0 0).e,(sR4Int 1 0).e,.cut]) [] [] 400 glR [] Tryz.func8 hmA (u:=1) (sl:=glSl 0 11 0 (gaK _) (gaK _) true)
  (ob:=glOb 0 G (gaR _) (gaR' _) (gaR _) (gaR' _) (gint 0 0) (gint 1 0)) (σ:=[0,0,2,3,4,5,6]) (p':=lpAt glF 0) (by kernel_rfl) (fun β=>ok_of_maps (by kernel_rfl)) (by kernel_rfl) (by kernel_rfl) β0 w (fun i o ho=>by
  cases i with
  | zero=>simp only [List.getElem?_cons_zero] at ho; obtain rfl:=Option.some.inj ho; exact hh
  | succ i=>simp at ho) k
end
noncomputable def glLong {n:Nat} (G:Nat→Gn) (hn:40<n):Spec Tryz.prog :=
 Spec.auto Tryz.call8 [lsSlc n] [lqT n G] glR [] [.eqv 15 (.bool (decide ((40:Int)<(n:Int)))) (.bool true) (by rw [decide_eq_true (by omega)]),sKnown4.e] [] 400 Tryz.func8 hmA (by kernel_rfl) (fun β=>by kernel_rfl)
noncomputable def glBig {n:Nat} (G:Nat→Gn) (hn:n≤40) (hs:lsAll (smOk 80 (lqX G) (lqY G)) n=false):Spec Tryz.prog :=
 Spec.auto Tryz.call8 [lsSlc n] [lqT n G] glR [] [.eqv 15 (.bool (decide ((40:Int)<(n:Int)))) (.bool false) (by rw [decide_eq_false (by omega)]),(sR4SmallL 80 n (lqX G) (lqY G) (Nat.le_trans hn (by decide)) hs).e,sKnown4.e] [] 400 Tryz.func8 hmA (by kernel_rfl) (fun β=>by kernel_rfl)
theorem RwD.congr {sz n:Nat} {L L':Nat→List Lf} {w:World} {g:Pl} (h:RwD sz n L w g) (e:∀ j,j<n→L j=L' j):RwD sz n L' w g:=by
 rcases h with h | ⟨h0,b,o,cs,t,fr,h1,h2,h3,h4⟩
 · exact .inl h
 · exact .inr ⟨h0,b,o,cs,t,fr,h1,h2,h3,fun j hj=>by rw [← e j hj]; exact h4 j hj⟩
theorem gl_no {k:Nat} {s:ByteArray} (h:big k s=false):s.size≤k:=by
 have:=of_decide_eq_false h
 omega
theorem gl_sz {k:Nat} {z:GQ} (h:smB k (fR z.re) (fR z.im)=true):GSz k z:=by
 unfold smB at h
 simp only [Bool.not_eq_true',Bool.or_eq_false_iff] at h
 exact ⟨⟨gl_no h.1,by rw [sz_nat]; exact gl_no h.2.1⟩,⟨gl_no h.2.2.1,by rw [sz_nat]; exact gl_no h.2.2.2⟩⟩
theorem gl_small {G:Nat→Gn} {n:Nat} (hs:lsAll (smOk 80 (lqX G) (lqY G)) n=true) (h:∀ i,i<n→(G i).B=true) (i:Nat) (hi:i<n):IZ 160 160 (lqZ G i):=by
 have h1:smB 80 (lqX G i) (lqY G i)=true:=lsAll_of hs i hi
 obtain ⟨hf,hx,hy⟩:=gn_ok (h i hi)
 have h2:GSz 80 (lqZ G i):=by
  unfold lqX lqY at h1
  rw [hx,hy] at h1
  exact gl_sz h1
 exact IZ.of_sz h2.1 h2.2
theorem iz2_0:IZ 2 2 (gint 0 0):=IZ.of_sz (k:=1) (Sz.small (n:=0) (by decide)) (Sz.small (n:=0) (by decide))
theorem iz2_1:IZ 2 2 (gint 1 0):=IZ.of_sz (k:=1) (Sz.small (n:=1) (by decide)) (Sz.small (n:=0) (by decide))
theorem gl_walk (n:Nat) (G:Nat→Gn) (β0:Env) (w:World) (hG:G n=gn771) (hh:(lqT n G).D w (β0 0)):Calls Tryz.prog 8 (([lsSlc n]:List SV).map (SV.den β0)).toArray w fun e w'=>e=.returned (.bool true)∧Below w.heap.size w w':=by
 have fin:∀ {e w'},Said Tryz.prog glF 1 glR [] β0 w e w'→e=.returned (.bool true)∧Below w.heap.size w w':=fun {e w'} h=>by
  obtain ⟨β',q,obj,_,rfl,_,_,_,g⟩:=h
  exact ⟨rfl,g.bel⟩
 have fin2:∀ (S:Spec Tryz.prog),S.f=8→S.args=[lsSlc n]→S.obs=[lqT n G]→S.res=glR→Calls Tryz.prog 8 (([lsSlc n]:List SV).map (SV.den β0)).toArray w fun e w'=>e=.returned (.bool true)∧Below w.heap.size w w':=fun S h1 h2 h3 h4=>by
  have:=S.ok β0 w (fun k t ht=>by
   rw [h3] at ht
   match k,ht with
   | 0,ht=>obtain rfl:=Option.some.inj ht; exact hh
   | k+1,ht=>cases ht)
  rw [h1,h2] at this
  refine this.mono fun e w' ⟨xs,_,he,_,hb⟩=>⟨?_,hb⟩
  rw [he,h4]
  rfl
 by_cases hn:n≤40
 · cases hs:lsAll (smOk 80 (lqX G) (lqY G)) n with
   | false=>exact fin2 (glBig G hn hs) rfl rfl rfl rfl
   | true =>
    by_cases h:∀ i,i<n→(G i).B=true
    · have ia:=acc_add iz2_0 (gl_small hs h)
      have ip:=acc_mul iz2_1 (gl_small hs h)
      have ga:∀ j,j≤n→GSz 6442 (lsAcc gadd (gint 0 0) (lqZ G) j):=fun j hj=>acc_gsz (k:=40) (ia j hj) (by omega)
      have gp:∀ j,j≤n→GSz 6442 (lsAcc gmul (gint 1 0) (lqZ G) j):=fun j hj=>acc_gsz (k:=40) (ip j hj) (by omega)
      have k2:=gl2_loop n G β0 w hG hn (S:=lsAcc gadd (gint 0 0) (lqZ G) n) (P:=lsAcc gmul (gint 1 0) (lqZ G) n) rfl rfl h (fun j hj=>(ga j hj).mono (by decide)) (fun j hj=>(gp j hj).mono (by decide)) n 0 (by omega)
      have k1:=gl1_loop n G β0 w (gaR (lsAcc gadd (gint 0 0) (lqZ G) n)) (gaR' (lsAcc gadd (gint 0 0) (lqZ G) n)) (gaR (lsAcc gmul (gint 1 0) (lqZ G) n)) (gaR' (lsAcc gmul (gint 1 0) (lqZ G) n)) (gaK (lsAcc gadd (gint 0 0) (lqZ G) n)) (gaK (lsAcc gmul (gint 1 0) (lqZ G) n)) (fun b hb=>by
       cases b with
       | true=>exact k2
       | false=>exact absurd (hb.2 h) (by decide)) hn n 0 true (by omega) ⟨fun _ i hi=>absurd hi (Nat.not_lt_zero i),fun _=>rfl⟩
      rcases Nat.eq_zero_or_pos n with rfl | h0
      · exact (gl_st0 G β0 w hs hG hh rfl rfl (fun j hj=>(ga j hj).mono (by decide)) (fun j hj=>(gp j hj).mono (by decide)) k1).mono fun e w' h=>fin h
      · exact (gl_st n G β0 w hn h0 hs hG hh h rfl rfl (fun j hj=>(ga j hj).mono (by decide)) (fun j hj=>(gp j hj).mono (by decide)) k1).mono fun e w' h=>fin h
    · obtain ⟨i,hi,hb,h2⟩:∃ i,i<n∧(G i).B=false∧∀ k,k<i→(G k).B=true:=by
       clear fin fin2 hs hh hG
       induction n with
       | zero=>exact absurd (fun i hi=>absurd hi (Nat.not_lt_zero i)) h
       | succ n ih =>
        by_cases h3:∀ i,i<n→(G i).B=true
        · refine ⟨n,Nat.lt_succ_self n,?_,h3⟩
          rw [Bool.eq_false_iff]
          intro e
          exact h fun i hi=>by
           rcases Nat.lt_succ_iff_lt_or_eq.1 hi with h4 | rfl
           · exact h3 i h4
           · exact e
        · obtain ⟨i,k1,k2,k3⟩:=ih (by omega) h3
          exact ⟨i,by omega,k2,k3⟩
      have k1:=gl1_loop n G β0 w r40 r40 r40 r40 2 2 (fun b hb=>by
       cases b with
       | true=>exact absurd (hb.1 rfl) h
       | false=>exact hd_ev' (gl2_no n G β0 w hG (t:=true) (decide_eq_true (by omega)))) hn n 0 true (by omega) ⟨fun _ i hi=>absurd hi (Nat.not_lt_zero i),fun _=>rfl⟩
      exact (gl_stN n G β0 w hn (by omega) hs hG hh hi hb h2 k1).mono fun e w' h=>fin h
 · exact fin2 (glLong G (by omega)) rfl rfl rfl rfl
end Go.Proofs.YtmfedaakeeiolaaGreat.Y
namespace Go.Proofs.YtmfedaakeeiolaaGreat
open Go.Proofs.YtmfedaakeeiolaaGreat.Y Go Go.RowKit
theorem GaussLists_walk (g:Y.Pl) (n:Nat) (Q:Nat→Y.Gn) (W:World) (hr:Y.RwD 8 n (fun j=>(Q j).x.L++(Q j).y.L) W g):Calls Tryz.prog 8 #[.slice (g.v 0) n (g.c 0)] W fun e W'=>e=.returned (.bool true)∧Below W.heap.size W W':=by
 have h:=gl_walk n (fun j=>if j<n then Q j else gn771) (fun _=>g) W (if_neg (Nat.lt_irrefl n)) (hr.congr fun j hj=>by
  show _=(lqX _ j).L++(lqY _ j).L
  show _=(if j<n then Q j else gn771).x.L++(if j<n then Q j else gn771).y.L
  rw [if_pos hj])
 exact h
end Go.Proofs.YtmfedaakeeiolaaGreat
end
section
namespace Go.Proofs.YtmfedaakeeiolaaGreat
open Go.ChangeShapes Go.WideShapes Go.ChangeAt Go.RowKit
theorem cellsOf_bool:Tryz.prog.cellsOf 4=1:=by kernel_rfl
theorem cellsOf_string:Tryz.prog.cellsOf 9=1:=by kernel_rfl
theorem cellsOf_whole:Tryz.prog.cellsOf 23=2:=by kernel_rfl
theorem cellsOf_frac:Tryz.prog.cellsOf 25=4:=by kernel_rfl
section
variable {H:Type} {enc:TypeId × Value→H} {w:World} {base:Nat} {spare:Nat→Bool} {held:Bool}
set_option maxRecDepth 100000 in
theorem trod_whole {fuel:Nat} {cs:List Value} {x:DataW H × List MemPlace} (h:DataW.trod enc Tryz.prog w base spare held fuel 23 cs=some x) :
  ∃ (b:Bool) (s:ByteArray),cs=[.bool b,.string s]∧s.size≤maxLen:=by
 obtain ⟨xs,n,rfl,_,hlen,hxl,hf⟩:=DataW.trod_struct Tryz.underlying23 h
 rw [cellsOf_whole] at hlen
 have hx0:xs[0]?=some (xs[0]'(by rw [hxl]; decide)):=List.getElem?_eq_getElem _
 have hx1:xs[1]?=some (xs[1]'(by rw [hxl]; decide)):=List.getElem?_eq_getElem _
 have h0:DataW.trod enc Tryz.prog w base spare held n 4 ((cs.drop 0).take (Tryz.prog.cellsOf 4))=some _:=(hf 0 _ rfl).trans hx0
 have h1:DataW.trod enc Tryz.prog w base spare held n 9 ((cs.drop 1).take (Tryz.prog.cellsOf 9))=some _:=(hf 1 _ rfl).trans hx1
 rw [cellsOf_bool] at h0
 rw [cellsOf_string] at h1
 match cs,hlen with
 | [a,b],_ =>
  obtain ⟨p,e0,_⟩:=DataW.trod_bool Tryz.underlying4 h0
  obtain ⟨s,e1,_,hs⟩:=DataW.trod_string Tryz.underlying9 h1
  cases e0
  cases e1
  exact ⟨p,s,rfl,hs⟩
set_option maxRecDepth 100000 in
theorem trod_frac {fuel:Nat} {cs:List Value} {x:DataW H × List MemPlace} (h:DataW.trod enc Tryz.prog w base spare held fuel 25 cs=some x) :
  ∃ (b c:Bool) (s t:ByteArray),cs=[.bool b,.string s,.bool c,.string t]∧s.size≤maxLen∧t.size≤maxLen:=by
 obtain ⟨xs,n,rfl,_,hlen,hxl,hf⟩:=DataW.trod_struct Tryz.underlying25 h
 rw [cellsOf_frac] at hlen
 have hx0:xs[0]?=some (xs[0]'(by rw [hxl]; decide)):=List.getElem?_eq_getElem _
 have hx1:xs[1]?=some (xs[1]'(by rw [hxl]; decide)):=List.getElem?_eq_getElem _
 have h0:DataW.trod enc Tryz.prog w base spare held n 23 ((cs.drop 0).take (Tryz.prog.cellsOf 23))=some _:=(hf 0 _ rfl).trans hx0
 have h1:DataW.trod enc Tryz.prog w base spare held n 23 ((cs.drop 2).take (Tryz.prog.cellsOf 23))=some _:=(hf 1 _ rfl).trans hx1
 rw [cellsOf_whole] at h0 h1
 match cs,hlen with
 | [a,b,c,d],_ =>
  obtain ⟨p,s,e0,hs⟩:=trod_whole h0
  obtain ⟨q,t,e1,ht⟩:=trod_whole h1
  cases e0
  cases e1
  exact ⟨p,q,s,t,rfl,hs,ht⟩
end
end Go.Proofs.YtmfedaakeeiolaaGreat
end
section
namespace Go.Proofs.YtmfedaakeeiolaaGreat
open Go Go.ChangeShapes Go.WideShapes Go.ChangeAt Go.RowKit
theorem cellsOf_gauss:Tryz.prog.cellsOf 37=8:=by kernel_rfl
theorem chunk {α:Type} (cs:List α) (a b:Nat):cs.drop a=(cs.drop a).take b++cs.drop (a+b):=by
 rw [← List.drop_drop,List.take_append_drop]
def R4.ok (x:R4):Prop:=x.s.size≤maxLen∧x.t.size≤maxLen
section
variable {H:Type} {enc:TypeId × Value→H} {w:World} {base:Nat} {spare:Nat→Bool} {held:Bool}
theorem trod_r4 {fuel:Nat} {cs:List Value} {x:DataW H × List MemPlace} (h:DataW.trod enc Tryz.prog w base spare held fuel 25 cs=some x):∃ r:R4,cs=r.V∧r.ok:=by
 obtain ⟨b,c,s,t,e,h1,h2⟩:=trod_frac h
 exact ⟨⟨b,s,c,t⟩,e,h1,h2⟩
set_option maxRecDepth 100000 in
theorem trod_gauss {fuel:Nat} {cs:List Value} {x:DataW H × List MemPlace} (h:DataW.trod enc Tryz.prog w base spare held fuel 37 cs=some x):∃ r s:R4,cs=r.V++s.V∧r.ok∧s.ok:=by
 obtain ⟨xs,n,rfl,_,hlen,hxl,hf⟩:=DataW.trod_struct Tryz.underlying37 h
 rw [cellsOf_gauss] at hlen
 have hx0:xs[0]?=some (xs[0]'(by rw [hxl]; decide)):=List.getElem?_eq_getElem _
 have hx1:xs[1]?=some (xs[1]'(by rw [hxl]; decide)):=List.getElem?_eq_getElem _
 have h0:DataW.trod enc Tryz.prog w base spare held n 25 ((cs.drop 0).take (Tryz.prog.cellsOf 25))=some _:=(hf 0 _ rfl).trans hx0
 have h1:DataW.trod enc Tryz.prog w base spare held n 25 ((cs.drop 4).take (Tryz.prog.cellsOf 25))=some _:=(hf 1 _ rfl).trans hx1
 rw [cellsOf_frac] at h0 h1
 obtain ⟨r,e0,k0⟩:=trod_r4 h0
 obtain ⟨s,e1,k1⟩:=trod_r4 h1
 refine ⟨r,s,?_,k0,k1⟩
 have:=chunk cs 0 4
 rw [e0,List.drop_zero] at this
 rw [this,chunk cs (0+4) 4,e1,List.drop_of_length_le (by omega),List.append_nil]
end
end Go.Proofs.YtmfedaakeeiolaaGreat
end
section
namespace Go.Proofs.YtmfedaakeeiolaaGreat
open Go.ChangeShapes Go.WideShapes Go.ChangeAt Go.RowKit
set_option maxRecDepth 100000
section
variable {H:Type} {enc:TypeId × Value→H} {w:World} {base:Nat} {spare:Nat→Bool} {held:Bool}
theorem cell_cells {a:Addr} {v:Value} (h:w.cell? a=some v):a.spot=none∧∃ cs t fr,w.heap[a.block]?=some (.cells cs t fr):=by
 unfold World.cell? at h
 split at h
 · rename_i c t fr hb
   split at h
   · cases h
   · rename_i hs
     exact ⟨by simpa using hs,c,t,fr,hb⟩
 · cases h
theorem open_rows {α:Type} {T e:TypeId} (hT:Tryz.prog.underlying T=some (.slice e)) {sz:Nat} (hc:Tryz.prog.cellsOf e=sz) (h2:0<sz) (Lq:α→List Y.Lf) (q0:α)
  (hel:∀ fuel cs x,DataW.trod enc Tryz.prog w base spare held fuel e cs=some x→∃ q,cs=(Lq q).map (Y.Lf.den Y.idE))
  {r:Reach} {b0:Nat} {v:Value} {d:DataW H} {p:List MemPlace} (hv:Value.okWide Tryz.prog w r b0 T v) (h:DataW.Trod enc Tryz.prog w base spare held T v d p) :
  ∃ (g:Y.Pl) (n:Nat) (Q:Nat→α),v=.slice (g.v 0) n (g.c 0)∧n≤maxLen∧Y.RwD sz n (fun j=>Lq (Q j)) w g:=by
 obtain ⟨a,len,cap,rfl⟩:=okWide_slice hT hv
 obtain ⟨fuel,hf⟩:=h
 have hf:DataW.trod enc Tryz.prog w base spare held fuel T [.slice a len cap]=some (d,p):=hf
 rcases Go.Deep.open_slice hT hf with ⟨e1,_⟩ | ⟨a',len',cap',m,n,D,Pl,e1,hb,hl,hm,hmm,_,hx⟩
 · simp only [List.cons.injEq,and_true,Value.slice.injEq] at e1
   obtain ⟨rfl,rfl,rfl⟩:=e1
   exact ⟨Y.nilPl,0,fun _=>q0,rfl,Nat.zero_le _,.inl ⟨rfl,fun c hc=>hc⟩⟩
 · simp only [List.cons.injEq,and_true,Value.slice.injEq] at e1
   obtain ⟨rfl,rfl,rfl⟩:=e1
   have hlm:len≤m:=by rw [hmm]; split<;>omega
   by_cases h0:len=0
   · subst h0
     exact ⟨⟨0,fun _=>some a',fun _=>cap,fun _=>False,fun _=>undef⟩,0,fun _=>q0,rfl,Nat.zero_le _,.inl ⟨rfl,fun c hc=>hc⟩⟩
   rw [hc] at hx
   have each:∀ i,i<len→∃ q,∀ j,j<sz→w.cell? (a'.add (i*sz+j))=((Lq q).map (Y.Lf.den Y.idE))[j]?∧((Lq q).map (Y.Lf.den Y.idE)).length=sz:=fun i hi=>by
    obtain ⟨cs',k1,k2⟩:=hx i (by omega)
    obtain ⟨q,hq⟩:=hel _ _ _ k2
    obtain ⟨_,k4,k5⟩:=World.cells?_some k1
    exact ⟨q,fun j hj=>⟨by rw [← Go.Deep.add_add,k5 j hj,hq],by rw [← hq]; exact k4⟩⟩
   haveI:Inhabited α:=⟨q0⟩
   obtain ⟨Q,hQ⟩:=Go.Deep.choose_lt each
   have hfst:∃ u,w.cell? a'=some u:=by
    have k:=hQ 0 (by omega) 0 h2
    have:(a'.add (0*sz+0))=a':=by simp [Addr.add]
    rw [this] at k
    rw [k.1]
    exact ⟨_,List.getElem?_eq_getElem (by rw [k.2]; exact h2)⟩
   obtain ⟨u,hu⟩:=hfst
   obtain ⟨hs,cs,t,fr,hcs⟩:=cell_cells hu
   obtain ⟨b,o,s⟩:=a'
   obtain rfl:s=none:=hs
   refine ⟨⟨b,fun m=>some ⟨b,o+m,none⟩,fun _=>cap,fun c=>c=b,fun _=>undef⟩,len,Q,rfl,by omega,.inr ⟨by omega,b,o,cs,t,fr,fun m=>rfl,fun c=>Iff.rfl,hcs,fun j hj i v hv=>?_⟩⟩
   have hi:i<sz:=by
    have h4:i<((Lq (Q j)).map (Y.Lf.den Y.idE)).length:=(List.getElem?_eq_some_iff.1 hv).1
    have h5:=(hQ j hj 0 h2).2
    omega
   have h6:=(hQ j hj i hi).1
   rw [Addr.add_mid] at h6
   rw [Nat.add_assoc,h6]
   exact hv
theorem open_gauss_row {r:Reach} {b0:Nat} {v:Value} {d:DataW H} {p:List MemPlace} (hv:Value.okWide Tryz.prog w r b0 82 v) (h:DataW.Trod enc Tryz.prog w base spare held 82 v d p) :
  ∃ (g:Y.Pl) (n:Nat) (Q:Nat→Y.Gn),v=.slice (g.v 0) n (g.c 0)∧n≤maxLen∧Y.RwD 8 n (fun j=>(Q j).x.L++(Q j).y.L) w g:=by
 refine open_rows Tryz.underlying82 cellsOf_gauss (by decide) (fun q:Y.Gn=>q.x.L++q.y.L) (.ok (gint 0 0) Y.fit00) (fun fuel cs x hx=>?_) hv h
 obtain ⟨a,b,rfl,ha,hb⟩:=trod_gauss hx
 obtain ⟨g,rfl,rfl⟩:=Y.gn_of a b ha hb
 exact ⟨g,rfl⟩
end
end Go.Proofs.YtmfedaakeeiolaaGreat
end
