/- RefM, Fra, RefB, EvB, EqA, Rs3, ExM. -/
import Derived.Test.YtbepimnlleilfaaGreatNk9
set_option linter.unnecessarySimpa false
set_option linter.unusedVariables false
set_option linter.unusedSimpArgs false
section
namespace Go.Proofs.YtbepimnlleilfaaGreat
open Go.RowKit
def WPost (k:Int) (w0:World) (e:Ending) (w':World):Prop:=∃ a u,e=.returned (.agg #[.bool a,.string u])∧Hid (a=decide (k<0))∧Hid (u=mag k.natAbs)∧Below w0.heap.size w0 w'
theorem len_mul {N M:Nat} (h1:(dig N).length≤250000001) (h2:(dig M).length≤250000001):(dig (N*M)).length≤500000002:=by
 refine Nat.le_trans (qX8 _ ((dig N).length+(dig M).length) ?_) (by omega)
 rw [Nat.pow_add]
 exact Nat.mul_lt_mul'' (qV3 N) (qV3 M)
theorem len_addk {N M k:Nat} (h1:(dig N).length≤k) (h2:(dig M).length≤k):(dig (N+M)).length≤k+1:=by
 refine Nat.le_trans (qX8 _ (k+1) ?_) (Nat.le_refl _)
 have a:=Nat.lt_of_lt_of_le (qV3 N) (Nat.pow_le_pow_right (by decide) h1)
 have b:=Nat.lt_of_lt_of_le (qV3 M) (Nat.pow_le_pow_right (by decide) h2)
 rw [Nat.pow_succ]
 omega
theorem len_add {N M:Nat} (h1:(dig N).length≤250000001) (h2:(dig M).length≤250000001):(dig (N+M)).length≤250000002:=len_addk h1 h2
theorem sg_times {n m:Int} {p q:Bool} (hp:p=decide (n<0)) (hq:q=decide (m<0)):sg (!p==q) (n.natAbs*m.natAbs)=n*m:=by
 rw [← sg_mul n m,hp,hq]
 congr 1
set_option maxHeartbeats 6400000 in
set_option maxRecDepth 100000 in
theorem rtimes_any {w0:World} (p q:Bool) (s t:ByteArray) (n m:Int) (hp:p=decide (n<0)) (hq:q=decide (m<0)) (hs:s=mag n.natAbs) (ht:t=mag m.natAbs) (h1:s.size≤1000000000) (h2:t.size≤1000000000) :
  Calls Tryz.prog 136 #[.agg #[.bool p,.string s],.agg #[.bool q,.string t]] w0 (WPost (n*m) w0):=by
 have hf1:=(((Frames.nil w0).push w0.heap.size #[.bool p,.string s] 23 rfl).push (w0.heap.size+1) #[.bool q,.string t] 23 (by simp)).push (w0.heap.size+1+1) #[.bool false,.string ⟨#[]⟩] 23 (by simp)
 have HB:=Lib.hid (qQ9 (qQ9 (qZ4 w0 (.cells #[.bool p,.string s] 23)) (.cells #[.bool q,.string t] 23)) (.cells #[.bool false,.string ⟨#[]⟩] 23))
 have HF:=Lib.hid hf1
 obtain ⟨N,hN⟩:∃ N,N=n.natAbs:=⟨_,rfl⟩
 obtain ⟨M,hM⟩:∃ M,M=m.natAbs:=⟨_,rfl⟩
 rw [← hN] at hs
 rw [← hM] at ht
 have HS:=Lib.hid hs
 have HT:=Lib.hid ht
 have HP:=Lib.hid hp
 have HQ:=Lib.hid hq
 have HN:=Lib.hid hN
 have HM:=Lib.hid hM
 have KN:Hid ((dig N).length≤250000001):=len_mag hs h1
 have KM:Hid ((dig M).length≤250000001):=len_mag ht h2
 have H1:Hid (s.size≤4294967296):=Nat.le_trans h1 (by decide)
 have H2:Hid (t.size≤4294967296):=Nat.le_trans h2 (by decide)
 obtain ⟨ra,hra⟩:∃ a,a=decide (n*m<0):=⟨_,rfl⟩
 obtain ⟨ru,hru⟩:∃ u,u=mag (n*m).natAbs:=⟨_,rfl⟩
 have HRES:Hid ((Value.agg #[.bool ra,.string ru])=qZ9 (n*m)):=by rw [hra,hru]; rfl
 have HRA:=Lib.hid hra
 have HRU:=Lib.hid hru
 clear hra hru
 clear hs ht hp hq h1 h2 hf1 hN hM
 have HV:Hid (sg (!p==q) (N*M)=n*m):=by rw [Hid,HN.out,HM.out]; exact sg_times HP.out HQ.out
 go_enter Tryz.func136,Tryz.ntmps136
 go_wp2
 generalize ((w0.alloc (.cells #[.bool p,.string s] 23)).alloc (.cells #[.bool q,.string t] 23)).alloc (.cells #[.bool false,.string ⟨#[]⟩] 23)=w1 at HB HF ⊢
 refine qZ2 13 (fun w'=>Below w0.heap.size w0 w'∧Frames w' [(w0.heap.size+1+1,#[.bool false,.string ⟨#[]⟩],23),(w0.heap.size+1,#[.bool q,.string t],23),(w0.heap.size,#[.bool p,.string s],23)]) (fun w w'=>Below w.heap.size w w') (fun i w v=>match i with
   | 0=>v=.pointer (some ⟨w0.heap.size,0,none⟩)
   | 1=>v=.bool p
   | 2=>v=.pointer (some ⟨w0.heap.size+1,0,none⟩)
   | 3=>v=.bool q
   | 4=>v=.bool (!p==q)
   | 5=>v=.pointer (some ⟨w0.heap.size,1,none⟩)
   | 6=>v=.string s
   | 7=>∃ A c,v=.slice A (dig N).length c∧Words w (.slice A (dig N).length c) (dig N)
   | 8=>v=.pointer (some ⟨w0.heap.size+1,1,none⟩)
   | 9=>v=.string t
   | 10=>∃ A c,v=.slice A (dig M).length c∧Words w (.slice A (dig M).length c) (dig M)
   | 11=>∃ A l c,v=.slice A l c∧Words w (.slice A l c) (dig (N*M))
   | _=>v=.agg #[.bool ra,.string ru]) (by kernel_rfl) (by kernel_rfl) (by kernel_rfl) ⟨HB.out.drew,HF.out.on (Below.drew (Below.refl _ _))⟩ (fun _ _=>(Below.refl _ _)) ?_ ⟨?_,?_,?_,?_,?_,?_,?_,?_,?_,?_,?_,?_,?_,trivial⟩ ?_
 · intro i w1 w2 v hC hC2 hE hV
   match i with
   | 0=>exact hV
   | 1=>exact hV
   | 2=>exact hV
   | 3=>exact hV
   | 4=>exact hV
   | 5=>exact hV
   | 6=>exact hV
   | 7=>obtain ⟨A,c,e,h⟩:=hV; exact ⟨A,c,e,h.below hE⟩
   | 8=>exact hV
   | 9=>exact hV
   | 10=>obtain ⟨A,c,e,h⟩:=hV; exact ⟨A,c,e,h.below hE⟩
   | 11=>obtain ⟨A,l,c,e,h⟩:=hV; exact ⟨A,l,c,e,h.below hE⟩
   | _+12=>exact hV
 · intro a' w' hag hC hd K hK
   have e2:a'.tmps.getD 2 undef=.pointer (some ⟨w0.heap.size,0,none⟩):=hag 2 rfl
   go_step
   exact hK _ _ hC ((Below.refl _ _)) rfl
 · intro a' w' hag hC hd K hK
   have e5:a'.tmps.getD 5 undef=.pointer (some ⟨w0.heap.size,0,none⟩):=hd.1
   have hc0:=(hC.2.get 2 rfl).cell 0 (.bool p) rfl
   have HK:=Lib.hid (hK (.bool p) _ hC (Below.refl _ _) rfl)
   clear hK hC
   go_step
   exact HK.out
 · intro a' w' hag hC hd K hK
   have e3:a'.tmps.getD 3 undef=.pointer (some ⟨w0.heap.size+1,0,none⟩):=hag 3 rfl
   go_step
   exact hK _ _ hC ((Below.refl _ _)) rfl
 · intro a' w' hag hC hd K hK
   have e7:a'.tmps.getD 7 undef=.pointer (some ⟨w0.heap.size+1,0,none⟩):=hd.1
   have hc0:=(hC.2.get 1 rfl).cell 0 (.bool q) rfl
   have HK:=Lib.hid (hK (.bool q) _ hC (Below.refl _ _) rfl)
   clear hK hC
   go_step
   exact HK.out
 · intro a' w' hag hC hd K hK
   have e6:a'.tmps.getD 6 undef=.bool p:=hd.1
   have e8:a'.tmps.getD 8 undef=.bool q:=hd.2.1
   go_step
   exact hK _ _ hC ((Below.refl _ _)) rfl
 · intro a' w' hag hC hd K hK
   have e2:a'.tmps.getD 2 undef=.pointer (some ⟨w0.heap.size,0,none⟩):=hag 2 rfl
   go_step
   exact hK _ _ hC ((Below.refl _ _)) rfl
 · intro a' w' hag hC hd K hK
   have e10:a'.tmps.getD 10 undef=.pointer (some ⟨w0.heap.size,1,none⟩):=hd.1
   have hc0:=(hC.2.get 2 rfl).cell 1 (.string s) rfl
   have HK:=Lib.hid (hK (.string s) _ hC (Below.refl _ _) rfl)
   clear hK hC
   go_step
   exact HK.out
 · intro a' w' hag hC hd K hK
   have e11:a'.tmps.getD 11 undef=.string s:=hd.1
   go_step
   refine (qW8 s N HS.out H1.out).mono ?_
   rintro e w2 ⟨A,c,rfl,h1,h2⟩
   exact hK _ _ ⟨hC.1.trans (h2.mono hC.1.size),hC.2.on h2⟩ h2 ⟨_,_,rfl,h1⟩
 · intro a' w' hag hC hd K hK
   have e3:a'.tmps.getD 3 undef=.pointer (some ⟨w0.heap.size+1,0,none⟩):=hag 3 rfl
   go_step
   exact hK _ _ hC ((Below.refl _ _)) rfl
 · intro a' w' hag hC hd K hK
   have e13:a'.tmps.getD 13 undef=.pointer (some ⟨w0.heap.size+1,1,none⟩):=hd.1
   have hc0:=(hC.2.get 1 rfl).cell 1 (.string t) rfl
   have HK:=Lib.hid (hK (.string t) _ hC (Below.refl _ _) rfl)
   clear hK hC
   go_step
   exact HK.out
 · intro a' w' hag hC hd K hK
   have e14:a'.tmps.getD 14 undef=.string t:=hd.1
   go_step
   refine (qW8 t M HT.out H2.out).mono ?_
   rintro e w2 ⟨A,c,rfl,h1,h2⟩
   exact hK _ _ ⟨hC.1.trans (h2.mono hC.1.size),hC.2.on h2⟩ h2 ⟨_,_,rfl,h1⟩
 · intro a' w' hag hC hd K hK
   obtain ⟨A12,c12,e12,h12⟩:=hd.1
   have e12:a'.tmps.getD 12 undef=.slice A12 (dig N).length c12:=e12
   obtain ⟨A15,c15,e15,h15⟩:=hd.2.1
   have e15:a'.tmps.getD 15 undef=.slice A15 (dig M).length c15:=e15
   go_step
   refine (zX6 h12 h15 (Nat.le_trans KN.out (by decide)) (Nat.le_trans KM.out (by decide))).mono ?_
   rintro e w2 ⟨v,rfl,h1,h2⟩
   rw [qQ3,qQ3] at h1
   obtain ⟨A,l,c,rfl⟩:=h1.form
   exact hK _ _ ⟨hC.1.trans (h2.mono hC.1.size),hC.2.on h2⟩ h2 ⟨_,_,_,rfl,h1⟩
 · intro a' w' hag hC hd K hK
   have e9:a'.tmps.getD 9 undef=.bool (!p==q):=hd.1
   obtain ⟨A16,l16,c16,e16,h16⟩:=hd.2.1
   have e16:a'.tmps.getD 16 undef=.slice A16 l16 c16:=e16
   go_step
   refine (qH3 (!p==q) h16 (by rw [h16.len.1]; exact Nat.le_trans (len_mul KN.out KM.out) (by decide))).mono ?_
   rintro e w2 ⟨rfl,hb⟩
   rw [qQ3,HV.out,← HRES.out]
   exact hK _ _ ⟨hC.1.trans (hb.mono hC.1.size),hC.2.on hb⟩ hb rfl
 · intro u w' hC hall
   obtain ⟨u0,u1,u2,u3,u4,u5,u6,u7,u8,u9,u10,u11,u12,_⟩:=hall
   have u0:u 0=.pointer (some ⟨w0.heap.size,0,none⟩):=u0
   have u1:u 1=.bool p:=u1
   have u2:u 2=.pointer (some ⟨w0.heap.size+1,0,none⟩):=u2
   have u3:u 3=.bool q:=u3
   have u4:u 4=.bool (!p==q):=u4
   have u5:u 5=.pointer (some ⟨w0.heap.size,1,none⟩):=u5
   have u6:u 6=.string s:=u6
   have u8:u 8=.pointer (some ⟨w0.heap.size+1,1,none⟩):=u8
   have u9:u 9=.string t:=u9
   have u12:u 12=.agg #[.bool ra,.string ru]:=u12
   simp only [qZ7,List.take_succ_cons,List.take_zero,Act.put,List.setIfInBounds_toArray,List.set_cons_succ,List.set_cons_zero,Nat.zero_add,Nat.reduceAdd,u0,u1,u2,u3,u4,u5,u6,u8,u9,u12]
   clear u0 u1 u2 u3 u4 u5 u6 u8 u9 u12
   have HB9:=Lib.hid hC.1
   have HX9:=Lib.hid (hC.2.get 0 rfl)
   clear hC
   have hp0:=HX9.out.cell 0 _ rfl
   have hp1:=HX9.out.cell 1 _ rfl
   have hf:=HX9.out.frozen
   go_wp2
   have hk:=(HX9.out.set 0 (.bool ra)).set 1 (.string ru)
   have k0:=hk.cell 0 _ rfl
   have k1:=hk.cell 1 _ rfl
   exact bodyPost_ret (v:=.agg #[.bool ra,.string ru]) (by simp [results,Tryz.results136,go_sem,k0,k1]) rfl ⟨_,_,rfl,HRA,HRU,zJ4 HB9.out (by omega) _ _⟩
theorem plus_same {n m:Int} {p:Bool} (hp:p=decide (n<0)) (hq:p=decide (m<0)):sg p (n.natAbs+m.natAbs)=n+m:=by
 cases p
 · have h1:¬ n<0:=of_decide_eq_false hp.symm
   have h2:¬ m<0:=of_decide_eq_false hq.symm
   simp [sg]; omega
 · have h1:n<0:=of_decide_eq_true hp.symm
   have h2:m<0:=of_decide_eq_true hq.symm
   simp [sg]; omega
theorem plus_diff {n m:Int} {p q:Bool} (hp:p=decide (n<0)) (hq:q=decide (m<0)) (hpq:p≠q):(m.natAbs≤n.natAbs→sg p (n.natAbs-m.natAbs)=n+m)∧(n.natAbs<m.natAbs→sg q (m.natAbs-n.natAbs)=n+m):=by
 cases p<;>cases q
 · exact absurd rfl hpq
 · have h1:¬ n<0:=of_decide_eq_false hp.symm
   have h2:m<0:=of_decide_eq_true hq.symm
   constructor<;>intro h<;>simp [sg]<;>omega
 · have h1:n<0:=of_decide_eq_true hp.symm
   have h2:¬ m<0:=of_decide_eq_false hq.symm
   constructor<;>intro h<;>simp [sg]<;>omega
 · exact absurd rfl hpq
set_option maxHeartbeats 6400000 in
set_option maxRecDepth 100000 in
theorem rplus_any {w0:World} (p q:Bool) (s t:ByteArray) (n m:Int) (hp:p=decide (n<0)) (hq:q=decide (m<0)) (hs:s=mag n.natAbs) (ht:t=mag m.natAbs) (h1:s.size≤1000000000) (h2:t.size≤1000000000) :
  Calls Tryz.prog 275 #[.agg #[.bool p,.string s],.agg #[.bool q,.string t]] w0 (WPost (n+m) w0):=by
 have hf1:=(((Frames.nil w0).push w0.heap.size #[.bool p,.string s] 23 rfl).push (w0.heap.size+1) #[.bool q,.string t] 23 (by simp)).push (w0.heap.size+1+1) #[.bool false,.string ⟨#[]⟩] 23 (by simp)
 have HB:=Lib.hid (qQ9 (qQ9 (qZ4 w0 (.cells #[.bool p,.string s] 23)) (.cells #[.bool q,.string t] 23)) (.cells #[.bool false,.string ⟨#[]⟩] 23))
 have HF:=Lib.hid hf1
 obtain ⟨N,hN⟩:∃ N,N=n.natAbs:=⟨_,rfl⟩
 obtain ⟨M,hM⟩:∃ M,M=m.natAbs:=⟨_,rfl⟩
 rw [← hN] at hs
 rw [← hM] at ht
 have HS:=Lib.hid hs
 have HT:=Lib.hid ht
 have HP:=Lib.hid hp
 have HQ:=Lib.hid hq
 have HN:=Lib.hid hN
 have HM:=Lib.hid hM
 have KN:Hid ((dig N).length≤250000001):=len_mag hs h1
 have KM:Hid ((dig M).length≤250000001):=len_mag ht h2
 have H1:Hid (s.size≤4294967296):=Nat.le_trans h1 (by decide)
 have H2:Hid (t.size≤4294967296):=Nat.le_trans h2 (by decide)
 obtain ⟨ra,hra⟩:∃ a,a=decide (n+m<0):=⟨_,rfl⟩
 obtain ⟨ru,hru⟩:∃ u,u=mag (n+m).natAbs:=⟨_,rfl⟩
 have HRES:Hid ((Value.agg #[.bool ra,.string ru])=qZ9 (n+m)):=by rw [hra,hru]; rfl
 have HRA:=Lib.hid hra
 have HRU:=Lib.hid hru
 clear hra hru
 clear hs ht hp hq h1 h2 hf1 hN hM
 go_enter Tryz.func275,Tryz.ntmps275
 go_wp2
 generalize ((w0.alloc (.cells #[.bool p,.string s] 23)).alloc (.cells #[.bool q,.string t] 23)).alloc (.cells #[.bool false,.string ⟨#[]⟩] 23)=w1 at HB HF ⊢
 refine qZ2 6 (fun w'=>Below w0.heap.size w0 w'∧Frames w' [(w0.heap.size+1+1,#[.bool false,.string ⟨#[]⟩],23),(w0.heap.size+1,#[.bool q,.string t],23),(w0.heap.size,#[.bool p,.string s],23)]) (fun w w'=>Below w.heap.size w w') (fun i w v=>match i with
   | 0=>v=.pointer (some ⟨w0.heap.size,1,none⟩)
   | 1=>v=.string s
   | 2=>∃ A c,v=.slice A (dig N).length c∧Words w (.slice A (dig N).length c) (dig N)
   | 3=>v=.pointer (some ⟨w0.heap.size+1,1,none⟩)
   | 4=>v=.string t
   | _=>∃ A c,v=.slice A (dig M).length c∧Words w (.slice A (dig M).length c) (dig M)) (by kernel_rfl) (by kernel_rfl) (by kernel_rfl) ⟨HB.out.drew,HF.out.on (Below.drew (Below.refl _ _))⟩ (fun _ _=>(Below.refl _ _)) ?_ ⟨?_,?_,?_,?_,?_,?_,trivial⟩ ?_
 · intro i w1 w2 v hC hC2 hE hV
   match i with
   | 0=>exact hV
   | 1=>exact hV
   | 2=>obtain ⟨A,c,e,h⟩:=hV; exact ⟨A,c,e,h.below hE⟩
   | 3=>exact hV
   | 4=>exact hV
   | _+5=>obtain ⟨A,c,e,h⟩:=hV; exact ⟨A,c,e,h.below hE⟩
 · intro a' w' hag hC hd K hK
   have e2:a'.tmps.getD 2 undef=.pointer (some ⟨w0.heap.size,0,none⟩):=hag 2 rfl
   go_step
   exact hK _ _ hC ((Below.refl _ _)) rfl
 · intro a' w' hag hC hd K hK
   have e7:a'.tmps.getD 7 undef=.pointer (some ⟨w0.heap.size,1,none⟩):=hd.1
   have hc0:=(hC.2.get 2 rfl).cell 1 (.string s) rfl
   have HK:=Lib.hid (hK (.string s) _ hC (Below.refl _ _) rfl)
   clear hK hC
   go_step
   exact HK.out
 · intro a' w' hag hC hd K hK
   have e8:a'.tmps.getD 8 undef=.string s:=hd.1
   go_step
   refine (qW8 s N HS.out H1.out).mono ?_
   rintro e w2 ⟨A,c,rfl,h1,h2⟩
   exact hK _ _ ⟨hC.1.trans (h2.mono hC.1.size),hC.2.on h2⟩ h2 ⟨_,_,rfl,h1⟩
 · intro a' w' hag hC hd K hK
   have e3:a'.tmps.getD 3 undef=.pointer (some ⟨w0.heap.size+1,0,none⟩):=hag 3 rfl
   go_step
   exact hK _ _ hC ((Below.refl _ _)) rfl
 · intro a' w' hag hC hd K hK
   have e10:a'.tmps.getD 10 undef=.pointer (some ⟨w0.heap.size+1,1,none⟩):=hd.1
   have hc0:=(hC.2.get 1 rfl).cell 1 (.string t) rfl
   have HK:=Lib.hid (hK (.string t) _ hC (Below.refl _ _) rfl)
   clear hK hC
   go_step
   exact HK.out
 · intro a' w' hag hC hd K hK
   have e11:a'.tmps.getD 11 undef=.string t:=hd.1
   go_step
   refine (qW8 t M HT.out H2.out).mono ?_
   rintro e w2 ⟨A,c,rfl,h1,h2⟩
   exact hK _ _ ⟨hC.1.trans (h2.mono hC.1.size),hC.2.on h2⟩ h2 ⟨_,_,rfl,h1⟩
 · intro u w' hC hall
   obtain ⟨u0,u1,u2,u3,u4,u5,_⟩:=hall
   have u0:u 0=.pointer (some ⟨w0.heap.size,1,none⟩):=u0
   have u1:u 1=.string s:=u1
   obtain ⟨A9,c9,eu2,h9⟩:=u2
   have u2:u 2=.slice A9 (dig N).length c9:=eu2
   have u3:u 3=.pointer (some ⟨w0.heap.size+1,1,none⟩):=u3
   have u4:u 4=.string t:=u4
   obtain ⟨A12,c12,eu5,h12⟩:=u5
   have u5:u 5=.slice A12 (dig M).length c12:=eu5
   simp only [qZ7,List.take_succ_cons,List.take_zero,Act.put,List.setIfInBounds_toArray,List.set_cons_succ,List.set_cons_zero,Nat.zero_add,Nat.reduceAdd,u0,u1,u2,u3,u4,u5]
   clear u0 u1 u2 u3 u4 u5
   have HC:=Lib.hid hC
   have H9:=Lib.hid h9
   have H12:=Lib.hid h12
   obtain ⟨lN,hlN⟩:∃ l,l=(dig N).length:=⟨_,rfl⟩
   obtain ⟨lM,hlM⟩:∃ l,l=(dig M).length:=⟨_,rfl⟩
   rw [← hlN] at H9
   rw [← hlM] at H12
   rw [← hlN,← hlM]
   have hlNb:lN≤250000001:=by rw [hlN]; exact KN.out
   have hlMb:lM≤250000001:=by rw [hlM]; exact KM.out
   clear hlN hlM
   clear hC h9 h12
   obtain ⟨w2,hw2⟩:∃ w2,w2=w':=⟨_,rfl⟩
   rw [← hw2] at HC H9 H12 ⊢
   clear hw2
   have hc0:=(HC.out.2.get 2 rfl).cell 0 (.bool p) rfl
   have hc1:=(HC.out.2.get 1 rfl).cell 0 (.bool q) rfl
   by_cases hpq:p=q
   · subst hpq
     have HV:Hid (sg p (N+M)=n+m):=by rw [Hid,HN.out,HM.out]; exact plus_same HP.out HQ.out
     go_wp2
     clear hc0 hc1
     refine qZ2 6 (fun w'=>Below w0.heap.size w0 w'∧Frames w' [(w0.heap.size+1+1,#[.bool false,.string ⟨#[]⟩],23),(w0.heap.size+1,#[.bool p,.string t],23),(w0.heap.size,#[.bool p,.string s],23)]∧Words w' (.slice A9 lN c9) (dig N)∧Words w' (.slice A12 lM c12) (dig M)) (fun w w'=>Below w.heap.size w w') (fun i w v=>match i with
       | 0=>v=.pointer (some ⟨w0.heap.size,0,none⟩)
       | 1=>v=.bool p
       | 2=>v=.slice A9 lN c9
       | 3=>v=.slice A12 lM c12
       | 4=>∃ A l c,v=.slice A l c∧Words w (.slice A l c) (dig (N+M))
       | _=>v=.agg #[.bool ra,.string ru]) (by kernel_rfl) (by kernel_rfl) (by kernel_rfl) ⟨HC.out.1.drew,HC.out.2.on (Below.drew (Below.refl _ _)),H9.out.below (Below.drew (Below.refl _ _)),H12.out.below (Below.drew (Below.refl _ _))⟩ (fun _ _=>(Below.refl _ _)) ?_ ⟨?_,?_,?_,?_,?_,?_,trivial⟩ ?_
     · intro i w1 w2 v hC hC2 hE hV
       match i with
       | 0=>exact hV
       | 1=>exact hV
       | 2=>exact hV
       | 3=>exact hV
       | 4=>obtain ⟨A,l,c,e,h⟩:=hV; exact ⟨A,l,c,e,h.below hE⟩
       | _+5=>exact hV
     · intro a' w' hag hC hd K hK
       have e2:a'.tmps.getD 2 undef=.pointer (some ⟨w0.heap.size,0,none⟩):=hag 2 rfl
       go_step
       exact hK _ _ hC ((Below.refl _ _)) rfl
     · intro a' w' hag hC hd K hK
       have e18:a'.tmps.getD 18 undef=.pointer (some ⟨w0.heap.size,0,none⟩):=hd.1
       have hc0:=(hC.2.1.get 2 rfl).cell 0 (.bool p) rfl
       have HK:=Lib.hid (hK (.bool p) _ hC (Below.refl _ _) rfl)
       clear hK hC
       go_step
       exact HK.out
     · intro a' w' hag hC hd K hK
       have e5:a'.tmps.getD 5 undef=.slice A9 lN c9:=hag 5 rfl
       go_step
       exact hK _ _ hC ((Below.refl _ _)) rfl
     · intro a' w' hag hC hd K hK
       have e6:a'.tmps.getD 6 undef=.slice A12 lM c12:=hag 6 rfl
       go_step
       exact hK _ _ hC ((Below.refl _ _)) rfl
     · intro a' w' hag hC hd K hK
       have e20:a'.tmps.getD 20 undef=.slice A9 lN c9:=hd.1
       have e21:a'.tmps.getD 21 undef=.slice A12 lM c12:=hd.2.1
       go_step
       refine (rmore_any hC.2.2.1 hC.2.2.2 (Nat.le_trans hlNb (by decide)) (Nat.le_trans hlMb (by decide))).mono ?_
       rintro e w2 ⟨v,rfl,h1,h2⟩
       rw [qQ3,qQ3] at h1
       obtain ⟨A,l,c,rfl⟩:=h1.form
       exact hK _ _ ⟨hC.1.trans (h2.mono hC.1.size),hC.2.1.on h2,hC.2.2.1.below h2,hC.2.2.2.below h2⟩ h2 ⟨_,_,_,rfl,h1⟩
     · intro a' w' hag hC hd K hK
       have e19:a'.tmps.getD 19 undef=.bool p:=hd.1
       obtain ⟨A22,l22,c22,e22,h22⟩:=hd.2.1
       have e22:a'.tmps.getD 22 undef=.slice A22 l22 c22:=e22
       go_step
       refine (qH3 p h22 (by rw [h22.len.1]; exact Nat.le_trans (len_add KN.out KM.out) (by decide))).mono ?_
       rintro e w2 ⟨rfl,hb⟩
       rw [qQ3,HV.out,← HRES.out]
       exact hK _ _ ⟨hC.1.trans (hb.mono hC.1.size),hC.2.1.on hb,hC.2.2.1.below hb,hC.2.2.2.below hb⟩ hb rfl
     · intro u w' hC hall
       obtain ⟨u0,u1,u2,u3,u4,u5,_⟩:=hall
       have u0:u 0=.pointer (some ⟨w0.heap.size,0,none⟩):=u0
       have u1:u 1=.bool p:=u1
       have u2:u 2=.slice A9 lN c9:=u2
       have u3:u 3=.slice A12 lM c12:=u3
       have u5:u 5=.agg #[.bool ra,.string ru]:=u5
       simp only [qZ7,List.take_succ_cons,List.take_zero,Act.put,List.setIfInBounds_toArray,List.set_cons_succ,List.set_cons_zero,Nat.zero_add,Nat.reduceAdd,u0,u1,u2,u3,u5]
       clear u0 u1 u2 u3 u5
       have HB9:=Lib.hid hC.1
       have HX9:=Lib.hid (hC.2.1.get 0 rfl)
       clear hC
       have hp0:=HX9.out.cell 0 _ rfl
       have hp1:=HX9.out.cell 1 _ rfl
       have hf:=HX9.out.frozen
       go_wp2
       have hk:=(HX9.out.set 0 (.bool ra)).set 1 (.string ru)
       have k0:=hk.cell 0 _ rfl
       have k1:=hk.cell 1 _ rfl
       exact bodyPost_ret (v:=.agg #[.bool ra,.string ru]) (by simp [results,Tryz.results275,go_sem,k0,k1]) rfl ⟨_,_,rfl,HRA,HRU,zJ4 HB9.out (by omega) _ _⟩
   · have HV:=Lib.hid (plus_diff HP.out HQ.out hpq)
     rw [← HN.out,← HM.out] at HV
     have hbq:(p==q)=false:=by rw [beq_eq_false_iff_ne]; exact hpq
     obtain ⟨r,hr⟩:∃ r,r=cmpN N M:=⟨_,rfl⟩
     have HR:=Lib.hid hr
     clear hr
     go_wp2_with fail
     refine (zJ1 H9.out H12.out).mono ?_
     rintro e w2' ⟨rfl,kk,rfl⟩
     rw [← HR.out]
     have HC':=Lib.hid (show Below w0.heap.size w0 (w2.drewN kk)∧Frames (w2.drewN kk) [(w0.heap.size+1+1,#[.bool false,.string ⟨#[]⟩],23),(w0.heap.size+1,#[.bool q,.string t],23),(w0.heap.size,#[.bool p,.string s],23)] from ⟨HC.out.1.trans (Below.drewN_ (Below.refl _ _) kk),HC.out.2.on (Below.drewN_ (Below.refl _ _) kk)⟩)
     have H9':=Lib.hid (H9.out.below (Below.drewN_ (Below.refl _ _) kk))
     have H12':=Lib.hid (H12.out.below (Below.drewN_ (Below.refl _ _) kk))
     generalize w2.drewN kk=w3 at HC' H9' H12' ⊢
     clear HC H9 H12 hc0 hc1 w2
     obtain ⟨w2,hw2⟩:∃ w2,w2=w3:=⟨_,rfl⟩
     rw [← hw2] at HC' H9' H12' ⊢
     have HC:=HC'
     have H9:=H9'
     have H12:=H12'
     clear HC' H9' H12' hw2
     by_cases hle:M≤N
     · have hr0:(0:Int)≤r:=by rw [HR.out]; exact cmpN_ge hle
       have HL:=Lib.hid hle
       have HLL:Hid (lM≤lN):=by rw [Hid,H9.out.len.1,H12.out.len.1]; exact qJ0 _ _ hle
       go_wp2
       refine qZ2 6 (fun w'=>Below w0.heap.size w0 w'∧Frames w' [(w0.heap.size+1+1,#[.bool false,.string ⟨#[]⟩],23),(w0.heap.size+1,#[.bool q,.string t],23),(w0.heap.size,#[.bool p,.string s],23)]∧Words w' (.slice A9 lN c9) (dig N)∧Words w' (.slice A12 lM c12) (dig M)) (fun w w'=>Below w.heap.size w w') (fun i w v=>match i with
         | 0=>v=.pointer (some ⟨w0.heap.size,0,none⟩)
         | 1=>v=.bool p
         | 2=>v=.slice A9 lN c9
         | 3=>v=.slice A12 lM c12
         | 4=>∃ A l c,v=.slice A l c∧Words w (.slice A l c) (dig (N-M))
         | _=>v=.agg #[.bool ra,.string ru]) (by kernel_rfl) (by kernel_rfl) (by kernel_rfl) ⟨HC.out.1.drew,HC.out.2.on (Below.drew (Below.refl _ _)),H9.out.below (Below.drew (Below.refl _ _)),H12.out.below (Below.drew (Below.refl _ _))⟩ (fun _ _=>(Below.refl _ _)) ?_ ⟨?_,?_,?_,?_,?_,?_,trivial⟩ ?_
       · intro i w1 w2 v hC hC2 hE hV
         match i with
         | 0=>exact hV
         | 1=>exact hV
         | 2=>exact hV
         | 3=>exact hV
         | 4=>obtain ⟨A,l,c,e,h⟩:=hV; exact ⟨A,l,c,e,h.below hE⟩
         | _+5=>exact hV
       · intro a' w' hag hC hd K hK
         have e2:a'.tmps.getD 2 undef=.pointer (some ⟨w0.heap.size,0,none⟩):=hag 2 rfl
         go_step
         exact hK _ _ hC ((Below.refl _ _)) rfl
       · intro a' w' hag hC hd K hK
         have e28:a'.tmps.getD 28 undef=.pointer (some ⟨w0.heap.size,0,none⟩):=hd.1
         have hc0:=(hC.2.1.get 2 rfl).cell 0 (.bool p) rfl
         have HK:=Lib.hid (hK (.bool p) _ hC (Below.refl _ _) rfl)
         clear hK hC
         go_step
         exact HK.out
       · intro a' w' hag hC hd K hK
         have e5:a'.tmps.getD 5 undef=.slice A9 lN c9:=hag 5 rfl
         go_step
         exact hK _ _ hC ((Below.refl _ _)) rfl
       · intro a' w' hag hC hd K hK
         have e6:a'.tmps.getD 6 undef=.slice A12 lM c12:=hag 6 rfl
         go_step
         exact hK _ _ hC ((Below.refl _ _)) rfl
       · intro a' w' hag hC hd K hK
         have e30:a'.tmps.getD 30 undef=.slice A9 lN c9:=hd.1
         have e31:a'.tmps.getD 31 undef=.slice A12 lM c12:=hd.2.1
         go_step
         refine (rless_any hC.2.2.1 hC.2.2.2 (Nat.le_trans hlNb (by decide)) (by rw [qQ3,qQ3]; exact HL.out) HLL.out).mono ?_
         rintro e w2 ⟨v,rfl,h1,h2⟩
         rw [qQ3,qQ3] at h1
         obtain ⟨A,l,c,rfl⟩:=h1.form
         exact hK _ _ ⟨hC.1.trans (h2.mono hC.1.size),hC.2.1.on h2,hC.2.2.1.below h2,hC.2.2.2.below h2⟩ h2 ⟨_,_,_,rfl,h1⟩
       · intro a' w' hag hC hd K hK
         have e29:a'.tmps.getD 29 undef=.bool p:=hd.1
         obtain ⟨A32,l32,c32,e32,h32⟩:=hd.2.1
         have e32:a'.tmps.getD 32 undef=.slice A32 l32 c32:=e32
         go_step
         refine (qH3 p h32 (by rw [h32.len.1]; exact Nat.le_trans (qJ0 _ _ (Nat.sub_le _ _)) (Nat.le_trans KN.out (by decide)))).mono ?_
         rintro e w2 ⟨rfl,hb⟩
         rw [qQ3,HV.out.1 HL.out,← HRES.out]
         exact hK _ _ ⟨hC.1.trans (hb.mono hC.1.size),hC.2.1.on hb,hC.2.2.1.below hb,hC.2.2.2.below hb⟩ hb rfl
       · intro u w' hC hall
         obtain ⟨u0,u1,u2,u3,u4,u5,_⟩:=hall
         have u0:u 0=.pointer (some ⟨w0.heap.size,0,none⟩):=u0
         have u1:u 1=.bool p:=u1
         have u2:u 2=.slice A9 lN c9:=u2
         have u3:u 3=.slice A12 lM c12:=u3
         have u5:u 5=.agg #[.bool ra,.string ru]:=u5
         simp only [qZ7,List.take_succ_cons,List.take_zero,Act.put,List.setIfInBounds_toArray,List.set_cons_succ,List.set_cons_zero,Nat.zero_add,Nat.reduceAdd,u0,u1,u2,u3,u5]
         clear u0 u1 u2 u3 u5
         have HB9:=Lib.hid hC.1
         have HX9:=Lib.hid (hC.2.1.get 0 rfl)
         clear hC
         have hp0:=HX9.out.cell 0 _ rfl
         have hp1:=HX9.out.cell 1 _ rfl
         have hf:=HX9.out.frozen
         go_wp2
         have hk:=(HX9.out.set 0 (.bool ra)).set 1 (.string ru)
         have k0:=hk.cell 0 _ rfl
         have k1:=hk.cell 1 _ rfl
         exact bodyPost_ret (v:=.agg #[.bool ra,.string ru]) (by simp [results,Tryz.results275,go_sem,k0,k1]) rfl ⟨_,_,rfl,HRA,HRU,zJ4 HB9.out (by omega) _ _⟩
     · have hr0:r<0:=by rw [HR.out,cmpN_lt (by omega)]; decide
       have HL:=Lib.hid (Nat.not_le.1 hle)
       have HLL:Hid (lN≤lM):=by rw [Hid,H9.out.len.1,H12.out.len.1]; exact qJ0 _ _ (by omega)
       go_wp2
       refine qZ2 6 (fun w'=>Below w0.heap.size w0 w'∧Frames w' [(w0.heap.size+1+1,#[.bool false,.string ⟨#[]⟩],23),(w0.heap.size+1,#[.bool q,.string t],23),(w0.heap.size,#[.bool p,.string s],23)]∧Words w' (.slice A9 lN c9) (dig N)∧Words w' (.slice A12 lM c12) (dig M)) (fun w w'=>Below w.heap.size w w') (fun i w v=>match i with
         | 0=>v=.pointer (some ⟨w0.heap.size+1,0,none⟩)
         | 1=>v=.bool q
         | 2=>v=.slice A12 lM c12
         | 3=>v=.slice A9 lN c9
         | 4=>∃ A l c,v=.slice A l c∧Words w (.slice A l c) (dig (M-N))
         | _=>v=.agg #[.bool ra,.string ru]) (by kernel_rfl) (by kernel_rfl) (by kernel_rfl) ⟨HC.out.1.drew,HC.out.2.on (Below.drew (Below.refl _ _)),H9.out.below (Below.drew (Below.refl _ _)),H12.out.below (Below.drew (Below.refl _ _))⟩ (fun _ _=>(Below.refl _ _)) ?_ ⟨?_,?_,?_,?_,?_,?_,trivial⟩ ?_
       · intro i w1 w2 v hC hC2 hE hV
         match i with
         | 0=>exact hV
         | 1=>exact hV
         | 2=>exact hV
         | 3=>exact hV
         | 4=>obtain ⟨A,l,c,e,h⟩:=hV; exact ⟨A,l,c,e,h.below hE⟩
         | _+5=>exact hV
       · intro a' w' hag hC hd K hK
         have e3:a'.tmps.getD 3 undef=.pointer (some ⟨w0.heap.size+1,0,none⟩):=hag 3 rfl
         go_step
         exact hK _ _ hC ((Below.refl _ _)) rfl
       · intro a' w' hag hC hd K hK
         have e34:a'.tmps.getD 34 undef=.pointer (some ⟨w0.heap.size+1,0,none⟩):=hd.1
         have hc0:=(hC.2.1.get 1 rfl).cell 0 (.bool q) rfl
         have HK:=Lib.hid (hK (.bool q) _ hC (Below.refl _ _) rfl)
         clear hK hC
         go_step
         exact HK.out
       · intro a' w' hag hC hd K hK
         have e6:a'.tmps.getD 6 undef=.slice A12 lM c12:=hag 6 rfl
         go_step
         exact hK _ _ hC ((Below.refl _ _)) rfl
       · intro a' w' hag hC hd K hK
         have e5:a'.tmps.getD 5 undef=.slice A9 lN c9:=hag 5 rfl
         go_step
         exact hK _ _ hC ((Below.refl _ _)) rfl
       · intro a' w' hag hC hd K hK
         have e36:a'.tmps.getD 36 undef=.slice A12 lM c12:=hd.1
         have e37:a'.tmps.getD 37 undef=.slice A9 lN c9:=hd.2.1
         go_step
         refine (rless_any hC.2.2.2 hC.2.2.1 (Nat.le_trans hlMb (by decide)) (by rw [qQ3,qQ3]; exact Nat.le_of_lt HL.out) HLL.out).mono ?_
         rintro e w2 ⟨v,rfl,h1,h2⟩
         rw [qQ3,qQ3] at h1
         obtain ⟨A,l,c,rfl⟩:=h1.form
         exact hK _ _ ⟨hC.1.trans (h2.mono hC.1.size),hC.2.1.on h2,hC.2.2.1.below h2,hC.2.2.2.below h2⟩ h2 ⟨_,_,_,rfl,h1⟩
       · intro a' w' hag hC hd K hK
         have e35:a'.tmps.getD 35 undef=.bool q:=hd.1
         obtain ⟨A38,l38,c38,e38,h38⟩:=hd.2.1
         have e38:a'.tmps.getD 38 undef=.slice A38 l38 c38:=e38
         go_step
         refine (qH3 q h38 (by rw [h38.len.1]; exact Nat.le_trans (qJ0 _ _ (Nat.sub_le _ _)) (Nat.le_trans KM.out (by decide)))).mono ?_
         rintro e w2 ⟨rfl,hb⟩
         rw [qQ3,HV.out.2 HL.out,← HRES.out]
         exact hK _ _ ⟨hC.1.trans (hb.mono hC.1.size),hC.2.1.on hb,hC.2.2.1.below hb,hC.2.2.2.below hb⟩ hb rfl
       · intro u w' hC hall
         obtain ⟨u0,u1,u2,u3,u4,u5,_⟩:=hall
         have u0:u 0=.pointer (some ⟨w0.heap.size+1,0,none⟩):=u0
         have u1:u 1=.bool q:=u1
         have u2:u 2=.slice A12 lM c12:=u2
         have u3:u 3=.slice A9 lN c9:=u3
         have u5:u 5=.agg #[.bool ra,.string ru]:=u5
         simp only [qZ7,List.take_succ_cons,List.take_zero,Act.put,List.setIfInBounds_toArray,List.set_cons_succ,List.set_cons_zero,Nat.zero_add,Nat.reduceAdd,u0,u1,u2,u3,u5]
         clear u0 u1 u2 u3 u5
         have HB9:=Lib.hid hC.1
         have HX9:=Lib.hid (hC.2.1.get 0 rfl)
         clear hC
         have hp0:=HX9.out.cell 0 _ rfl
         have hp1:=HX9.out.cell 1 _ rfl
         have hf:=HX9.out.frozen
         go_wp2
         have hk:=(HX9.out.set 0 (.bool ra)).set 1 (.string ru)
         have k0:=hk.cell 0 _ rfl
         have k1:=hk.cell 1 _ rfl
         exact bodyPost_ret (v:=.agg #[.bool ra,.string ru]) (by simp [results,Tryz.results275,go_sem,k0,k1]) rfl ⟨_,_,rfl,HRA,HRU,zJ4 HB9.out (by omega) _ _⟩
structure Fr (w0 w:World) (l:List (Nat × Array Value × TypeId)):Prop where
 below:Below w0.heap.size w0 w
 boxes:Frames w l
 dist:l.Pairwise (fun x y=>x.1≠y.1)
 low:∀ x∈l,w0.heap.size≤x.1
theorem agg2 {a b c d:Value} (h:Value.agg #[a,b]=.agg #[c,d]):a=c∧b=d:=by
 injection h with h
 have h:=congrArg Array.toList h
 simpa using h
theorem qJ1 {p:Bool} {s:ByteArray} {n:Int} (h:(Value.agg #[.bool p,.string s])=qZ9 n):p=decide (n<0)∧s=mag n.natAbs:=by
 obtain ⟨h1,h2⟩:=agg2 h
 exact ⟨Value.bool.inj h1,Value.string.inj h2⟩
theorem sz_of {p:Bool} {s:ByteArray} {n:Int} (h:(Value.agg #[.bool p,.string s])=qZ9 n) {k:Nat} (b:sz n≤k):s.size≤k:=by
 rw [(qJ1 h).2]; exact b
theorem zW0 {p:Bool} {s:ByteArray} (h:qV6 p s):decide (qJ6 p s<0)=p∧mag (qJ6 p s).natAbs=s:=by
 have hp:Plain1 s:=by
  rcases h with h1 | h1
  · exact .inl h1.1
  · exact .inr h1.2
 have h1:=mag_num hp
 have h2:s.size≠0→num s≠0:=by
  intro k e
  rw [e,mag_zero] at h1
  rw [← h1] at k
  exact k rfl
 have h3:(qJ6 p s).natAbs=num s:=by unfold qJ6 sg; cases p<;>simp
 refine ⟨?_,by rw [h3,h1]⟩
 rcases h with h4 | h4
 · have:num s=0:=by have:=num_lt s; rw [h4.1] at this; omega
   rw [h4.2]
   unfold qJ6 sg
   simp [this]
 · have:=h2 h4.1
   unfold qJ6 sg
   cases p
   · simp
   · simp; omega
theorem isFrac_doc {b c:Bool} {s t:ByteArray}:zZ5 (.agg #[.bool b,.string s,.bool c,.string t]) ↔
  (s.size≤1024∧t.size≤1024)∧qV6 b s∧qV6 c t∧0<qJ6 c t∧Nat.gcd (qJ6 b s).natAbs (qJ6 c t).natAbs=1:=by
 constructor
 · intro h
   obtain ⟨h1,h2,h3,h4,h5,h6⟩:=qW3 h
   refine ⟨⟨h3,h4⟩,h1.1,h2.1,h5,?_⟩
   obtain ⟨q,hf,hv⟩:=h
   obtain ⟨rfl,rfl,rfl,rfl⟩:=agg4 hv
   have n2:=zV6 (q.den:Int)
   rw [show decide ((q.den:Int)<0)=false by simp,Int.natAbs_natCast] at n2
   rw [zV6,n2,Int.natAbs_natCast]
   exact q.reduced
 · rintro ⟨⟨h1,h2⟩,h3,h4,h5,h6⟩
   obtain ⟨e1,e2⟩:=zW0 h3
   obtain ⟨e3,e4⟩:=zW0 h4
   refine isFrac_of h1 h2 (q:=Rat.divInt (qJ6 b s) (qJ6 c t)) ?_
   obtain ⟨_,_,_,d4,d5⟩:=divInt_parts (qJ6 b s) (qJ6 c t) (by omega) 1 (by rw [if_neg (by omega),h6]; rfl)
   rw [Int.ediv_one] at d4 d5
   rw [fracV,d4,e1,e2]
   have hc:c=false:=by rw [← e3]; exact decide_eq_false (by omega)
   have hd:(Rat.divInt (qJ6 b s) (qJ6 c t)).den=(qJ6 c t).natAbs:=by omega
   rw [hd,e4,hc]
theorem rtimes_w {w0:World} {p q:Bool} {s t:ByteArray} {n m:Int} (h:(Value.agg #[.bool p,.string s])=qZ9 n) (k:(Value.agg #[.bool q,.string t])=qZ9 m) (h1:sz n≤1000000000) (h2:sz m≤1000000000) :
  Calls Tryz.prog 136 #[.agg #[.bool p,.string s],.agg #[.bool q,.string t]] w0 fun e w'=>e=.returned (qZ9 (n*m))∧Below w0.heap.size w0 w':=by
 refine (rtimes_any p q s t n m (qJ1 h).1 (qJ1 k).1 (qJ1 h).2 (qJ1 k).2 (sz_of h h1) (sz_of k h2)).mono ?_
 rintro e w' ⟨a,u,rfl,ha,hu,hb⟩
 exact ⟨by rw [ha.out,hu.out]; rfl,hb⟩
theorem rplus_w {w0:World} {p q:Bool} {s t:ByteArray} {n m:Int} (h:(Value.agg #[.bool p,.string s])=qZ9 n) (k:(Value.agg #[.bool q,.string t])=qZ9 m) (h1:sz n≤1000000000) (h2:sz m≤1000000000) :
  Calls Tryz.prog 275 #[.agg #[.bool p,.string s],.agg #[.bool q,.string t]] w0 fun e w'=>e=.returned (qZ9 (n+m))∧Below w0.heap.size w0 w':=by
 refine (rplus_any p q s t n m (qJ1 h).1 (qJ1 k).1 (qJ1 h).2 (qJ1 k).2 (sz_of h h1) (sz_of k h2)).mono ?_
 rintro e w' ⟨a,u,rfl,ha,hu,hb⟩
 exact ⟨by rw [ha.out,hu.out]; rfl,hb⟩
theorem rsign_w {w:World} {p:Bool} {s:ByteArray} {n:Int} (h:(Value.agg #[.bool p,.string s])=qZ9 n) :
  Calls Tryz.prog 255 #[.agg #[.bool p,.string s]] w fun e w'=>e=.returned (.int .i64 n.sign)∧Below w.heap.size w w':=rsign_any p s n (qJ1 h).1 (qJ1 h).2
theorem r3of_w {w0:World} {p q:Bool} {s t:ByteArray} {n m:Int} (h:(Value.agg #[.bool p,.string s])=qZ9 n) (k:(Value.agg #[.bool q,.string t])=qZ9 m) (h1:sz n≤1000000000) (h2:sz m≤1000000000) (hm:m≠0) :
  Calls Tryz.prog 258 #[.agg #[.bool p,.string s],.agg #[.bool q,.string t]] w0 fun e w'=>e=.returned (fracV (Rat.divInt n m))∧Below w0.heap.size w0 w' :=
 r3of_any p q s t n m (qJ1 h).1 (qJ1 k).1 (qJ1 h).2 (qJ1 k).2 (sz_of h h1) (sz_of k h2) hm
set_option maxRecDepth 100000 in
theorem rof_any {w:World} {n:Int} (hr : -9223372036854775808≤n∧n≤9223372036854775807) :
  Calls Tryz.prog 108 #[.int .i64 n] w fun e w'=>e=.returned (qZ9 n)∧Below w.heap.size w w':=by
 have HR:=Lib.hid hr
 have HB:=Lib.hid (qZ4 w (.cells #[.bool false,.string ⟨#[]⟩] 23))
 have HC:=Lib.hid (BoxAt.new w #[.bool false,.string ⟨#[]⟩] 23)
 obtain ⟨k,hk⟩:∃ k,k=n.natAbs:=⟨_,rfl⟩
 have hkb:k≤9223372036854775808:=by omega
 obtain ⟨x,hx⟩:∃ x,x=k % 4294967296:=⟨_,rfl⟩
 obtain ⟨y,hy⟩:∃ y,y=k/4294967296:=⟨_,rfl⟩
 have hx32:x<4294967296:=by omega
 have hy32:y<4294967296:=by omega
 have hxi:(k:Int) % 4294967296=(x:Int):=by omega
 have hyi:(k:Int)/4294967296=(y:Int):=by omega
 have HS:Hid (sg (decide (n<0)) (val [x,y])=n):=by
  have:val [x,y]=k:=by simp [val]; omega
  rw [Hid,this,hk,sg_of]
 have HWW:=Lib.hid (words_two (w.alloc (.cells #[.bool false,.string ⟨#[]⟩] 23)) x y _ _ hx32 hy32 rfl rfl)
 have HBW:=Lib.hid (qZ4 (w.alloc (.cells #[.bool false,.string ⟨#[]⟩] 23)) (.cells #[.int .u32 (x:Int),.int .u32 (y:Int)] 299))
 have HC1:=Lib.hid (HC.out.on HBW.out)
 have HB1:=Lib.hid (HB.out.trans (HBW.out.mono HB.out.size))
 rw [size_alloc] at HWW
 by_cases h:n<0
 all_goals
  have hw1:IntKind.u64.wrap n=if n<0 then 18446744073709551616+n else n:=by simp [IntKind.wrap,IntKind.bits,IntKind.signed]; omega
 · rw [if_pos h] at hw1
   have hw2:IntKind.u64.wrap (-(18446744073709551616+n)) = -n:=by simp [IntKind.wrap,IntKind.bits,IntKind.signed]; omega
   have hnk : -n=(k:Int):=by omega
   rw [hnk] at hw2
   have hd:decide (n<0)=true:=by simpa using h
   rw [hd] at HS
   clear hr hk hnk hx hy
   go_enter Tryz.func108,Tryz.ntmps108
   go_wp2_with fail
   refine (qH3 true HWW.out (by decide)).mono ?_
   rintro e w1 ⟨rfl,hb⟩
   rw [HS.out]
   obtain ⟨p,s,hps⟩:∃ p s,qZ9 n=.agg #[.bool p,.string s]:=⟨_,_,rfl⟩
   have HPS:=Lib.hid hps
   rw [hps]
   have HC2:=Lib.hid (HC1.out.on hb)
   have HB2:=Lib.hid (HB1.out.trans (hb.mono HB1.out.size))
   have hp0:=HC2.out.cell 0 _ rfl
   have hp1:=HC2.out.cell 1 _ rfl
   have hf:=HC2.out.frozen
   clear hps hb
   go_wp2
   have hk:=(HC2.out.set 0 (.bool p)).set 1 (.string s)
   have k0:=hk.cell 0 _ rfl
   have k1:=hk.cell 1 _ rfl
   exact bodyPost_ret (v:=.agg #[.bool p,.string s]) (by simp [results,Tryz.results108,go_sem,k0,k1]) rfl ⟨by rw [HPS.out],(HB2.out.setCell (Nat.le_refl _) _).setCell (Nat.le_refl _) _⟩
 · rw [if_neg h] at hw1
   have hnk:n=(k:Int):=by omega
   have hd:decide (n<0)=false:=by simpa using h
   rw [hd] at HS
   have hw3:IntKind.u64.wrap n=(k:Int):=by rw [hw1]; exact hnk
   have HNK:=Lib.hid hnk
   clear hr hk hx hy hw1 hnk
   go_enter Tryz.func108,Tryz.ntmps108
   go_wp2_with fail
   refine (qH3 false HWW.out (by decide)).mono ?_
   rintro e w1 ⟨rfl,hb⟩
   rw [HS.out]
   obtain ⟨p,s,hps⟩:∃ p s,qZ9 n=.agg #[.bool p,.string s]:=⟨_,_,rfl⟩
   have HPS:=Lib.hid hps
   rw [hps]
   have HC2:=Lib.hid (HC1.out.on hb)
   have HB2:=Lib.hid (HB1.out.trans (hb.mono HB1.out.size))
   have hp0:=HC2.out.cell 0 _ rfl
   have hp1:=HC2.out.cell 1 _ rfl
   have hf:=HC2.out.frozen
   clear hps hb
   go_wp2
   have hk:=(HC2.out.set 0 (.bool p)).set 1 (.string s)
   have k0:=hk.cell 0 _ rfl
   have k1:=hk.cell 1 _ rfl
   exact bodyPost_ret (v:=.agg #[.bool p,.string s]) (by simp [results,Tryz.results108,go_sem,k0,k1]) rfl ⟨by rw [HPS.out],(HB2.out.setCell (Nat.le_refl _) _).setCell (Nat.le_refl _) _⟩
end Go.Proofs.YtbepimnlleilfaaGreat
end
section
namespace Go.Proofs.YtbepimnlleilfaaGreat
open Go.Proofs.YtbepimnlleilfaaGreat.Y
open Go Go.RowKit
set_option maxRecDepth 100000
def ansB (q:Rat):Bool:=if Fit q then decide (q.num<0) else false
def ansS (q:Rat):ByteArray:=if Fit q then mag q.num.natAbs else ⟨#[]⟩
def ansD (q:Rat):ByteArray:=if Fit q then mag q.den else ⟨#[]⟩
theorem fit_maxLen {x:Rat} (h:Fit x):(mag x.num.natAbs).size≤maxLen∧(mag x.den).size≤maxLen:=⟨Nat.le_trans h.1 (by decide),Nat.le_trans h.2 (by decide)⟩
def rawV (b c:Bool) (s t:ByteArray):Value:=.agg #[.bool b,.string s,.bool c,.string t]
theorem fitF (x:Rat) (h:Fit x):zZ5 (rawV (decide (x.num<0)) false (mag x.num.natAbs) (mag x.den)):=⟨x,h,rfl⟩
theorem zY9 {r:Bool} {P:Prop} (h:r=true↔P) (k:¬ P):r=false:=by
 cases r
 · rfl
 · exact absurd (h.1 rfl) k
theorem zX7 {P:Prop} (k:¬ P):false=true↔P:=⟨fun h=>Bool.noConfusion h,fun h=>absurd h k⟩
theorem qK5 {P:Prop} (k:P):true=true↔P:=⟨fun _=>k,fun _=>rfl⟩
theorem may_w {w0:World} (b c:Bool) (s t:ByteArray) (hs:s.size≤maxLen) (ht:t.size≤maxLen) (r:Bool) (hr:r=true↔zZ5 (.agg #[.bool b,.string s,.bool c,.string t])) :
  Calls Tryz.prog 117 #[.agg #[.bool b,.string s,.bool c,.string t]] w0 fun e w'=>e=.returned (.bool r)∧Below w0.heap.size w0 w':=by
 refine (May_any b c s t hs ht).mono ?_
 rintro e w' ⟨r',rfl,hr',hb⟩
 refine ⟨?_,hb⟩
 rw [Bool.eq_iff_iff.2 (hr'.trans hr.symm)]
def eMay (b c:Bool) (s t:ByteArray) (hs:s.size≤maxLen) (ht:t.size≤maxLen) (r:Bool) (hr:r=true↔zZ5 (rawV b c s t)):Ev Tryz.prog:=.ret 117 Tryz.call117 _ _ (fun w=>may_w b c s t hs ht r hr)
def eMayF (x:Rat) (h:Fit x):Ev Tryz.prog:=eMay _ _ _ _ (fit_maxLen h).1 (fit_maxLen h).2 true (qK5 (fitF x h))
def fC (x:Rat):List Lf:=[.b (.v (.bool (decide (x.num<0)))),.b (.v (.string (mag x.num.natAbs))),.b (.v (.bool false)),.b (.v (.string (mag x.den)))]
section
variable {n m:Int}
theorem rneg_w {w:World} {p:Bool} {s:ByteArray} {n:Int} (h:(Value.agg #[.bool p,.string s])=qZ9 n) :
  Calls Tryz.prog 281 #[.agg #[.bool p,.string s]] w fun e w'=>e=.returned (qZ9 (-n))∧Below w.heap.size w w':=by
 refine (rneg_any p s n (qJ1 h).1 (qJ1 h).2).mono ?_
 rintro e w' ⟨a,u,rfl,ha,hu,hb⟩
 exact ⟨by rw [ha.out,hu.out]; rfl,hb⟩
theorem rgcd_w {w0:World} {p q:Bool} {s t:ByteArray} {n m:Int} (h:(Value.agg #[.bool p,.string s])=qZ9 n) (k:(Value.agg #[.bool q,.string t])=qZ9 m) (h1:sz n≤1000000000) (h2:sz m≤1000000000) :
  Calls Tryz.prog 256 #[.agg #[.bool p,.string s],.agg #[.bool q,.string t]] w0 fun e w'=>e=.returned (qZ9 ((Nat.gcd n.natAbs m.natAbs:Nat):Int))∧Below w0.heap.size w0 w':=by
 refine (rgcd_any p q s t n.natAbs m.natAbs (qJ1 h).2 (qJ1 k).2 (sz_of h h1) (sz_of k h2)).mono ?_
 rintro e w' ⟨g,rfl,hg,hb⟩
 refine ⟨?_,hb⟩
 unfold qZ9
 rw [hg.out,Int.natAbs_natCast,show decide (((Nat.gcd n.natAbs m.natAbs:Nat):Int)<0)=false from decide_eq_false (by omega)]
def eWTimes (hn:sz n≤1000000000) (hm:sz m≤1000000000):Ev Tryz.prog:=.ret 136 Tryz.call136 #[qZ9 n,qZ9 m] (qZ9 (n*m)) (fun w=>rtimes_w rfl rfl hn hm)
def eWPlus (hn:sz n≤1000000000) (hm:sz m≤1000000000):Ev Tryz.prog:=.ret 275 Tryz.call275 #[qZ9 n,qZ9 m] (qZ9 (n+m)) (fun w=>rplus_w rfl rfl hn hm)
def eWNeg (n:Int):Ev Tryz.prog:=.ret 281 Tryz.call281 #[qZ9 n] (qZ9 (-n)) (fun w=>rneg_w rfl)
def eWSign {k:Int} (hk:n.sign=k):Ev Tryz.prog:=.ret 255 Tryz.call255 #[qZ9 n] (.int .i64 k) (fun w=>by rw [← hk]; exact rsign_w rfl)
def eWGcd (hn:sz n≤1000000000) (hm:sz m≤1000000000):Ev Tryz.prog:=.ret 256 Tryz.call256 #[qZ9 n,qZ9 m] (qZ9 ((Nat.gcd n.natAbs m.natAbs:Nat):Int)) (fun w=>rgcd_w rfl rfl hn hm)
def eWOf (n:Int) (hr : -9223372036854775808≤n∧n≤9223372036854775807):Ev Tryz.prog:=.ret 108 Tryz.call108 #[.int .i64 n] (qZ9 n) (fun w=>rof_any hr)
def zH0 (p:Bool) (s:ByteArray) (r:Bool) (hr:r=true↔qV6 p s):Ev Tryz.prog:=.ret 254 Tryz.call254 #[.agg #[.bool p,.string s]] (.bool r) (fun w=>rformed_any p s r hr)
def eFOf (hn:sz n≤1000000000) (hm:sz m≤1000000000) (h0:m≠0):Ev Tryz.prog:=.ret 258 Tryz.call258 #[qZ9 n,qZ9 m] (fracV (Rat.divInt n m)) (fun w=>r3of_w rfl rfl hn hm h0)
end
theorem qX0 {P : Program} {w : World} {d : Nat} {xs ys : Array Value} {f : Field} {fs : List Field} {a b : Value} {r : Bool} (hn : decide (f.name = "_") = false) (ha : (part f.type xs f.offset).run P w = .ok a w) (hb : (part f.type ys f.offset).run P w = .ok b w)
  (hr:(Op.equalIn d f.type a b).run P w=.ok r w) {s:Bool} (hs:(Op.eqFields d xs ys fs).run P w=.ok s w):(Op.eqFields d xs ys (f::fs)).run P w=.ok (r&&s) w:=by
 unfold Op.eqFields
 rw [if_pos (of_decide_eq_false hn)]
 simp only [Sem.run_bind,ha,hb,hr,Result.andThen_ok]
 cases r
 · rfl
 · simpa using hs
theorem eqW {w:World} (d:Nat) (b b':Bool) (s s':ByteArray):(Op.equalIn (d+2) 23 (.agg #[.bool b,.string s]) (.agg #[.bool b',.string s'])).run Tryz.prog w=.ok ((b==b')&&((s.toList==s'.toList)&&true)) w:=by
 rw [run_equalIn_agg _ _ _ _ _ (by kernel_rfl) (by kernel_rfl)]
 refine qX0 (a:=.bool b) (b:=.bool b') (by kernel_rfl) (by kernel_rfl) (by kernel_rfl) (run_equalIn_bool' _ _ _ _ _ (by kernel_rfl)) ?_
 refine qX0 (a:=.string s) (b:=.string s') (by kernel_rfl) (by kernel_rfl) (by kernel_rfl) (run_equalIn_string _ _ _ _ _ (by kernel_rfl)) ?_
 kernel_rfl
def weq (b b':Bool) (s s':ByteArray):Bool:=(b==b')&&((s.toList==s'.toList)&&true)
def feq (b b':Bool) (s s':ByteArray) (c c':Bool) (t t':ByteArray):Bool:=weq b b' s s'&&(weq c c' t t'&&true)
theorem eqF {w:World} (d:Nat) (b b' c c':Bool) (s s' t t':ByteArray):(Op.equalIn (d+3) 25 (.agg #[.bool b,.string s,.bool c,.string t]) (.agg #[.bool b',.string s',.bool c',.string t'])).run Tryz.prog w=.ok (feq b b' s s' c c' t t') w:=by
 rw [run_equalIn_agg _ _ _ _ _ (by kernel_rfl) (by kernel_rfl)]
 refine qX0 (a:=.agg #[.bool b,.string s]) (b:=.agg #[.bool b',.string s']) (by kernel_rfl) (by kernel_rfl) (by kernel_rfl) (eqW d _ _ _ _) ?_
 refine qX0 (a:=.agg #[.bool c,.string t]) (b:=.agg #[.bool c',.string t']) (by kernel_rfl) (by kernel_rfl) (by kernel_rfl) (eqW d _ _ _ _) ?_
 kernel_rfl
structure R4 where
 b:Bool
 s:ByteArray
 c:Bool
 t:ByteArray
def R4.V (x:R4):List Value:=[.bool x.b,.string x.s,.bool x.c,.string x.t]
def R4.eq (x y:R4):Bool:=feq x.b y.b x.s y.s x.c y.c x.t y.t
theorem weq_iff {b b':Bool} {s s':ByteArray}:weq b b' s s'=true↔b=b'∧s=s':=by
 unfold weq
 rw [Bool.and_true,Bool.and_eq_true,beq_iff_eq,beq_iff_eq,toList_inj]
theorem R4.eq_iff {x y:R4}:x.eq y=true↔x=y:=by
 unfold R4.eq feq
 rw [Bool.and_true,Bool.and_eq_true,weq_iff,weq_iff]
 obtain ⟨b,s,c,t⟩:=x
 obtain ⟨b',s',c',t'⟩:=y
 constructor
 · rintro ⟨⟨rfl,rfl⟩,rfl,rfl⟩; rfl
 · intro h; injection h with h1 h2 h3 h4; exact ⟨⟨h1,h2⟩,h3,h4⟩
theorem eqG {w:World} (d:Nat) (x y x' y':R4):(Op.equalIn (d+4) 46 (.agg #[.bool x.b,.string x.s,.bool x.c,.string x.t,.bool y.b,.string y.s,.bool y.c,.string y.t]) (.agg #[.bool x'.b,.string x'.s,.bool x'.c,.string x'.t,.bool y'.b,.string y'.s,.bool y'.c,.string y'.t])).run Tryz.prog w=.ok (x.eq x'&&(y.eq y'&&true)) w:=by
 rw [run_equalIn_agg _ _ _ _ _ (by kernel_rfl) (by kernel_rfl)]
 refine qX0 (a:=.agg #[.bool x.b,.string x.s,.bool x.c,.string x.t]) (b:=.agg #[.bool x'.b,.string x'.s,.bool x'.c,.string x'.t]) (by kernel_rfl) (by kernel_rfl) (by kernel_rfl) (eqF d _ _ _ _ _ _ _ _) ?_
 refine qX0 (a:=.agg #[.bool y.b,.string y.s,.bool y.c,.string y.t]) (b:=.agg #[.bool y'.b,.string y'.s,.bool y'.c,.string y'.t]) (by kernel_rfl) (by kernel_rfl) (by kernel_rfl) (eqF d _ _ _ _ _ _ _ _) ?_
 kernel_rfl
theorem eqP {w:World} (d:Nat) (i i':Bool) (x y x' y':R4):(Op.equalIn (d+5) 61 (.agg #[.bool i,.bool x.b,.string x.s,.bool x.c,.string x.t,.bool y.b,.string y.s,.bool y.c,.string y.t]) (.agg #[.bool i',.bool x'.b,.string x'.s,.bool x'.c,.string x'.t,.bool y'.b,.string y'.s,.bool y'.c,.string y'.t])).run Tryz.prog w=.ok ((i==i')&&((x.eq x'&&(y.eq y'&&true))&&true)) w:=by
 rw [run_equalIn_agg _ _ _ _ _ (by kernel_rfl) (by kernel_rfl)]
 refine qX0 (a:=.bool i) (b:=.bool i') (by kernel_rfl) (by kernel_rfl) (by kernel_rfl) (run_equalIn_bool' _ _ _ _ _ (by kernel_rfl)) ?_
 refine qX0 (a:=.agg #[.bool x.b,.string x.s,.bool x.c,.string x.t,.bool y.b,.string y.s,.bool y.c,.string y.t]) (b:=.agg #[.bool x'.b,.string x'.s,.bool x'.c,.string x'.t,.bool y'.b,.string y'.s,.bool y'.c,.string y'.t]) (by kernel_rfl) (by kernel_rfl) (by kernel_rfl) (eqG d _ _ _ _) ?_
 kernel_rfl
theorem exec_eql {w:World} {t u:TypeId} {xs ys:Array Value} {r:Bool} (hg:Tryz.prog.eqGuardType Tryz.prog.depth t=false) (h:(Op.equalIn 10000 t (.agg xs) (.agg ys)).run Tryz.prog w=.ok r w) (x y:Operand) (ρ:Operand→Value) (o:Oper) (ho:o.op=.binOp .eql t x y u) (hx:ρ x=.agg xs) (hy:ρ y=.agg ys):(execOp ρ o).run Tryz.prog w=.ok (.value (.bool r)) w:=by
 unfold execOp
 rw [ho]
 simp only [hx,hy,Sem.run_bind,run_eqGuard_agg w _ _ _ _ _ _ hg,run_eql_struct,h,Result.andThen_ok]
 rfl
theorem exec_neq {w:World} {t u:TypeId} {xs ys:Array Value} {r:Bool} (hg:Tryz.prog.eqGuardType Tryz.prog.depth t=false) (h:(Op.equalIn 10000 t (.agg xs) (.agg ys)).run Tryz.prog w=.ok r w) (x y:Operand) (ρ:Operand→Value) (o:Oper) (ho:o.op=.binOp .neq t x y u) (hx:ρ x=.agg xs) (hy:ρ y=.agg ys):(execOp ρ o).run Tryz.prog w=.ok (.value (.bool (!r))) w:=by
 unfold execOp
 rw [ho]
 simp only [hx,hy,Sem.run_bind,run_eqGuard_agg w _ _ _ _ _ _ hg,run_neq_struct,h,Result.andThen_ok]
 rfl
def eqEv (t:TypeId) (xs ys:Array Value) (r:Bool) (hg:Tryz.prog.eqGuardType Tryz.prog.depth t=false) (h:∀ w,(Op.equalIn 10000 t (.agg xs) (.agg ys)).run Tryz.prog w=.ok r w):Ev Tryz.prog :=
 .dyn (fun o _ _=>match o.op with
  | .binOp .eql t' _ _ _=>Nat.beq t' t
  | .binOp .neq t' _ _ _=>Nat.beq t' t
  | _=>false) fun o _ _=>match o.op with
  | .binOp .eql _ a b u=>.gen (o.dst.getD 0) (.binOp .eql t a b u) [.agg xs,.agg ys] (.bool r) (fun ρ o w ho hx=>by
    simp only [Op.operands,List.map_cons,List.map_nil,List.cons.injEq] at hx
    exact exec_eql hg (h w) a b ρ o ho hx.1 hx.2.1)
  | .binOp .neq _ a b u=>.gen (o.dst.getD 0) (.binOp .neq t a b u) [.agg xs,.agg ys] (.bool (!r)) (fun ρ o w ho hx=>by
    simp only [Op.operands,List.map_cons,List.map_nil,List.cons.injEq] at hx
    exact exec_neq hg (h w) a b ρ o ho hx.1 hx.2.1)
  | _=>.eqv 0 undef undef rfl
def eqEvP (i i':Bool) (x y x' y':R4) (r:Bool) (h:((i==i')&&((x.eq x'&&(y.eq y'&&true))&&true))=r):Ev Tryz.prog :=
 eqEv 61 #[.bool i,.bool x.b,.string x.s,.bool x.c,.string x.t,.bool y.b,.string y.s,.bool y.c,.string y.t] #[.bool i',.bool x'.b,.string x'.s,.bool x'.c,.string x'.t,.bool y'.b,.string y'.s,.bool y'.c,.string y'.t] r (by kernel_rfl) (fun w=>by rw [← h]; exact eqP 9995 i i' x y x' y')
def eqEvW (b b':Bool) (s s':ByteArray) (r:Bool) (h:weq b b' s s'=r):Ev Tryz.prog :=
 eqEv 23 #[.bool b,.string s] #[.bool b',.string s'] r (by kernel_rfl) (fun w=>by rw [← h]; exact eqW 9998 ..)
def eqEvG (x y x' y':R4) (r:Bool) (h:(x.eq x'&&(y.eq y'&&true))=r):Ev Tryz.prog :=
 eqEv 46 #[.bool x.b,.string x.s,.bool x.c,.string x.t,.bool y.b,.string y.s,.bool y.c,.string y.t] #[.bool x'.b,.string x'.s,.bool x'.c,.string x'.t,.bool y'.b,.string y'.s,.bool y'.c,.string y'.t] r (by kernel_rfl) (fun w=>by rw [← h]; exact eqG 9996 ..)
def Y.Spec.conv {P:Program} (S:Y.Spec P) (res:SV) (h:S.res=res):Y.Spec P:=⟨S.f,S.en,S.args,S.obs,res,S.news,fun β w hh=>h▸S.ok β w hh,h▸S.closed⟩
abbrev K3:Nat:=100000000
theorem fres {x y:Rat} (h:x=y):SV.one (.a (fC x))=.one (.a (fC y)):=by rw [h]
section
variable {x y:Rat}
def sR3Plus (hx:Sz K3 x) (hy:Sz K3 y):Y.Spec Tryz.prog :=
 (Y.Spec.auto Tryz.call132 [.one (.a (fC x)),.one (.a (fC y))] [] (.one (.a (fC (Rat.divInt (x.num*y.den+y.num*x.den) (x.den*y.den))))) []
  [eWTimes (Nat.le_trans hx.1 (by decide)) (Nat.le_trans hy.2 (by decide)),eWTimes (Nat.le_trans hy.1 (by decide)) (Nat.le_trans hx.2 (by decide)),
   eWPlus (Nat.le_trans (qY9 hx.1 hy.2) (by decide)) (Nat.le_trans (qY9 hy.1 hx.2) (by decide)),eWTimes (Nat.le_trans hx.2 (by decide)) (Nat.le_trans hy.2 (by decide)),
   eFOf (Nat.le_trans (sz_add (qY9 hx.1 hy.2) (qY9 hy.1 hx.2)) (by decide)) (Nat.le_trans (qY9 hx.2 hy.2) (by decide)) (Int.mul_ne_zero (qH9 x) (qH9 y))]
  [(3,9)] 400 Tryz.func132 hmA (by kernel_rfl) (fun β=>by kernel_rfl)).conv (.one (.a (fC (x+y)))) (fres (divInt_Add x y))
def sR3Neg (x:Rat):Y.Spec Tryz.prog :=
 Y.Spec.auto Tryz.call138 [.one (.a (fC x))] [] (.one (.a (fC (-x)))) [] [eWNeg x.num] [(1,6)] 400 Tryz.func138 hmA (by kernel_rfl) (fun β=>by kernel_rfl)
def sR3Minus (hx:Sz K3 x) (hy:Sz K3 y):Y.Spec Tryz.prog :=
 (Y.Spec.auto Tryz.call112 [.one (.a (fC x)),.one (.a (fC y))] [] (.one (.a (fC (x + -y)))) []
  [(sR3Neg y).e,(sR3Plus hx hy.neg).e] [(1,4)] 400 Tryz.func112 hmA (by kernel_rfl) (fun β=>by kernel_rfl)).conv (.one (.a (fC (x-y)))) (fres (Rat.sub_eq_add_neg x y).symm)
def zQ5 (hx:Sz K3 x) (hy:Sz K3 y):Y.Spec Tryz.prog :=
 (Y.Spec.auto Tryz.call180 [.one (.a (fC x)),.one (.a (fC y))] [] (.one (.a (fC (Rat.divInt (x.num*y.num) ((x.den:Int)*y.den))))) []
  [eWTimes (Nat.le_trans hx.1 (by decide)) (Nat.le_trans hy.1 (by decide)),eWTimes (Nat.le_trans hx.2 (by decide)) (Nat.le_trans hy.2 (by decide)),
   eFOf (Nat.le_trans (qY9 hx.1 hy.1) (by decide)) (Nat.le_trans (qY9 hx.2 hy.2) (by decide)) (Int.mul_ne_zero (qH9 x) (qH9 y))]
  [(1,11)] 400 Tryz.func180 hmA (by kernel_rfl) (fun β=>by kernel_rfl)).conv (.one (.a (fC (x*y)))) (fres (divInt_mul x y))
def sR3Over (hx:Sz K3 x) (hy:Sz K3 y) (h0:y≠0):Y.Spec Tryz.prog :=
 (Y.Spec.auto Tryz.call115 [.one (.a (fC x)),.one (.a (fC y))] [] (.one (.a (fC (Rat.divInt (x.num*(y.den:Int)) ((x.den:Int)*y.num))))) []
  [eWTimes (Nat.le_trans hx.1 (by decide)) (Nat.le_trans hy.2 (by decide)),eWTimes (Nat.le_trans hx.2 (by decide)) (Nat.le_trans hy.1 (by decide)),
   eFOf (Nat.le_trans (qY9 hx.1 hy.2) (by decide)) (Nat.le_trans (qY9 hx.2 hy.1) (by decide)) (Int.mul_ne_zero (qH9 x) fun e=>h0 (Rat.num_eq_zero.1 e))]
  [(1,11)] 400 Tryz.func115 hmA (by kernel_rfl) (fun β=>by kernel_rfl)).conv (.one (.a (fC (x/y)))) (fres (divInt_quo x y))
def sR3Sign {k:Int} (hk:x.num.sign=k):Y.Spec Tryz.prog :=
 Y.Spec.auto Tryz.call114 [.one (.a (fC x))] [] (.one (.c (.b (.v (.int .i64 k))))) [] [eWSign hk] [] 400 Tryz.func114 hmA (by kernel_rfl) (fun β=>by kernel_rfl)
end
theorem zJ3 (n:Int):(Rat.divInt n 1).num=n∧(Rat.divInt n 1).den=1:=by
 obtain ⟨_,_,_,h4,h5⟩:=divInt_parts n 1 (by decide) 1 (by rw [if_neg (by decide),show (1:Int).natAbs=1 from rfl,Nat.gcd_one_right]; rfl)
 rw [Int.ediv_one] at h4 h5
 exact ⟨h4,by omega⟩
theorem fC_int (n:Int):fC (Rat.divInt n 1)=[.b (.v (.bool (decide (n<0)))),.b (.v (.string (mag n.natAbs))),.b (.v (.bool false)),.b (.v (.string (mag 1)))]:=by
 unfold fC
 rw [(zJ3 n).1,(zJ3 n).2]
def sR3Int (n:Int) (hr : -9223372036854775808≤n∧n≤9223372036854775807):Y.Spec Tryz.prog :=
 Y.Spec.conv (Y.Spec.auto Tryz.call116 [.one (.c (.b (.v (.int .i64 n))))] [] (.one (.a [.b (.v (.bool (decide (n<0)))),.b (.v (.string (mag n.natAbs))),.b (.v (.bool false)),.b (.v (.string (mag 1)))])) []
  [eWOf n hr,eWOf 1 (by decide)] [] 400 Tryz.func116 hmA (by kernel_rfl) (fun β=>by kernel_rfl)) (.one (.a (fC (Rat.divInt n 1)))) (congrArg (fun l=>SV.one (.a l)) (fC_int n).symm)
def eFFits (b c:Bool) (s t:ByteArray) (r:Bool) (hr:r=true↔s.size≤1024∧t.size≤1024):Ev Tryz.prog:=.ret 109 Tryz.call109 #[rawV b c s t] (.bool r) (fun w=>(r3fits_any b c s t).mono fun e w' ⟨r',he,hr',hb⟩=>⟨by rw [he,Bool.eq_iff_iff.2 (hr'.trans hr.symm)],hb⟩)
def FracFormed (b c:Bool) (s t:ByteArray):Prop:=qV6 b s∧qV6 c t∧0<qJ6 c t∧Nat.gcd (qJ6 b s).natAbs (qJ6 c t).natAbs=1
theorem formed_cells {p:Bool} {s:ByteArray} (h:qV6 p s) {k:Nat} (hk:s.size≤k):∃ n:Int,p=decide (n<0)∧s=mag n.natAbs∧sz n≤k∧qJ6 p s=n:=by
 obtain ⟨h1,h2⟩:=zW0 h
 refine ⟨qJ6 p s,h1.symm,h2.symm,?_,rfl⟩
 unfold sz
 rw [h2]
 exact hk
theorem sign_pos {n:Int} {r:Bool} (h:decide (0<n)=r):Value.bool (decide (n.sign≤0))=.bool (!r):=by
 rw [← h]
 by_cases k:0<n
 · rw [decide_eq_true k,Int.sign_eq_one_of_pos k]; rfl
 · have:n.sign≤0:=by
    rcases Int.lt_trichotomy n 0 with a | a | a
    · rw [Int.sign_eq_neg_one_of_neg a]; decide
    · rw [a]; decide
    · exact absurd a k
   rw [decide_eq_false k,decide_eq_true this]; rfl
theorem formed_ok (b c:Bool) (s t:ByteArray) (h1:s.size≤1000000000) (h2:t.size≤1000000000) (r:Bool) (hr:r=true↔FracFormed b c s t) (β:Env) (w:World) (hh:∀ (k:Nat) (t:Thing),([]:List Thing)[k]?=some t→t.D w (β k)) :
  Calls Tryz.prog 110 (([SV.one (.a [.b (.v (.bool b)),.b (.v (.string s)),.b (.v (.bool c)),.b (.v (.string t))])]:List SV).map (SV.den β)).toArray w fun e w'=>∃ xs:List Pl,qK2 β w ([]:List Thing).length xs∧e=.returned ((SV.one (.c (.b (.v (.bool r))))).den (extE β ([]:List Thing).length xs))∧qZ0 w' [] xs∧Below w.heap.size w w':=by
 by_cases q1:qV6 b s
 rotate_left
 · obtain rfl:=zY9 hr fun h=>q1 h.1
   exact qQ1 (evs:=[zH0 b s false (zX7 q1)]) (Ns:=[]) (m:=400) Tryz.func110 hmA (fun β=>by kernel_rfl) (by kernel_rfl) β w hh
 by_cases q2:qV6 c t
 rotate_left
 · obtain rfl:=zY9 hr fun h=>q2 h.2.1
   exact qQ1 (evs:=[zH0 b s true (qK5 q1),zH0 c t false (zX7 q2)]) (Ns:=[]) (m:=400) Tryz.func110 hmA (fun β=>by kernel_rfl) (by kernel_rfl) β w hh
 obtain ⟨n,rfl,rfl,e1,e2⟩:=formed_cells q1 h1
 obtain ⟨m,rfl,rfl,e3,e4⟩:=formed_cells q2 h2
 unfold FracFormed at hr
 rw [e2,e4] at hr
 cases q3:decide (0<m) with
 | false =>
  obtain rfl:=zY9 hr fun h=>of_decide_eq_false q3 h.2.2.1
  exact qQ1 (evs:=[zH0 _ _ true (qK5 q1),zH0 _ _ true (qK5 q2),eWSign (n:=m) rfl,.eqv 17 (.bool (decide (m.sign≤0))) (.bool true) (sign_pos q3)]) (Ns:=[]) (m:=400) Tryz.func110 hmA (fun β=>by kernel_rfl) (by kernel_rfl) β w hh
 | true =>
  have hb:((decide (((Nat.gcd n.natAbs m.natAbs:Nat):Int)<0)==decide ((1:Int)<0))&&(((mag (((Nat.gcd n.natAbs m.natAbs:Nat):Int)).natAbs).toList==(mag (1:Int).natAbs).toList)&&true))=r:=by
   rw [Bool.eq_iff_iff,hr]
   show weq _ _ _ _=true↔_
   rw [weq_iff]
   constructor
   · rintro ⟨_,h⟩
     have:=mag_inj h
     rw [Int.natAbs_natCast] at this
     exact ⟨q1,q2,of_decide_eq_true q3,this⟩
   · rintro ⟨_,_,_,h⟩
     rw [h]
     exact ⟨rfl,rfl⟩
  exact qQ1 (evs:=[zH0 _ _ true (qK5 q1),zH0 _ _ true (qK5 q2),eWSign (n:=m) rfl,.eqv 17 (.bool (decide (m.sign≤0))) (.bool false) (sign_pos q3),eWGcd (Nat.le_trans e1 (by decide)) (Nat.le_trans e3 (by decide)),eWOf 1 (by decide),
   eqEvW _ _ _ _ r hb]) (Ns:=[]) (m:=400) Tryz.func110 hmA (fun β=>by kernel_rfl) (by kernel_rfl) β w hh
def sR3Formed (b c:Bool) (s t:ByteArray) (h1:s.size≤1000000000) (h2:t.size≤1000000000) (r:Bool) (hr:r=true↔FracFormed b c s t):Y.Spec Tryz.prog :=
 ⟨110,Tryz.call110,[.one (.a [.b (.v (.bool b)),.b (.v (.string s)),.b (.v (.bool c)),.b (.v (.string t))])],[],.one (.c (.b (.v (.bool r)))),[],formed_ok b c s t h1 h2 r hr,by kernel_rfl⟩
theorem may3_ok (b c:Bool) (s t:ByteArray) (r:Bool) (hr:r=true↔zZ5 (rawV b c s t)) (β:Env) (w:World) (hh:∀ (k:Nat) (t:Thing),([]:List Thing)[k]?=some t→t.D w (β k)) :
  Calls Tryz.prog 16 (([SV.one (.a [.b (.v (.bool b)),.b (.v (.string s)),.b (.v (.bool c)),.b (.v (.string t))])]:List SV).map (SV.den β)).toArray w fun e w'=>∃ xs:List Pl,qK2 β w ([]:List Thing).length xs∧e=.returned ((SV.one (.c (.b (.v (.bool r))))).den (extE β ([]:List Thing).length xs))∧qZ0 w' [] xs∧Below w.heap.size w w':=by
 unfold rawV at hr
 rw [isFrac_doc] at hr
 by_cases f1:s.size≤1024∧t.size≤1024
 · have hr2:r=true↔FracFormed b c s t:=hr.trans ⟨fun h=>h.2,fun h=>⟨f1,h⟩⟩
   cases r
   · exact qQ1 (evs:=[eFFits b c s t true (qK5 f1),(sR3Formed b c s t (Nat.le_trans f1.1 (by decide)) (Nat.le_trans f1.2 (by decide)) false hr2).e]) (Ns:=[]) (m:=400) Tryz.func16 hmA (fun β=>by kernel_rfl) (by kernel_rfl) β w hh
   · exact qQ1 (evs:=[eFFits b c s t true (qK5 f1),(sR3Formed b c s t (Nat.le_trans f1.1 (by decide)) (Nat.le_trans f1.2 (by decide)) true hr2).e]) (Ns:=[]) (m:=400) Tryz.func16 hmA (fun β=>by kernel_rfl) (by kernel_rfl) β w hh
 · obtain rfl:=zY9 hr fun h=>f1 h.1
   exact qQ1 (evs:=[eFFits b c s t false (zX7 f1)]) (Ns:=[]) (m:=400) Tryz.func16 hmA (fun β=>by kernel_rfl) (by kernel_rfl) β w hh
def sR3May (b c:Bool) (s t:ByteArray) (r:Bool) (hr:r=true↔zZ5 (rawV b c s t)):Y.Spec Tryz.prog :=
 ⟨16,Tryz.call16,[.one (.a [.b (.v (.bool b)),.b (.v (.string s)),.b (.v (.bool c)),.b (.v (.string t))])],[],.one (.c (.b (.v (.bool r)))),[],may3_ok b c s t r hr,by kernel_rfl⟩
abbrev KE:Nat:=10000000
theorem sz_lit (a b:Int) (ha:a.natAbs<18446744073709551616) (hb:b.natAbs<18446744073709551616) (h0:b≠0):Sz 8 (Rat.divInt a b) :=
 qH0 h0 (sz_le.2 (Nat.lt_of_lt_of_le ha (by decide))) (sz_le.2 (Nat.lt_of_lt_of_le hb (by decide)))
theorem sign_zero (x:Rat):(Value.bool (x.num.sign==0))=.bool (decide (x=0)):=by
 congr 1
 rw [Bool.eq_iff_iff,beq_iff_eq,decide_eq_true_iff,Int.sign_eq_zero_iff_zero,Rat.num_eq_zero]
theorem zW7 {x:Rat} {b:Bool} (h:decide (x=0)=b):(Value.bool (x.num.sign==0))=.bool b:=by rw [sign_zero,h]
theorem exformed_any {w:World} (p:Bool) (s:ByteArray) (r:Bool) (hr:r=true↔qV6 p s) :
  Calls Tryz.prog 355 #[.agg #[.bool p,.string s]] w fun e w'=>e=.returned (.bool r)∧Below w.heap.size w w':=by
 have HB:=Lib.hid (qZ4 w (.cells #[.bool p,.string s] 23))
 have HR:=Lib.hid hr
 clear hr
 by_cases h0:s.size=0
 · obtain rfl:=qY7 h0
   have HQ:Hid (r=!p):=by
    have h1:=HR.out
    unfold qV6 at h1
    cases p<;>cases r<;>simp_all [Hid]
   clear h0
   go_enter Tryz.func355,Tryz.ntmps355
   go_wp2
   go_ret
   exact ⟨by rw [HQ.out]; rfl,HB.out⟩
 · obtain ⟨hE,hE2⟩:=zQ1 h0
   have hp:0<s.size:=by omega
   obtain ⟨t,ht⟩:∃ t,t=head s:=⟨_,rfl⟩
   have ht2:s[0].toNat=t:=by rw [ht]; exact head_eq hp
   have HQ:Hid (r=true↔t≠0):=by
    have h1:=HR.out
    unfold qV6 at h1
    rw [← ht] at h1
    exact ⟨fun h=>(h1.1 h).elim (fun k=>absurd k.1 h0) (fun k=>k.2),fun h=>h1.2 (.inr ⟨h0,h⟩)⟩
   clear ht
   by_cases hz:t=0
   · subst hz
     go_enter Tryz.func355,Tryz.ntmps355
     go_wp2
     go_ret
     refine ⟨?_,HB.out⟩
     cases r
     · rfl
     · exact absurd rfl (HQ.out.1 rfl)
   · have hz1:((t:Int)==0)=false:=by rw [beq_eq_false_iff_ne]; omega
     have hz2:((t:Int) != 0)=true:=by rw [bne_iff_ne]; omega
     go_enter Tryz.func355,Tryz.ntmps355
     go_wp2
     go_ret
     refine ⟨?_,HB.out⟩
     rw [HQ.out.2 hz]
     rfl
theorem exwhole_any {w:World} (b:Bool) (s:ByteArray) (hs:s.size≤4294967296) :
  Calls Tryz.prog 356 #[.agg #[.bool b,.string s]] w fun e w'=>∃ g,e=.returned (.pointer (some ⟨g,0,none⟩))∧w.heap.size≤g∧IntAt w' g 0 (qJ6 b s)∧Below w.heap.size w w':=by
 have hcv:=fun (w:World)=>run_bytes_of_string (P:=Tryz.prog) w 9 306 5 s Tryz.underlying9 Tryz.underlying306 Tryz.underlying5
 have HS:=Lib.hid hs
 have HB:=Lib.hid (qZ4 w (.cells #[.bool b,.string s] 23))
 have HX:=Lib.hid (BoxAt.new w #[.bool b,.string s] 23)
 clear hs
 go_enter Tryz.func356,Tryz.ntmps356
 go_wp2_with fail
 generalize hW2:(w.alloc (.cells #[.bool b,.string s] 23)).alloc (.cells #[.bool false,.slice none 0 0] 161)=W2
 have hi:IntAt W2 (w.heap.size+1) 0 0:=by rw [← hW2]; exact IntAt.new_at (size_alloc _ _).symm
 have hx:BoxAt W2 w.heap.size #[.bool b,.string s] 23:=by rw [← hW2]; exact HX.out.on (qZ4 _ _)
 have hb:Below w.heap.size w W2:=by rw [← hW2]; exact HB.out.trans ((qZ4 _ _).mono (by simp))
 have hsz:w.heap.size+1+1=W2.heap.size:=by rw [← hW2]; simp
 have hby:=byt_row (W:=W2) s (grownCap W2 s.size 0 5) (grownCap W2 s.size 0 5) (w.heap.size+1+1) ((bytesRow s (grownCap W2 s.size 0 5)).size,(bytesRow s (grownCap W2 s.size 0 5)).size+1) hsz
 have hbl:=below_row W2 (bytesRow s (grownCap W2 s.size 0 5)) 5 ((bytesRow s (grownCap W2 s.size 0 5)).size,(bytesRow s (grownCap W2 s.size 0 5)).size+1)
 clear hW2
 generalize grownCap W2 s.size 0 5=c at hby hbl ⊢
 generalize (W2.alloc (.cells (bytesRow s c) 5 ((bytesRow s c).size,(bytesRow s c).size+1))).drew=W3 at hby hbl ⊢
 refine (SetBytes_any (hi.on hbl).slot hby HS.out).mono ?_
 rintro e w1 ⟨rfl,h1,h2⟩
 rw [List.reverse_reverse] at h1
 have HX1:=Lib.hid (hx.on hbl)
 have HB1:=Lib.hid (hb.trans (hbl.mono hb.size))
 have HI:=Lib.hid h1
 have HT:=Lib.hid (h2.below (B:=w.heap.size+1) (Nat.le_refl _) (by have:=hbl.size; omega))
 have hc0:w1.cell? ⟨w.heap.size,0,none⟩=some (.bool b):=by rw [HT.out.cell (by simp)]; exact HX1.out.cell 0 _ rfl
 have hc1:w1.cell? ⟨w.heap.size,1,none⟩=some (.string s):=by rw [HT.out.cell (by simp)]; exact HX1.out.cell 1 _ rfl
 have HBB:=Lib.hid (HB1.out.trans (HT.out.mono (by omega)))
 clear h1 h2 hi hx hb hsz hby hbl
 cases b
 · go_wp2
   go_ret
   refine ⟨_,rfl,by omega,?_,HBB.out⟩
   have:=HI.out
   simpa [qJ6,sg,num] using this
 · go_wp2_with fail
   refine (neg_any HI.out.slot HI.out).mono ?_
   rintro e w2 ⟨rfl,h1,h2⟩
   have H1:=Lib.hid h1
   have H2:=Lib.hid (HBB.out.trans (h2.below (by omega) HBB.out.size))
   clear h1 h2 hc0 hc1
   go_wp2
   go_ret
   refine ⟨_,rfl,by omega,?_,H2.out⟩
   have:=H1.out
   simpa [qJ6,sg,num] using this
theorem formedB_dec (b:Bool) (s:ByteArray):∃ r:Bool,r=true↔qV6 b s:=by
 by_cases h:qV6 b s
 · exact ⟨true,by simp [h]⟩
 · exact ⟨false,by simp [h]⟩
theorem eq_empty {t:ByteArray} {r:Bool} (h:decide (t.size=0)=r):Value.bool (t.toList==(⟨#[]⟩:ByteArray).toList)=.bool r:=by
 rw [← h]
 congr 1
 rw [Bool.eq_iff_iff,beq_iff_eq,decide_eq_true_iff,toList_inj]
 exact ⟨fun h=>by rw [h]; rfl,fun h=>qY7 h⟩
theorem len_gt {t:ByteArray} {r:Bool} (h:decide (1024<t.size)=r):Value.bool (decide ((1024:Int)<(t.size:Int)))=.bool r:=by
 rw [← h]
 congr 1
 rw [Bool.eq_iff_iff,decide_eq_true_iff,decide_eq_true_iff]
 omega
theorem cmp_ne {a b:Int} {r:Bool} (h:decide (a=b)=r):Value.bool (cmpI a b != 0)=.bool (!r):=by
 rw [← h]
 congr 1
 unfold cmpI
 by_cases h1:a<b
 · rw [if_pos h1]; simp; omega
 · by_cases h2:b<a
   · rw [if_neg h1,if_pos h2]; simp; omega
   · rw [if_neg h1,if_neg h2]; simp; omega
set_option maxRecDepth 100000 in
theorem Bytes_at {w:World} {b o:Nat} {n:Int} (hx:IntAt w b o n) (hn:Okn n) :
  Calls Tryz.prog 266 #[.pointer (some ⟨b,o,none⟩)] w fun e w'=>∃ g,e=.returned (.slice (some ⟨g,0,none⟩) (led n.natAbs).length (led n.natAbs).length)∧w.heap.size≤g∧Byt w' (.slice (some ⟨g,0,none⟩) (led n.natAbs).length (led n.natAbs).length) (led n.natAbs).reverse∧Below w.heap.size w w':=by
 have HX:=Lib.hid hx
 have HO:=Lib.hid hn
 clear hx hn
 go_enter Tryz.func266,Tryz.ntmps266
 go_wp2_with fail
 refine (BitLen_any HX.out).mono ?_
 rintro e w1 ⟨L,rfl,hL,hLb,hb1⟩
 obtain ⟨N,hN⟩:∃ N,N=n.natAbs:=⟨_,rfl⟩
 have ho:=HO.out
 unfold Okn at ho
 rw [← hN] at hL ho
 obtain ⟨m,hm⟩:∃ m,m=(L+7)/8:=⟨_,rfl⟩
 have HM:Hid ((led N).length=m):=by rw [hm]; exact led_len_bits N L hL.1 hL.2
 have hmi:((L:Int)+7)/8=(m:Int):=by omega
 have hLL:=hL.le (by have:=qV3 N; rw [p32] at this; exact this)
 have hmb:m≤17179869185:=by omega
 have HN:=Lib.hid hN
 have HB1:=Lib.hid hb1
 have HS1:Hid (w.heap.size≤w1.heap.size):=hb1.size
 clear hL hm hb1 hN hLL ho
 go_wp2_with (at_make; refine zQ0 rfl _ _ rfl _ _ _ _ m m rfl rfl (by omega) (by omega) (Nat.le_refl _) (by omega) ?_)
 intro w2 hbuf hb2 hz2
 have HB2:=Lib.hid hz2
 clear hz2
 go_wp2
 go_loopw [14] (fun i wr=>∃ (k:Nat),k≤m∧i=.int .i64 (k:Int)∧BBuf wr w1.heap.size (List.replicate (m-k) 0++(led N).reverse.drop (m-k))∧Below w1.heap.size w1 wr) (fun i _=>m-(intOf i).toNat)
 case atStart=>exact ⟨0,by omega,rfl,by rw [Nat.sub_zero,List.drop_of_length_le (by rw [List.length_reverse,HM.out]; exact Nat.le_refl _),List.append_nil]; exact hbuf,hb2⟩
 case round =>
  obtain ⟨k,hk,rfl,hbuf',hb'⟩:=hrel
  have hsz:=hb'.size
  have hblt:=hbuf'.lt
  clear hbuf hb2 HB2
  by_cases hk0:k<m
  · have hx:=HX.out.on (HB1.out.trans (hb'.mono HS1.out))
    obtain ⟨A,l,c,h0,h1,h2,hlt⟩:=hx.open_
    rw [← HN.out] at h2
    have hl:=h2.len.1
    obtain ⟨q,hq⟩:∃ q,q=k/4:=⟨_,rfl⟩
    obtain ⟨r,hr⟩:∃ r,r=k % 4:=⟨_,rfl⟩
    obtain ⟨s,hs⟩:∃ s,s=k % 4*8:=⟨_,rfl⟩
    have hql:q<l:=by
     have h3:=zJ2 N (4*l) (by have:=qV3 N; rw [← hl,p32] at this; rw [p256]; rwa [show 8*(4*l)=32*l by omega])
     have:=HM.out
     omega
    obtain ⟨g,p,rfl,hall⟩:=h2.open_ (by omega)
    have hc:=hall q hql
    obtain ⟨x,hx'⟩:∃ x,x=N/4294967296^q % 4294967296:=⟨_,rfl⟩
    have hx32:x<4294967296:=by rw [hx']; exact Nat.mod_lt _ (by decide)
    replace hc:wr.cell? ⟨g,p+q,none⟩=some (.int .u32 (x:Int)):=by rw [hx',← zK1]; exact hc
    obtain ⟨y,hy⟩:∃ y,y=x/2^s:=⟨_,rfl⟩
    have hsh:(x:Int)/2^s=(y:Int):=by rw [hy,Int.natCast_ediv]; simp
    have hyb:y<4294967296:=by rw [hy]; exact Nat.lt_of_le_of_lt (Nat.div_le_self _ _) hx32
    have hbyte:y % 256=N/256^k % 256:=by rw [hy,hx',hq,hs]; exact byte_word N k
    have HBY:=Lib.hid hbyte
    have hqi:(k:Int)/4=(q:Int):=by omega
    have hri:(k:Int) % 4=(r:Int):=by omega
    have hsi:(r:Int)*8=(s:Int):=by omega
    have hs24:s≤24:=by omega
    have hmk2:((m:Int)-1-(k:Int))=((m-1-k:Nat):Int):=by omega
    have hc2:=hbuf'.cell (m-1-k) (by rw [List.length_append,List.length_replicate]; omega)
    have hf:=hbuf'.frozen (m-1-k)
    have HB:=Lib.hid (hbuf'.set (m-1-k) (y % 256) _ (Nat.mod_lt _ (by decide)) rfl)
    have HH:=Lib.hid hb'
    clear hall h0 h2 hx hl hx' hy hbyte hbuf' hb' hq hr hs
    go_wp2
    go_roundw
    case rel =>
     refine ⟨k+1,by omega,by go_num,?_,HH.out.setCell (Nat.le_refl _) _⟩
     have h:=HB.out
     have h2:=led_back N m k HM.out hk0
     rw [← HBY.out] at h2
     rw [h2] at h
     exact h
    case measure=>simp [intOf]; omega
  · obtain rfl:k=m:=by omega
    rw [Nat.sub_self,List.replicate_zero,List.nil_append,List.drop_zero] at hbuf'
    have HV:=Lib.hid (hbuf'.byt (n:=k) (cap:=k) (by rw [List.length_reverse]; exact HM.out))
    clear hbuf'
    go_wp2
    go_ret
    exact ⟨w1.heap.size,by rw [← HN.out,HM.out]; rfl,HS1.out,by rw [← HN.out,HM.out]; exact HV.out,HB1.out.trans (hb'.mono HS1.out)⟩
theorem led_gt {n:Int} {r:Bool} (h:decide (1024<sz n)=r):Value.bool (decide ((1024:Int)<((led n.natAbs).length:Int)))=.bool r:=by
 rw [← h]
 congr 1
 have:sz n=(led n.natAbs).length:=by unfold sz mag; rw [strN_size,List.length_reverse]
 rw [Bool.eq_iff_iff,decide_eq_true_iff,decide_eq_true_iff,this]
 omega
theorem sign_lt {x:Rat}:Value.bool (decide (x.num.sign<0))=.bool (decide (x.num<0)):=by
 congr 1
 rw [Bool.eq_iff_iff,decide_eq_true_iff,decide_eq_true_iff,Int.sign_neg_iff]
inductive Fp where
 | ok (x:Rat) (h:Fit x)
 | no (b c:Bool) (s t:ByteArray) (h:¬ zZ5 (rawV b c s t)) (hs:s.size≤maxLen) (ht:t.size≤maxLen)
theorem fp_all (b c:Bool) (s t:ByteArray):(∃ x,∃ _:Fit x,b=decide (x.num<0)∧s=mag x.num.natAbs∧c=false∧t=mag x.den)∨¬ zZ5 (rawV b c s t):=by
 by_cases h:zZ5 (rawV b c s t)
 · obtain ⟨x,hx,hv⟩:=h
   obtain ⟨h1,h2,h3,h4⟩:=agg4 hv
   exact .inl ⟨x,hx,h1,h2,h3,h4⟩
 · exact .inr h
def Fp.C:Fp→List Lf
 | .ok x _=>[.b (.v (.bool (decide (x.num<0)))),.b (.v (.string (mag x.num.natAbs))),.b (.v (.bool false)),.b (.v (.string (mag x.den)))]
 | .no b c s t _ _ _=>[.b (.v (.bool b)),.b (.v (.string s)),.b (.v (.bool c)),.b (.v (.string t))]
def Fp.B:Fp→Bool
 | .ok ..=>true
 | .no ..=>false
def FitG (z:GQ):Prop:=Fit z.re∧Fit z.im
open Classical in
noncomputable def gaK (z:GQ):Int:=if FitG z then 0 else 4
open Classical in
noncomputable def gaB (z:GQ):Bool:=if FitG z then decide (z.re.num<0) else false
open Classical in
noncomputable def gaS (z:GQ):ByteArray:=if FitG z then mag z.re.num.natAbs else ⟨#[]⟩
open Classical in
noncomputable def gaD (z:GQ):ByteArray:=if FitG z then mag z.re.den else ⟨#[]⟩
open Classical in
noncomputable def gaB' (z:GQ):Bool:=if FitG z then decide (z.im.num<0) else false
open Classical in
noncomputable def gaS' (z:GQ):ByteArray:=if FitG z then mag z.im.num.natAbs else ⟨#[]⟩
open Classical in
noncomputable def gaD' (z:GQ):ByteArray:=if FitG z then mag z.im.den else ⟨#[]⟩
noncomputable def gaC (z:GQ):List Lf:=[.b (.v (.bool (gaB z))),.b (.v (.string (gaS z))),.b (.v (.bool false)),.b (.v (.string (gaD z))),.b (.v (.bool (gaB' z))),.b (.v (.string (gaS' z))),.b (.v (.bool false)),.b (.v (.string (gaD' z)))]
def g0C:List Lf:=[.b (.v (.bool false)),.b (.v (.string ⟨#[]⟩)),.b (.v (.bool false)),.b (.v (.string ⟨#[]⟩)),.b (.v (.bool false)),.b (.v (.string ⟨#[]⟩)),.b (.v (.bool false)),.b (.v (.string ⟨#[]⟩))]
def gC (z:GQ):List Lf:=[.b (.v (.bool (decide (z.re.num<0)))),.b (.v (.string (mag z.re.num.natAbs))),.b (.v (.bool false)),.b (.v (.string (mag z.re.den))),.b (.v (.bool (decide (z.im.num<0)))),.b (.v (.string (mag z.im.num.natAbs))),.b (.v (.bool false)),.b (.v (.string (mag z.im.den)))]
theorem zX1 {z:GQ} (h:FitG z):gaC z=gC z∧gaK z=0:=by
 unfold gaC gC gaB gaS gaD gaB' gaS' gaD' gaK
 constructor<;>simp only [if_pos h]
theorem ga_not {z:GQ} (h:¬ FitG z):gaC z=g0C∧gaK z=4:=by
 unfold gaC g0C gaB gaS gaD gaB' gaS' gaD' gaK
 constructor<;>simp only [if_neg h]
theorem ansK_ne {x:Rat} {r:Bool} (h:(ansK x != 0)=r):Value.bool (ansK x != 0)=.bool r:=by rw [h]
theorem zZ9 {x:Rat} (h:Fit x):ansB x=decide (x.num<0)∧ansS x=mag x.num.natAbs∧ansD x=mag x.den∧ansK x=0:=⟨if_pos h,if_pos h,if_pos h,if_pos h⟩
inductive Pt where
 | inf
 | fin (z:GQ)
def PSz (k:Nat):Pt→Prop
 | .inf=>True
 | .fin z=>GSz k z
def byA:Pt→GQ
 | .inf=>gint 1 0
 | .fin z=>z
def byB:Pt→GQ
 | .inf=>gint 0 0
 | .fin _=>gint 1 0
theorem zH9 {k:Nat} {p:Pt} (h:PSz k p) (hk:1≤k):GSz k (byA p):=by
 cases p
 · exact (GSz.int (by decide) (by decide)).mono hk
 · exact h
theorem zH8 {k:Nat} {p:Pt} (hk:1≤k):GSz k (byB p):=by
 cases p
 · exact (GSz.int (by decide) (by decide)).mono hk
 · exact (GSz.int (by decide) (by decide)).mono hk
def qZ1 (p q:Pt):GQ:=gsub (gmul (byA p) (byB q)) (gmul (byB p) (byA q))
theorem qK8 {k:Nat} {p q:Pt} (hp:PSz k p) (hq:PSz k q) (hk:1≤k):GSz (k+k+(k+k)+1+(k+k+(k+k)+1)+1) (qZ1 p q) :=
 ((zH9 hp hk).mul (zH8 hk)).sub ((zH8 hk).mul (zH9 hq hk))
theorem sz_zero:Sz 1 (0:Rat):=⟨sz_le.2 (by decide),sz_le.2 (by decide)⟩
def g0:GQ:=⟨0,0⟩
theorem g0_sz {k:Nat} (hk:1≤k):GSz k g0:=⟨sz_zero.mono hk,sz_zero.mono hk⟩
structure MQ where
 a:GQ
 b:GQ
 c:GQ
 d:GQ
 t:Bool
structure MSz (k:Nat) (m:MQ):Prop where
 a:GSz k m.a
 b:GSz k m.b
 c:GSz k m.c
 d:GSz k m.d
theorem MSz.mono {i k:Nat} {m:MQ} (h:MSz i m) (hk:i≤k):MSz k m:=⟨h.a.mono hk,h.b.mono hk,h.c.mono hk,h.d.mono hk⟩
def mdet (m:MQ):GQ:=gsub (gmul m.a m.d) (gmul m.b m.c)
theorem MSz.det {k:Nat} {m:MQ} (h:MSz k m):GSz (k+k+(k+k)+1+(k+k+(k+k)+1)+1) (mdet m):=(h.a.mul h.d).sub (h.b.mul h.c)
def qV8 (m:MQ) (b:Bool):MQ:=⟨gdiv m.a (bif b then m.d else m.c),gdiv m.b (bif b then m.d else m.c),gdiv m.c (bif b then m.d else m.c),gdiv m.d (bif b then m.d else m.c),m.t⟩
abbrev dsz (k:Nat):Nat:=k+k+(k+k)+1+(k+k+(k+k)+1)
theorem MSz.normB {k:Nat} {m:MQ} {b:Bool} (h:MSz k m) (h0:qQ6 (bif b then m.d else m.c)=false):MSz (dsz k) (qV8 m b):=by
 cases b
 · exact ⟨h.a.div h.c h0,h.b.div h.c h0,h.c.div h.c h0,h.d.div h.c h0⟩
 · exact ⟨h.a.div h.d h0,h.b.div h.d h0,h.c.div h.d h0,h.d.div h.d h0⟩
def zK5 (m:MQ) (t:Bool):MQ:=⟨bif t then qW6 m.a else m.a,bif t then qW6 m.b else m.b,bif t then qW6 m.c else m.c,bif t then qW6 m.d else m.d,m.t⟩
def qK1 (m:MQ):MQ:=⟨m.d,gneg m.b,gneg m.c,m.a,m.t⟩
theorem MSz.undo0 {k:Nat} {m:MQ} (h:MSz k m):MSz k (qK1 m):=⟨h.d,h.b.neg,h.c.neg,h.a⟩
theorem MSz.conj {k:Nat} {m:MQ} (h:MSz k m) (t:Bool):MSz k (zK5 m t):=by
 cases t
 · exact ⟨h.a,h.b,h.c,h.d⟩
 · exact ⟨h.a.conj,h.b.conj,h.c.conj,h.d.conj⟩
def mbeh (m n:MQ):MQ:=⟨gadd (gmul m.a (zK5 n m.t).a) (gmul m.b (zK5 n m.t).c),gadd (gmul m.a (zK5 n m.t).b) (gmul m.b (zK5 n m.t).d),
 gadd (gmul m.c (zK5 n m.t).a) (gmul m.d (zK5 n m.t).c),gadd (gmul m.c (zK5 n m.t).b) (gmul m.d (zK5 n m.t).d),m.t != n.t⟩
abbrev bsz (i j:Nat):Nat:=i+j+(i+j)+1+(i+j+(i+j)+1)+1
theorem MSz.beh {i j:Nat} {m n:MQ} (h:MSz i m) (k:MSz j n):MSz (bsz i j) (mbeh m n) :=
 ⟨(h.a.mul (k.conj _).a).add (h.b.mul (k.conj _).c),(h.a.mul (k.conj _).b).add (h.b.mul (k.conj _).d),(h.c.mul (k.conj _).a).add (h.d.mul (k.conj _).c),(h.c.mul (k.conj _).b).add (h.d.mul (k.conj _).d)⟩
def qZ3 (p q r:Pt):MQ:=⟨gmul (byB p) (qZ1 q r),gneg (gmul (byA p) (qZ1 q r)),gmul (byB r) (qZ1 q p),gneg (gmul (byA r) (qZ1 q p)),false⟩
abbrev KC:Nat:=100000
theorem chart0_sz {p q r:Pt} (hp:PSz KC p) (hq:PSz KC q) (hr:PSz KC r):MSz KE (qZ3 p q r) :=
 ⟨((zH8 (k:=KC) (by decide)).mul (qK8 hq hr (by decide))).mono (by decide),((zH9 hp (by decide)).mul (qK8 hq hr (by decide))).neg.mono (by decide),
  ((zH8 (k:=KC) (by decide)).mul (qK8 hq hp (by decide))).mono (by decide),((zH9 hr (by decide)).mul (qK8 hq hp (by decide))).neg.mono (by decide)⟩
theorem PSz.mono {i k:Nat} {p:Pt} (h:PSz i p) (hk:i≤k):PSz k p:=by
 cases p
 · trivial
 · exact GSz.mono h hk
theorem gaK_ne {z:GQ} {r:Bool} (h:(gaK z != 0)=r):Value.bool (gaK z != 0)=.bool r:=by rw [h]
theorem zK7 {z:GQ} (h:FitG z):(gaK z != 0)=false:=by rw [(zX1 h).2]; rfl
theorem gaK_not {z:GQ} (h:¬ FitG z):(gaK z != 0)=true:=by rw [(ga_not h).2]; rfl
def FitM (m:MQ):Prop:=FitG m.a∧FitG m.b∧FitG m.c∧FitG m.d
open Classical in
noncomputable def selB (F:Prop) (b:Bool):Bool:=if F then b else false
open Classical in
noncomputable def selS (F:Prop) (s:ByteArray):ByteArray:=if F then s else ⟨#[]⟩
open Classical in
noncomputable def maK (m:MQ):Int:=if FitM m then 0 else 4
noncomputable def gsC (F:Prop) (z:GQ):List Lf:=[.b (.v (.bool (selB F (decide (z.re.num<0))))),.b (.v (.string (selS F (mag z.re.num.natAbs)))),.b (.v (.bool false)),.b (.v (.string (selS F (mag z.re.den)))),.b (.v (.bool (selB F (decide (z.im.num<0))))),.b (.v (.string (selS F (mag z.im.num.natAbs)))),.b (.v (.bool false)),.b (.v (.string (selS F (mag z.im.den))))]
theorem gsC_yes {F:Prop} (h:F) (z:GQ):gsC F z=gC z:=by
 unfold gsC gC selB selS
 simp only [if_pos h]
theorem gsC_no {F:Prop} (h:¬ F) (z:GQ):gsC F z=g0C:=by
 unfold gsC g0C selB selS
 simp only [if_neg h]
noncomputable def maC (m:MQ):List Lf:=gsC (FitM m) m.a++gsC (FitM m) m.b++gsC (FitM m) m.c++gsC (FitM m) m.d++[.b (.v (.bool (selB (FitM m) m.t)))]
theorem maC_yes {m:MQ} (h:FitM m):maC m=gaC m.a++gaC m.b++gaC m.c++gaC m.d++[.b (.v (.bool m.t))]∧maK m=0:=by
 unfold maC
 simp only [gsC_yes h,(zX1 h.1).1,(zX1 h.2.1).1,(zX1 h.2.2.1).1,(zX1 h.2.2.2).1]
 exact ⟨by rw [show selB (FitM m) m.t=m.t from if_pos h],if_pos h⟩
theorem zH7 {m:MQ} (h:¬ FitM m):maC m=g0C++g0C++g0C++g0C++[.b (.v (.bool false))]∧maK m=4:=by
 unfold maC
 simp only [gsC_no h]
 exact ⟨by rw [show selB (FitM m) m.t=false from if_neg h],if_neg h⟩
noncomputable def paC:Pt→List Lf
 | .inf=>.b (.v (.bool true))::g0C
 | .fin z=>.b (.v (.bool false))::gaC z
noncomputable def paK:Pt→Int
 | .inf=>0
 | .fin z=>gaK z
def mcj (t:Bool) (z:GQ):GQ:=bif t then qW6 z else z
theorem mcj_sz {k:Nat} {t:Bool} {z:GQ} (h:GSz k z):GSz k (mcj t z):=by
 cases t
 · exact h
 · exact h.conj
def msN (m:MQ):Pt→GQ
 | .inf=>m.a
 | .fin z=>gadd (gmul m.a (mcj m.t z)) m.b
def msD (m:MQ):Pt→GQ
 | .inf=>m.c
 | .fin z=>gadd (gmul m.c (mcj m.t z)) m.d
abbrev ssz (i j:Nat):Nat:=i+j+(i+j)+1+i+1
theorem msN_sz {i j:Nat} {m:MQ} {p:Pt} (h:MSz i m) (hp:PSz j p):GSz (ssz i j) (msN m p):=by
 cases p
 · exact h.a.mono (by unfold ssz; omega)
 · exact (h.a.mul (mcj_sz hp)).add h.b
theorem msD_sz {i j:Nat} {m:MQ} {p:Pt} (h:MSz i m) (hp:PSz j p):GSz (ssz i j) (msD m p):=by
 cases p
 · exact h.c.mono (by unfold ssz; omega)
 · exact (h.c.mul (mcj_sz hp)).add h.d
def msend (m:MQ) (p:Pt) (b:Bool):Pt:=bif b then .inf else .fin (gdiv (msN m p) (msD m p))
inductive Pp where
 | inf
 | fin (a b:Fp)
 | odd (x y:R4) (h:¬ (x=⟨false,⟨#[]⟩,false,⟨#[]⟩⟩∧y=⟨false,⟨#[]⟩,false,⟨#[]⟩⟩))
def R4.L (x:R4):List Lf:=[.b (.v (.bool x.b)),.b (.v (.string x.s)),.b (.v (.bool x.c)),.b (.v (.string x.t))]
def Pp.C:Pp→List Lf
 | .inf=>.b (.v (.bool true))::g0C
 | .fin a b=>.b (.v (.bool false))::(a.C++b.C)
 | .odd x y _=>.b (.v (.bool true))::(x.L++y.L)
def Pp.B:Pp→Bool
 | .inf=>true
 | .fin a b=>a.B&&b.B
 | .odd ..=>false
def r40:R4:=⟨false,⟨#[]⟩,false,⟨#[]⟩⟩
theorem odd_ne {x y:R4} (h:¬ (x=⟨false,⟨#[]⟩,false,⟨#[]⟩⟩∧y=⟨false,⟨#[]⟩,false,⟨#[]⟩⟩)):((true==true)&&((x.eq r40&&(y.eq r40&&true))&&true))=false:=by
 refine Bool.eq_false_iff.2 fun e=>h ?_
 simp only [Bool.and_true,Bool.and_eq_true,R4.eq_iff] at e
 exact e.2
end Go.Proofs.YtbepimnlleilfaaGreat
end
