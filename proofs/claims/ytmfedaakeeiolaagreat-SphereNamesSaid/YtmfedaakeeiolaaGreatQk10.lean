/- RefJ, Fra, RefB, EvB, EqA, Rs3, ExM, EyB, LsA, LsR, LsW. -/
import Derived.Deep.MidRow
import Derived.Deep.Upon
import Derived.Test.YtmfedaakeeiolaaGreatQk9
set_option linter.unnecessarySimpa false
set_option linter.unusedVariables false
set_option linter.unusedSimpArgs false
section
namespace Go.Proofs.YtmfedaakeeiolaaGreat
section
open Go.RowKit
def DMPost (k:Int) (w0:World) (e:Ending) (w':World):Prop:=∃ a u,e=.returned (.tuple #[.agg #[.bool a,.string u],.agg #[.bool false,.string ⟨#[]⟩]])∧Hid (a=decide (k<0))∧Hid (u=mag k.natAbs)∧Below w0.heap.size w0 w'
theorem BoxAt.other {w:World} {g b i:Nat} {v:Value} {cs:Array Value} {t:TypeId} (h:BoxAt w g cs t) (hne:g≠b):BoxAt (w.setCell ⟨b,i,none⟩ v) g cs t:=by
 unfold BoxAt at h
 unfold BoxAt
 rw [Below.heap_setCell w ⟨b,i,none⟩ v g hne]
 exact h
set_option maxHeartbeats 6400000 in
set_option maxRecDepth 100000 in
theorem rdivmod_exact {w0:World} (p q:Bool) (s t:ByteArray) (n m:Int) (hp:p=decide (n<0)) (hq:q=decide (m<0)) (hs:s=mag n.natAbs) (ht:t=mag m.natAbs) (h1:s.size≤1000000000) (h2:t.size≤1000000000) (hm:m≠0) (hd:m ∣ n) :
  Calls Tryz.prog 262 #[.agg #[.bool p,.string s],.agg #[.bool q,.string t]] w0 (DMPost (n/m) w0):=by
 have hf0:=((Frames.nil w0).push w0.heap.size #[.bool p,.string s] 23 rfl).push (w0.heap.size+1) #[.bool q,.string t] 23 (by simp)
 have hf1:=(hf0.push (w0.heap.size+1+1) #[.bool false,.string ⟨#[]⟩] 23 (by simp)).push (w0.heap.size+1+1+1) #[.bool false,.string ⟨#[]⟩] 23 (by simp)
 have HB:=Lib.hid (below_alloc_ (below_alloc_ (below_alloc_ (below_new w0 (.cells #[.bool p,.string s] 23)) (.cells #[.bool q,.string t] 23)) (.cells #[.bool false,.string ⟨#[]⟩] 23)) (.cells #[.bool false,.string ⟨#[]⟩] 23))
 have HF:=Lib.hid hf1
 obtain ⟨N,hN⟩:∃ N,N=n.natAbs:=⟨_,rfl⟩
 obtain ⟨M,hM⟩:∃ M,M=m.natAbs:=⟨_,rfl⟩
 rw [← hN] at hs
 rw [← hM] at ht
 have HS:=Lib.hid hs
 have HT:=Lib.hid ht
 have HP:=Lib.hid hp
 have HQ:=Lib.hid hq
 have KN:Hid ((dig N).length≤250000001):=len_mag hs h1
 have KM:Hid ((dig M).length≤250000001):=len_mag ht h2
 have H1:Hid (s.size≤4294967296):=Nat.le_trans h1 (by decide)
 have H2:Hid (t.size≤4294967296):=Nat.le_trans h2 (by decide)
 have HM0:Hid (0<M):=by unfold Hid; omega
 have HR:Hid (N % M=0):=by
  rw [hN,hM]
  exact Nat.mod_eq_zero_of_dvd (Int.natAbs_dvd_natAbs.2 hd)
 have HV:Hid (sg (p != q) (N/M)=n/m):=by rw [hp,hq,hN,hM]; exact sg_exact hd
 clear hs ht h1 h2 hf0 hf1 hp hq hN hM hm hd
 go_enter Tryz.func262,Tryz.ntmps262
 go_wp2
 generalize (((w0.alloc (.cells #[.bool p,.string s] 23)).alloc (.cells #[.bool q,.string t] 23)).alloc (.cells #[.bool false,.string ⟨#[]⟩] 23)).alloc (.cells #[.bool false,.string ⟨#[]⟩] 23)=w1 at HB HF ⊢
 refine wp_region_acts 11 (fun w'=>Below w0.heap.size w0 w'∧Frames w' [(w0.heap.size+1+1+1,#[.bool false,.string ⟨#[]⟩],23),(w0.heap.size+1+1,#[.bool false,.string ⟨#[]⟩],23),(w0.heap.size+1,#[.bool q,.string t],23),(w0.heap.size,#[.bool p,.string s],23)]) (fun w w'=>Below w.heap.size w w') (fun i w v=>match i with
   | 0=>v=.pointer (some ⟨w0.heap.size,1,none⟩)
   | 1=>v=.string s
   | 2=>∃ A c,v=.slice A (dig N).length c∧Words w (.slice A (dig N).length c) (dig N)
   | 3=>v=.pointer (some ⟨w0.heap.size+1,1,none⟩)
   | 4=>v=.string t
   | 5=>∃ A c,v=.slice A (dig M).length c∧Words w (.slice A (dig M).length c) (dig M)
   | 6=>∃ v1 v2,v=.tuple #[v1,v2]∧Words w v1 (dig (N/M))∧Words w v2 (dig (N % M))
   | 7=>∃ v1 v2,v=.tuple #[v1,v2]∧Words w v1 (dig (N/M))∧Words w v2 (dig (N % M))
   | 8=>∃ A l c,v=.slice A l c∧Words w (.slice A l c) (dig (N/M))
   | 9=>∃ A l c,v=.slice A l c∧Words w (.slice A l c) (dig (N % M))
   | _=>∃ A l c,v=.slice A l c∧Words w (.slice A l c) (dig (N/M))) (by kernel_rfl) (by kernel_rfl) (by kernel_rfl) ⟨HB.out.drew,HF.out.on (Below.drew (Below.refl _ _))⟩ (fun _ _=>(Below.refl _ _)) ?_ ⟨?_,?_,?_,?_,?_,?_,?_,?_,?_,?_,?_,trivial⟩ ?_
 · intro i w1 w2 v hC hC2 hE hV
   match i with
   | 0=>exact hV
   | 1=>exact hV
   | 2=>obtain ⟨A,c,e,h⟩:=hV; exact ⟨A,c,e,h.below hE⟩
   | 3=>exact hV
   | 4=>exact hV
   | 5=>obtain ⟨A,c,e,h⟩:=hV; exact ⟨A,c,e,h.below hE⟩
   | 6=>obtain ⟨a,b,e,h,k⟩:=hV; exact ⟨a,b,e,h.below hE,k.below hE⟩
   | 7=>obtain ⟨a,b,e,h,k⟩:=hV; exact ⟨a,b,e,h.below hE,k.below hE⟩
   | 8=>obtain ⟨A,l,c,e,h⟩:=hV; exact ⟨A,l,c,e,h.below hE⟩
   | 9=>obtain ⟨A,l,c,e,h⟩:=hV; exact ⟨A,l,c,e,h.below hE⟩
   | _+10=>obtain ⟨A,l,c,e,h⟩:=hV; exact ⟨A,l,c,e,h.below hE⟩
 · intro a' w' hag hC hd K hK
   have e2:a'.tmps.getD 2 undef=.pointer (some ⟨w0.heap.size,0,none⟩):=hag 2 rfl
   go_step
   exact hK _ _ hC ((Below.refl _ _)) rfl
 · intro a' w' hag hC hd K hK
   have e11:a'.tmps.getD 11 undef=.pointer (some ⟨w0.heap.size,1,none⟩):=hd.1
   have hc0:=(hC.2.get 3 rfl).cell 1 (.string s) rfl
   have HK:=Lib.hid (hK (.string s) _ hC (Below.refl _ _) rfl)
   clear hK hC
   go_step
   exact HK.out
 · intro a' w' hag hC hd K hK
   have e12:a'.tmps.getD 12 undef=.string s:=hd.1
   go_step
   refine (words_any s N HS.out H1.out).mono ?_
   rintro e w2 ⟨A,c,rfl,h1,h2⟩
   exact hK _ _ ⟨hC.1.trans (h2.mono hC.1.size),hC.2.on h2⟩ h2 ⟨_,_,rfl,h1⟩
 · intro a' w' hag hC hd K hK
   have e3:a'.tmps.getD 3 undef=.pointer (some ⟨w0.heap.size+1,0,none⟩):=hag 3 rfl
   go_step
   exact hK _ _ hC ((Below.refl _ _)) rfl
 · intro a' w' hag hC hd K hK
   have e14:a'.tmps.getD 14 undef=.pointer (some ⟨w0.heap.size+1,1,none⟩):=hd.1
   have hc0:=(hC.2.get 2 rfl).cell 1 (.string t) rfl
   have HK:=Lib.hid (hK (.string t) _ hC (Below.refl _ _) rfl)
   clear hK hC
   go_step
   exact HK.out
 · intro a' w' hag hC hd K hK
   have e15:a'.tmps.getD 15 undef=.string t:=hd.1
   go_step
   refine (words_any t M HT.out H2.out).mono ?_
   rintro e w2 ⟨A,c,rfl,h1,h2⟩
   exact hK _ _ ⟨hC.1.trans (h2.mono hC.1.size),hC.2.on h2⟩ h2 ⟨_,_,rfl,h1⟩
 · intro a' w' hag hC hd K hK
   obtain ⟨A13,c13,e13,h13⟩:=hd.1
   have e13:a'.tmps.getD 13 undef=.slice A13 (dig N).length c13:=e13
   obtain ⟨A16,c16,e16,h16⟩:=hd.2.1
   have e16:a'.tmps.getD 16 undef=.slice A16 (dig M).length c16:=e16
   go_step
   refine (divided_any h13 h16 HM0.out (Nat.le_trans KN.out (by decide))).mono ?_
   rintro e w2 ⟨v1,v2,rfl,h1,h2,h3⟩
   exact hK _ _ ⟨hC.1.trans (h3.mono hC.1.size),hC.2.on h3⟩ h3 ⟨_,_,rfl,h1,h2⟩
 · intro a' w' hag hC hd K hK
   obtain ⟨a17,b17,e17,h17,k17⟩:=hd.1
   have e17:a'.tmps.getD 17 undef=.tuple #[a17,b17]:=e17
   go_step
   exact hK _ _ hC (Below.refl _ _) ⟨_,_,rfl,h17,k17⟩
 · intro a' w' hag hC hd K hK
   obtain ⟨a10,b10,e10,h10,k10⟩:=hd.1
   have e10:a'.tmps.getD 10 undef=.tuple #[a10,b10]:=e10
   obtain ⟨A,l,c,rfl⟩:=h10.form
   go_step
   exact hK _ _ hC (Below.refl _ _) ⟨_,_,_,rfl,h10⟩
 · intro a' w' hag hC hd K hK
   obtain ⟨a10,b10,e10,h10,k10⟩:=hd.1
   have e10:a'.tmps.getD 10 undef=.tuple #[a10,b10]:=e10
   obtain ⟨A,l,c,rfl⟩:=k10.form
   go_step
   exact hK _ _ hC (Below.refl _ _) ⟨_,_,_,rfl,k10⟩
 · intro a' w' hag hC hd K hK
   obtain ⟨A18,l18,c18,e18,h18⟩:=hd.1
   have e18:a'.tmps.getD 18 undef=.slice A18 l18 c18:=e18
   go_step
   exact hK _ _ hC ((Below.refl _ _)) ⟨A18,l18,c18,rfl,h18⟩
 · intro u w' hC hall
   obtain ⟨u0,u1,u2,u3,u4,u5,u6,u7,u8,u9,u10,_⟩:=hall
   have u0:u 0=.pointer (some ⟨w0.heap.size,1,none⟩):=u0
   have u1:u 1=.string s:=u1
   have u3:u 3=.pointer (some ⟨w0.heap.size+1,1,none⟩):=u3
   have u4:u 4=.string t:=u4
   obtain ⟨A19,l19,c19,eu9,h19⟩:=u9
   have u9:u 9=.slice A19 l19 c19:=eu9
   obtain ⟨A18,l18,c18,eu10,h18⟩:=u10
   have u10:u 10=.slice A18 l18 c18:=eu10
   simp only [fillR,List.take_succ_cons,List.take_zero,Act.put,List.setIfInBounds_toArray,List.set_cons_succ,List.set_cons_zero,Nat.zero_add,Nat.reduceAdd,u0,u1,u3,u4,u9,u10]
   clear u0 u1 u3 u4 u9 u10
   have HC:=Lib.hid hC
   have HA:=Lib.hid h18
   have HR1:=Lib.hid h19
   rw [HR.out,dig_zero] at HR1
   have hl19:l19=0:=HR1.out.len.1
   subst hl19
   have hAl:l18≤4294967296:=by
    rw [HA.out.len.1]
    exact Nat.le_trans (dig_len_mono _ _ (Nat.div_le_self N M)) (Nat.le_trans KN.out (by decide))
   clear hC h18 h19
   have hc0:=(HC.out.2.get 3 rfl).cell 0 (.bool p) rfl
   have hc1:=(HC.out.2.get 2 rfl).cell 0 (.bool q) rfl
   obtain ⟨x,hx⟩:∃ x,x=(!p==q):=⟨_,rfl⟩
   have HXV:Hid (sg x (N/M)=n/m):=by rw [hx,show (!p==q)=(p != q) by cases p<;>cases q<;>rfl]; exact HV.out
   go_wp2_with fail
   rw [← hx]
   refine (made_any x HA.out hAl).mono ?_
   rintro e w2 ⟨rfl,hb2⟩
   rw [val_dig,HXV.out]
   obtain ⟨a,ha⟩:∃ a,a=decide (n/m<0):=⟨_,rfl⟩
   obtain ⟨u',hu'⟩:∃ u,u=mag (n/m).natAbs:=⟨_,rfl⟩
   have hw:wholeV (n/m)=.agg #[.bool a,.string u']:=by rw [ha,hu']; rfl
   rw [hw]
   have HAA:=Lib.hid ha
   have HUU:=Lib.hid hu'
   have HF2:=Lib.hid (HC.out.2.on hb2)
   have HB2:=Lib.hid (HC.out.1.trans (hb2.mono HC.out.1.size))
   have HR2:=Lib.hid (HR1.out.below hb2)
   clear hc0 hc1 hw ha hu' hb2 hx
   go_wp2_with fail
   refine (made_any false HR2.out (by decide)).mono ?_
   rintro e w3 ⟨rfl,hb3⟩
   rw [show val []=0 from rfl,wholeV_sg0]
   have HF3:=Lib.hid (HF2.out.on hb3)
   have HB3:=Lib.hid (HB2.out.trans (hb3.mono HB2.out.size))
   clear hb3
   have HF4:=Lib.hid ((HF3.out.push w3.heap.size #[.bool a,.string u'] 23 rfl).push (w3.heap.size+1) #[.bool false,.string ⟨#[]⟩] 23 (by simp))
   have HB4:=Lib.hid (below_alloc_ (below_alloc_ HB3.out (.cells #[.bool a,.string u'] 23)) (.cells #[.bool false,.string ⟨#[]⟩] 23))
   have hp0:=(HF4.out.get 5 rfl).cell 0 (.bool p) rfl
   cases p
   all_goals
    go_wp2
    generalize (w3.alloc (.cells #[.bool a,.string u'] 23)).alloc (.cells #[.bool false,.string ⟨#[]⟩] 23)=w4 at HF4 HB4 hp0 ⊢
    have e0:=(HF4.out.get 1 rfl).cell 0 (.bool a) rfl
    have e1:=(HF4.out.get 1 rfl).cell 1 (.string u') rfl
    have f0:=(HF4.out.get 0 rfl).cell 0 (.bool false) rfl
    have f1:=(HF4.out.get 0 rfl).cell 1 (.string ⟨#[]⟩) rfl
    have g0:=(HF4.out.get 3 rfl).cell 0 (.bool false) rfl
    have g1:=(HF4.out.get 3 rfl).cell 1 (.string ⟨#[]⟩) rfl
    have i0:=(HF4.out.get 2 rfl).cell 0 (.bool false) rfl
    have i1:=(HF4.out.get 2 rfl).cell 1 (.string ⟨#[]⟩) rfl
    have fz1:=(HF4.out.get 3 rfl).frozen
    have fz2:=(HF4.out.get 2 rfl).frozen
    have hlt:=HB3.out.size
    have hne1:w3.heap.size≠w0.heap.size+1+1:=by have:=(HF3.out.get 0 rfl).lt; omega
    have hne2:w3.heap.size≠w0.heap.size+1+1+1:=by have:=(HF3.out.get 0 rfl).lt; omega
    have hne3:¬ w3.heap.size=w0.heap.size+1:=by have:=(HF3.out.get 0 rfl).lt; omega
    have hne5:¬ w3.heap.size+1=w0.heap.size+1+1:=by have:=(HF3.out.get 0 rfl).lt; omega
    have hne6:¬ w3.heap.size+1=w0.heap.size+1+1+1:=by have:=(HF3.out.get 0 rfl).lt; omega
    have hk1:=Lib.hid (((((HF4.out.get 3 rfl).set 0 (.bool a)).set 1 (.string u')).other (b:=w0.heap.size+1+1+1) (i:=0) (v:=.bool false) (by omega)).other (b:=w0.heap.size+1+1+1) (i:=1) (v:=.string ⟨#[]⟩) (by omega))
    have hk2:=Lib.hid (((((HF4.out.get 2 rfl).other (b:=w0.heap.size+1+1) (i:=0) (v:=.bool a) (by simp)).other (b:=w0.heap.size+1+1) (i:=1) (v:=.string u') (by simp)).set 0 (.bool false)).set 1 (.string ⟨#[]⟩))
    have hbb:=Lib.hid ((((HB4.out.setCell (p:=⟨w0.heap.size+1+1,0,none⟩) (by simp; omega) (.bool a)).setCell (p:=⟨w0.heap.size+1+1,1,none⟩) (by simp; omega) (.string u')).setCell (p:=⟨w0.heap.size+1+1+1,0,none⟩) (by simp; omega) (.bool false)).setCell (p:=⟨w0.heap.size+1+1+1,1,none⟩) (by simp; omega) (.string ⟨#[]⟩))
    go_region
    generalize (((w4.setCell ⟨w0.heap.size+1+1,0,none⟩ (.bool a)).setCell ⟨w0.heap.size+1+1,1,none⟩ (.string u')).setCell ⟨w0.heap.size+1+1+1,0,none⟩ (.bool false)).setCell ⟨w0.heap.size+1+1+1,1,none⟩ (.string ⟨#[]⟩)=w5 at hk1 hk2 hbb ⊢
    have m0:w5.drew.cell? ⟨w0.heap.size+1+1,0,none⟩=some (.bool a):=BoxAt.cell (w:=w5.drew) hk1.out 0 _ rfl
    have m1:w5.drew.cell? ⟨w0.heap.size+1+1,1,none⟩=some (.string u'):=BoxAt.cell (w:=w5.drew) hk1.out 1 _ rfl
    have m2:w5.drew.cell? ⟨w0.heap.size+1+1+1,0,none⟩=some (.bool false):=BoxAt.cell (w:=w5.drew) hk2.out 0 _ rfl
    have m3:w5.drew.cell? ⟨w0.heap.size+1+1+1,1,none⟩=some (.string ⟨#[]⟩):=BoxAt.cell (w:=w5.drew) hk2.out 1 _ rfl
    clear e0 e1 f0 f1 g0 g1 i0 i1 fz1 fz2 hp0
    go_wp2
    exact bodyPost_ret (v:=.tuple #[.agg #[.bool a,.string u'],.agg #[.bool false,.string ⟨#[]⟩]]) (by simp [results,Tryz.results262,go_sem,m0,m1,m2,m3]) rfl ⟨_,_,rfl,HAA,HUU,hbb.out.drew⟩
end
section
open Go.RowKit
theorem divInt_parts (n m:Int) (hm:m≠0) (g:Int) (hg:g=if m<0 then -((Nat.gcd n.natAbs m.natAbs:Nat):Int) else ((Nat.gcd n.natAbs m.natAbs:Nat):Int)) :
  g≠0∧g ∣ n∧g ∣ m∧(Rat.divInt n m).num=n/g∧((Rat.divInt n m).den:Int)=m/g:=by
 have hG:0<Nat.gcd n.natAbs m.natAbs:=Nat.gcd_pos_of_pos_right _ (by omega)
 obtain ⟨G,hGG⟩:∃ G:Nat,G=Nat.gcd n.natAbs m.natAbs:=⟨_,rfl⟩
 rw [← hGG] at hg hG
 have d1:(G:Int) ∣ n:=by rw [hGG]; exact Int.ofNat_dvd_left.2 (Nat.gcd_dvd_left _ _)
 have d2:(G:Int) ∣ m:=by rw [hGG]; exact Int.ofNat_dvd_left.2 (Nat.gcd_dvd_right _ _)
 have e1:Int.gcd m n=G:=by rw [hGG,Int.gcd_comm]; rfl
 have h1:=Rat.num_divInt n m
 have h2:=Rat.den_divInt n m
 rw [e1] at h1 h2
 rw [if_neg hm] at h2
 by_cases h:m<0
 · rw [if_pos h] at hg
   subst hg
   refine ⟨by omega,Int.neg_dvd.2 d1,Int.neg_dvd.2 d2,?_,?_⟩
   · rw [h1,Int.sign_eq_neg_one_of_neg h,Int.ediv_neg,show (-1:Int)*n = -n by omega,Int.neg_ediv_of_dvd d1]
   · rw [h2,Int.natCast_ediv,Int.ediv_neg,show ((m.natAbs:Nat):Int) = -m by omega,Int.neg_ediv_of_dvd d2]
 · rw [if_neg h] at hg
   subst hg
   refine ⟨by omega,d1,d2,?_,?_⟩
   · rw [h1,Int.sign_eq_one_of_pos (by omega),Int.one_mul]
   · rw [h2,Int.natCast_ediv,show ((m.natAbs:Nat):Int)=m by omega]
end
section
open Go.RowKit
theorem Frames.set_head {w:World} {g:Nat} {cs:Array Value} {T:TypeId} {l:List (Nat × Array Value × TypeId)} (h:Frames w ((g,cs,T)::l)) (hl:∀ x∈l,x.1≠g) (a u:Value) :
  Frames ((w.setCell ⟨g,0,none⟩ a).setCell ⟨g,1,none⟩ u) ((g,(cs.setIfInBounds 0 a).setIfInBounds 1 u,T)::l):=by
 intro x hx
 rcases List.mem_cons.1 hx with rfl | hx2
 · exact ((h (g,cs,T) (List.mem_cons_self ..)).set 0 a).set 1 u
 · exact ((h x (List.mem_cons_of_mem _ hx2)).other (hl x hx2)).other (hl x hx2)
set_option maxHeartbeats 6400000 in
set_option maxRecDepth 100000 in
theorem r3of_any {w0:World} (p q:Bool) (s t:ByteArray) (n m:Int) (hp:p=decide (n<0)) (hq:q=decide (m<0)) (hs:s=mag n.natAbs) (ht:t=mag m.natAbs) (h1:s.size≤1000000000) (h2:t.size≤1000000000) (hm:m≠0) :
  Calls Tryz.prog 263 #[.agg #[.bool p,.string s],.agg #[.bool q,.string t]] w0 fun e w'=>e=.returned (fracV (Rat.divInt n m))∧Below w0.heap.size w0 w':=by
 have hf1:=(((Frames.nil w0).push w0.heap.size #[.bool p,.string s] 23 rfl).push (w0.heap.size+1) #[.bool q,.string t] 23 (by simp)).push (w0.heap.size+1+1) #[.bool false,.string ⟨#[]⟩,.bool false,.string ⟨#[]⟩] 25 (by simp)
 have HB:=Lib.hid (below_alloc_ (below_alloc_ (below_new w0 (.cells #[.bool p,.string s] 23)) (.cells #[.bool q,.string t] 23)) (.cells #[.bool false,.string ⟨#[]⟩,.bool false,.string ⟨#[]⟩] 25))
 have HF:=Lib.hid hf1
 have HP:=Lib.hid hp
 have HQ:=Lib.hid hq
 have HS:=Lib.hid hs
 have HT:=Lib.hid ht
 have H1:=Lib.hid h1
 have H2:=Lib.hid h2
 have HM:=Lib.hid hm
 obtain ⟨g,hg⟩:∃ g:Int,g=if m<0 then -((Nat.gcd n.natAbs m.natAbs:Nat):Int) else ((Nat.gcd n.natAbs m.natAbs:Nat):Int):=⟨_,rfl⟩
 have HD:=Lib.hid (divInt_parts n m hm g hg)
 have HG:=Lib.hid hg
 have hgsz:(mag g.natAbs).size≤1000000000:=by
  have e:g.natAbs=Nat.gcd n.natAbs m.natAbs:=by
   rw [hg]
   split
   · rw [Int.natAbs_neg,Int.natAbs_natCast]
   · rw [Int.natAbs_natCast]
  rw [e]
  exact mag_mono (Nat.gcd_le_right _ (by omega)) (by rw [← ht]; exact h2)
 have HGS:=Lib.hid hgsz
 clear hp hq hs ht h1 h2 hm hf1 hg hgsz
 have hc0:=(HF.out.get 2 rfl).cell 0 (.bool p) rfl
 go_enter Tryz.func263,Tryz.ntmps263
 clear hc0
 go_wp2_with fail
 refine (rgcd_any p q s t n.natAbs m.natAbs HS.out HT.out H1.out H2.out).mono ?_
 rintro e w1 ⟨gs,rfl,hgs,hb⟩
 have HGG:=Lib.hid hgs
 have HF1:=Lib.hid ((HF.out.on hb).push w1.heap.size #[.bool false,.string gs] 23 rfl)
 have HB1:=Lib.hid (below_alloc_ (HB.out.trans (hb.mono HB.out.size)) (.cells #[.bool false,.string gs] 23))
 have hsz1:w0.heap.size+1+1<w1.heap.size:=((HF.out.on hb).get 0 rfl).lt
 have hc2:=(HF1.out.get 2 rfl).cell 0 (.bool q) rfl
 have hc3:=(HF1.out.get 2 rfl).cell 1 (.string t) rfl
 clear hb hgs
 go_wp2_with fail
 refine (rsign_any q t m HQ.out HT.out).mono ?_
 rintro e w2 ⟨rfl,hb⟩
 have HF2:=Lib.hid (HF1.out.on hb)
 have HB2:=Lib.hid (HB1.out.trans (hb.mono HB1.out.size))
 clear hb hc2 hc3
 obtain ⟨sg0,hsg⟩:∃ x,x=m.sign:=⟨_,rfl⟩
 rw [← hsg]
 have HSG:=Lib.hid hsg
 clear hsg
 have hn1:¬ w1.heap.size=w0.heap.size:=by omega
 have hn2:¬ w1.heap.size=w0.heap.size+1:=by omega
 have hn3:¬ w1.heap.size=w0.heap.size+1+1:=by omega
 have key:∀ (w3:World) (ga:Bool) (gu:ByteArray),Hid (ga=decide (g<0))→Hid (gu=mag g.natAbs)→Hid (Frames w3 [(w1.heap.size,#[.bool ga,.string gu],23),(w0.heap.size+1+1,#[.bool false,.string ⟨#[]⟩,.bool false,.string ⟨#[]⟩],25),(w0.heap.size+1,#[.bool q,.string t],23),(w0.heap.size,#[.bool p,.string s],23)])→True:=fun _ _ _ _ _ _=>trivial
 clear key
 by_cases hneg:sg0<0
 · have HMN:Hid (m<0):=by have:=HSG.out; rw [this] at hneg; exact Int.sign_neg_iff.1 hneg
   have hd0:=(HF2.out.get 0 rfl).cell 0 (.bool false) rfl
   have hd1:=(HF2.out.get 0 rfl).cell 1 (.string gs) rfl
   go_wp2_with fail
   refine (rneg_any false gs ((Nat.gcd n.natAbs m.natAbs:Nat):Int) (by simp) (by rw [Int.natAbs_natCast]; exact HGG.out)).mono ?_
   rintro e w3 ⟨ga,gu,rfl,hga,hgu,hb⟩
   have HGA:Hid (ga=decide (g<0)):=by rw [Hid,HG.out,if_pos HMN.out]; exact hga.out
   have HGU:Hid (gu=mag g.natAbs):=by rw [Hid,HG.out,if_pos HMN.out]; exact hgu.out
   have hf3:=HF2.out.on hb
   have hx0:=(hf3.get 3 rfl).cell 0 (.bool p) rfl
   have hx1:=(hf3.get 3 rfl).cell 1 (.string s) rfl
   have hx2:=(hf3.get 0 rfl).cell 0 (.bool false) rfl
   have hx3:=(hf3.get 0 rfl).cell 1 (.string gs) rfl
   have hfz:=(hf3.get 0 rfl).frozen
   have HF3:Hid (Frames ((w3.setCell ⟨w1.heap.size,0,none⟩ (.bool ga)).setCell ⟨w1.heap.size,1,none⟩ (.string gu)) [(w1.heap.size,#[.bool ga,.string gu],23),(w0.heap.size+1+1,#[.bool false,.string ⟨#[]⟩,.bool false,.string ⟨#[]⟩],25),(w0.heap.size+1,#[.bool q,.string t],23),(w0.heap.size,#[.bool p,.string s],23)]):=hf3.set_head (fun x hx=>by simp at hx; rcases hx with rfl | rfl | rfl<;>simp<;>omega) (.bool ga) (.string gu)
   have HB3:=Lib.hid (below_put2 (HB2.out.trans (hb.mono HB2.out.size)) (show w0.heap.size≤w1.heap.size by omega) (.bool ga) (.string gu))
   clear hb hd0 hd1 hga hgu hf3
   go_wp2_with fail
   generalize (w3.setCell ⟨w1.heap.size,0,none⟩ (.bool ga)).setCell ⟨w1.heap.size,1,none⟩ (.string gu)=w4 at HF3 HB3 ⊢
   clear hx0 hx1 hx2 hx3 hfz
   refine (rdivmod_exact p ga s gu n g HP.out HGA.out HS.out HGU.out H1.out (by rw [HGU.out]; exact HGS.out) HD.out.1 HD.out.2.1).mono ?_
   rintro e w5 ⟨a1,u1,rfl,ha1,hu1,hb⟩
   have HF5:=Lib.hid (((HF3.out.on hb).push w5.heap.size #[.bool a1,.string u1] 23 rfl).push (w5.heap.size+1) #[.bool false,.string ⟨#[]⟩] 23 (by simp))
   have HB5:=Lib.hid (below_alloc_ (below_alloc_ (HB3.out.trans (hb.mono HB3.out.size)) (.cells #[.bool a1,.string u1] 23)) (.cells #[.bool false,.string ⟨#[]⟩] 23))
   have hx0:=(HF5.out.get 4 rfl).cell 0 (.bool q) rfl
   have hx1:=(HF5.out.get 4 rfl).cell 1 (.string t) rfl
   have hx2:=(HF5.out.get 2 rfl).cell 0 (.bool ga) rfl
   have hx3:=(HF5.out.get 2 rfl).cell 1 (.string gu) rfl
   clear hb
   go_wp2_with fail
   refine (rdivmod_exact q ga t gu m g HQ.out HGA.out HT.out HGU.out H2.out (by rw [HGU.out]; exact HGS.out) HD.out.1 HD.out.2.2.1).mono ?_
   rintro e w6 ⟨a2,u2,rfl,ha2,hu2,hb⟩
   have HF6:=Lib.hid (((HF5.out.on hb).push w6.heap.size #[.bool a2,.string u2] 23 rfl).push (w6.heap.size+1) #[.bool false,.string ⟨#[]⟩] 23 (by simp))
   have HB6:=Lib.hid (below_alloc_ (below_alloc_ (HB5.out.trans (hb.mono HB5.out.size)) (.cells #[.bool a2,.string u2] 23)) (.cells #[.bool false,.string ⟨#[]⟩] 23))
   clear hb hx0 hx1 hx2 hx3
   have ha2f:a2=false:=by
    rw [ha2.out,← HD.out.2.2.2.2]
    simp
   subst ha2f
   have HVAL:Hid ((Value.agg #[.bool a1,.string u1,.bool false,.string u2])=fracV (Rat.divInt n m)):=by
    rw [Hid,fracV,HD.out.2.2.2.1,← ha1.out,← hu1.out]
    congr 4
    have h:=hu2.out
    rw [← HD.out.2.2.2.2,Int.natAbs_natCast] at h
    rw [h]
   have hy0:=(HF6.out.get 3 rfl).cell 0 (.bool a1) rfl
   have hy1:=(HF6.out.get 3 rfl).cell 1 (.string u1) rfl
   have hy2:=(HF6.out.get 1 rfl).cell 0 (.bool false) rfl
   have hy3:=(HF6.out.get 1 rfl).cell 1 (.string u2) rfl
   have hp0:=(HF6.out.get 5 rfl).cell 0 _ rfl
   have hp1:=(HF6.out.get 5 rfl).cell 1 _ rfl
   have hp2:=(HF6.out.get 5 rfl).cell 2 _ rfl
   have hp3:=(HF6.out.get 5 rfl).cell 3 _ rfl
   have hf:=(HF6.out.get 5 rfl).frozen
   go_wp2
   have hk:=(HF6.out.get 5 rfl).put4 (.bool a1) (.string u1) (.bool false) (.string u2)
   have k0:=hk.cell 0 _ rfl
   have k1:=hk.cell 1 _ rfl
   have k2:=hk.cell 2 _ rfl
   have k3:=hk.cell 3 _ rfl
   exact bodyPost_ret (v:=.agg #[.bool a1,.string u1,.bool false,.string u2]) (by simp [results,Tryz.results263,go_sem,k0,k1,k2,k3]) rfl ⟨by rw [HVAL.out],below_put4 HB6.out (by omega) _ _ _ _⟩
 · have hneg2:¬ sg0<0:=hneg
   have HMN:Hid (¬ m<0):=fun h=>hneg (by rw [HSG.out]; exact Int.sign_neg_iff.2 h)
   obtain ⟨ga,hga⟩:∃ ga,ga=false:=⟨_,rfl⟩
   have HGA:Hid (ga=decide (g<0)):=by rw [Hid,HG.out,if_neg HMN.out,hga]; simp
   have HGU:Hid (gs=mag g.natAbs):=by rw [Hid,HG.out,if_neg HMN.out,Int.natAbs_natCast]; exact HGG.out
   rw [← hga] at HF2
   obtain ⟨gu,hgu⟩:∃ gu,gu=gs:=⟨_,rfl⟩
   rw [← hgu] at HF2 HGU
   have hx0:=(HF2.out.get 3 rfl).cell 0 (.bool p) rfl
   have hx1:=(HF2.out.get 3 rfl).cell 1 (.string s) rfl
   have hx2:=(HF2.out.get 0 rfl).cell 0 (.bool ga) rfl
   have hx3:=(HF2.out.get 0 rfl).cell 1 (.string gu) rfl
   have HF3:=HF2
   have HB3:=HB2
   clear hga hgu
   go_wp2_with fail
   obtain ⟨w4,hw4⟩:∃ w4,w4=w2:=⟨_,rfl⟩
   rw [← hw4] at HF3 HB3 ⊢
   clear hx0 hx1 hx2 hx3 hw4
   refine (rdivmod_exact p ga s gu n g HP.out HGA.out HS.out HGU.out H1.out (by rw [HGU.out]; exact HGS.out) HD.out.1 HD.out.2.1).mono ?_
   rintro e w5 ⟨a1,u1,rfl,ha1,hu1,hb⟩
   have HF5:=Lib.hid (((HF3.out.on hb).push w5.heap.size #[.bool a1,.string u1] 23 rfl).push (w5.heap.size+1) #[.bool false,.string ⟨#[]⟩] 23 (by simp))
   have HB5:=Lib.hid (below_alloc_ (below_alloc_ (HB3.out.trans (hb.mono HB3.out.size)) (.cells #[.bool a1,.string u1] 23)) (.cells #[.bool false,.string ⟨#[]⟩] 23))
   have hx0:=(HF5.out.get 4 rfl).cell 0 (.bool q) rfl
   have hx1:=(HF5.out.get 4 rfl).cell 1 (.string t) rfl
   have hx2:=(HF5.out.get 2 rfl).cell 0 (.bool ga) rfl
   have hx3:=(HF5.out.get 2 rfl).cell 1 (.string gu) rfl
   clear hb
   go_wp2_with fail
   refine (rdivmod_exact q ga t gu m g HQ.out HGA.out HT.out HGU.out H2.out (by rw [HGU.out]; exact HGS.out) HD.out.1 HD.out.2.2.1).mono ?_
   rintro e w6 ⟨a2,u2,rfl,ha2,hu2,hb⟩
   have HF6:=Lib.hid (((HF5.out.on hb).push w6.heap.size #[.bool a2,.string u2] 23 rfl).push (w6.heap.size+1) #[.bool false,.string ⟨#[]⟩] 23 (by simp))
   have HB6:=Lib.hid (below_alloc_ (below_alloc_ (HB5.out.trans (hb.mono HB5.out.size)) (.cells #[.bool a2,.string u2] 23)) (.cells #[.bool false,.string ⟨#[]⟩] 23))
   clear hb hx0 hx1 hx2 hx3
   have ha2f:a2=false:=by
    rw [ha2.out,← HD.out.2.2.2.2]
    simp
   subst ha2f
   have HVAL:Hid ((Value.agg #[.bool a1,.string u1,.bool false,.string u2])=fracV (Rat.divInt n m)):=by
    rw [Hid,fracV,HD.out.2.2.2.1,← ha1.out,← hu1.out]
    congr 4
    have h:=hu2.out
    rw [← HD.out.2.2.2.2,Int.natAbs_natCast] at h
    rw [h]
   have hy0:=(HF6.out.get 3 rfl).cell 0 (.bool a1) rfl
   have hy1:=(HF6.out.get 3 rfl).cell 1 (.string u1) rfl
   have hy2:=(HF6.out.get 1 rfl).cell 0 (.bool false) rfl
   have hy3:=(HF6.out.get 1 rfl).cell 1 (.string u2) rfl
   have hp0:=(HF6.out.get 5 rfl).cell 0 _ rfl
   have hp1:=(HF6.out.get 5 rfl).cell 1 _ rfl
   have hp2:=(HF6.out.get 5 rfl).cell 2 _ rfl
   have hp3:=(HF6.out.get 5 rfl).cell 3 _ rfl
   have hf:=(HF6.out.get 5 rfl).frozen
   go_wp2
   have hk:=(HF6.out.get 5 rfl).put4 (.bool a1) (.string u1) (.bool false) (.string u2)
   have k0:=hk.cell 0 _ rfl
   have k1:=hk.cell 1 _ rfl
   have k2:=hk.cell 2 _ rfl
   have k3:=hk.cell 3 _ rfl
   exact bodyPost_ret (v:=.agg #[.bool a1,.string u1,.bool false,.string u2]) (by simp [results,Tryz.results263,go_sem,k0,k1,k2,k3]) rfl ⟨by rw [HVAL.out],below_put4 HB6.out (by omega) _ _ _ _⟩
end
end Go.Proofs.YtmfedaakeeiolaaGreat
end
section
namespace Go.Proofs.YtmfedaakeeiolaaGreat
open Go.RowKit
structure Fr (w0 w:World) (l:List (Nat × Array Value × TypeId)):Prop where
 below:Below w0.heap.size w0 w
 boxes:Frames w l
 dist:l.Pairwise (fun x y=>x.1≠y.1)
 low:∀ x∈l,w0.heap.size≤x.1
theorem agg2 {a b c d:Value} (h:Value.agg #[a,b]=.agg #[c,d]):a=c∧b=d:=by
 injection h with h
 have h:=congrArg Array.toList h
 simpa using h
theorem whole_cells {p:Bool} {s:ByteArray} {n:Int} (h:(Value.agg #[.bool p,.string s])=wholeV n):p=decide (n<0)∧s=mag n.natAbs:=by
 obtain ⟨h1,h2⟩:=agg2 h
 exact ⟨Value.bool.inj h1,Value.string.inj h2⟩
theorem sz_of {p:Bool} {s:ByteArray} {n:Int} (h:(Value.agg #[.bool p,.string s])=wholeV n) {k:Nat} (b:sz n≤k):s.size≤k:=by
 rw [(whole_cells h).2]; exact b
theorem formed_num {p:Bool} {s:ByteArray} (h:FormedB p s):decide (numOf p s<0)=p∧mag (numOf p s).natAbs=s:=by
 have hp:Plain1 s:=by
  rcases h with h1 | h1
  · exact .inl h1.1
  · exact .inr h1.2
 have h1:=mag_num hp
 have h2:s.size≠0→num s≠0:=by
  intro k e
  rw [e,mag_zero] at h1
  rw [← h1] at k
  exact k rfl
 have h3:(numOf p s).natAbs=num s:=by unfold numOf sg; cases p<;>simp
 refine ⟨?_,by rw [h3,h1]⟩
 rcases h with h4 | h4
 · have:num s=0:=by have:=num_lt s; rw [h4.1] at this; omega
   rw [h4.2]
   unfold numOf sg
   simp [this]
 · have:=h2 h4.1
   unfold numOf sg
   cases p
   · simp
   · simp; omega
theorem isFrac_doc {b c:Bool} {s t:ByteArray}:IsFrac (.agg #[.bool b,.string s,.bool c,.string t]) ↔
  (s.size≤1024∧t.size≤1024)∧FormedB b s∧FormedB c t∧0<numOf c t∧Nat.gcd (numOf b s).natAbs (numOf c t).natAbs=1:=by
 constructor
 · intro h
   obtain ⟨h1,h2,h3,h4,h5,h6⟩:=isFrac_parts h
   refine ⟨⟨h3,h4⟩,h1.1,h2.1,h5,?_⟩
   obtain ⟨q,hf,hv⟩:=h
   obtain ⟨rfl,rfl,rfl,rfl⟩:=agg4 hv
   have n2:=numOf_mag (q.den:Int)
   rw [show decide ((q.den:Int)<0)=false by simp,Int.natAbs_natCast] at n2
   rw [numOf_mag,n2,Int.natAbs_natCast]
   exact q.reduced
 · rintro ⟨⟨h1,h2⟩,h3,h4,h5,h6⟩
   obtain ⟨e1,e2⟩:=formed_num h3
   obtain ⟨e3,e4⟩:=formed_num h4
   refine isFrac_of h1 h2 (q:=Rat.divInt (numOf b s) (numOf c t)) ?_
   obtain ⟨_,_,_,d4,d5⟩:=divInt_parts (numOf b s) (numOf c t) (by omega) 1 (by rw [if_neg (by omega),h6]; rfl)
   rw [Int.ediv_one] at d4 d5
   rw [fracV,d4,e1,e2]
   have hc:c=false:=by rw [← e3]; exact decide_eq_false (by omega)
   have hd:(Rat.divInt (numOf b s) (numOf c t)).den=(numOf c t).natAbs:=by omega
   rw [hd,e4,hc]
theorem r3of_w {w0:World} {p q:Bool} {s t:ByteArray} {n m:Int} (h:(Value.agg #[.bool p,.string s])=wholeV n) (k:(Value.agg #[.bool q,.string t])=wholeV m) (h1:sz n≤1000000000) (h2:sz m≤1000000000) (hm:m≠0) :
  Calls Tryz.prog 263 #[.agg #[.bool p,.string s],.agg #[.bool q,.string t]] w0 fun e w'=>e=.returned (fracV (Rat.divInt n m))∧Below w0.heap.size w0 w' :=
 r3of_any p q s t n m (whole_cells h).1 (whole_cells k).1 (whole_cells h).2 (whole_cells k).2 (sz_of h h1) (sz_of k h2) hm
set_option maxRecDepth 100000 in
theorem rof_any {w:World} {n:Int} (hr : -9223372036854775808≤n∧n≤9223372036854775807) :
  Calls Tryz.prog 112 #[.int .i64 n] w fun e w'=>e=.returned (wholeV n)∧Below w.heap.size w w':=by
 have HR:=Lib.hid hr
 have HB:=Lib.hid (below_new w (.cells #[.bool false,.string ⟨#[]⟩] 23))
 have HC:=Lib.hid (BoxAt.new w #[.bool false,.string ⟨#[]⟩] 23)
 obtain ⟨k,hk⟩:∃ k,k=n.natAbs:=⟨_,rfl⟩
 have hkb:k≤9223372036854775808:=by omega
 obtain ⟨x,hx⟩:∃ x,x=k % 4294967296:=⟨_,rfl⟩
 obtain ⟨y,hy⟩:∃ y,y=k/4294967296:=⟨_,rfl⟩
 have hx32:x<4294967296:=by omega
 have hy32:y<4294967296:=by omega
 have hxi:(k:Int) % 4294967296=(x:Int):=by omega
 have hyi:(k:Int)/4294967296=(y:Int):=by omega
 have HS:Hid (sg (decide (n<0)) (val [x,y])=n):=by
  have:val [x,y]=k:=by simp [val]; omega
  rw [Hid,this,hk,sg_of]
 have HWW:=Lib.hid (words_two (w.alloc (.cells #[.bool false,.string ⟨#[]⟩] 23)) x y _ _ hx32 hy32 rfl rfl)
 have HBW:=Lib.hid (below_new (w.alloc (.cells #[.bool false,.string ⟨#[]⟩] 23)) (.cells #[.int .u32 (x:Int),.int .u32 (y:Int)] 284))
 have HC1:=Lib.hid (HC.out.on HBW.out)
 have HB1:=Lib.hid (HB.out.trans (HBW.out.mono HB.out.size))
 rw [size_alloc] at HWW
 by_cases h:n<0
 all_goals
  have hw1:IntKind.u64.wrap n=if n<0 then 18446744073709551616+n else n:=by simp [IntKind.wrap,IntKind.bits,IntKind.signed]; omega
 · rw [if_pos h] at hw1
   have hw2:IntKind.u64.wrap (-(18446744073709551616+n)) = -n:=by simp [IntKind.wrap,IntKind.bits,IntKind.signed]; omega
   have hnk : -n=(k:Int):=by omega
   rw [hnk] at hw2
   have hd:decide (n<0)=true:=by simpa using h
   rw [hd] at HS
   clear hr hk hnk hx hy
   go_enter Tryz.func112,Tryz.ntmps112
   go_wp2_with fail
   refine (made_any true HWW.out (by decide)).mono ?_
   rintro e w1 ⟨rfl,hb⟩
   rw [HS.out]
   obtain ⟨p,s,hps⟩:∃ p s,wholeV n=.agg #[.bool p,.string s]:=⟨_,_,rfl⟩
   have HPS:=Lib.hid hps
   rw [hps]
   have HC2:=Lib.hid (HC1.out.on hb)
   have HB2:=Lib.hid (HB1.out.trans (hb.mono HB1.out.size))
   have hp0:=HC2.out.cell 0 _ rfl
   have hp1:=HC2.out.cell 1 _ rfl
   have hf:=HC2.out.frozen
   clear hps hb
   go_wp2
   have hk:=(HC2.out.set 0 (.bool p)).set 1 (.string s)
   have k0:=hk.cell 0 _ rfl
   have k1:=hk.cell 1 _ rfl
   exact bodyPost_ret (v:=.agg #[.bool p,.string s]) (by simp [results,Tryz.results112,go_sem,k0,k1]) rfl ⟨by rw [HPS.out],(HB2.out.setCell (Nat.le_refl _) _).setCell (Nat.le_refl _) _⟩
 · rw [if_neg h] at hw1
   have hnk:n=(k:Int):=by omega
   have hd:decide (n<0)=false:=by simpa using h
   rw [hd] at HS
   have hw3:IntKind.u64.wrap n=(k:Int):=by rw [hw1]; exact hnk
   have HNK:=Lib.hid hnk
   clear hr hk hx hy hw1 hnk
   go_enter Tryz.func112,Tryz.ntmps112
   go_wp2_with fail
   refine (made_any false HWW.out (by decide)).mono ?_
   rintro e w1 ⟨rfl,hb⟩
   rw [HS.out]
   obtain ⟨p,s,hps⟩:∃ p s,wholeV n=.agg #[.bool p,.string s]:=⟨_,_,rfl⟩
   have HPS:=Lib.hid hps
   rw [hps]
   have HC2:=Lib.hid (HC1.out.on hb)
   have HB2:=Lib.hid (HB1.out.trans (hb.mono HB1.out.size))
   have hp0:=HC2.out.cell 0 _ rfl
   have hp1:=HC2.out.cell 1 _ rfl
   have hf:=HC2.out.frozen
   clear hps hb
   go_wp2
   have hk:=(HC2.out.set 0 (.bool p)).set 1 (.string s)
   have k0:=hk.cell 0 _ rfl
   have k1:=hk.cell 1 _ rfl
   exact bodyPost_ret (v:=.agg #[.bool p,.string s]) (by simp [results,Tryz.results112,go_sem,k0,k1]) rfl ⟨by rw [HPS.out],(HB2.out.setCell (Nat.le_refl _) _).setCell (Nat.le_refl _) _⟩
end Go.Proofs.YtmfedaakeeiolaaGreat
end
section
namespace Go.Proofs.YtmfedaakeeiolaaGreat
open Go.Proofs.YtmfedaakeeiolaaGreat.Y
open Go Go.RowKit
set_option maxRecDepth 100000
def ansB (q:Rat):Bool:=if Fit q then decide (q.num<0) else false
def ansS (q:Rat):ByteArray:=if Fit q then mag q.num.natAbs else ⟨#[]⟩
def ansD (q:Rat):ByteArray:=if Fit q then mag q.den else ⟨#[]⟩
theorem fit_maxLen {x:Rat} (h:Fit x):(mag x.num.natAbs).size≤maxLen∧(mag x.den).size≤maxLen:=⟨Nat.le_trans h.1 (by decide),Nat.le_trans h.2 (by decide)⟩
def rawV (b c:Bool) (s t:ByteArray):Value:=.agg #[.bool b,.string s,.bool c,.string t]
theorem fitF (x:Rat) (h:Fit x):IsFrac (rawV (decide (x.num<0)) false (mag x.num.natAbs) (mag x.den)):=⟨x,h,rfl⟩
theorem iff_true_of {P:Prop} (k:P):true=true↔P:=⟨fun _=>k,fun _=>rfl⟩
theorem may_w {w0:World} (b c:Bool) (s t:ByteArray) (hs:s.size≤maxLen) (ht:t.size≤maxLen) (r:Bool) (hr:r=true↔IsFrac (.agg #[.bool b,.string s,.bool c,.string t])) :
  Calls Tryz.prog 239 #[.agg #[.bool b,.string s,.bool c,.string t]] w0 fun e w'=>e=.returned (.bool r)∧Below w0.heap.size w0 w':=by
 refine (May_any b c s t hs ht).mono ?_
 rintro e w' ⟨r',rfl,hr',hb⟩
 refine ⟨?_,hb⟩
 rw [Bool.eq_iff_iff.2 (hr'.trans hr.symm)]
def eMay (b c:Bool) (s t:ByteArray) (hs:s.size≤maxLen) (ht:t.size≤maxLen) (r:Bool) (hr:r=true↔IsFrac (rawV b c s t)):Ev Tryz.prog:=.ret 239 Tryz.call239 _ _ (fun w=>may_w b c s t hs ht r hr)
def eMayF (x:Rat) (h:Fit x):Ev Tryz.prog:=eMay _ _ _ _ (fit_maxLen h).1 (fit_maxLen h).2 true (iff_true_of (fitF x h))
def fC (x:Rat):List Lf:=[.b (.v (.bool (decide (x.num<0)))),.b (.v (.string (mag x.num.natAbs))),.b (.v (.bool false)),.b (.v (.string (mag x.den)))]
section
variable {n m:Int}
def eWOf (n:Int) (hr : -9223372036854775808≤n∧n≤9223372036854775807):Ev Tryz.prog:=.ret 112 Tryz.call112 #[.int .i64 n] (wholeV n) (fun w=>rof_any hr)
def eFOf (hn:sz n≤1000000000) (hm:sz m≤1000000000) (h0:m≠0):Ev Tryz.prog:=.ret 263 Tryz.call263 #[wholeV n,wholeV m] (fracV (Rat.divInt n m)) (fun w=>r3of_w rfl rfl hn hm h0)
end
theorem run_eqF_cons {P : Program} {w : World} {d : Nat} {xs ys : Array Value} {f : Field} {fs : List Field} {a b : Value} {r : Bool} (hn : decide (f.name = "_") = false) (ha : (part f.type xs f.offset).run P w = .ok a w) (hb : (part f.type ys f.offset).run P w = .ok b w)
  (hr:(Op.equalIn d f.type a b).run P w=.ok r w) {s:Bool} (hs:(Op.eqFields d xs ys fs).run P w=.ok s w):(Op.eqFields d xs ys (f::fs)).run P w=.ok (r&&s) w:=by
 unfold Op.eqFields
 rw [if_pos (of_decide_eq_false hn)]
 simp only [Sem.run_bind,ha,hb,hr,Result.andThen_ok]
 cases r
 · rfl
 · simpa using hs
theorem eqW {w:World} (d:Nat) (b b':Bool) (s s':ByteArray):(Op.equalIn (d+2) 23 (.agg #[.bool b,.string s]) (.agg #[.bool b',.string s'])).run Tryz.prog w=.ok ((b==b')&&((s.toList==s'.toList)&&true)) w:=by
 rw [run_equalIn_agg _ _ _ _ _ (by kernel_rfl) (by kernel_rfl)]
 refine run_eqF_cons (a:=.bool b) (b:=.bool b') (by kernel_rfl) (by kernel_rfl) (by kernel_rfl) (run_equalIn_bool' _ _ _ _ _ (by kernel_rfl)) ?_
 refine run_eqF_cons (a:=.string s) (b:=.string s') (by kernel_rfl) (by kernel_rfl) (by kernel_rfl) (run_equalIn_string _ _ _ _ _ (by kernel_rfl)) ?_
 kernel_rfl
def weq (b b':Bool) (s s':ByteArray):Bool:=(b==b')&&((s.toList==s'.toList)&&true)
def feq (b b':Bool) (s s':ByteArray) (c c':Bool) (t t':ByteArray):Bool:=weq b b' s s'&&(weq c c' t t'&&true)
theorem eqF {w:World} (d:Nat) (b b' c c':Bool) (s s' t t':ByteArray):(Op.equalIn (d+3) 25 (.agg #[.bool b,.string s,.bool c,.string t]) (.agg #[.bool b',.string s',.bool c',.string t'])).run Tryz.prog w=.ok (feq b b' s s' c c' t t') w:=by
 rw [run_equalIn_agg _ _ _ _ _ (by kernel_rfl) (by kernel_rfl)]
 refine run_eqF_cons (a:=.agg #[.bool b,.string s]) (b:=.agg #[.bool b',.string s']) (by kernel_rfl) (by kernel_rfl) (by kernel_rfl) (eqW d _ _ _ _) ?_
 refine run_eqF_cons (a:=.agg #[.bool c,.string t]) (b:=.agg #[.bool c',.string t']) (by kernel_rfl) (by kernel_rfl) (by kernel_rfl) (eqW d _ _ _ _) ?_
 kernel_rfl
structure R4 where
 b:Bool
 s:ByteArray
 c:Bool
 t:ByteArray
def R4.eq (x y:R4):Bool:=feq x.b y.b x.s y.s x.c y.c x.t y.t
theorem weq_iff {b b':Bool} {s s':ByteArray}:weq b b' s s'=true↔b=b'∧s=s':=by
 unfold weq
 rw [Bool.and_true,Bool.and_eq_true,beq_iff_eq,beq_iff_eq,toList_inj]
theorem R4.eq_iff {x y:R4}:x.eq y=true↔x=y:=by
 unfold R4.eq feq
 rw [Bool.and_true,Bool.and_eq_true,weq_iff,weq_iff]
 obtain ⟨b,s,c,t⟩:=x
 obtain ⟨b',s',c',t'⟩:=y
 constructor
 · rintro ⟨⟨rfl,rfl⟩,rfl,rfl⟩; rfl
 · intro h; injection h with h1 h2 h3 h4; exact ⟨⟨h1,h2⟩,h3,h4⟩
theorem eqG {w:World} (d:Nat) (x y x' y':R4):(Op.equalIn (d+4) 37 (.agg #[.bool x.b,.string x.s,.bool x.c,.string x.t,.bool y.b,.string y.s,.bool y.c,.string y.t]) (.agg #[.bool x'.b,.string x'.s,.bool x'.c,.string x'.t,.bool y'.b,.string y'.s,.bool y'.c,.string y'.t])).run Tryz.prog w=.ok (x.eq x'&&(y.eq y'&&true)) w:=by
 rw [run_equalIn_agg _ _ _ _ _ (by kernel_rfl) (by kernel_rfl)]
 refine run_eqF_cons (a:=.agg #[.bool x.b,.string x.s,.bool x.c,.string x.t]) (b:=.agg #[.bool x'.b,.string x'.s,.bool x'.c,.string x'.t]) (by kernel_rfl) (by kernel_rfl) (by kernel_rfl) (eqF d _ _ _ _ _ _ _ _) ?_
 refine run_eqF_cons (a:=.agg #[.bool y.b,.string y.s,.bool y.c,.string y.t]) (b:=.agg #[.bool y'.b,.string y'.s,.bool y'.c,.string y'.t]) (by kernel_rfl) (by kernel_rfl) (by kernel_rfl) (eqF d _ _ _ _ _ _ _ _) ?_
 kernel_rfl
theorem eqP {w:World} (d:Nat) (i i':Bool) (x y x' y':R4):(Op.equalIn (d+5) 52 (.agg #[.bool i,.bool x.b,.string x.s,.bool x.c,.string x.t,.bool y.b,.string y.s,.bool y.c,.string y.t]) (.agg #[.bool i',.bool x'.b,.string x'.s,.bool x'.c,.string x'.t,.bool y'.b,.string y'.s,.bool y'.c,.string y'.t])).run Tryz.prog w=.ok ((i==i')&&((x.eq x'&&(y.eq y'&&true))&&true)) w:=by
 rw [run_equalIn_agg _ _ _ _ _ (by kernel_rfl) (by kernel_rfl)]
 refine run_eqF_cons (a:=.bool i) (b:=.bool i') (by kernel_rfl) (by kernel_rfl) (by kernel_rfl) (run_equalIn_bool' _ _ _ _ _ (by kernel_rfl)) ?_
 refine run_eqF_cons (a:=.agg #[.bool x.b,.string x.s,.bool x.c,.string x.t,.bool y.b,.string y.s,.bool y.c,.string y.t]) (b:=.agg #[.bool x'.b,.string x'.s,.bool x'.c,.string x'.t,.bool y'.b,.string y'.s,.bool y'.c,.string y'.t]) (by kernel_rfl) (by kernel_rfl) (by kernel_rfl) (eqG d _ _ _ _) ?_
 kernel_rfl
theorem exec_eql {w:World} {t u:TypeId} {xs ys:Array Value} {r:Bool} (hg:Tryz.prog.eqGuardType Tryz.prog.depth t=false) (h:(Op.equalIn 10000 t (.agg xs) (.agg ys)).run Tryz.prog w=.ok r w) (x y:Operand) (ρ:Operand→Value) (o:Oper) (ho:o.op=.binOp .eql t x y u) (hx:ρ x=.agg xs) (hy:ρ y=.agg ys):(execOp ρ o).run Tryz.prog w=.ok (.value (.bool r)) w:=by
 unfold execOp
 rw [ho]
 simp only [hx,hy,Sem.run_bind,run_eqGuard_agg w _ _ _ _ _ _ hg,run_eql_struct,h,Result.andThen_ok]
 rfl
theorem exec_neq {w:World} {t u:TypeId} {xs ys:Array Value} {r:Bool} (hg:Tryz.prog.eqGuardType Tryz.prog.depth t=false) (h:(Op.equalIn 10000 t (.agg xs) (.agg ys)).run Tryz.prog w=.ok r w) (x y:Operand) (ρ:Operand→Value) (o:Oper) (ho:o.op=.binOp .neq t x y u) (hx:ρ x=.agg xs) (hy:ρ y=.agg ys):(execOp ρ o).run Tryz.prog w=.ok (.value (.bool (!r))) w:=by
 unfold execOp
 rw [ho]
 simp only [hx,hy,Sem.run_bind,run_eqGuard_agg w _ _ _ _ _ _ hg,run_neq_struct,h,Result.andThen_ok]
 rfl
def eqEv (t:TypeId) (xs ys:Array Value) (r:Bool) (hg:Tryz.prog.eqGuardType Tryz.prog.depth t=false) (h:∀ w,(Op.equalIn 10000 t (.agg xs) (.agg ys)).run Tryz.prog w=.ok r w):Ev Tryz.prog :=
 .dyn (fun o _ _=>match o.op with
  | .binOp .eql t' _ _ _=>Nat.beq t' t
  | .binOp .neq t' _ _ _=>Nat.beq t' t
  | _=>false) fun o _ _=>match o.op with
  | .binOp .eql _ a b u=>.gen (o.dst.getD 0) (.binOp .eql t a b u) [.agg xs,.agg ys] (.bool r) (fun ρ o w ho hx=>by
    simp only [Op.operands,List.map_cons,List.map_nil,List.cons.injEq] at hx
    exact exec_eql hg (h w) a b ρ o ho hx.1 hx.2.1)
  | .binOp .neq _ a b u=>.gen (o.dst.getD 0) (.binOp .neq t a b u) [.agg xs,.agg ys] (.bool (!r)) (fun ρ o w ho hx=>by
    simp only [Op.operands,List.map_cons,List.map_nil,List.cons.injEq] at hx
    exact exec_neq hg (h w) a b ρ o ho hx.1 hx.2.1)
  | _=>.eqv 0 undef undef rfl
def eqEvP (i i':Bool) (x y x' y':R4) (r:Bool) (h:((i==i')&&((x.eq x'&&(y.eq y'&&true))&&true))=r):Ev Tryz.prog :=
 eqEv 52 #[.bool i,.bool x.b,.string x.s,.bool x.c,.string x.t,.bool y.b,.string y.s,.bool y.c,.string y.t] #[.bool i',.bool x'.b,.string x'.s,.bool x'.c,.string x'.t,.bool y'.b,.string y'.s,.bool y'.c,.string y'.t] r (by kernel_rfl) (fun w=>by rw [← h]; exact eqP 9995 i i' x y x' y')
def eqEvF (x x':R4) (r:Bool) (h:x.eq x'=r):Ev Tryz.prog :=
 eqEv 25 #[.bool x.b,.string x.s,.bool x.c,.string x.t] #[.bool x'.b,.string x'.s,.bool x'.c,.string x'.t] r (by kernel_rfl) (fun w=>by rw [← h]; exact eqF 9997 ..)
def Y.Spec.conv {P:Program} (S:Y.Spec P) (res:SV) (h:S.res=res):Y.Spec P:=⟨S.f,S.en,S.args,S.obs,res,S.news,fun β w hh=>h▸S.ok β w hh,h▸S.closed⟩
theorem divInt_one (n:Int):(Rat.divInt n 1).num=n∧(Rat.divInt n 1).den=1:=by
 obtain ⟨_,_,_,h4,h5⟩:=divInt_parts n 1 (by decide) 1 (by rw [if_neg (by decide),show (1:Int).natAbs=1 from rfl,Nat.gcd_one_right]; rfl)
 rw [Int.ediv_one] at h4 h5
 exact ⟨h4,by omega⟩
theorem fC_int (n:Int):fC (Rat.divInt n 1)=[.b (.v (.bool (decide (n<0)))),.b (.v (.string (mag n.natAbs))),.b (.v (.bool false)),.b (.v (.string (mag 1)))]:=by
 unfold fC
 rw [(divInt_one n).1,(divInt_one n).2]
def sR3Int (n:Int) (hr : -9223372036854775808≤n∧n≤9223372036854775807):Y.Spec Tryz.prog :=
 Y.Spec.conv (Y.Spec.auto Tryz.call123 [.one (.c (.b (.v (.int .i64 n))))] [] (.one (.a [.b (.v (.bool (decide (n<0)))),.b (.v (.string (mag n.natAbs))),.b (.v (.bool false)),.b (.v (.string (mag 1)))])) []
  [eWOf n hr,eWOf 1 (by decide)] [] 400 Tryz.func123 hmA (by kernel_rfl) (fun β=>by kernel_rfl)) (.one (.a (fC (Rat.divInt n 1)))) (congrArg (fun l=>SV.one (.a l)) (fC_int n).symm)
theorem sz_lit (a b:Int) (ha:a.natAbs<18446744073709551616) (hb:b.natAbs<18446744073709551616) (h0:b≠0):Sz 8 (Rat.divInt a b) :=
 sz_divInt h0 (sz_le.2 (Nat.lt_of_lt_of_le ha (by decide))) (sz_le.2 (Nat.lt_of_lt_of_le hb (by decide)))
theorem exformed_any {w:World} (p:Bool) (s:ByteArray) (r:Bool) (hr:r=true↔FormedB p s) :
  Calls Tryz.prog 349 #[.agg #[.bool p,.string s]] w fun e w'=>e=.returned (.bool r)∧Below w.heap.size w w':=by
 have HB:=Lib.hid (below_new w (.cells #[.bool p,.string s] 23))
 have HR:=Lib.hid hr
 clear hr
 by_cases h0:s.size=0
 · obtain rfl:=empty_data h0
   have HQ:Hid (r=!p):=by
    have h1:=HR.out
    unfold FormedB at h1
    cases p<;>cases r<;>simp_all [Hid]
   clear h0
   go_enter Tryz.func349,Tryz.ntmps349
   go_wp2
   go_ret
   exact ⟨by rw [HQ.out]; rfl,HB.out⟩
 · obtain ⟨hE,hE2⟩:=toList_some h0
   have hp:0<s.size:=by omega
   obtain ⟨t,ht⟩:∃ t,t=head s:=⟨_,rfl⟩
   have ht2:s[0].toNat=t:=by rw [ht]; exact head_eq hp
   have HQ:Hid (r=true↔t≠0):=by
    have h1:=HR.out
    unfold FormedB at h1
    rw [← ht] at h1
    exact ⟨fun h=>(h1.1 h).elim (fun k=>absurd k.1 h0) (fun k=>k.2),fun h=>h1.2 (.inr ⟨h0,h⟩)⟩
   clear ht
   by_cases hz:t=0
   · subst hz
     go_enter Tryz.func349,Tryz.ntmps349
     go_wp2
     go_ret
     refine ⟨?_,HB.out⟩
     cases r
     · rfl
     · exact absurd rfl (HQ.out.1 rfl)
   · have hz1:((t:Int)==0)=false:=by rw [beq_eq_false_iff_ne]; omega
     have hz2:((t:Int) != 0)=true:=by rw [bne_iff_ne]; omega
     go_enter Tryz.func349,Tryz.ntmps349
     go_wp2
     go_ret
     refine ⟨?_,HB.out⟩
     rw [HQ.out.2 hz]
     rfl
theorem exwhole_any {w:World} (b:Bool) (s:ByteArray) (hs:s.size≤4294967296) :
  Calls Tryz.prog 350 #[.agg #[.bool b,.string s]] w fun e w'=>∃ g,e=.returned (.pointer (some ⟨g,0,none⟩))∧w.heap.size≤g∧IntAt w' g 0 (numOf b s)∧Below w.heap.size w w':=by
 have hcv:=fun (w:World)=>run_bytes_of_string (P:=Tryz.prog) w 9 343 5 s Tryz.underlying9 Tryz.underlying343 Tryz.underlying5
 have HS:=Lib.hid hs
 have HB:=Lib.hid (below_new w (.cells #[.bool b,.string s] 23))
 have HX:=Lib.hid (BoxAt.new w #[.bool b,.string s] 23)
 clear hs
 go_enter Tryz.func350,Tryz.ntmps350
 go_wp2_with fail
 generalize hW2:(w.alloc (.cells #[.bool b,.string s] 23)).alloc (.cells #[.bool false,.slice none 0 0] 211)=W2
 have hi:IntAt W2 (w.heap.size+1) 0 0:=by rw [← hW2]; exact IntAt.new_at (size_alloc _ _).symm
 have hx:BoxAt W2 w.heap.size #[.bool b,.string s] 23:=by rw [← hW2]; exact HX.out.on (below_new _ _)
 have hb:Below w.heap.size w W2:=by rw [← hW2]; exact HB.out.trans ((below_new _ _).mono (by simp))
 have hsz:w.heap.size+1+1=W2.heap.size:=by rw [← hW2]; simp
 have hby:=byt_row (W:=W2) s (grownCap W2 s.size 0 5) (grownCap W2 s.size 0 5) (w.heap.size+1+1) ((bytesRow s (grownCap W2 s.size 0 5)).size,(bytesRow s (grownCap W2 s.size 0 5)).size+1) hsz
 have hbl:=below_row W2 (bytesRow s (grownCap W2 s.size 0 5)) 5 ((bytesRow s (grownCap W2 s.size 0 5)).size,(bytesRow s (grownCap W2 s.size 0 5)).size+1)
 clear hW2
 generalize grownCap W2 s.size 0 5=c at hby hbl ⊢
 generalize (W2.alloc (.cells (bytesRow s c) 5 ((bytesRow s c).size,(bytesRow s c).size+1))).drew=W3 at hby hbl ⊢
 refine (SetBytes_any (hi.on hbl).slot hby HS.out).mono ?_
 rintro e w1 ⟨rfl,h1,h2⟩
 rw [List.reverse_reverse] at h1
 have HX1:=Lib.hid (hx.on hbl)
 have HB1:=Lib.hid (hb.trans (hbl.mono hb.size))
 have HI:=Lib.hid h1
 have HT:=Lib.hid (h2.below (B:=w.heap.size+1) (Nat.le_refl _) (by have:=hbl.size; omega))
 have hc0:w1.cell? ⟨w.heap.size,0,none⟩=some (.bool b):=by rw [HT.out.cell (by simp)]; exact HX1.out.cell 0 _ rfl
 have hc1:w1.cell? ⟨w.heap.size,1,none⟩=some (.string s):=by rw [HT.out.cell (by simp)]; exact HX1.out.cell 1 _ rfl
 have HBB:=Lib.hid (HB1.out.trans (HT.out.mono (by omega)))
 clear h1 h2 hi hx hb hsz hby hbl
 cases b
 · go_wp2
   go_ret
   refine ⟨_,rfl,by omega,?_,HBB.out⟩
   have:=HI.out
   simpa [numOf,sg,num] using this
 · go_wp2_with fail
   refine (neg_any HI.out.slot HI.out).mono ?_
   rintro e w2 ⟨rfl,h1,h2⟩
   have H1:=Lib.hid h1
   have H2:=Lib.hid (HBB.out.trans (h2.below (by omega) HBB.out.size))
   clear h1 h2 hc0 hc1
   go_wp2
   go_ret
   refine ⟨_,rfl,by omega,?_,H2.out⟩
   have:=H1.out
   simpa [numOf,sg,num] using this
theorem formedB_dec (b:Bool) (s:ByteArray):∃ r:Bool,r=true↔FormedB b s:=by
 by_cases h:FormedB b s
 · exact ⟨true,by simp [h]⟩
 · exact ⟨false,by simp [h]⟩
theorem eq_empty {t:ByteArray} {r:Bool} (h:decide (t.size=0)=r):Value.bool (t.toList==(⟨#[]⟩:ByteArray).toList)=.bool r:=by
 rw [← h]
 congr 1
 rw [Bool.eq_iff_iff,beq_iff_eq,decide_eq_true_iff,toList_inj]
 exact ⟨fun h=>by rw [h]; rfl,fun h=>empty_data h⟩
theorem len_gt {t:ByteArray} {r:Bool} (h:decide (1024<t.size)=r):Value.bool (decide ((1024:Int)<(t.size:Int)))=.bool r:=by
 rw [← h]
 congr 1
 rw [Bool.eq_iff_iff,decide_eq_true_iff,decide_eq_true_iff]
 omega
theorem cmp_ne {a b:Int} {r:Bool} (h:decide (a=b)=r):Value.bool (cmpI a b != 0)=.bool (!r):=by
 rw [← h]
 congr 1
 unfold cmpI
 by_cases h1:a<b
 · rw [if_pos h1]; simp; omega
 · by_cases h2:b<a
   · rw [if_neg h1,if_pos h2]; simp; omega
   · rw [if_neg h1,if_neg h2]; simp; omega
set_option maxRecDepth 100000 in
theorem Bytes_at {w:World} {b o:Nat} {n:Int} (hx:IntAt w b o n) (hn:Okn n) :
  Calls Tryz.prog 304 #[.pointer (some ⟨b,o,none⟩)] w fun e w'=>∃ g,e=.returned (.slice (some ⟨g,0,none⟩) (led n.natAbs).length (led n.natAbs).length)∧w.heap.size≤g∧Byt w' (.slice (some ⟨g,0,none⟩) (led n.natAbs).length (led n.natAbs).length) (led n.natAbs).reverse∧Below w.heap.size w w':=by
 have HX:=Lib.hid hx
 have HO:=Lib.hid hn
 clear hx hn
 go_enter Tryz.func304,Tryz.ntmps304
 go_wp2_with fail
 refine (BitLen_any HX.out).mono ?_
 rintro e w1 ⟨L,rfl,hL,hLb,hb1⟩
 obtain ⟨N,hN⟩:∃ N,N=n.natAbs:=⟨_,rfl⟩
 have ho:=HO.out
 unfold Okn at ho
 rw [← hN] at hL ho
 obtain ⟨m,hm⟩:∃ m,m=(L+7)/8:=⟨_,rfl⟩
 have HM:Hid ((led N).length=m):=by rw [hm]; exact led_len_bits N L hL.1 hL.2
 have hmi:((L:Int)+7)/8=(m:Int):=by omega
 have hLL:=hL.le (by have:=dig_lt N; rw [p32] at this; exact this)
 have hmb:m≤17179869185:=by omega
 have HN:=Lib.hid hN
 have HB1:=Lib.hid hb1
 have HS1:Hid (w.heap.size≤w1.heap.size):=hb1.size
 clear hL hm hb1 hN hLL ho
 go_wp2_with (at_make; refine wpList_make_bytes rfl _ _ rfl _ _ _ _ m m rfl rfl (by omega) (by omega) (Nat.le_refl _) (by omega) ?_)
 intro w2 hbuf hb2 hz2
 have HB2:=Lib.hid hz2
 clear hz2
 go_wp2
 go_loopw [14] (fun i wr=>∃ (k:Nat),k≤m∧i=.int .i64 (k:Int)∧BBuf wr w1.heap.size (List.replicate (m-k) 0++(led N).reverse.drop (m-k))∧Below w1.heap.size w1 wr) (fun i _=>m-(intOf i).toNat)
 case atStart=>exact ⟨0,by omega,rfl,by rw [Nat.sub_zero,List.drop_of_length_le (by rw [List.length_reverse,HM.out]; exact Nat.le_refl _),List.append_nil]; exact hbuf,hb2⟩
 case round =>
  obtain ⟨k,hk,rfl,hbuf',hb'⟩:=hrel
  have hsz:=hb'.size
  have hblt:=hbuf'.lt
  clear hbuf hb2 HB2
  by_cases hk0:k<m
  · have hx:=HX.out.on (HB1.out.trans (hb'.mono HS1.out))
    obtain ⟨A,l,c,h0,h1,h2,hlt⟩:=hx.open_
    rw [← HN.out] at h2
    have hl:=h2.len.1
    obtain ⟨q,hq⟩:∃ q,q=k/4:=⟨_,rfl⟩
    obtain ⟨r,hr⟩:∃ r,r=k % 4:=⟨_,rfl⟩
    obtain ⟨s,hs⟩:∃ s,s=k % 4*8:=⟨_,rfl⟩
    have hql:q<l:=by
     have h3:=led_len_le N (4*l) (by have:=dig_lt N; rw [← hl,p32] at this; rw [p256]; rwa [show 8*(4*l)=32*l by omega])
     have:=HM.out
     omega
    obtain ⟨g,p,rfl,hall⟩:=h2.open_ (by omega)
    have hc:=hall q hql
    obtain ⟨x,hx'⟩:∃ x,x=N/4294967296^q % 4294967296:=⟨_,rfl⟩
    have hx32:x<4294967296:=by rw [hx']; exact Nat.mod_lt _ (by decide)
    replace hc:wr.cell? ⟨g,p+q,none⟩=some (.int .u32 (x:Int)):=by rw [hx',← dig_getD]; exact hc
    obtain ⟨y,hy⟩:∃ y,y=x/2^s:=⟨_,rfl⟩
    have hsh:(x:Int)/2^s=(y:Int):=by rw [hy,Int.natCast_ediv]; simp
    have hyb:y<4294967296:=by rw [hy]; exact Nat.lt_of_le_of_lt (Nat.div_le_self _ _) hx32
    have hbyte:y % 256=N/256^k % 256:=by rw [hy,hx',hq,hs]; exact byte_word N k
    have HBY:=Lib.hid hbyte
    have hqi:(k:Int)/4=(q:Int):=by omega
    have hri:(k:Int) % 4=(r:Int):=by omega
    have hsi:(r:Int)*8=(s:Int):=by omega
    have hs24:s≤24:=by omega
    have hmk2:((m:Int)-1-(k:Int))=((m-1-k:Nat):Int):=by omega
    have hc2:=hbuf'.cell (m-1-k) (by rw [List.length_append,List.length_replicate]; omega)
    have hf:=hbuf'.frozen (m-1-k)
    have HB:=Lib.hid (hbuf'.set (m-1-k) (y % 256) _ (Nat.mod_lt _ (by decide)) rfl)
    have HH:=Lib.hid hb'
    clear hall h0 h2 hx hl hx' hy hbyte hbuf' hb' hq hr hs
    go_wp2
    go_roundw
    case rel =>
     refine ⟨k+1,by omega,by go_num,?_,HH.out.setCell (Nat.le_refl _) _⟩
     have h:=HB.out
     have h2:=led_back N m k HM.out hk0
     rw [← HBY.out] at h2
     rw [h2] at h
     exact h
    case measure=>simp [intOf]; omega
  · obtain rfl:k=m:=by omega
    rw [Nat.sub_self,List.replicate_zero,List.nil_append,List.drop_zero] at hbuf'
    have HV:=Lib.hid (hbuf'.byt (n:=k) (cap:=k) (by rw [List.length_reverse]; exact HM.out))
    clear hbuf'
    go_wp2
    go_ret
    exact ⟨w1.heap.size,by rw [← HN.out,HM.out]; rfl,HS1.out,by rw [← HN.out,HM.out]; exact HV.out,HB1.out.trans (hb'.mono HS1.out)⟩
theorem led_gt {n:Int} {r:Bool} (h:decide (1024<sz n)=r):Value.bool (decide ((1024:Int)<((led n.natAbs).length:Int)))=.bool r:=by
 rw [← h]
 congr 1
 have:sz n=(led n.natAbs).length:=by unfold sz mag; rw [strN_size,List.length_reverse]
 rw [Bool.eq_iff_iff,decide_eq_true_iff,decide_eq_true_iff,this]
 omega
theorem sign_lt {x:Rat}:Value.bool (decide (x.num.sign<0))=.bool (decide (x.num<0)):=by
 congr 1
 rw [Bool.eq_iff_iff,decide_eq_true_iff,decide_eq_true_iff,Int.sign_neg_iff]
inductive Fp where
 | ok (x:Rat) (h:Fit x)
 | no (b c:Bool) (s t:ByteArray) (h:¬ IsFrac (rawV b c s t)) (hs:s.size≤maxLen) (ht:t.size≤maxLen)
def Fp.C:Fp→List Lf
 | .ok x _=>[.b (.v (.bool (decide (x.num<0)))),.b (.v (.string (mag x.num.natAbs))),.b (.v (.bool false)),.b (.v (.string (mag x.den)))]
 | .no b c s t _ _ _=>[.b (.v (.bool b)),.b (.v (.string s)),.b (.v (.bool c)),.b (.v (.string t))]
def Fp.B:Fp→Bool
 | .ok ..=>true
 | .no ..=>false
def FitG (z:GQ):Prop:=Fit z.re∧Fit z.im
open Classical in
noncomputable def gaK (z:GQ):Int:=if FitG z then 0 else 4
open Classical in
noncomputable def gaB (z:GQ):Bool:=if FitG z then decide (z.re.num<0) else false
open Classical in
noncomputable def gaS (z:GQ):ByteArray:=if FitG z then mag z.re.num.natAbs else ⟨#[]⟩
open Classical in
noncomputable def gaD (z:GQ):ByteArray:=if FitG z then mag z.re.den else ⟨#[]⟩
open Classical in
noncomputable def gaB' (z:GQ):Bool:=if FitG z then decide (z.im.num<0) else false
open Classical in
noncomputable def gaS' (z:GQ):ByteArray:=if FitG z then mag z.im.num.natAbs else ⟨#[]⟩
open Classical in
noncomputable def gaD' (z:GQ):ByteArray:=if FitG z then mag z.im.den else ⟨#[]⟩
noncomputable def gaC (z:GQ):List Lf:=[.b (.v (.bool (gaB z))),.b (.v (.string (gaS z))),.b (.v (.bool false)),.b (.v (.string (gaD z))),.b (.v (.bool (gaB' z))),.b (.v (.string (gaS' z))),.b (.v (.bool false)),.b (.v (.string (gaD' z)))]
def g0C:List Lf:=[.b (.v (.bool false)),.b (.v (.string ⟨#[]⟩)),.b (.v (.bool false)),.b (.v (.string ⟨#[]⟩)),.b (.v (.bool false)),.b (.v (.string ⟨#[]⟩)),.b (.v (.bool false)),.b (.v (.string ⟨#[]⟩))]
def gC (z:GQ):List Lf:=[.b (.v (.bool (decide (z.re.num<0)))),.b (.v (.string (mag z.re.num.natAbs))),.b (.v (.bool false)),.b (.v (.string (mag z.re.den))),.b (.v (.bool (decide (z.im.num<0)))),.b (.v (.string (mag z.im.num.natAbs))),.b (.v (.bool false)),.b (.v (.string (mag z.im.den)))]
theorem ga_fit {z:GQ} (h:FitG z):gaC z=gC z∧gaK z=0:=by
 unfold gaC gC gaB gaS gaD gaB' gaS' gaD' gaK
 constructor<;>simp only [if_pos h]
theorem ga_not {z:GQ} (h:¬ FitG z):gaC z=g0C∧gaK z=4:=by
 unfold gaC g0C gaB gaS gaD gaB' gaS' gaD' gaK
 constructor<;>simp only [if_neg h]
theorem ansK_ne {x:Rat} {r:Bool} (h:(ansK x != 0)=r):Value.bool (ansK x != 0)=.bool r:=by rw [h]
theorem ansF_fit {x:Rat} (h:Fit x):ansB x=decide (x.num<0)∧ansS x=mag x.num.natAbs∧ansD x=mag x.den∧ansK x=0:=⟨if_pos h,if_pos h,if_pos h,if_pos h⟩
inductive Pt where
 | inf
 | fin (z:GQ)
def PSz (k:Nat):Pt→Prop
 | .inf=>True
 | .fin z=>GSz k z
def byA:Pt→GQ
 | .inf=>gint 1 0
 | .fin z=>z
def byB:Pt→GQ
 | .inf=>gint 0 0
 | .fin _=>gint 1 0
theorem byA_sz {k:Nat} {p:Pt} (h:PSz k p) (hk:1≤k):GSz k (byA p):=by
 cases p
 · exact (GSz.int (by decide) (by decide)).mono hk
 · exact h
theorem byB_sz {k:Nat} {p:Pt} (hk:1≤k):GSz k (byB p):=by
 cases p
 · exact (GSz.int (by decide) (by decide)).mono hk
 · exact (GSz.int (by decide) (by decide)).mono hk
def gacross (p q:Pt):GQ:=gsub (gmul (byA p) (byB q)) (gmul (byB p) (byA q))
theorem gacross_sz {k:Nat} {p q:Pt} (hp:PSz k p) (hq:PSz k q) (hk:1≤k):GSz (k+k+(k+k)+1+(k+k+(k+k)+1)+1) (gacross p q) :=
 ((byA_sz hp hk).mul (byB_sz hk)).sub ((byB_sz hk).mul (byA_sz hq hk))
def g0:GQ:=⟨0,0⟩
structure MQ where
 a:GQ
 b:GQ
 c:GQ
 d:GQ
 t:Bool
structure MSz (k:Nat) (m:MQ):Prop where
 a:GSz k m.a
 b:GSz k m.b
 c:GSz k m.c
 d:GSz k m.d
def mconj (m:MQ) (t:Bool):MQ:=⟨bif t then gconj m.a else m.a,bif t then gconj m.b else m.b,bif t then gconj m.c else m.c,bif t then gconj m.d else m.d,m.t⟩
def mundo0 (m:MQ):MQ:=⟨m.d,gneg m.b,gneg m.c,m.a,m.t⟩
abbrev KC:Nat:=100000
theorem PSz.mono {i k:Nat} {p:Pt} (h:PSz i p) (hk:i≤k):PSz k p:=by
 cases p
 · trivial
 · exact GSz.mono h hk
noncomputable def paC:Pt→List Lf
 | .inf=>.b (.v (.bool true))::g0C
 | .fin z=>.b (.v (.bool false))::gaC z
noncomputable def paK:Pt→Int
 | .inf=>0
 | .fin z=>gaK z
inductive Pp where
 | inf
 | fin (a b:Fp)
 | odd (x y:R4) (h:¬ (x=⟨false,⟨#[]⟩,false,⟨#[]⟩⟩∧y=⟨false,⟨#[]⟩,false,⟨#[]⟩⟩))
def R4.L (x:R4):List Lf:=[.b (.v (.bool x.b)),.b (.v (.string x.s)),.b (.v (.bool x.c)),.b (.v (.string x.t))]
def Pp.C:Pp→List Lf
 | .inf=>.b (.v (.bool true))::g0C
 | .fin a b=>.b (.v (.bool false))::(a.C++b.C)
 | .odd x y _=>.b (.v (.bool true))::(x.L++y.L)
def Pp.B:Pp→Bool
 | .inf=>true
 | .fin a b=>a.B&&b.B
 | .odd ..=>false
def r40:R4:=⟨false,⟨#[]⟩,false,⟨#[]⟩⟩
theorem odd_ne {x y:R4} (h:¬ (x=⟨false,⟨#[]⟩,false,⟨#[]⟩⟩∧y=⟨false,⟨#[]⟩,false,⟨#[]⟩⟩)):((true==true)&&((x.eq r40&&(y.eq r40&&true))&&true))=false:=by
 refine Bool.eq_false_iff.2 fun e=>h ?_
 simp only [Bool.and_true,Bool.and_eq_true,R4.eq_iff] at e
 exact e.2
end Go.Proofs.YtmfedaakeeiolaaGreat
end
section
namespace Go.Proofs.YtmfedaakeeiolaaGreat.Y
open Go Go.RowKit
set_option maxRecDepth 100000
abbrev lsX (l:List Lf):List Lf:=l
def BY (n:Int) (w:World) (g:Pl):Prop:=(∀ c,g.F c↔c=g.b)∧Byt w (.slice (some ⟨g.b,0,none⟩) (led n.natAbs).length (led n.natAbs).length) (led n.natAbs).reverse
theorem by_stable (n:Int):Stable (BY n) :=
 ⟨fun w g ⟨h,k⟩ c hc=>by rw [(h c).1 hc]; exact k.open_.2.2.1,fun w w' g ⟨h,k⟩ hb=>⟨h,k.on hb⟩,
  fun w w' g b o m n ⟨h,k⟩ hs ht hne=>⟨h,by
   obtain ⟨h0,b',cap,cs,t,fr,h1,h2,h3⟩:=k
   have hb:g.b=b':=by injection h1 with h1 _ _; cases Option.some.inj h1; rfl
   subst hb
   exact ⟨h0,g.b,cap,cs,t,fr,h1,by rw [ht.block g.b (heap_some_lt h2) fun e=>hne ((h b).2 e.symm)]; exact h2,h3⟩⟩⟩
def bytT (n:Int):Thing:=thing (BY n) (by_stable n)
theorem extE_s (β:Env) (n a b:Nat) (g:Pl):(SV.one (.c (.b (.s n 0 a b)))).den (extE β n [g])=.slice (some ⟨g.b,0,none⟩) a b:=by
 have:=extE_in (β:=β) (n:=n) (i:=0) (xs:=[g]) rfl
 rw [Nat.add_zero] at this
 simp only [SV.den,SC.den,Lf.den,Lf0.den,this]
def nBytes {n:Int} (hn:sz n≤KB):Ev Tryz.prog:=dyn1 fun k m=>.call 304 Tryz.call304 (fun β=>#[.pointer ((β k).v 0)]) [(k,(intT n).ob)] m (.one (.c (.b (.s m 0 (led n.natAbs).length (led n.natAbs).length)))) [bytT n] (fun β w h=>by
 obtain ⟨a,ha,ka⟩:=needI (n:=n) (k:=k) h (by simp)
 simp only [ha.1]
 refine (Bytes_at ka (okn_sz hn)).mono fun e w' ⟨g,he,h1,h2,h3⟩=>⟨[newPl g],fun x hx c hc=>?_,by rw [he,extE_s]; rfl,⟨⟨fun _=>Iff.rfl,h2⟩,trivial⟩,h3⟩
 obtain rfl:=List.mem_singleton.1 hx
 rw [((newPl_one g).1 c).1 hc]
 exact .inl h1)
def slOf:SV→Nat
 | .one (.c (.b (.s k _ _ _)))=>k
 | _=>0
def rdStr (d t:Nat) (n:Int) (k:Nat):Ev Tryz.prog:=.rd d (.convert 343 9 (.tmp t)) (fun β=>[.slice (some ⟨(β k).b,0,none⟩) (led n.natAbs).length (led n.natAbs).length]) [(k,(bytT n).ob)] 0 (.one (.c (.b (.v (.string (mag n.natAbs)))))) [] (fun β w h ρ o ho hx=>by
 have h1:BY n w (β k):=h (k,(bytT n).ob) (by simp)
 have h2:ρ (.tmp t)=.slice (some ⟨(β k).b,0,none⟩) (led n.natAbs).length (led n.natAbs).length:=by simpa [Op.operands] using hx
 refine ⟨[],w,(fun _ h=>by cases h),?_,trivial,Below.refl _ _⟩
 unfold execOp
 rw [ho]
 simp only [h2]
 have h3:=string_of_byt h1.2
 simp [go_sem,h3]
 rfl)
def dStr (n:Int):Ev Tryz.prog:=.dyn (fun o _ _=>match o.op with
 | .convert a b (.tmp _)=>Nat.beq a 343&&Nat.beq b 9
 | _=>false) fun o xs _=>match o.op with
 | .convert _ _ (.tmp t)=>lit (slOf (xs.getD 0 undefS)) fun k=>rdStr (o.dst.getD 0) t n k
 | _=>.eqv 0 undef undef rfl
theorem frac_ok {x:Rat} (hx:Sz KB x) (β:Env) (w:World) (hh:∀ (k:Nat) (t:Thing),[ratM x][k]?=some t→t.D w (β k)) :
  Calls Tryz.prog 211 (([rV 0]:List SV).map (SV.den β)).toArray w fun e w'=>∃ xs:List Pl,freshS β w 1 xs∧e=.returned ((SV.tup [.a [.b (.v (.bool (ansB x))),.b (.v (.string (ansS x))),.b (.v (.bool false)),.b (.v (.string (ansD x)))],.c (.b (.v (.int .i64 (ansK x))))]).den (extE β 1 xs))∧newHold w' [] xs∧Below w.heap.size w w':=by
 cases h1:decide (1024<sz x.num) with
 | true =>
  have hf:¬ Fit x:=fun h=>by have:=of_decide_eq_true h1; have:=h.1; unfold sz at *; omega
  rw [show ansB x=false from if_neg hf,show ansS x=⟨#[]⟩ from if_neg hf,show ansD x=⟨#[]⟩ from if_neg hf,show ansK x=4 from if_neg hf]
  exact spec_auto (obs:=[ratM x]) (Ns:=[(5,10)]) (m:=400) (evs:=[(sRat x).e,nNum x,nBytes (n:=x.num) (Nat.le_trans hx.1 (by decide)),nDenom x,nBytes (n:=(x.den:Int)) (Nat.le_trans hx.2 (by decide)),.eqv 16 (.bool (decide ((1024:Int)<((led x.num.natAbs).length:Int)))) (.bool true) (led_gt h1)]) Tryz.func211 hmA (fun β=>by kernel_rfl) (by kernel_rfl) β w hh
 | false=>cases h2:decide (1024<sz (x.den:Int)) with
 | true =>
  have hf:¬ Fit x:=fun h=>by have:=of_decide_eq_true h2; have:=h.2; unfold sz at *; rw [Int.natAbs_natCast] at *; omega
  rw [show ansB x=false from if_neg hf,show ansS x=⟨#[]⟩ from if_neg hf,show ansD x=⟨#[]⟩ from if_neg hf,show ansK x=4 from if_neg hf]
  exact spec_auto (obs:=[ratM x]) (Ns:=[(5,10)]) (m:=400) (evs:=[(sRat x).e,nNum x,nBytes (n:=x.num) (Nat.le_trans hx.1 (by decide)),nDenom x,nBytes (n:=(x.den:Int)) (Nat.le_trans hx.2 (by decide)),.eqv 16 (.bool (decide ((1024:Int)<((led x.num.natAbs).length:Int)))) (.bool false) (led_gt h1),.eqv 20 (.bool (decide ((1024:Int)<((led (x.den:Int).natAbs).length:Int)))) (.bool true) (led_gt h2)]) Tryz.func211 hmA (fun β=>by kernel_rfl) (by kernel_rfl) β w hh
 | false =>
  have hf:Fit x:=⟨by have:=of_decide_eq_false h1; unfold sz at *; omega,by have:=of_decide_eq_false h2; unfold sz at *; rw [Int.natAbs_natCast] at *; omega⟩
  rw [show ansB x=decide (x.num<0) from if_pos hf,show ansS x=mag x.num.natAbs from if_pos hf,show ansD x=mag (x.den:Int).natAbs from if_pos hf,show ansK x=0 from if_pos hf]
  exact spec_auto (obs:=[ratM x]) (Ns:=[(5,10)]) (m:=400) (evs:=[(sRat x).e,nNum x,nBytes (n:=x.num) (Nat.le_trans hx.1 (by decide)),nDenom x,nBytes (n:=(x.den:Int)) (Nat.le_trans hx.2 (by decide)),.eqv 16 (.bool (decide ((1024:Int)<((led x.num.natAbs).length:Int)))) (.bool false) (led_gt h1),.eqv 20 (.bool (decide ((1024:Int)<((led (x.den:Int).natAbs).length:Int)))) (.bool false) (led_gt h2),nSign (x:=x) rfl,.eqv 25 (.bool (decide (x.num.sign<0))) (.bool (decide (x.num<0))) sign_lt,dStr x.num,dStr (x.den:Int)]) Tryz.func211 hmA (fun β=>by kernel_rfl) (by kernel_rfl) β w hh
noncomputable def sFrac {x:Rat} (hx:Sz KB x):Spec Tryz.prog :=
 ⟨211,Tryz.call211,[rV 0],[ratM x],(SV.tup [.a [.b (.v (.bool (ansB x))),.b (.v (.string (ansS x))),.b (.v (.bool false)),.b (.v (.string (ansD x)))],.c (.b (.v (.int .i64 (ansK x))))]),[],frac_ok hx,by kernel_rfl⟩
def AN (w:World) (g:Pl):Prop:=∀ c,g.F c→c<w.heap.size
theorem an_stable:Stable AN :=
 ⟨fun w g h=>h,fun w w' g h hb c hc=>Nat.lt_of_lt_of_le (h c hc) hb.size,fun w w' g b o m n h hs ht hne c hc=>Nat.lt_of_lt_of_le (h c hc) (ht.below (B:=0) (Nat.zero_le _) (Nat.zero_le _)).size⟩
def anyT:Thing:=⟨AN,an_stable,0,AN,an_stable,fun _ _ h=>h,true,fun _ _ _ h=>h.elim,true,fun _ _ _ h=>h.elim,false,fun h=>(Bool.noConfusion h),false,fun h=>(Bool.noConfusion h)⟩
theorem an_of {D:World→Pl→Prop} (st:Stable D) {w:World} {g:Pl} (h:D w g):AN w g:=st.lt w g h
def exFormed (b:Bool) (s:ByteArray) (r:Bool) (hr:r=true↔FormedB b s):Ev Tryz.prog:=.ret 349 Tryz.call349 #[.agg #[.bool b,.string s]] _ (fun w=>exformed_any b s r hr)
def exWhole (b:Bool) (s:ByteArray) (hs:s.size≤4294967296) (x:Int) (hx:numOf b s=x):Ev Tryz.prog:=dyn1 fun _ n=>.call 350 Tryz.call350 (fun _=>#[.agg #[.bool b,.string s]]) [] n (.one (.c (.b (.z n 0)))) [intT x] (fun β w _=>one_int (by rw [← hx]; exact exwhole_any b s hs) β n _)
theorem ratNo_ok {b c:Bool} {s t:ByteArray} (h:¬ IsFrac (rawV b c s t)) (β:Env) (w:World) (hh:∀ (k:Nat) (t:Thing),([]:List Thing)[k]?=some t→t.D w (β k)):Calls Tryz.prog 294 (([.one (.a [.b (.v (.bool b)),.b (.v (.string s)),.b (.v (.bool c)),.b (.v (.string t))])]:List SV).map (SV.den β)).toArray w fun e w'=>∃ xs:List Pl,freshS β w 0 xs∧e=.returned ((SV.one (.c (.b (.v (.pointer none))))).den (extE β ([]:List Thing).length xs))∧newHold w' [] xs∧Below w.heap.size w w':=by
 obtain ⟨r1,h1⟩:=formedB_dec b s
 obtain ⟨r2,h2⟩:=formedB_dec c t
 cases r1 with
 | false=>exact spec_ok (args:=[.one (.a [.b (.v (.bool b)),.b (.v (.string s)),.b (.v (.bool c)),.b (.v (.string t))])]) (obs:=[]) (idx:=[]) (Ns:=[]) (m:=400) (evs:=[exFormed b s false h1]) Tryz.func294 hmA (fun β=>by kernel_rfl) (by kernel_rfl) β w hh
 | true=>cases r2 with
 | false=>exact spec_ok (args:=[.one (.a [.b (.v (.bool b)),.b (.v (.string s)),.b (.v (.bool c)),.b (.v (.string t))])]) (obs:=[]) (idx:=[]) (Ns:=[]) (m:=400) (evs:=[exFormed b s true h1,exFormed c t false h2]) Tryz.func294 hmA (fun β=>by kernel_rfl) (by kernel_rfl) β w hh
 | true=>cases c with
 | true=>exact spec_ok (args:=[.one (.a [.b (.v (.bool b)),.b (.v (.string s)),.b (.v (.bool true)),.b (.v (.string t))])]) (obs:=[]) (idx:=[]) (Ns:=[]) (m:=400) (evs:=[exFormed b s true h1,exFormed true t true h2]) Tryz.func294 hmA (fun β=>by kernel_rfl) (by kernel_rfl) β w hh
 | false=>cases h4:decide (t.size=0) with
 | true=>exact spec_ok (args:=[.one (.a [.b (.v (.bool b)),.b (.v (.string s)),.b (.v (.bool false)),.b (.v (.string t))])]) (obs:=[]) (idx:=[]) (Ns:=[]) (m:=400) (evs:=[exFormed b s true h1,exFormed false t true h2,.eqv 25 (.bool (t.toList==(⟨#[]⟩:ByteArray).toList)) (.bool true) (eq_empty h4)]) Tryz.func294 hmA (fun β=>by kernel_rfl) (by kernel_rfl) β w hh
 | false=>cases h5:decide (1024<s.size) with
 | true=>exact spec_ok (args:=[.one (.a [.b (.v (.bool b)),.b (.v (.string s)),.b (.v (.bool false)),.b (.v (.string t))])]) (obs:=[]) (idx:=[]) (Ns:=[]) (m:=400) (evs:=[exFormed b s true h1,exFormed false t true h2,.eqv 25 (.bool (t.toList==(⟨#[]⟩:ByteArray).toList)) (.bool false) (eq_empty h4),.eqv 32 (.bool (decide ((1024:Int)<(s.size:Int)))) (.bool true) (len_gt h5)]) Tryz.func294 hmA (fun β=>by kernel_rfl) (by kernel_rfl) β w hh
 | false=>cases h6:decide (1024<t.size) with
 | true=>exact spec_ok (args:=[.one (.a [.b (.v (.bool b)),.b (.v (.string s)),.b (.v (.bool false)),.b (.v (.string t))])]) (obs:=[]) (idx:=[]) (Ns:=[]) (m:=400) (evs:=[exFormed b s true h1,exFormed false t true h2,.eqv 25 (.bool (t.toList==(⟨#[]⟩:ByteArray).toList)) (.bool false) (eq_empty h4),.eqv 32 (.bool (decide ((1024:Int)<(s.size:Int)))) (.bool false) (len_gt h5),.eqv 39 (.bool (decide ((1024:Int)<(t.size:Int)))) (.bool true) (len_gt h6)]) Tryz.func294 hmA (fun β=>by kernel_rfl) (by kernel_rfl) β w hh
 | false =>
  obtain ⟨n,e1⟩:∃ n,numOf b s=n:=⟨_,rfl⟩
  obtain ⟨d,e2⟩:∃ d,numOf false t=d:=⟨_,rfl⟩
  have l1:s.size≤1024:=by have:=of_decide_eq_false h5; omega
  have l2:t.size≤1024:=by have:=of_decide_eq_false h6; omega
  have l0:=of_decide_eq_false h4
  obtain ⟨f1,f2⟩:=formed_num (h1.1 rfl)
  obtain ⟨f3,f4⟩:=formed_num (h2.1 rfl)
  rw [e1] at f1 f2
  rw [e2] at f3 f4
  have z1:s.size≤4294967296:=by omega
  have z2:t.size≤4294967296:=by omega
  have h0:d≠0:=by
   rintro rfl
   have:sz 0=0:=Nat.le_zero.1 (sz_le.2 (by decide))
   unfold sz at this
   rw [f4] at this
   exact l0 this
  have k1:sz n≤KB:=by unfold sz; rw [f2]; exact Nat.le_trans l1 (by decide)
  have k2:sz d≤KB:=by unfold sz; rw [f4]; exact Nat.le_trans l2 (by decide)
  cases h7:decide ((Rat.divInt n d).num=n) with
  | false=>exact spec_ok (args:=[.one (.a [.b (.v (.bool b)),.b (.v (.string s)),.b (.v (.bool false)),.b (.v (.string t))])]) (obs:=[]) (idx:=[]) (Ns:=[]) (m:=400) (evs:=[exFormed b s true h1,exFormed false t true h2,.eqv 25 (.bool (t.toList==(⟨#[]⟩:ByteArray).toList)) (.bool false) (eq_empty h4),.eqv 32 (.bool (decide ((1024:Int)<(s.size:Int)))) (.bool false) (len_gt h5),.eqv 39 (.bool (decide ((1024:Int)<(t.size:Int)))) (.bool false) (len_gt h6),exWhole b s z1 n e1,exWhole false t z2 d e2,mkR,fSetFrac h0 k1 k2,nNum (Rat.divInt n d),nIntCmp (a:=(Rat.divInt n d).num) (b:=n) rfl,.eqv 55 (.bool (cmpI (Rat.divInt n d).num n != 0)) (.bool true) (cmp_ne h7)]) Tryz.func294 hmA (fun β=>by kernel_rfl) (by kernel_rfl) β w hh
  | true=>cases h8:decide (((Rat.divInt n d).den:Int)=d) with
  | false=>exact spec_ok (args:=[.one (.a [.b (.v (.bool b)),.b (.v (.string s)),.b (.v (.bool false)),.b (.v (.string t))])]) (obs:=[]) (idx:=[]) (Ns:=[]) (m:=400) (evs:=[exFormed b s true h1,exFormed false t true h2,.eqv 25 (.bool (t.toList==(⟨#[]⟩:ByteArray).toList)) (.bool false) (eq_empty h4),.eqv 32 (.bool (decide ((1024:Int)<(s.size:Int)))) (.bool false) (len_gt h5),.eqv 39 (.bool (decide ((1024:Int)<(t.size:Int)))) (.bool false) (len_gt h6),exWhole b s z1 n e1,exWhole false t z2 d e2,mkR,fSetFrac h0 k1 k2,nNum (Rat.divInt n d),nIntCmp (a:=(Rat.divInt n d).num) (b:=n) rfl,.eqv 55 (.bool (cmpI (Rat.divInt n d).num n != 0)) (.bool false) (cmp_ne h7),nDenom (Rat.divInt n d),nIntCmp (a:=((Rat.divInt n d).den:Int)) (b:=d) rfl,.eqv 61 (.bool (cmpI ((Rat.divInt n d).den:Int) d != 0)) (.bool true) (cmp_ne h8)]) Tryz.func294 hmA (fun β=>by kernel_rfl) (by kernel_rfl) β w hh
  | true =>
   refine absurd ?_ h
   refine isFrac_doc.2 ⟨⟨l1,l2⟩,h1.1 rfl,h2.1 rfl,?_,?_⟩
   · rw [e2,← of_decide_eq_true h8]
     exact Int.natCast_pos.2 (Rat.divInt n d).den_pos
   · rw [e1,e2]
     have:=(Rat.divInt n d).reduced
     rw [of_decide_eq_true h7] at this
     have h9:(Rat.divInt n d).den=d.natAbs:=by have:=of_decide_eq_true h8; omega
     rw [h9] at this
     exact this
def sRatNo {b c:Bool} {s t:ByteArray} (h:¬ IsFrac (rawV b c s t)):Spec Tryz.prog :=
 ⟨294,Tryz.call294,[.one (.a [.b (.v (.bool b)),.b (.v (.string s)),.b (.v (.bool c)),.b (.v (.string t))])],[],(SV.one (.c (.b (.v (.pointer none))))),[],ratNo_ok h,by kernel_rfl⟩
theorem ratIn_ok {x:Rat} (hx:Fit x) (β:Env) (w:World) (hh:∀ (k:Nat) (t:Thing),([]:List Thing)[k]?=some t→t.D w (β k)):Calls Tryz.prog 294 (([.one (.a [.b (.v (.bool (decide (x.num<0)))),.b (.v (.string (mag x.num.natAbs))),.b (.v (.bool false)),.b (.v (.string (mag x.den)))])]:List SV).map (SV.den β)).toArray w fun e w'=>∃ xs:List Pl,freshS β w 0 xs∧e=.returned ((SV.one (.c (.b (.z 0 0)))).den (extE β ([]:List Thing).length xs))∧newHold w' [ratT x] xs∧Below w.heap.size w w':=by
 obtain ⟨n,en⟩:∃ n,x.num=n:=⟨_,rfl⟩
 obtain ⟨d,ed⟩:∃ d:Int,(x.den:Int)=d:=⟨_,rfl⟩
 have hxe:x=Rat.divInt n d:=by rw [← en,← ed,Rat.num_divInt_den]
 obtain ⟨b,eb⟩:∃ b,decide (x.num<0)=b:=⟨_,rfl⟩
 obtain ⟨s,es⟩:∃ s,mag x.num.natAbs=s:=⟨_,rfl⟩
 obtain ⟨t,et⟩:∃ t,mag x.den=t:=⟨_,rfl⟩
 have e1:numOf b s=n:=by rw [← eb,← es,← en]; exact numOf_mag x.num
 have e2:numOf false t=d:=by
  have:=numOf_mag (x.den:Int)
  rw [show decide ((x.den:Int)<0)=false by simp,Int.natAbs_natCast] at this
  rw [← et,← ed]; exact this
 obtain ⟨⟨l1,l2⟩,q1,q2,q3,_⟩:=isFrac_doc.1 (fitF x hx)
 rw [eb,es] at q1
 rw [et] at q2 q3
 rw [es] at l1
 rw [et] at l2
 rw [e2] at q3
 have h1:true=true↔FormedB b s:=iff_true_of q1
 have h2:true=true↔FormedB false t:=iff_true_of q2
 have h4:decide (t.size=0)=false:=decide_eq_false fun h=>by
  obtain rfl:=empty_data h
  rw [show numOf false ⟨#[]⟩=0 from rfl] at e2
  omega
 have h5:decide (1024<s.size)=false:=decide_eq_false (by omega)
 have h6:decide (1024<t.size)=false:=decide_eq_false (by omega)
 have z1:s.size≤4294967296:=by omega
 have z2:t.size≤4294967296:=by omega
 have h0:d≠0:=by omega
 have k1:sz n≤KB:=by rw [← en]; unfold sz; rw [es]; exact Nat.le_trans l1 (by decide)
 have k2:sz d≤KB:=by rw [← ed]; unfold sz; rw [Int.natAbs_natCast,et]; exact Nat.le_trans l2 (by decide)
 have h7:decide ((Rat.divInt n d).num=n)=true:=decide_eq_true (by rw [← hxe]; exact en)
 have h8:decide (((Rat.divInt n d).den:Int)=d)=true:=decide_eq_true (by rw [← hxe]; exact ed)
 rw [eb,es,et]
 clear eb es et
 subst hxe
 exact spec_ok (args:=[.one (.a [.b (.v (.bool b)),.b (.v (.string s)),.b (.v (.bool false)),.b (.v (.string t))])]) (obs:=[]) (idx:=[4]) (Ns:=[]) (m:=400) (evs:=[exFormed b s true h1,exFormed false t true h2,.eqv 25 (.bool (t.toList==(⟨#[]⟩:ByteArray).toList)) (.bool false) (eq_empty h4),.eqv 32 (.bool (decide ((1024:Int)<(s.size:Int)))) (.bool false) (len_gt h5),.eqv 39 (.bool (decide ((1024:Int)<(t.size:Int)))) (.bool false) (len_gt h6),exWhole b s z1 n e1,exWhole false t z2 d e2,mkR,fSetFrac h0 k1 k2,nNum (Rat.divInt n d),nIntCmp (a:=(Rat.divInt n d).num) (b:=n) rfl,.eqv 55 (.bool (cmpI (Rat.divInt n d).num n != 0)) (.bool false) (cmp_ne h7),nDenom (Rat.divInt n d),nIntCmp (a:=((Rat.divInt n d).den:Int)) (b:=d) rfl,.eqv 61 (.bool (cmpI ((Rat.divInt n d).den:Int) d != 0)) (.bool false) (cmp_ne h8)]) Tryz.func294 hmA (fun β=>by kernel_rfl) (by kernel_rfl) β w hh
def sRatIn {x:Rat} (hx:Fit x):Spec Tryz.prog :=
 ⟨294,Tryz.call294,[.one (.a [.b (.v (.bool (decide (x.num<0)))),.b (.v (.string (mag x.num.natAbs))),.b (.v (.bool false)),.b (.v (.string (mag x.den)))])],[],(.one (.c (.b (.z 0 0)))),[ratT x],ratIn_ok hx,by kernel_rfl⟩
def rdNe (d t:Nat) (x:Rat) (k:Nat):Ev Tryz.prog:=.rd d (.binOp .neq 153 (.tmp t) (.const (.pointer none)) 153) (fun β=>[.pointer ((β k).v 0),.pointer none]) [(k,(ratT x).ob)] 0 (.one (.c (.b (.v (.bool true))))) [] (fun β w h ρ o ho hx=>by
 obtain ⟨a,ha,ka⟩:=needP (x:=x) (k:=k) h (by simp)
 have h2:ρ (.tmp t)=.pointer (some ⟨a,0,none⟩)∧ρ (.const (.pointer none))=.pointer none:=by
  rw [ha.1] at hx
  simpa [Op.operands] using hx
 refine ⟨[],w,(fun _ h=>by cases h),?_,trivial,Below.refl _ _⟩
 unfold execOp
 rw [ho]
 simp only [h2.1,h2.2]
 kernel_rfl)
def dNe (x:Rat):Ev Tryz.prog:=.dyn (fun o _ _=>match o.op with
 | .binOp .neq a (.tmp _) (.const (.pointer none)) _=>Nat.beq a 153
 | _=>false) fun o xs _=>match o.op with
 | .binOp _ _ (.tmp t) _ _=>lit (ptOf (xs.getD 0 undefS)) fun k=>rdNe (o.dst.getD 0) t x k
 | _=>.eqv 0 undef undef rfl
def fpC (a:Fp):List Lf:=lsX a.C
def ofT:Fp→Fp→List Thing
 | .ok x _,.ok y _=>[ratT x,ratT y]
 | _,_=>[anyT,anyT]
theorem sOf_ok (a b:Fp) (β:Env) (w:World) (hh:∀ (k:Nat) (t:Thing),([]:List Thing)[k]?=some t→t.D w (β k)) :
  Calls Tryz.prog 213 (([.one (.a (fpC a++fpC b))]:List SV).map (SV.den β)).toArray w fun e w'=>∃ xs:List Pl,freshS β w 0 xs∧e=.returned ((SV.tup [nA 0,.c (.b (.v (.bool (a.B&&b.B))))]).den (extE β 0 xs))∧newHold w' (ofT a b) xs∧Below w.heap.size w w':=by
 cases a with
 | ok x hx=>cases b with
  | ok y hy=>exact spec_auto (obs:=[]) (evs:=[(sRatIn hx).e,(sRatIn hy).e,dNe x,dNe y]) (Ns:=[]) (m:=400) Tryz.func213 hmA (fun β=>by kernel_rfl) (by kernel_rfl) β w hh
  | no b' c s t h hs ht =>
   refine (spec_auto (args:=[.one (.a (fpC (.ok x hx)++fpC (.no b' c s t h hs ht)))]) (obs:=[]) (res:=SV.tup [.a [.b (.z 0 0),.b (.v (.pointer none))],.c (.b (.v (.bool false)))]) (news:=[ratT x]) (evs:=[(sRatIn hx).e,(sRatNo h).e,dNe x]) (Ns:=[]) (m:=400) Tryz.func213 hmA (fun β=>by kernel_rfl) (by kernel_rfl) β w hh).mono fun e w' ⟨xs,h1,he,h2,h3⟩=>?_
   match xs,h1,he,h2 with
   | [p],h1,he,h2=>exact ⟨[p,nilPl],fun x hx c hc=>by
     rcases List.mem_cons.1 hx with rfl | hx
     · exact h1 _ (by simp) c hc
     · obtain rfl:=List.mem_singleton.1 hx
       exact hc.elim,he,⟨an_of (pr_stable x) h2.1,fun _ h=>h.elim,trivial⟩,h3⟩
 | no b' c s t h hs ht=>cases b with
  | ok y hy =>
   refine (spec_auto (args:=[.one (.a (fpC (.no b' c s t h hs ht)++fpC (.ok y hy)))]) (obs:=[]) (res:=SV.tup [.a [.b (.v (.pointer none)),.b (.z 0 0)],.c (.b (.v (.bool false)))]) (news:=[ratT y]) (evs:=[(sRatNo h).e,(sRatIn hy).e]) (Ns:=[]) (m:=400) Tryz.func213 hmA (fun β=>by kernel_rfl) (by kernel_rfl) β w hh).mono fun e w' ⟨xs,h1,he,h2,h3⟩=>?_
   match xs,h1,he,h2 with
   | [p],h1,he,h2=>exact ⟨[nilPl,p],fun x hx c hc=>by
     rcases List.mem_cons.1 hx with rfl | hx
     · exact hc.elim
     · obtain rfl:=List.mem_singleton.1 hx
       exact h1 _ (by simp) c hc,he,⟨fun _ h=>h.elim,an_of (pr_stable y) h2.1,trivial⟩,h3⟩
  | no b'' c' s' t' h' hs' ht' =>
   refine (spec_auto (args:=[.one (.a (fpC (.no b' c s t h hs ht)++fpC (.no b'' c' s' t' h' hs' ht')))]) (obs:=[]) (res:=SV.tup [.a [.b (.v (.pointer none)),.b (.v (.pointer none))],.c (.b (.v (.bool false)))]) (news:=[]) (evs:=[(sRatNo h).e,(sRatNo h').e]) (Ns:=[]) (m:=400) Tryz.func213 hmA (fun β=>by kernel_rfl) (by kernel_rfl) β w hh).mono fun e w' ⟨xs,h1,he,h2,h3⟩=>?_
   match xs,h1,he,h2 with
   | [],h1,he,h2=>exact ⟨[nilPl,nilPl],fun x hx c hc=>by
     rcases List.mem_cons.1 hx with rfl | hx
     · exact hc.elim
     · obtain rfl:=List.mem_singleton.1 hx
       exact hc.elim,he,⟨fun _ h=>h.elim,fun _ h=>h.elim,trivial⟩,h3⟩
def sOf (a b:Fp):Spec Tryz.prog :=
 ⟨213,Tryz.call213,[.one (.a (fpC a++fpC b))],[],.tup [nA 0,.c (.b (.v (.bool (a.B&&b.B))))],ofT a b,sOf_ok a b,by cases a<;>cases b<;>kernel_rfl⟩
def sInt (n m:Int) (hn : -9223372036854775808≤n∧n≤9223372036854775807) (hm : -9223372036854775808≤m∧m≤9223372036854775807):Spec Tryz.prog :=
 Spec.auto Tryz.call165 [.one (.c (.b (.v (.int .i64 n)))),.one (.c (.b (.v (.int .i64 m))))] [] (nV 0) (gT (gint n m))
  [nNew n 1 hn (by decide) (by decide),nNew m 1 hm (by decide) (by decide)] [] 400 Tryz.func165 hmA (by kernel_rfl) (fun β=>by kernel_rfl)
theorem told_ok {z:GQ} (hz:GSz KB z) (β:Env) (w:World) (hh:∀ (k:Nat) (t:Thing),(gM z)[k]?=some t→t.D w (β k)) :
  Calls Tryz.prog 186 (([nV 0]:List SV).map (SV.den β)).toArray w fun e w'=>∃ xs:List Pl,freshS β w 2 xs∧e=.returned ((SV.tup [.a (lsX (gaC z)),.c (.b (.v (.int .i64 (gaK z))))]).den (extE β 2 xs))∧newHold w' [] xs∧Below w.heap.size w w':=by
 by_cases h1:Fit z.re
 · by_cases h2:Fit z.im
   · rw [(ga_fit ⟨h1,h2⟩).1,(ga_fit ⟨h1,h2⟩).2]
     have e1:(ansK z.re != 0)=false:=by rw [(ansF_fit h1).2.2.2]; rfl
     have e2:(ansK z.im != 0)=false:=by rw [(ansF_fit h2).2.2.2]; rfl
     unfold gC
     rw [← (ansF_fit h1).1,← (ansF_fit h1).2.1,← (ansF_fit h1).2.2.1,← (ansF_fit h2).1,← (ansF_fit h2).2.1,← (ansF_fit h2).2.2.1]
     exact spec_auto (obs:=gM z) (evs:=[(sFrac hz.1).e,(sFrac hz.2).e,.eqv 21 (.bool (ansK z.re != 0)) (.bool false) (ansK_ne e1),.eqv 24 (.bool (ansK z.im != 0)) (.bool false) (ansK_ne e2)]) (Ns:=[]) (m:=400) Tryz.func186 hmA (fun β=>by kernel_rfl) (by kernel_rfl) β w hh
   · have hn:¬ FitG z:=fun h=>h2 h.2
     rw [(ga_not hn).1,(ga_not hn).2]
     have e1:(ansK z.re != 0)=false:=by rw [(ansF_fit h1).2.2.2]; rfl
     have e2:(ansK z.im != 0)=true:=by rw [show ansK z.im=4 from if_neg h2]; rfl
     exact spec_auto (obs:=gM z) (evs:=[(sFrac hz.1).e,(sFrac hz.2).e,.eqv 21 (.bool (ansK z.re != 0)) (.bool false) (ansK_ne e1),.eqv 24 (.bool (ansK z.im != 0)) (.bool true) (ansK_ne e2)]) (Ns:=[]) (m:=400) Tryz.func186 hmA (fun β=>by kernel_rfl) (by kernel_rfl) β w hh
 · have hn:¬ FitG z:=fun h=>h1 h.1
   rw [(ga_not hn).1,(ga_not hn).2]
   have e1:(ansK z.re != 0)=true:=by rw [show ansK z.re=4 from if_neg h1]; rfl
   exact spec_auto (obs:=gM z) (evs:=[(sFrac hz.1).e,(sFrac hz.2).e,.eqv 21 (.bool (ansK z.re != 0)) (.bool true) (ansK_ne e1)]) (Ns:=[]) (m:=400) Tryz.func186 hmA (fun β=>by kernel_rfl) (by kernel_rfl) β w hh
noncomputable def sTold {z:GQ} (hz:GSz KB z):Spec Tryz.prog :=
 ⟨186,Tryz.call186,[nV 0],gM z,.tup [.a (lsX (gaC z)),.c (.b (.v (.int .i64 (gaK z))))],[],told_ok hz,by kernel_rfl⟩
def RwD (sz n:Nat) (L:Nat→List Lf) (w:World) (g:Pl):Prop :=
 (n=0∧∀ c,¬ g.F c)∨(0<n∧∃ b o cs t fr,(∀ m,g.v m=some ⟨b,o+m,none⟩)∧(∀ c,g.F c↔c=b)∧w.heap[b]?=some (.cells cs t fr)∧∀ j,j<n→w.rangeAt b (o+j*sz) ((L j).map (Lf.den idE)))
theorem RwD.heap {sz n:Nat} {L:Nat→List Lf} {w w':World} {g:Pl} (h:RwD sz n L w g) (k:∀ b,g.F b→w'.heap[b]?=w.heap[b]?):RwD sz n L w' g:=by
 rcases h with h | ⟨h0,b,o,cs,t,fr,h1,h2,h3,h4⟩
 · exact .inl h
 · have e:=k b ((h2 b).2 rfl)
   refine .inr ⟨h0,b,o,cs,t,fr,h1,h2,by rw [e]; exact h3,fun j hj i v hv=>?_⟩
   have:=h4 j hj i v hv
   rw [cell_of_row _ _ _ _ _ _ h3] at this
   rw [cell_of_row _ _ _ _ _ _ (by rw [e]; exact h3)]
   exact this
theorem RwD.lt {sz n:Nat} {L:Nat→List Lf} {w:World} {g:Pl} (h:RwD sz n L w g) (c:Nat) (hc:g.F c):c<w.heap.size:=by
 rcases h with h | ⟨h0,b,o,cs,t,fr,h1,h2,h3,h4⟩
 · exact absurd hc (h.2 c)
 · rw [(h2 c).1 hc]
   exact heap_some_lt h3
theorem lsRw_stable (sz n:Nat) (L:Nat→List Lf):Stable (RwD sz n L) :=
 ⟨fun w g h c hc=>h.lt c hc,fun w w' g h k=>h.heap fun b hb=>k.block b (h.lt b hb),
  fun w w' g b o m s h hs ht hF=>h.heap fun c hc=>ht.block c (h.lt c hc) (fun e=>hF (e▸hc))⟩
def rwT (sz n:Nat) (L:Nat→List Lf):Thing:=thing (RwD sz n L) (lsRw_stable sz n L)
def lsYOf:SV→Nat
 | .one (.c (.b (.y k _ _)))=>k
 | _=>0
def lsZOf:SV→Nat
 | .one (.c (.b (.z k _)))=>k
 | _=>0
theorem ls_ix {T:TypeId} (hu:Tryz.prog.underlying T=some (.slice (Tryz.prog.elem T))) {sz:Nat} (hs:(Tryz.prog.info? (Tryz.prog.elem T)).map (·.size)=some sz) {n N j:Nat} {L:Nat→List Lf} (hj:j<n) (hN:n≤N) (k:Nat) (x y:Operand) (β:Env) (w:World) (h:holdsAll β w [(k,(rwT sz N L).ob)]) (ρ:Operand→Value) (o:Oper) (ho:o.op=.indexAddr T x y)
  (hx:(Op.indexAddr T x y).operands.toList.map ρ=[.slice ((β k).v 0) n ((β k).c 0),.int .i64 (j:Int)]):∃ ys w',fresh β w [(k,(rwT sz N L).ob)] ys∧(execOp ρ o).run Tryz.prog w=.ok (.value ((SV.one (.c (.b (.z k (j*sz))))).den (extE β 0 ys))) w'∧newHold w' [] ys∧Below w.heap.size w w':=by
 have h1:RwD sz N L w (β k):=h _ (List.mem_singleton.2 rfl)
 have h3:ρ x=.slice ((β k).v 0) n ((β k).c 0)∧ρ y=.int .i64 (j:Int):=by simpa [Op.operands] using hx
 rcases h1 with h1 | ⟨h0,b,of,cs,t,fr,h1,h2,h4,h5⟩
 · omega
 refine ⟨[],w,(fun _ h=>by cases h),?_,trivial,Below.refl _ _⟩
 unfold execOp
 rw [ho]
 dsimp only
 rw [h3.1,h3.2,h1 0]
 have e:((SV.one (.c (.b (.z k (j*sz))))).den (extE β 0 []))=.pointer (some ⟨b,of+j*sz,none⟩):=by
  show Value.pointer ((β k).v (j*sz))=_
  rw [h1]
 rw [e]
 have hz:((sizeOf (Tryz.prog.elem T)).run Tryz.prog w)=.ok sz w:=by
  cases hq:Tryz.prog.info? (Tryz.prog.elem T) with
  | none=>simp [hq] at hs
  | some i =>
   have hs:i.size=sz:=by simpa [hq] using hs
   simp [sizeOf,typeInfo,hq,hs]
 have h6:=run_indexAt_slice (P:=Tryz.prog) (w:=w) T ⟨b,of,none⟩ n ((β k).c 0) .i64 (j:Int) hu
 rw [if_pos ⟨by omega,by omega⟩,hz] at h6
 simp only [Result.andThen_ok,Int.toNat_natCast,Addr.add_mid] at h6
 simp [go_sem,Nat.add_zero,h6]
def eIx {T:TypeId} (hu:Tryz.prog.underlying T=some (.slice (Tryz.prog.elem T))) {sz:Nat} (hs:(Tryz.prog.info? (Tryz.prog.elem T)).map (·.size)=some sz) {n N j:Nat} (L:Nat→List Lf) (hj:j<n) (hN:n≤N):Ev Tryz.prog:=.dyn (fun o _ _=>match o.op with
 | .indexAddr t _ _=>Nat.beq t T
 | _=>false) fun o xs _=>match o.op with
 | .indexAddr _ x y=>lit (lsYOf (xs.getD 0 undefS)) fun k=>.rd (o.dst.getD 0) (.indexAddr T x y) (fun β=>[.slice ((β k).v 0) n ((β k).c 0),.int .i64 (j:Int)]) [(k,(rwT sz N L).ob)] 0 (.one (.c (.b (.z k (j*sz))))) [] (fun β w h ρ o ho hx=>ls_ix hu hs hj hN k x y β w h ρ o ho hx)
 | _=>.cut
theorem ls_ld {T:TypeId} {d:TypeDesc} (hu:Tryz.prog.underlying T=some d) (hd:d.isRow=true) {sz:Nat} {n j:Nat} {L:Nat→List Lf} (hs:(Tryz.prog.info? T).map (·.size)=some (L j).length) (hL:∀ β,(L j).map (Lf.den β)=(L j).map (Lf.den idE)) (hj:j<n) (k:Nat) (x:Operand) (β:Env) (w:World) (h:holdsAll β w [(k,(rwT sz n L).ob)]) (ρ:Operand→Value) (o:Oper) (ho:o.op=.load T x)
  (hx:(Op.load T x).operands.toList.map ρ=[.pointer ((β k).v (j*sz))]):∃ ys w',fresh β w [(k,(rwT sz n L).ob)] ys∧(execOp ρ o).run Tryz.prog w=.ok (.value ((SV.one (.a (L j))).den (extE β 0 ys))) w'∧newHold w' [] ys∧Below w.heap.size w w':=by
 have h1:RwD sz n L w (β k):=h _ (List.mem_singleton.2 rfl)
 have h3:ρ x=.pointer ((β k).v (j*sz)):=by simpa [Op.operands] using hx
 rcases h1 with h1 | ⟨h0,b,of,cs,t,fr,h1,h2,h4,h5⟩
 · omega
 refine ⟨[],w,(fun _ h=>by cases h),?_,trivial,Below.refl _ _⟩
 unfold execOp
 rw [ho]
 dsimp only
 rw [h3,h1]
 have h6:=run_loadAt_mid (P:=Tryz.prog) w b (of+j*sz) T ((L j).map (Lf.den idE)) d (h5 j hj) hu hd (by rw [List.length_map]; exact hs)
 have e:((SV.one (.a (L j))).den (extE β 0 []))=.agg ((L j).map (Lf.den idE)).toArray:=by
  show Value.agg ((L j).map (Lf.den (extE β 0 []))).toArray=_
  rw [hL]
 rw [e]
 simp only [Sem.run_bind,h6,Result.andThen_ok]
 rfl
def eLd {T:TypeId} {d:TypeDesc} (hu:Tryz.prog.underlying T=some d) (hd:d.isRow=true) (sz:Nat) {n j:Nat} {L:Nat→List Lf} (hs:(Tryz.prog.info? T).map (·.size)=some (L j).length) (hL:∀ β,(L j).map (Lf.den β)=(L j).map (Lf.den idE)) (hj:j<n):Ev Tryz.prog:=.dyn (fun o xs _=>match o.op with
 | .load t _=>Nat.beq t T
 | _=>false) fun o xs _=>match o.op with
 | .load _ x=>lit (lsZOf (xs.getD 0 undefS)) fun k=>.rd (o.dst.getD 0) (.load T x) (fun β=>[.pointer ((β k).v (j*sz))]) [(k,(rwT sz n L).ob)] 0 (.one (.a (L j))) [] (fun β w h ρ o ho hx=>ls_ld hu hd hs hL hj k x β w h ρ o ho hx)
 | _=>.cut
def lsKOf:SV→Nat
 | .one (.c (.b (.y k _ _)))=>k
 | .one (.c (.b (.r k _)))=>k
 | .one (.c (.b (.s k _ _ _)))=>k
 | _=>0
inductive OrK where
 | nil
 | row
 | own
def OrK.ok (k:OrK) (n0:Nat):Prop:=match k with
 | .nil=>n0=0
 | .row=>n0=0
 | .own=>True
def WrD (sz:Nat) (e:TypeId) (n:Nat) (L:Nat→List Lf) (w:World) (g:Pl):Prop :=
 (∀ c,g.F c↔c=g.b)∧(∀ m,g.v m=some ⟨g.b,m,none⟩)∧(0<n∧∀ j,j<n→(L j).length=sz)∧(∃ cur,w.heap[g.b]?=some (.cells cur e (0,0))∧n*sz≤cur.size)∧(∀ j,j<n→w.rangeAt g.b (j*sz) ((L j).map (Lf.den idE)))∧(∀ i,g.c i=g.c 0-i/sz)∧n≤g.c 0
theorem WrD.heap {sz:Nat} {e:TypeId} {n:Nat} {L:Nat→List Lf} {w w':World} {g:Pl} (h:WrD sz e n L w g) (k:w'.heap[g.b]?=w.heap[g.b]?):WrD sz e n L w' g:=by
 obtain ⟨h1,h2,h3,⟨cur,h4,h5⟩,h6,h7⟩:=h
 refine ⟨h1,h2,h3,⟨cur,by rw [k]; exact h4,h5⟩,fun j hj i v hv=>?_,h7⟩
 rw [World.cell?_of_block (a:=⟨g.b,j*sz+i,none⟩) k]
 exact h6 j hj i v hv
theorem lwr_stable (sz:Nat) (e:TypeId) (n:Nat) (L:Nat→List Lf):Stable (WrD sz e n L) :=
 ⟨fun w g h c hc=>by rw [(h.1 c).1 hc]; obtain ⟨cur,hh,_⟩:=h.2.2.2.1; exact heap_some_lt hh,
  fun w w' g h k=>h.heap (k.block _ (by obtain ⟨cur,hh,_⟩:=h.2.2.2.1; exact heap_some_lt hh)),
  fun w w' g b o m s h hs ht hF=>h.heap (ht.block _ (by obtain ⟨cur,hh,_⟩:=h.2.2.2.1; exact heap_some_lt hh) fun e=>hF ((h.1 b).2 e.symm))⟩
theorem WrD.rw {sz:Nat} {e:TypeId} {n:Nat} {L:Nat→List Lf} (w:World) (g:Pl) (h:WrD sz e n L w g):RwD sz n L w g:=by
 obtain ⟨h1,h2,h3,⟨cur,h4,h5⟩,h6,_⟩:=h
 exact .inr ⟨h3.1,g.b,0,cur,e,(0,0),fun m=>by rw [h2,Nat.zero_add],h1,h4,fun j hj=>by rw [Nat.zero_add]; exact h6 j hj⟩
def lwrT (sz:Nat) (e:TypeId) (n:Nat) (L:Nat→List Lf):Thing :=
 ⟨WrD sz e n L,lwr_stable sz e n L,1,RwD sz n L,lsRw_stable sz n L,WrD.rw,false,fun h=>(Bool.noConfusion h),false,fun h=>(Bool.noConfusion h),false,fun h=>(Bool.noConfusion h),false,fun h=>(Bool.noConfusion h)⟩
def wrO (sz:Nat) (e:TypeId) (n:Nat) (L:Nat→List Lf):Ob:=.ow (lwrT sz e n L) e
theorem touch_setCells {b n:Nat}:∀ (vs:List Value) (o:Nat) (a w:World),o+vs.length≤n→Touch a w b 0 n→Touch a (w.setCells b o vs) b 0 n
 | [],_,_,_,_,h=>h
 | v::r,o,a,w,hn,h=>by
  rw [World.setCells]
  rw [List.length_cons] at hn
  exact touch_setCells r (o+1) a _ (by omega) (h.set_ o ⟨Nat.zero_le _,by omega⟩ v)
theorem wr_set {T e:TypeId} {sz n j:Nat} (he:e≠284) (hi:(Tryz.prog.info? T).map (·.size)=some sz) {L L':Nat→List Lf} (hj:j<n) (hL:∀ i,i<n→i≠j→L' i=L i) {cs:List Lf} (hc:L' j=cs) (hl:cs.length=sz) (h1:∀ u∈cs.map (Lf.den idE),u.oneCell'=true)
  (K:Nat) (x y:Operand) (β:Env) (w:World) (h:(wrO sz e n L).holds β w (β K)) (ρ:Operand→Value) (o:Oper) (ho:o.op=.store T x y) (hx:(Op.store T x y).operands.toList.map ρ=[.pointer ((β K).v (j*sz)),.agg (cs.map (Lf.den idE)).toArray]) :
  ∃ w':World,(execOp ρ o).run Tryz.prog w=.ok .skip w'∧(wrO sz e n L').holds β w' (β K)∧NW w (β K).b∧∃ o n,Touch w w' (β K).b o n:=by
 obtain ⟨⟨hF,hte,_⟩,hd⟩:=h
 have hd:WrD sz e n L w (β K):=hd
 obtain ⟨d1,d2,d3,⟨cur,d4,d5⟩,d6,d7⟩:=hd
 have h3:ρ x=.pointer ((β K).v (j*sz))∧ρ y=.agg (cs.map (Lf.den idE)).toArray:=by simpa [Op.operands] using hx
 rw [d2] at h3
 have hsz:j*sz+sz≤n*sz:=by rw [← Nat.succ_mul]; exact Nat.mul_le_mul_right _ hj
 have hvl:(cs.map (Lf.den idE)).length=sz:=by rw [List.length_map,hl]
 have hthere:w.there (β K).b (j*sz) sz:=fun i hi=>by
  rw [cell_of_row _ _ _ _ _ _ d4]
  refine ⟨?_,by simp [World.frozen?,d4]⟩
  rw [Array.getElem?_eq_getElem (by omega)]
  rfl
 have hst:=run_storeAt_mid (P:=Tryz.prog) w (β K).b (j*sz) T (cs.map (Lf.den idE)).toArray (by rw [List.size_toArray,hvl]; exact hthere) (by rw [List.size_toArray,hvl]; exact hi) (all_oneCell_toArray h1)
 have hT:Touch w (w.setCells (β K).b (j*sz) (cs.map (Lf.den idE))) (β K).b 0 (n*sz):=touch_setCells _ _ _ _ (by rw [hvl]; exact hsz) (Touch.refl _ _ _ _)
 obtain ⟨cur',e1,e2,_⟩:=hT.own _ _ _ d4
 refine ⟨w.setCells (β K).b (j*sz) (cs.map (Lf.den idE)),?_,⟨⟨hF,hte,_,e1⟩,d1,d2,⟨d3.1,fun i hi=>?_⟩,⟨cur',e1,by omega⟩,fun i hi=>?_,d7⟩,(fun cs' fr e'=>by rw [d4] at e'; injection e' with e'; injection e' with _ e'; exact he e'),0,n*sz,hT⟩
 · unfold execOp
   rw [ho]
   dsimp only
   rw [h3.1,h3.2]
   simp only [Sem.run_bind,hst,Result.andThen_ok]
   rfl
 · by_cases e3:i=j
   · rw [e3,hc,hl]
   · rw [hL i hi e3]; exact d3.2 i hi
 · by_cases e3:i=j
   · rw [e3,hc]
     exact World.rangeAt_setCells_same w _ _ _ (by rw [hvl]; exact hthere)
   · rw [hL i hi e3]
     refine World.rangeAt_setCells_apart (d6 i hi) _ _ _ (.inr ?_)
     rw [hvl,List.length_map,d3.2 i hi]
     rcases Nat.lt_or_gt_of_ne e3 with h4 | h4
     · left
       rw [← Nat.succ_mul]
       exact Nat.mul_le_mul_right _ h4
     · right
       rw [← Nat.succ_mul]
       exact Nat.mul_le_mul_right _ h4
def eSt {T e:TypeId} {sz n j:Nat} (he:e≠284) (hi:(Tryz.prog.info? T).map (·.size)=some sz) {L L':Nat→List Lf} (hj:j<n) (hL:∀ i,i<n→i≠j→L' i=L i) {cs:List Lf} (hc:L' j=cs) (hl:cs.length=sz) (h1:∀ u∈cs.map (Lf.den idE),u.oneCell'=true):Ev Tryz.prog:=.dynU (fun o _ _=>match o.op with
 | .store t _ _=>Nat.beq t T
 | _=>false) fun o xs _=>match o.op with
 | .store _ x y=>lit (lsZOf (xs.getD 0 undefS)) fun K=>.chg (.store T x y) (fun β=>[.pointer ((β K).v (j*sz)),.agg (cs.map (Lf.den idE)).toArray]) [] K (wrO sz e n L) (wrO sz e n L') (fun β w _ h ρ o ho hx=>wr_set he hi hj hL hc hl h1 K x y β w h ρ o ho hx)
 | _=>.cut
theorem wr_make (A:AppT Tryz.prog) {n:Nat} (h0:0<n) (hn:n*A.bytes≤140737488355328) (h63:n≤9223372036854775807) {z:List Lf} (hz:A.z.cells.toList=z.map (Lf.den idE)) (a b:Operand) (β:Env) (w:World) (ρ:Operand→Value) (o:Oper) (M:Nat) (ho:o.op=.makeSlice A.t a b) (hx:(Op.makeSlice A.t a b).operands.toList.map ρ=[.int .i64 (n:Int),.int .i64 (n:Int)]) :
  ∃ (g:Pl) (w':World),(execOp ρ o).run Tryz.prog w=.ok (.value ((SV.one (.c (.b (.y M 0 n)))).den (extE β M [g]))) w'∧(wrO A.sz A.e n fun _=>z).holds (extE β M [g]) w' g∧Grow β w w' none g∧owF β [] none g:=by
 have h3:ρ a=.int .i64 (n:Int)∧ρ b=.int .i64 (n:Int):=by simpa [Op.operands] using hx
 have hzl:z.length=A.sz:=by
  have h4:=congrArg List.length hz
  rw [Array.length_toList,A.hzs,List.length_map] at h4
  exact h4.symm
 have hbb:(A.i.bytes:Int)*(n:Int)≤281474976710656:=by
  rw [A.hby]
  have h5:A.bytes*n≤281474976710656:=by rw [Nat.mul_comm]; exact Nat.le_trans hn (by decide)
  have h6:((A.bytes*n:Nat):Int)=(A.bytes:Int)*n:=Int.natCast_mul _ _
  rw [← h6]
  omega
 have hr:=run_make (P:=Tryz.prog) w A.t A.e A.i A.z A.ht A.hi A.hz .i64 .i64 (n:Int) (n:Int) (by omega) (Int.le_refl _) hbb (by omega)
 simp only [Int.toNat_natCast] at hr
 refine ⟨⟨w.heap.size,fun i=>some ⟨w.heap.size,i,none⟩,fun i=>n-i/A.sz,fun c=>c=w.heap.size,fun _=>undef⟩,w.alloc (.cells (madeCells A.z.cells (n*A.i.size)) A.e),?_,⟨⟨rfl,A.he,_,heap_alloc_new w _⟩,fun c=>Iff.rfl,fun m=>rfl,⟨h0,fun j _=>hzl⟩,⟨_,heap_alloc_new w _,by rw [size_madeCells,A.hsize]; exact Nat.le_refl _⟩,fun j hj i v hv=>?_,fun i=>?_,?_⟩,.inl ⟨Nat.le_refl _,(Below.refl _ w).alloc (Nat.le_refl _) _⟩,fun c hc=>.inl hc⟩
 · have e:(SV.one (.c (.b (.y M 0 n)))).den (extE β M [(⟨w.heap.size,fun i=>some ⟨w.heap.size,i,none⟩,fun i=>n-i/A.sz,fun c=>c=w.heap.size,fun _=>undef⟩:Pl)])=.slice (some ⟨w.heap.size,0,none⟩) n n:=by
    have:=extE_in (β:=β) (n:=M) (xs:=[(⟨w.heap.size,fun i=>some ⟨w.heap.size,i,none⟩,fun i=>n-i/A.sz,fun c=>c=w.heap.size,fun _=>undef⟩:Pl)]) (i:=0) rfl
    simp only [Nat.add_zero] at this
    simp only [SV.den,SC.den,Lf.den,Lf0.den,this,Nat.zero_div,Nat.sub_zero]
   rw [e]
   unfold execOp
   rw [ho]
   dsimp only
   rw [h3.1,h3.2]
   simp [go_sem,hr]
 · rw [cell_of_row _ _ _ _ _ _ (heap_alloc_new w _)]
   have hi:i<A.sz:=by have h4:=(List.getElem?_eq_some_iff.1 hv).1; rwa [List.length_map,hzl] at h4
   have hlt:j*A.sz+i<n*A.i.size:=by
    have:j*A.sz+A.sz≤n*A.sz:=by rw [← Nat.succ_mul]; exact Nat.mul_le_mul_right _ hj
    rw [A.hsize]
    omega
   unfold madeCells
   rw [Array.getElem?_map,Array.getElem?_range,if_pos hlt,Option.map_some]
   rw [← hz] at hv
   have hm:(j*A.sz+i) % A.z.cells.size=i:=by
    rw [A.hzs,Nat.add_comm,Nat.mul_comm,Nat.add_mul_mod_self_left,Nat.mod_eq_of_lt hi]
   rw [hm]
   rw [Array.getElem?_toList] at hv
   rw [getElem!_def,hv]
 · show n-i/A.sz=(n-0/A.sz)-i/A.sz
   rw [Nat.zero_div,Nat.sub_zero]
 · show n≤n-0/A.sz
   rw [Nat.zero_div,Nat.sub_zero]
   exact Nat.le_refl n
def eMkW (A:AppT Tryz.prog) {n:Nat} (h0:0<n) (hn:n*A.bytes≤140737488355328) (h63:n≤9223372036854775807) {z:List Lf} (hz:A.z.cells.toList=z.map (Lf.den idE)):Ev Tryz.prog:=.dynU (fun o _ _=>match o.op,o.dst with
 | .makeSlice t _ _,some _=>Nat.beq t A.t
 | _,_=>false) fun o _ ob=>match o.op,o.dst with
 | .makeSlice _ a b,some d=>lit ob.length fun M=>.upd (some d) (.makeSlice A.t a b) (fun _=>[.int .i64 (n:Int),.int .i64 (n:Int)]) [] none M (wrO A.sz A.e n fun _=>z) (.one (.c (.b (.y M 0 n)))) (fun β w _ _ ρ o ho hx=>wr_make A h0 hn h63 hz a b β w ρ o M ho hx)
 | _,_=>.cut
def eSl1 {T:TypeId} (hu:Tryz.prog.underlying T=some (.slice (Tryz.prog.elem T))) {sz:Nat} (h0:0<sz) (hs:(Tryz.prog.info? (Tryz.prog.elem T)).map (·.size)=some sz) {n m:Nat} (hm:n=m+1) (h1:0<m) (e:TypeId) (L:Nat→List Lf):Ev Tryz.prog:=.dyn (fun o _ _=>match o.op with
 | .slice t _ (some _) none none=>Nat.beq t T
 | _=>false) fun o xs _=>match o.op with
 | .slice _ x (some y) none none=>lit (lsKOf (xs.getD 0 undefS)) fun k=>.rd (o.dst.getD 0) (.slice T x (some y) none none) (fun β=>[.slice ((β k).v 0) n ((β k).c 0),.int .i64 1]) [(k,.th (lwrT sz e n L))] 0 (.one (.c (.b (.y k sz m)))) [] (fun β w h ρ o ho hx=>by
   have h3:ρ x=.slice ((β k).v 0) n ((β k).c 0)∧ρ y=.int .i64 1:=by simpa [Op.operands] using hx
   have hd:WrD sz e n L w (β k):=h (k,.th (lwrT sz e n L)) (List.mem_singleton.2 rfl)
   obtain ⟨d1,d2,d3,⟨cur,d4,d5⟩,d6,d7,d8⟩:=hd
   refine ⟨[],w,(fun _ h=>by cases h),?_,trivial,Below.refl _ _⟩
   have hz:((sizeOf (Tryz.prog.elem T)).run Tryz.prog w)=.ok sz w:=by
    cases hq:Tryz.prog.info? (Tryz.prog.elem T) with
    | none=>simp [hq] at hs
    | some i =>
     have hs:i.size=sz:=by simpa [hq] using hs
     simp [sizeOf,typeInfo,hq,hs]
   have h6:=run_slice_l (P:=Tryz.prog) (w:=w) T ((β k).v 0) n ((β k).c 0) hu .i64 1 (by decide) (by omega)
   rw [hz] at h6
   have e:((SV.one (.c (.b (.y k sz m)))).den (extE β 0 []))=.slice ((β k).v sz) m ((β k).c sz):=rfl
   rw [e]
   unfold execOp
   rw [ho]
   dsimp only
   simp only [Option.map_none,Option.map_some,h3.1,h3.2]
   have h7:(Instr.sliceAt T (.slice ((β k).v 0) n ((β k).c 0)) (some (.int .i64 1)) none none).run Tryz.prog w=.ok (.slice ((β k).v sz) m ((β k).c sz)) w:=by
    rw [run_sliceAt_slice (P:=Tryz.prog) (w:=w) T _ _ _ _ hu,h6,d2 0,d2 sz,d7 sz,Nat.div_self h0]
    have hne:(β k).c 0≠1:=by omega
    have hmn:n-1=m:=by omega
    simp [sliced,Addr.add_mid,hne,hmn]
   simp only [Sem.run_bind,h7,Result.andThen_ok]
   rfl)
 | _=>.cut
theorem ls_ix1 {T:TypeId} (hu:Tryz.prog.underlying T=some (.slice (Tryz.prog.elem T))) {sz:Nat} (hs:(Tryz.prog.info? (Tryz.prog.elem T)).map (·.size)=some sz) {n N j:Nat} {L:Nat→List Lf} (hj:j<n) (hN:n<N) (k:Nat) (x y:Operand) (β:Env) (w:World) (h:holdsAll β w [(k,(rwT sz N L).ob)]) (ρ:Operand→Value) (o:Oper) (ho:o.op=.indexAddr T x y)
  (hx:(Op.indexAddr T x y).operands.toList.map ρ=[.slice ((β k).v sz) n ((β k).c sz),.int .i64 (j:Int)]):∃ ys w',fresh β w [(k,(rwT sz N L).ob)] ys∧(execOp ρ o).run Tryz.prog w=.ok (.value ((SV.one (.c (.b (.z k ((j+1)*sz))))).den (extE β 0 ys))) w'∧newHold w' [] ys∧Below w.heap.size w w':=by
 have h1:RwD sz N L w (β k):=h _ (List.mem_singleton.2 rfl)
 have h3:ρ x=.slice ((β k).v sz) n ((β k).c sz)∧ρ y=.int .i64 (j:Int):=by simpa [Op.operands] using hx
 rcases h1 with h1 | ⟨h0,b,of,cs,t,fr,h1,h2,h4,h5⟩
 · omega
 refine ⟨[],w,(fun _ h=>by cases h),?_,trivial,Below.refl _ _⟩
 unfold execOp
 rw [ho]
 dsimp only
 rw [h3.1,h3.2,h1 sz]
 have e:((SV.one (.c (.b (.z k ((j+1)*sz))))).den (extE β 0 []))=.pointer (some ⟨b,of+(j+1)*sz,none⟩):=by
  show Value.pointer ((β k).v ((j+1)*sz))=_
  rw [h1]
 rw [e]
 have hz:((sizeOf (Tryz.prog.elem T)).run Tryz.prog w)=.ok sz w:=by
  cases hq:Tryz.prog.info? (Tryz.prog.elem T) with
  | none=>simp [hq] at hs
  | some i =>
   have hs:i.size=sz:=by simpa [hq] using hs
   simp [sizeOf,typeInfo,hq,hs]
 have h6:=run_indexAt_slice (P:=Tryz.prog) (w:=w) T ⟨b,of+sz,none⟩ n ((β k).c sz) .i64 (j:Int) hu
 rw [if_pos ⟨by omega,by omega⟩,hz] at h6
 simp only [Result.andThen_ok,Int.toNat_natCast,Addr.add_mid] at h6
 rw [show of+sz+j*sz=of+(j+1)*sz by rw [Nat.add_mul,Nat.one_mul]; omega] at h6
 simp [go_sem,h6]
def eIx1 {T:TypeId} (hu:Tryz.prog.underlying T=some (.slice (Tryz.prog.elem T))) {sz:Nat} (hs:(Tryz.prog.info? (Tryz.prog.elem T)).map (·.size)=some sz) {n N j:Nat} (L:Nat→List Lf) (hj:j<n) (hN:n<N):Ev Tryz.prog:=.dyn (fun o _ _=>match o.op with
 | .indexAddr t _ _=>Nat.beq t T
 | _=>false) fun o xs _=>match o.op with
 | .indexAddr _ x y=>lit (lsYOf (xs.getD 0 undefS)) fun k=>.rd (o.dst.getD 0) (.indexAddr T x y) (fun β=>[.slice ((β k).v sz) n ((β k).c sz),.int .i64 (j:Int)]) [(k,(rwT sz N L).ob)] 0 (.one (.c (.b (.z k ((j+1)*sz))))) [] (fun β w h ρ o ho hx=>ls_ix1 hu hs hj hN k x y β w h ρ o ho hx)
 | _=>.cut
end Go.Proofs.YtmfedaakeeiolaaGreat.Y
end
