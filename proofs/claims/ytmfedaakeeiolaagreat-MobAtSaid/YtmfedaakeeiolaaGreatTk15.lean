/- RefJ, RefM. -/
import Derived.Test.YtmfedaakeeiolaaGreatTk14
set_option linter.unnecessarySimpa false
set_option linter.unusedVariables false
set_option linter.unusedSimpArgs false
section
namespace Go.Proofs.YtmfedaakeeiolaaGreat
section
open Go.RowKit
def DMPost (k:Int) (w0:World) (e:Ending) (w':World):Prop:=∃ a u,e=.returned (.tuple #[.agg #[.bool a,.string u],.agg #[.bool false,.string ⟨#[]⟩]])∧Hid (a=decide (k<0))∧Hid (u=mag k.natAbs)∧Below w0.heap.size w0 w'
theorem BoxAt.other {w:World} {g b i:Nat} {v:Value} {cs:Array Value} {t:TypeId} (h:BoxAt w g cs t) (hne:g≠b):BoxAt (w.setCell ⟨b,i,none⟩ v) g cs t:=by
 unfold BoxAt at h
 unfold BoxAt
 rw [Below.heap_setCell w ⟨b,i,none⟩ v g hne]
 exact h
set_option maxHeartbeats 6400000 in
set_option maxRecDepth 100000 in
theorem rdivmod_exact {w0:World} (p q:Bool) (s t:ByteArray) (n m:Int) (hp:p=decide (n<0)) (hq:q=decide (m<0)) (hs:s=mag n.natAbs) (ht:t=mag m.natAbs) (h1:s.size≤1000000000) (h2:t.size≤1000000000) (hm:m≠0) (hd:m ∣ n) :
  Calls Tryz.prog 262 #[.agg #[.bool p,.string s],.agg #[.bool q,.string t]] w0 (DMPost (n/m) w0):=by
 have hf0:=((Frames.nil w0).push w0.heap.size #[.bool p,.string s] 23 rfl).push (w0.heap.size+1) #[.bool q,.string t] 23 (by simp)
 have hf1:=(hf0.push (w0.heap.size+1+1) #[.bool false,.string ⟨#[]⟩] 23 (by simp)).push (w0.heap.size+1+1+1) #[.bool false,.string ⟨#[]⟩] 23 (by simp)
 have HB:=Lib.hid (below_alloc_ (below_alloc_ (below_alloc_ (below_new w0 (.cells #[.bool p,.string s] 23)) (.cells #[.bool q,.string t] 23)) (.cells #[.bool false,.string ⟨#[]⟩] 23)) (.cells #[.bool false,.string ⟨#[]⟩] 23))
 have HF:=Lib.hid hf1
 obtain ⟨N,hN⟩:∃ N,N=n.natAbs:=⟨_,rfl⟩
 obtain ⟨M,hM⟩:∃ M,M=m.natAbs:=⟨_,rfl⟩
 rw [← hN] at hs
 rw [← hM] at ht
 have HS:=Lib.hid hs
 have HT:=Lib.hid ht
 have HP:=Lib.hid hp
 have HQ:=Lib.hid hq
 have KN:Hid ((dig N).length≤250000001):=len_mag hs h1
 have KM:Hid ((dig M).length≤250000001):=len_mag ht h2
 have H1:Hid (s.size≤4294967296):=Nat.le_trans h1 (by decide)
 have H2:Hid (t.size≤4294967296):=Nat.le_trans h2 (by decide)
 have HM0:Hid (0<M):=by unfold Hid; omega
 have HR:Hid (N % M=0):=by
  rw [hN,hM]
  exact Nat.mod_eq_zero_of_dvd (Int.natAbs_dvd_natAbs.2 hd)
 have HV:Hid (sg (p != q) (N/M)=n/m):=by rw [hp,hq,hN,hM]; exact sg_exact hd
 clear hs ht h1 h2 hf0 hf1 hp hq hN hM hm hd
 go_enter Tryz.func262,Tryz.ntmps262
 go_wp2
 generalize (((w0.alloc (.cells #[.bool p,.string s] 23)).alloc (.cells #[.bool q,.string t] 23)).alloc (.cells #[.bool false,.string ⟨#[]⟩] 23)).alloc (.cells #[.bool false,.string ⟨#[]⟩] 23)=w1 at HB HF ⊢
 refine wp_region_acts 11 (fun w'=>Below w0.heap.size w0 w'∧Frames w' [(w0.heap.size+1+1+1,#[.bool false,.string ⟨#[]⟩],23),(w0.heap.size+1+1,#[.bool false,.string ⟨#[]⟩],23),(w0.heap.size+1,#[.bool q,.string t],23),(w0.heap.size,#[.bool p,.string s],23)]) (fun w w'=>Below w.heap.size w w') (fun i w v=>match i with
   | 0=>v=.pointer (some ⟨w0.heap.size,1,none⟩)
   | 1=>v=.string s
   | 2=>∃ A c,v=.slice A (dig N).length c∧Words w (.slice A (dig N).length c) (dig N)
   | 3=>v=.pointer (some ⟨w0.heap.size+1,1,none⟩)
   | 4=>v=.string t
   | 5=>∃ A c,v=.slice A (dig M).length c∧Words w (.slice A (dig M).length c) (dig M)
   | 6=>∃ v1 v2,v=.tuple #[v1,v2]∧Words w v1 (dig (N/M))∧Words w v2 (dig (N % M))
   | 7=>∃ v1 v2,v=.tuple #[v1,v2]∧Words w v1 (dig (N/M))∧Words w v2 (dig (N % M))
   | 8=>∃ A l c,v=.slice A l c∧Words w (.slice A l c) (dig (N/M))
   | 9=>∃ A l c,v=.slice A l c∧Words w (.slice A l c) (dig (N % M))
   | _=>∃ A l c,v=.slice A l c∧Words w (.slice A l c) (dig (N/M))) (by kernel_rfl) (by kernel_rfl) (by kernel_rfl) ⟨HB.out.drew,HF.out.on (Below.drew (Below.refl _ _))⟩ (fun _ _=>(Below.refl _ _)) ?_ ⟨?_,?_,?_,?_,?_,?_,?_,?_,?_,?_,?_,trivial⟩ ?_
 · intro i w1 w2 v hC hC2 hE hV
   match i with
   | 0=>exact hV
   | 1=>exact hV
   | 2=>obtain ⟨A,c,e,h⟩:=hV; exact ⟨A,c,e,h.below hE⟩
   | 3=>exact hV
   | 4=>exact hV
   | 5=>obtain ⟨A,c,e,h⟩:=hV; exact ⟨A,c,e,h.below hE⟩
   | 6=>obtain ⟨a,b,e,h,k⟩:=hV; exact ⟨a,b,e,h.below hE,k.below hE⟩
   | 7=>obtain ⟨a,b,e,h,k⟩:=hV; exact ⟨a,b,e,h.below hE,k.below hE⟩
   | 8=>obtain ⟨A,l,c,e,h⟩:=hV; exact ⟨A,l,c,e,h.below hE⟩
   | 9=>obtain ⟨A,l,c,e,h⟩:=hV; exact ⟨A,l,c,e,h.below hE⟩
   | _+10=>obtain ⟨A,l,c,e,h⟩:=hV; exact ⟨A,l,c,e,h.below hE⟩
 · intro a' w' hag hC hd K hK
   have e2:a'.tmps.getD 2 undef=.pointer (some ⟨w0.heap.size,0,none⟩):=hag 2 rfl
   go_step
   exact hK _ _ hC ((Below.refl _ _)) rfl
 · intro a' w' hag hC hd K hK
   have e11:a'.tmps.getD 11 undef=.pointer (some ⟨w0.heap.size,1,none⟩):=hd.1
   have hc0:=(hC.2.get 3 rfl).cell 1 (.string s) rfl
   have HK:=Lib.hid (hK (.string s) _ hC (Below.refl _ _) rfl)
   clear hK hC
   go_step
   exact HK.out
 · intro a' w' hag hC hd K hK
   have e12:a'.tmps.getD 12 undef=.string s:=hd.1
   go_step
   refine (words_any s N HS.out H1.out).mono ?_
   rintro e w2 ⟨A,c,rfl,h1,h2⟩
   exact hK _ _ ⟨hC.1.trans (h2.mono hC.1.size),hC.2.on h2⟩ h2 ⟨_,_,rfl,h1⟩
 · intro a' w' hag hC hd K hK
   have e3:a'.tmps.getD 3 undef=.pointer (some ⟨w0.heap.size+1,0,none⟩):=hag 3 rfl
   go_step
   exact hK _ _ hC ((Below.refl _ _)) rfl
 · intro a' w' hag hC hd K hK
   have e14:a'.tmps.getD 14 undef=.pointer (some ⟨w0.heap.size+1,1,none⟩):=hd.1
   have hc0:=(hC.2.get 2 rfl).cell 1 (.string t) rfl
   have HK:=Lib.hid (hK (.string t) _ hC (Below.refl _ _) rfl)
   clear hK hC
   go_step
   exact HK.out
 · intro a' w' hag hC hd K hK
   have e15:a'.tmps.getD 15 undef=.string t:=hd.1
   go_step
   refine (words_any t M HT.out H2.out).mono ?_
   rintro e w2 ⟨A,c,rfl,h1,h2⟩
   exact hK _ _ ⟨hC.1.trans (h2.mono hC.1.size),hC.2.on h2⟩ h2 ⟨_,_,rfl,h1⟩
 · intro a' w' hag hC hd K hK
   obtain ⟨A13,c13,e13,h13⟩:=hd.1
   have e13:a'.tmps.getD 13 undef=.slice A13 (dig N).length c13:=e13
   obtain ⟨A16,c16,e16,h16⟩:=hd.2.1
   have e16:a'.tmps.getD 16 undef=.slice A16 (dig M).length c16:=e16
   go_step
   refine (divided_any h13 h16 HM0.out (Nat.le_trans KN.out (by decide))).mono ?_
   rintro e w2 ⟨v1,v2,rfl,h1,h2,h3⟩
   exact hK _ _ ⟨hC.1.trans (h3.mono hC.1.size),hC.2.on h3⟩ h3 ⟨_,_,rfl,h1,h2⟩
 · intro a' w' hag hC hd K hK
   obtain ⟨a17,b17,e17,h17,k17⟩:=hd.1
   have e17:a'.tmps.getD 17 undef=.tuple #[a17,b17]:=e17
   go_step
   exact hK _ _ hC (Below.refl _ _) ⟨_,_,rfl,h17,k17⟩
 · intro a' w' hag hC hd K hK
   obtain ⟨a10,b10,e10,h10,k10⟩:=hd.1
   have e10:a'.tmps.getD 10 undef=.tuple #[a10,b10]:=e10
   obtain ⟨A,l,c,rfl⟩:=h10.form
   go_step
   exact hK _ _ hC (Below.refl _ _) ⟨_,_,_,rfl,h10⟩
 · intro a' w' hag hC hd K hK
   obtain ⟨a10,b10,e10,h10,k10⟩:=hd.1
   have e10:a'.tmps.getD 10 undef=.tuple #[a10,b10]:=e10
   obtain ⟨A,l,c,rfl⟩:=k10.form
   go_step
   exact hK _ _ hC (Below.refl _ _) ⟨_,_,_,rfl,k10⟩
 · intro a' w' hag hC hd K hK
   obtain ⟨A18,l18,c18,e18,h18⟩:=hd.1
   have e18:a'.tmps.getD 18 undef=.slice A18 l18 c18:=e18
   go_step
   exact hK _ _ hC ((Below.refl _ _)) ⟨A18,l18,c18,rfl,h18⟩
 · intro u w' hC hall
   obtain ⟨u0,u1,u2,u3,u4,u5,u6,u7,u8,u9,u10,_⟩:=hall
   have u0:u 0=.pointer (some ⟨w0.heap.size,1,none⟩):=u0
   have u1:u 1=.string s:=u1
   have u3:u 3=.pointer (some ⟨w0.heap.size+1,1,none⟩):=u3
   have u4:u 4=.string t:=u4
   obtain ⟨A19,l19,c19,eu9,h19⟩:=u9
   have u9:u 9=.slice A19 l19 c19:=eu9
   obtain ⟨A18,l18,c18,eu10,h18⟩:=u10
   have u10:u 10=.slice A18 l18 c18:=eu10
   simp only [fillR,List.take_succ_cons,List.take_zero,Act.put,List.setIfInBounds_toArray,List.set_cons_succ,List.set_cons_zero,Nat.zero_add,Nat.reduceAdd,u0,u1,u3,u4,u9,u10]
   clear u0 u1 u3 u4 u9 u10
   have HC:=Lib.hid hC
   have HA:=Lib.hid h18
   have HR1:=Lib.hid h19
   rw [HR.out,dig_zero] at HR1
   have hl19:l19=0:=HR1.out.len.1
   subst hl19
   have hAl:l18≤4294967296:=by
    rw [HA.out.len.1]
    exact Nat.le_trans (dig_len_mono _ _ (Nat.div_le_self N M)) (Nat.le_trans KN.out (by decide))
   clear hC h18 h19
   have hc0:=(HC.out.2.get 3 rfl).cell 0 (.bool p) rfl
   have hc1:=(HC.out.2.get 2 rfl).cell 0 (.bool q) rfl
   obtain ⟨x,hx⟩:∃ x,x=(!p==q):=⟨_,rfl⟩
   have HXV:Hid (sg x (N/M)=n/m):=by rw [hx,show (!p==q)=(p != q) by cases p<;>cases q<;>rfl]; exact HV.out
   go_wp2_with fail
   rw [← hx]
   refine (made_any x HA.out hAl).mono ?_
   rintro e w2 ⟨rfl,hb2⟩
   rw [val_dig,HXV.out]
   obtain ⟨a,ha⟩:∃ a,a=decide (n/m<0):=⟨_,rfl⟩
   obtain ⟨u',hu'⟩:∃ u,u=mag (n/m).natAbs:=⟨_,rfl⟩
   have hw:wholeV (n/m)=.agg #[.bool a,.string u']:=by rw [ha,hu']; rfl
   rw [hw]
   have HAA:=Lib.hid ha
   have HUU:=Lib.hid hu'
   have HF2:=Lib.hid (HC.out.2.on hb2)
   have HB2:=Lib.hid (HC.out.1.trans (hb2.mono HC.out.1.size))
   have HR2:=Lib.hid (HR1.out.below hb2)
   clear hc0 hc1 hw ha hu' hb2 hx
   go_wp2_with fail
   refine (made_any false HR2.out (by decide)).mono ?_
   rintro e w3 ⟨rfl,hb3⟩
   rw [show val []=0 from rfl,wholeV_sg0]
   have HF3:=Lib.hid (HF2.out.on hb3)
   have HB3:=Lib.hid (HB2.out.trans (hb3.mono HB2.out.size))
   clear hb3
   have HF4:=Lib.hid ((HF3.out.push w3.heap.size #[.bool a,.string u'] 23 rfl).push (w3.heap.size+1) #[.bool false,.string ⟨#[]⟩] 23 (by simp))
   have HB4:=Lib.hid (below_alloc_ (below_alloc_ HB3.out (.cells #[.bool a,.string u'] 23)) (.cells #[.bool false,.string ⟨#[]⟩] 23))
   have hp0:=(HF4.out.get 5 rfl).cell 0 (.bool p) rfl
   cases p
   all_goals
    go_wp2
    generalize (w3.alloc (.cells #[.bool a,.string u'] 23)).alloc (.cells #[.bool false,.string ⟨#[]⟩] 23)=w4 at HF4 HB4 hp0 ⊢
    have e0:=(HF4.out.get 1 rfl).cell 0 (.bool a) rfl
    have e1:=(HF4.out.get 1 rfl).cell 1 (.string u') rfl
    have f0:=(HF4.out.get 0 rfl).cell 0 (.bool false) rfl
    have f1:=(HF4.out.get 0 rfl).cell 1 (.string ⟨#[]⟩) rfl
    have g0:=(HF4.out.get 3 rfl).cell 0 (.bool false) rfl
    have g1:=(HF4.out.get 3 rfl).cell 1 (.string ⟨#[]⟩) rfl
    have i0:=(HF4.out.get 2 rfl).cell 0 (.bool false) rfl
    have i1:=(HF4.out.get 2 rfl).cell 1 (.string ⟨#[]⟩) rfl
    have fz1:=(HF4.out.get 3 rfl).frozen
    have fz2:=(HF4.out.get 2 rfl).frozen
    have hlt:=HB3.out.size
    have hne1:w3.heap.size≠w0.heap.size+1+1:=by have:=(HF3.out.get 0 rfl).lt; omega
    have hne2:w3.heap.size≠w0.heap.size+1+1+1:=by have:=(HF3.out.get 0 rfl).lt; omega
    have hne3:¬ w3.heap.size=w0.heap.size+1:=by have:=(HF3.out.get 0 rfl).lt; omega
    have hne5:¬ w3.heap.size+1=w0.heap.size+1+1:=by have:=(HF3.out.get 0 rfl).lt; omega
    have hne6:¬ w3.heap.size+1=w0.heap.size+1+1+1:=by have:=(HF3.out.get 0 rfl).lt; omega
    have hk1:=Lib.hid (((((HF4.out.get 3 rfl).set 0 (.bool a)).set 1 (.string u')).other (b:=w0.heap.size+1+1+1) (i:=0) (v:=.bool false) (by omega)).other (b:=w0.heap.size+1+1+1) (i:=1) (v:=.string ⟨#[]⟩) (by omega))
    have hk2:=Lib.hid (((((HF4.out.get 2 rfl).other (b:=w0.heap.size+1+1) (i:=0) (v:=.bool a) (by simp)).other (b:=w0.heap.size+1+1) (i:=1) (v:=.string u') (by simp)).set 0 (.bool false)).set 1 (.string ⟨#[]⟩))
    have hbb:=Lib.hid ((((HB4.out.setCell (p:=⟨w0.heap.size+1+1,0,none⟩) (by simp; omega) (.bool a)).setCell (p:=⟨w0.heap.size+1+1,1,none⟩) (by simp; omega) (.string u')).setCell (p:=⟨w0.heap.size+1+1+1,0,none⟩) (by simp; omega) (.bool false)).setCell (p:=⟨w0.heap.size+1+1+1,1,none⟩) (by simp; omega) (.string ⟨#[]⟩))
    go_region
    generalize (((w4.setCell ⟨w0.heap.size+1+1,0,none⟩ (.bool a)).setCell ⟨w0.heap.size+1+1,1,none⟩ (.string u')).setCell ⟨w0.heap.size+1+1+1,0,none⟩ (.bool false)).setCell ⟨w0.heap.size+1+1+1,1,none⟩ (.string ⟨#[]⟩)=w5 at hk1 hk2 hbb ⊢
    have m0:w5.drew.cell? ⟨w0.heap.size+1+1,0,none⟩=some (.bool a):=BoxAt.cell (w:=w5.drew) hk1.out 0 _ rfl
    have m1:w5.drew.cell? ⟨w0.heap.size+1+1,1,none⟩=some (.string u'):=BoxAt.cell (w:=w5.drew) hk1.out 1 _ rfl
    have m2:w5.drew.cell? ⟨w0.heap.size+1+1+1,0,none⟩=some (.bool false):=BoxAt.cell (w:=w5.drew) hk2.out 0 _ rfl
    have m3:w5.drew.cell? ⟨w0.heap.size+1+1+1,1,none⟩=some (.string ⟨#[]⟩):=BoxAt.cell (w:=w5.drew) hk2.out 1 _ rfl
    clear e0 e1 f0 f1 g0 g1 i0 i1 fz1 fz2 hp0
    go_wp2
    exact bodyPost_ret (v:=.tuple #[.agg #[.bool a,.string u'],.agg #[.bool false,.string ⟨#[]⟩]]) (by simp [results,Tryz.results262,go_sem,m0,m1,m2,m3]) rfl ⟨_,_,rfl,HAA,HUU,hbb.out.drew⟩
end
section
open Go.RowKit
def R3FitsPost (s t:ByteArray) (w:World) (e:Ending) (w':World):Prop:=∃ r,e=.returned (.bool r)∧(r=true↔s.size≤1024∧t.size≤1024)∧Below w.heap.size w w'
set_option maxRecDepth 100000 in
theorem r3fits_any {w:World} (b c:Bool) (s t:ByteArray) :
  Calls Tryz.prog 117 #[.agg #[.bool b,.string s,.bool c,.string t]] w (R3FitsPost s t w):=by
 have HB:=Lib.hid (below_new w (.cells #[.bool b,.string s,.bool c,.string t] 25))
 by_cases h1:s.size≤1024
 · have h1i:(s.size:Int)≤1024:=by omega
   by_cases h2:t.size≤1024
   · have h2i:(t.size:Int)≤1024:=by omega
     go_enter Tryz.func117,Tryz.ntmps117
     go_wp2
     go_ret
     exact ⟨true,rfl,⟨fun _=>⟨h1,h2⟩,fun _=>rfl⟩,HB.out⟩
   · have h2i:(1024:Int)<(t.size:Int):=by omega
     have h2d:decide ((t.size:Int)≤1024)=false:=decide_eq_false (by omega)
     go_enter Tryz.func117,Tryz.ntmps117
     go_wp2
     go_ret
     exact ⟨false,rfl,⟨fun h=>Bool.noConfusion h,fun h=>absurd h.2 h2⟩,HB.out⟩
 · have h1i:(1024:Int)<(s.size:Int):=by omega
   go_enter Tryz.func117,Tryz.ntmps117
   go_wp2
   go_ret
   exact ⟨false,rfl,⟨fun h=>Bool.noConfusion h,fun h=>absurd h.1 h1⟩,HB.out⟩
theorem divInt_parts (n m:Int) (hm:m≠0) (g:Int) (hg:g=if m<0 then -((Nat.gcd n.natAbs m.natAbs:Nat):Int) else ((Nat.gcd n.natAbs m.natAbs:Nat):Int)) :
  g≠0∧g ∣ n∧g ∣ m∧(Rat.divInt n m).num=n/g∧((Rat.divInt n m).den:Int)=m/g:=by
 have hG:0<Nat.gcd n.natAbs m.natAbs:=Nat.gcd_pos_of_pos_right _ (by omega)
 obtain ⟨G,hGG⟩:∃ G:Nat,G=Nat.gcd n.natAbs m.natAbs:=⟨_,rfl⟩
 rw [← hGG] at hg hG
 have d1:(G:Int) ∣ n:=by rw [hGG]; exact Int.ofNat_dvd_left.2 (Nat.gcd_dvd_left _ _)
 have d2:(G:Int) ∣ m:=by rw [hGG]; exact Int.ofNat_dvd_left.2 (Nat.gcd_dvd_right _ _)
 have e1:Int.gcd m n=G:=by rw [hGG,Int.gcd_comm]; rfl
 have h1:=Rat.num_divInt n m
 have h2:=Rat.den_divInt n m
 rw [e1] at h1 h2
 rw [if_neg hm] at h2
 by_cases h:m<0
 · rw [if_pos h] at hg
   subst hg
   refine ⟨by omega,Int.neg_dvd.2 d1,Int.neg_dvd.2 d2,?_,?_⟩
   · rw [h1,Int.sign_eq_neg_one_of_neg h,Int.ediv_neg,show (-1:Int)*n = -n by omega,Int.neg_ediv_of_dvd d1]
   · rw [h2,Int.natCast_ediv,Int.ediv_neg,show ((m.natAbs:Nat):Int) = -m by omega,Int.neg_ediv_of_dvd d2]
 · rw [if_neg h] at hg
   subst hg
   refine ⟨by omega,d1,d2,?_,?_⟩
   · rw [h1,Int.sign_eq_one_of_pos (by omega),Int.one_mul]
   · rw [h2,Int.natCast_ediv,show ((m.natAbs:Nat):Int)=m by omega]
end
section
open Go.RowKit
theorem Frames.set_head {w:World} {g:Nat} {cs:Array Value} {T:TypeId} {l:List (Nat × Array Value × TypeId)} (h:Frames w ((g,cs,T)::l)) (hl:∀ x∈l,x.1≠g) (a u:Value) :
  Frames ((w.setCell ⟨g,0,none⟩ a).setCell ⟨g,1,none⟩ u) ((g,(cs.setIfInBounds 0 a).setIfInBounds 1 u,T)::l):=by
 intro x hx
 rcases List.mem_cons.1 hx with rfl | hx2
 · exact ((h (g,cs,T) (List.mem_cons_self ..)).set 0 a).set 1 u
 · exact ((h x (List.mem_cons_of_mem _ hx2)).other (hl x hx2)).other (hl x hx2)
set_option maxHeartbeats 6400000 in
set_option maxRecDepth 100000 in
theorem r3of_any {w0:World} (p q:Bool) (s t:ByteArray) (n m:Int) (hp:p=decide (n<0)) (hq:q=decide (m<0)) (hs:s=mag n.natAbs) (ht:t=mag m.natAbs) (h1:s.size≤1000000000) (h2:t.size≤1000000000) (hm:m≠0) :
  Calls Tryz.prog 263 #[.agg #[.bool p,.string s],.agg #[.bool q,.string t]] w0 fun e w'=>e=.returned (fracV (Rat.divInt n m))∧Below w0.heap.size w0 w':=by
 have hf1:=(((Frames.nil w0).push w0.heap.size #[.bool p,.string s] 23 rfl).push (w0.heap.size+1) #[.bool q,.string t] 23 (by simp)).push (w0.heap.size+1+1) #[.bool false,.string ⟨#[]⟩,.bool false,.string ⟨#[]⟩] 25 (by simp)
 have HB:=Lib.hid (below_alloc_ (below_alloc_ (below_new w0 (.cells #[.bool p,.string s] 23)) (.cells #[.bool q,.string t] 23)) (.cells #[.bool false,.string ⟨#[]⟩,.bool false,.string ⟨#[]⟩] 25))
 have HF:=Lib.hid hf1
 have HP:=Lib.hid hp
 have HQ:=Lib.hid hq
 have HS:=Lib.hid hs
 have HT:=Lib.hid ht
 have H1:=Lib.hid h1
 have H2:=Lib.hid h2
 have HM:=Lib.hid hm
 obtain ⟨g,hg⟩:∃ g:Int,g=if m<0 then -((Nat.gcd n.natAbs m.natAbs:Nat):Int) else ((Nat.gcd n.natAbs m.natAbs:Nat):Int):=⟨_,rfl⟩
 have HD:=Lib.hid (divInt_parts n m hm g hg)
 have HG:=Lib.hid hg
 have hgsz:(mag g.natAbs).size≤1000000000:=by
  have e:g.natAbs=Nat.gcd n.natAbs m.natAbs:=by
   rw [hg]
   split
   · rw [Int.natAbs_neg,Int.natAbs_natCast]
   · rw [Int.natAbs_natCast]
  rw [e]
  exact mag_mono (Nat.gcd_le_right _ (by omega)) (by rw [← ht]; exact h2)
 have HGS:=Lib.hid hgsz
 clear hp hq hs ht h1 h2 hm hf1 hg hgsz
 have hc0:=(HF.out.get 2 rfl).cell 0 (.bool p) rfl
 go_enter Tryz.func263,Tryz.ntmps263
 clear hc0
 go_wp2_with fail
 refine (rgcd_any p q s t n.natAbs m.natAbs HS.out HT.out H1.out H2.out).mono ?_
 rintro e w1 ⟨gs,rfl,hgs,hb⟩
 have HGG:=Lib.hid hgs
 have HF1:=Lib.hid ((HF.out.on hb).push w1.heap.size #[.bool false,.string gs] 23 rfl)
 have HB1:=Lib.hid (below_alloc_ (HB.out.trans (hb.mono HB.out.size)) (.cells #[.bool false,.string gs] 23))
 have hsz1:w0.heap.size+1+1<w1.heap.size:=((HF.out.on hb).get 0 rfl).lt
 have hc2:=(HF1.out.get 2 rfl).cell 0 (.bool q) rfl
 have hc3:=(HF1.out.get 2 rfl).cell 1 (.string t) rfl
 clear hb hgs
 go_wp2_with fail
 refine (rsign_any q t m HQ.out HT.out).mono ?_
 rintro e w2 ⟨rfl,hb⟩
 have HF2:=Lib.hid (HF1.out.on hb)
 have HB2:=Lib.hid (HB1.out.trans (hb.mono HB1.out.size))
 clear hb hc2 hc3
 obtain ⟨sg0,hsg⟩:∃ x,x=m.sign:=⟨_,rfl⟩
 rw [← hsg]
 have HSG:=Lib.hid hsg
 clear hsg
 have hn1:¬ w1.heap.size=w0.heap.size:=by omega
 have hn2:¬ w1.heap.size=w0.heap.size+1:=by omega
 have hn3:¬ w1.heap.size=w0.heap.size+1+1:=by omega
 have key:∀ (w3:World) (ga:Bool) (gu:ByteArray),Hid (ga=decide (g<0))→Hid (gu=mag g.natAbs)→Hid (Frames w3 [(w1.heap.size,#[.bool ga,.string gu],23),(w0.heap.size+1+1,#[.bool false,.string ⟨#[]⟩,.bool false,.string ⟨#[]⟩],25),(w0.heap.size+1,#[.bool q,.string t],23),(w0.heap.size,#[.bool p,.string s],23)])→True:=fun _ _ _ _ _ _=>trivial
 clear key
 by_cases hneg:sg0<0
 · have HMN:Hid (m<0):=by have:=HSG.out; rw [this] at hneg; exact Int.sign_neg_iff.1 hneg
   have hd0:=(HF2.out.get 0 rfl).cell 0 (.bool false) rfl
   have hd1:=(HF2.out.get 0 rfl).cell 1 (.string gs) rfl
   go_wp2_with fail
   refine (rneg_any false gs ((Nat.gcd n.natAbs m.natAbs:Nat):Int) (by simp) (by rw [Int.natAbs_natCast]; exact HGG.out)).mono ?_
   rintro e w3 ⟨ga,gu,rfl,hga,hgu,hb⟩
   have HGA:Hid (ga=decide (g<0)):=by rw [Hid,HG.out,if_pos HMN.out]; exact hga.out
   have HGU:Hid (gu=mag g.natAbs):=by rw [Hid,HG.out,if_pos HMN.out]; exact hgu.out
   have hf3:=HF2.out.on hb
   have hx0:=(hf3.get 3 rfl).cell 0 (.bool p) rfl
   have hx1:=(hf3.get 3 rfl).cell 1 (.string s) rfl
   have hx2:=(hf3.get 0 rfl).cell 0 (.bool false) rfl
   have hx3:=(hf3.get 0 rfl).cell 1 (.string gs) rfl
   have hfz:=(hf3.get 0 rfl).frozen
   have HF3:Hid (Frames ((w3.setCell ⟨w1.heap.size,0,none⟩ (.bool ga)).setCell ⟨w1.heap.size,1,none⟩ (.string gu)) [(w1.heap.size,#[.bool ga,.string gu],23),(w0.heap.size+1+1,#[.bool false,.string ⟨#[]⟩,.bool false,.string ⟨#[]⟩],25),(w0.heap.size+1,#[.bool q,.string t],23),(w0.heap.size,#[.bool p,.string s],23)]):=hf3.set_head (fun x hx=>by simp at hx; rcases hx with rfl | rfl | rfl<;>simp<;>omega) (.bool ga) (.string gu)
   have HB3:=Lib.hid (below_put2 (HB2.out.trans (hb.mono HB2.out.size)) (show w0.heap.size≤w1.heap.size by omega) (.bool ga) (.string gu))
   clear hb hd0 hd1 hga hgu hf3
   go_wp2_with fail
   generalize (w3.setCell ⟨w1.heap.size,0,none⟩ (.bool ga)).setCell ⟨w1.heap.size,1,none⟩ (.string gu)=w4 at HF3 HB3 ⊢
   clear hx0 hx1 hx2 hx3 hfz
   refine (rdivmod_exact p ga s gu n g HP.out HGA.out HS.out HGU.out H1.out (by rw [HGU.out]; exact HGS.out) HD.out.1 HD.out.2.1).mono ?_
   rintro e w5 ⟨a1,u1,rfl,ha1,hu1,hb⟩
   have HF5:=Lib.hid (((HF3.out.on hb).push w5.heap.size #[.bool a1,.string u1] 23 rfl).push (w5.heap.size+1) #[.bool false,.string ⟨#[]⟩] 23 (by simp))
   have HB5:=Lib.hid (below_alloc_ (below_alloc_ (HB3.out.trans (hb.mono HB3.out.size)) (.cells #[.bool a1,.string u1] 23)) (.cells #[.bool false,.string ⟨#[]⟩] 23))
   have hx0:=(HF5.out.get 4 rfl).cell 0 (.bool q) rfl
   have hx1:=(HF5.out.get 4 rfl).cell 1 (.string t) rfl
   have hx2:=(HF5.out.get 2 rfl).cell 0 (.bool ga) rfl
   have hx3:=(HF5.out.get 2 rfl).cell 1 (.string gu) rfl
   clear hb
   go_wp2_with fail
   refine (rdivmod_exact q ga t gu m g HQ.out HGA.out HT.out HGU.out H2.out (by rw [HGU.out]; exact HGS.out) HD.out.1 HD.out.2.2.1).mono ?_
   rintro e w6 ⟨a2,u2,rfl,ha2,hu2,hb⟩
   have HF6:=Lib.hid (((HF5.out.on hb).push w6.heap.size #[.bool a2,.string u2] 23 rfl).push (w6.heap.size+1) #[.bool false,.string ⟨#[]⟩] 23 (by simp))
   have HB6:=Lib.hid (below_alloc_ (below_alloc_ (HB5.out.trans (hb.mono HB5.out.size)) (.cells #[.bool a2,.string u2] 23)) (.cells #[.bool false,.string ⟨#[]⟩] 23))
   clear hb hx0 hx1 hx2 hx3
   have ha2f:a2=false:=by
    rw [ha2.out,← HD.out.2.2.2.2]
    simp
   subst ha2f
   have HVAL:Hid ((Value.agg #[.bool a1,.string u1,.bool false,.string u2])=fracV (Rat.divInt n m)):=by
    rw [Hid,fracV,HD.out.2.2.2.1,← ha1.out,← hu1.out]
    congr 4
    have h:=hu2.out
    rw [← HD.out.2.2.2.2,Int.natAbs_natCast] at h
    rw [h]
   have hy0:=(HF6.out.get 3 rfl).cell 0 (.bool a1) rfl
   have hy1:=(HF6.out.get 3 rfl).cell 1 (.string u1) rfl
   have hy2:=(HF6.out.get 1 rfl).cell 0 (.bool false) rfl
   have hy3:=(HF6.out.get 1 rfl).cell 1 (.string u2) rfl
   have hp0:=(HF6.out.get 5 rfl).cell 0 _ rfl
   have hp1:=(HF6.out.get 5 rfl).cell 1 _ rfl
   have hp2:=(HF6.out.get 5 rfl).cell 2 _ rfl
   have hp3:=(HF6.out.get 5 rfl).cell 3 _ rfl
   have hf:=(HF6.out.get 5 rfl).frozen
   go_wp2
   have hk:=(HF6.out.get 5 rfl).put4 (.bool a1) (.string u1) (.bool false) (.string u2)
   have k0:=hk.cell 0 _ rfl
   have k1:=hk.cell 1 _ rfl
   have k2:=hk.cell 2 _ rfl
   have k3:=hk.cell 3 _ rfl
   exact bodyPost_ret (v:=.agg #[.bool a1,.string u1,.bool false,.string u2]) (by simp [results,Tryz.results263,go_sem,k0,k1,k2,k3]) rfl ⟨by rw [HVAL.out],below_put4 HB6.out (by omega) _ _ _ _⟩
 · have hneg2:¬ sg0<0:=hneg
   have HMN:Hid (¬ m<0):=fun h=>hneg (by rw [HSG.out]; exact Int.sign_neg_iff.2 h)
   obtain ⟨ga,hga⟩:∃ ga,ga=false:=⟨_,rfl⟩
   have HGA:Hid (ga=decide (g<0)):=by rw [Hid,HG.out,if_neg HMN.out,hga]; simp
   have HGU:Hid (gs=mag g.natAbs):=by rw [Hid,HG.out,if_neg HMN.out,Int.natAbs_natCast]; exact HGG.out
   rw [← hga] at HF2
   obtain ⟨gu,hgu⟩:∃ gu,gu=gs:=⟨_,rfl⟩
   rw [← hgu] at HF2 HGU
   have hx0:=(HF2.out.get 3 rfl).cell 0 (.bool p) rfl
   have hx1:=(HF2.out.get 3 rfl).cell 1 (.string s) rfl
   have hx2:=(HF2.out.get 0 rfl).cell 0 (.bool ga) rfl
   have hx3:=(HF2.out.get 0 rfl).cell 1 (.string gu) rfl
   have HF3:=HF2
   have HB3:=HB2
   clear hga hgu
   go_wp2_with fail
   obtain ⟨w4,hw4⟩:∃ w4,w4=w2:=⟨_,rfl⟩
   rw [← hw4] at HF3 HB3 ⊢
   clear hx0 hx1 hx2 hx3 hw4
   refine (rdivmod_exact p ga s gu n g HP.out HGA.out HS.out HGU.out H1.out (by rw [HGU.out]; exact HGS.out) HD.out.1 HD.out.2.1).mono ?_
   rintro e w5 ⟨a1,u1,rfl,ha1,hu1,hb⟩
   have HF5:=Lib.hid (((HF3.out.on hb).push w5.heap.size #[.bool a1,.string u1] 23 rfl).push (w5.heap.size+1) #[.bool false,.string ⟨#[]⟩] 23 (by simp))
   have HB5:=Lib.hid (below_alloc_ (below_alloc_ (HB3.out.trans (hb.mono HB3.out.size)) (.cells #[.bool a1,.string u1] 23)) (.cells #[.bool false,.string ⟨#[]⟩] 23))
   have hx0:=(HF5.out.get 4 rfl).cell 0 (.bool q) rfl
   have hx1:=(HF5.out.get 4 rfl).cell 1 (.string t) rfl
   have hx2:=(HF5.out.get 2 rfl).cell 0 (.bool ga) rfl
   have hx3:=(HF5.out.get 2 rfl).cell 1 (.string gu) rfl
   clear hb
   go_wp2_with fail
   refine (rdivmod_exact q ga t gu m g HQ.out HGA.out HT.out HGU.out H2.out (by rw [HGU.out]; exact HGS.out) HD.out.1 HD.out.2.2.1).mono ?_
   rintro e w6 ⟨a2,u2,rfl,ha2,hu2,hb⟩
   have HF6:=Lib.hid (((HF5.out.on hb).push w6.heap.size #[.bool a2,.string u2] 23 rfl).push (w6.heap.size+1) #[.bool false,.string ⟨#[]⟩] 23 (by simp))
   have HB6:=Lib.hid (below_alloc_ (below_alloc_ (HB5.out.trans (hb.mono HB5.out.size)) (.cells #[.bool a2,.string u2] 23)) (.cells #[.bool false,.string ⟨#[]⟩] 23))
   clear hb hx0 hx1 hx2 hx3
   have ha2f:a2=false:=by
    rw [ha2.out,← HD.out.2.2.2.2]
    simp
   subst ha2f
   have HVAL:Hid ((Value.agg #[.bool a1,.string u1,.bool false,.string u2])=fracV (Rat.divInt n m)):=by
    rw [Hid,fracV,HD.out.2.2.2.1,← ha1.out,← hu1.out]
    congr 4
    have h:=hu2.out
    rw [← HD.out.2.2.2.2,Int.natAbs_natCast] at h
    rw [h]
   have hy0:=(HF6.out.get 3 rfl).cell 0 (.bool a1) rfl
   have hy1:=(HF6.out.get 3 rfl).cell 1 (.string u1) rfl
   have hy2:=(HF6.out.get 1 rfl).cell 0 (.bool false) rfl
   have hy3:=(HF6.out.get 1 rfl).cell 1 (.string u2) rfl
   have hp0:=(HF6.out.get 5 rfl).cell 0 _ rfl
   have hp1:=(HF6.out.get 5 rfl).cell 1 _ rfl
   have hp2:=(HF6.out.get 5 rfl).cell 2 _ rfl
   have hp3:=(HF6.out.get 5 rfl).cell 3 _ rfl
   have hf:=(HF6.out.get 5 rfl).frozen
   go_wp2
   have hk:=(HF6.out.get 5 rfl).put4 (.bool a1) (.string u1) (.bool false) (.string u2)
   have k0:=hk.cell 0 _ rfl
   have k1:=hk.cell 1 _ rfl
   have k2:=hk.cell 2 _ rfl
   have k3:=hk.cell 3 _ rfl
   exact bodyPost_ret (v:=.agg #[.bool a1,.string u1,.bool false,.string u2]) (by simp [results,Tryz.results263,go_sem,k0,k1,k2,k3]) rfl ⟨by rw [HVAL.out],below_put4 HB6.out (by omega) _ _ _ _⟩
end
end Go.Proofs.YtmfedaakeeiolaaGreat
end
section
namespace Go.Proofs.YtmfedaakeeiolaaGreat
open Go.RowKit
def WPost (k:Int) (w0:World) (e:Ending) (w':World):Prop:=∃ a u,e=.returned (.agg #[.bool a,.string u])∧Hid (a=decide (k<0))∧Hid (u=mag k.natAbs)∧Below w0.heap.size w0 w'
theorem len_mul {N M:Nat} (h1:(dig N).length≤250000001) (h2:(dig M).length≤250000001):(dig (N*M)).length≤500000002:=by
 refine Nat.le_trans (dig_len_le _ ((dig N).length+(dig M).length) ?_) (by omega)
 rw [Nat.pow_add]
 exact Nat.mul_lt_mul'' (dig_lt N) (dig_lt M)
theorem len_addk {N M k:Nat} (h1:(dig N).length≤k) (h2:(dig M).length≤k):(dig (N+M)).length≤k+1:=by
 refine Nat.le_trans (dig_len_le _ (k+1) ?_) (Nat.le_refl _)
 have a:=Nat.lt_of_lt_of_le (dig_lt N) (Nat.pow_le_pow_right (by decide) h1)
 have b:=Nat.lt_of_lt_of_le (dig_lt M) (Nat.pow_le_pow_right (by decide) h2)
 rw [Nat.pow_succ]
 omega
theorem len_add {N M:Nat} (h1:(dig N).length≤250000001) (h2:(dig M).length≤250000001):(dig (N+M)).length≤250000002:=len_addk h1 h2
theorem sg_times {n m:Int} {p q:Bool} (hp:p=decide (n<0)) (hq:q=decide (m<0)):sg (!p==q) (n.natAbs*m.natAbs)=n*m:=by
 rw [← sg_mul n m,hp,hq]
 congr 1
set_option maxHeartbeats 6400000 in
set_option maxRecDepth 100000 in
theorem rtimes_any {w0:World} (p q:Bool) (s t:ByteArray) (n m:Int) (hp:p=decide (n<0)) (hq:q=decide (m<0)) (hs:s=mag n.natAbs) (ht:t=mag m.natAbs) (h1:s.size≤1000000000) (h2:t.size≤1000000000) :
  Calls Tryz.prog 120 #[.agg #[.bool p,.string s],.agg #[.bool q,.string t]] w0 (WPost (n*m) w0):=by
 have hf1:=(((Frames.nil w0).push w0.heap.size #[.bool p,.string s] 23 rfl).push (w0.heap.size+1) #[.bool q,.string t] 23 (by simp)).push (w0.heap.size+1+1) #[.bool false,.string ⟨#[]⟩] 23 (by simp)
 have HB:=Lib.hid (below_alloc_ (below_alloc_ (below_new w0 (.cells #[.bool p,.string s] 23)) (.cells #[.bool q,.string t] 23)) (.cells #[.bool false,.string ⟨#[]⟩] 23))
 have HF:=Lib.hid hf1
 obtain ⟨N,hN⟩:∃ N,N=n.natAbs:=⟨_,rfl⟩
 obtain ⟨M,hM⟩:∃ M,M=m.natAbs:=⟨_,rfl⟩
 rw [← hN] at hs
 rw [← hM] at ht
 have HS:=Lib.hid hs
 have HT:=Lib.hid ht
 have HP:=Lib.hid hp
 have HQ:=Lib.hid hq
 have HN:=Lib.hid hN
 have HM:=Lib.hid hM
 have KN:Hid ((dig N).length≤250000001):=len_mag hs h1
 have KM:Hid ((dig M).length≤250000001):=len_mag ht h2
 have H1:Hid (s.size≤4294967296):=Nat.le_trans h1 (by decide)
 have H2:Hid (t.size≤4294967296):=Nat.le_trans h2 (by decide)
 obtain ⟨ra,hra⟩:∃ a,a=decide (n*m<0):=⟨_,rfl⟩
 obtain ⟨ru,hru⟩:∃ u,u=mag (n*m).natAbs:=⟨_,rfl⟩
 have HRES:Hid ((Value.agg #[.bool ra,.string ru])=wholeV (n*m)):=by rw [hra,hru]; rfl
 have HRA:=Lib.hid hra
 have HRU:=Lib.hid hru
 clear hra hru
 clear hs ht hp hq h1 h2 hf1 hN hM
 have HV:Hid (sg (!p==q) (N*M)=n*m):=by rw [Hid,HN.out,HM.out]; exact sg_times HP.out HQ.out
 go_enter Tryz.func120,Tryz.ntmps120
 go_wp2
 generalize ((w0.alloc (.cells #[.bool p,.string s] 23)).alloc (.cells #[.bool q,.string t] 23)).alloc (.cells #[.bool false,.string ⟨#[]⟩] 23)=w1 at HB HF ⊢
 refine wp_region_acts 13 (fun w'=>Below w0.heap.size w0 w'∧Frames w' [(w0.heap.size+1+1,#[.bool false,.string ⟨#[]⟩],23),(w0.heap.size+1,#[.bool q,.string t],23),(w0.heap.size,#[.bool p,.string s],23)]) (fun w w'=>Below w.heap.size w w') (fun i w v=>match i with
   | 0=>v=.pointer (some ⟨w0.heap.size,0,none⟩)
   | 1=>v=.bool p
   | 2=>v=.pointer (some ⟨w0.heap.size+1,0,none⟩)
   | 3=>v=.bool q
   | 4=>v=.bool (!p==q)
   | 5=>v=.pointer (some ⟨w0.heap.size,1,none⟩)
   | 6=>v=.string s
   | 7=>∃ A c,v=.slice A (dig N).length c∧Words w (.slice A (dig N).length c) (dig N)
   | 8=>v=.pointer (some ⟨w0.heap.size+1,1,none⟩)
   | 9=>v=.string t
   | 10=>∃ A c,v=.slice A (dig M).length c∧Words w (.slice A (dig M).length c) (dig M)
   | 11=>∃ A l c,v=.slice A l c∧Words w (.slice A l c) (dig (N*M))
   | _=>v=.agg #[.bool ra,.string ru]) (by kernel_rfl) (by kernel_rfl) (by kernel_rfl) ⟨HB.out.drew,HF.out.on (Below.drew (Below.refl _ _))⟩ (fun _ _=>(Below.refl _ _)) ?_ ⟨?_,?_,?_,?_,?_,?_,?_,?_,?_,?_,?_,?_,?_,trivial⟩ ?_
 · intro i w1 w2 v hC hC2 hE hV
   match i with
   | 0=>exact hV
   | 1=>exact hV
   | 2=>exact hV
   | 3=>exact hV
   | 4=>exact hV
   | 5=>exact hV
   | 6=>exact hV
   | 7=>obtain ⟨A,c,e,h⟩:=hV; exact ⟨A,c,e,h.below hE⟩
   | 8=>exact hV
   | 9=>exact hV
   | 10=>obtain ⟨A,c,e,h⟩:=hV; exact ⟨A,c,e,h.below hE⟩
   | 11=>obtain ⟨A,l,c,e,h⟩:=hV; exact ⟨A,l,c,e,h.below hE⟩
   | _+12=>exact hV
 · intro a' w' hag hC hd K hK
   have e2:a'.tmps.getD 2 undef=.pointer (some ⟨w0.heap.size,0,none⟩):=hag 2 rfl
   go_step
   exact hK _ _ hC ((Below.refl _ _)) rfl
 · intro a' w' hag hC hd K hK
   have e5:a'.tmps.getD 5 undef=.pointer (some ⟨w0.heap.size,0,none⟩):=hd.1
   have hc0:=(hC.2.get 2 rfl).cell 0 (.bool p) rfl
   have HK:=Lib.hid (hK (.bool p) _ hC (Below.refl _ _) rfl)
   clear hK hC
   go_step
   exact HK.out
 · intro a' w' hag hC hd K hK
   have e3:a'.tmps.getD 3 undef=.pointer (some ⟨w0.heap.size+1,0,none⟩):=hag 3 rfl
   go_step
   exact hK _ _ hC ((Below.refl _ _)) rfl
 · intro a' w' hag hC hd K hK
   have e7:a'.tmps.getD 7 undef=.pointer (some ⟨w0.heap.size+1,0,none⟩):=hd.1
   have hc0:=(hC.2.get 1 rfl).cell 0 (.bool q) rfl
   have HK:=Lib.hid (hK (.bool q) _ hC (Below.refl _ _) rfl)
   clear hK hC
   go_step
   exact HK.out
 · intro a' w' hag hC hd K hK
   have e6:a'.tmps.getD 6 undef=.bool p:=hd.1
   have e8:a'.tmps.getD 8 undef=.bool q:=hd.2.1
   go_step
   exact hK _ _ hC ((Below.refl _ _)) rfl
 · intro a' w' hag hC hd K hK
   have e2:a'.tmps.getD 2 undef=.pointer (some ⟨w0.heap.size,0,none⟩):=hag 2 rfl
   go_step
   exact hK _ _ hC ((Below.refl _ _)) rfl
 · intro a' w' hag hC hd K hK
   have e10:a'.tmps.getD 10 undef=.pointer (some ⟨w0.heap.size,1,none⟩):=hd.1
   have hc0:=(hC.2.get 2 rfl).cell 1 (.string s) rfl
   have HK:=Lib.hid (hK (.string s) _ hC (Below.refl _ _) rfl)
   clear hK hC
   go_step
   exact HK.out
 · intro a' w' hag hC hd K hK
   have e11:a'.tmps.getD 11 undef=.string s:=hd.1
   go_step
   refine (words_any s N HS.out H1.out).mono ?_
   rintro e w2 ⟨A,c,rfl,h1,h2⟩
   exact hK _ _ ⟨hC.1.trans (h2.mono hC.1.size),hC.2.on h2⟩ h2 ⟨_,_,rfl,h1⟩
 · intro a' w' hag hC hd K hK
   have e3:a'.tmps.getD 3 undef=.pointer (some ⟨w0.heap.size+1,0,none⟩):=hag 3 rfl
   go_step
   exact hK _ _ hC ((Below.refl _ _)) rfl
 · intro a' w' hag hC hd K hK
   have e13:a'.tmps.getD 13 undef=.pointer (some ⟨w0.heap.size+1,1,none⟩):=hd.1
   have hc0:=(hC.2.get 1 rfl).cell 1 (.string t) rfl
   have HK:=Lib.hid (hK (.string t) _ hC (Below.refl _ _) rfl)
   clear hK hC
   go_step
   exact HK.out
 · intro a' w' hag hC hd K hK
   have e14:a'.tmps.getD 14 undef=.string t:=hd.1
   go_step
   refine (words_any t M HT.out H2.out).mono ?_
   rintro e w2 ⟨A,c,rfl,h1,h2⟩
   exact hK _ _ ⟨hC.1.trans (h2.mono hC.1.size),hC.2.on h2⟩ h2 ⟨_,_,rfl,h1⟩
 · intro a' w' hag hC hd K hK
   obtain ⟨A12,c12,e12,h12⟩:=hd.1
   have e12:a'.tmps.getD 12 undef=.slice A12 (dig N).length c12:=e12
   obtain ⟨A15,c15,e15,h15⟩:=hd.2.1
   have e15:a'.tmps.getD 15 undef=.slice A15 (dig M).length c15:=e15
   go_step
   refine (rproduct_any h12 h15 (Nat.le_trans KN.out (by decide)) (Nat.le_trans KM.out (by decide))).mono ?_
   rintro e w2 ⟨v,rfl,h1,h2⟩
   rw [val_dig,val_dig] at h1
   obtain ⟨A,l,c,rfl⟩:=h1.form
   exact hK _ _ ⟨hC.1.trans (h2.mono hC.1.size),hC.2.on h2⟩ h2 ⟨_,_,_,rfl,h1⟩
 · intro a' w' hag hC hd K hK
   have e9:a'.tmps.getD 9 undef=.bool (!p==q):=hd.1
   obtain ⟨A16,l16,c16,e16,h16⟩:=hd.2.1
   have e16:a'.tmps.getD 16 undef=.slice A16 l16 c16:=e16
   go_step
   refine (made_any (!p==q) h16 (by rw [h16.len.1]; exact Nat.le_trans (len_mul KN.out KM.out) (by decide))).mono ?_
   rintro e w2 ⟨rfl,hb⟩
   rw [val_dig,HV.out,← HRES.out]
   exact hK _ _ ⟨hC.1.trans (hb.mono hC.1.size),hC.2.on hb⟩ hb rfl
 · intro u w' hC hall
   obtain ⟨u0,u1,u2,u3,u4,u5,u6,u7,u8,u9,u10,u11,u12,_⟩:=hall
   have u0:u 0=.pointer (some ⟨w0.heap.size,0,none⟩):=u0
   have u1:u 1=.bool p:=u1
   have u2:u 2=.pointer (some ⟨w0.heap.size+1,0,none⟩):=u2
   have u3:u 3=.bool q:=u3
   have u4:u 4=.bool (!p==q):=u4
   have u5:u 5=.pointer (some ⟨w0.heap.size,1,none⟩):=u5
   have u6:u 6=.string s:=u6
   have u8:u 8=.pointer (some ⟨w0.heap.size+1,1,none⟩):=u8
   have u9:u 9=.string t:=u9
   have u12:u 12=.agg #[.bool ra,.string ru]:=u12
   simp only [fillR,List.take_succ_cons,List.take_zero,Act.put,List.setIfInBounds_toArray,List.set_cons_succ,List.set_cons_zero,Nat.zero_add,Nat.reduceAdd,u0,u1,u2,u3,u4,u5,u6,u8,u9,u12]
   clear u0 u1 u2 u3 u4 u5 u6 u8 u9 u12
   have HB9:=Lib.hid hC.1
   have HX9:=Lib.hid (hC.2.get 0 rfl)
   clear hC
   have hp0:=HX9.out.cell 0 _ rfl
   have hp1:=HX9.out.cell 1 _ rfl
   have hf:=HX9.out.frozen
   go_wp2
   have hk:=(HX9.out.set 0 (.bool ra)).set 1 (.string ru)
   have k0:=hk.cell 0 _ rfl
   have k1:=hk.cell 1 _ rfl
   exact bodyPost_ret (v:=.agg #[.bool ra,.string ru]) (by simp [results,Tryz.results120,go_sem,k0,k1]) rfl ⟨_,_,rfl,HRA,HRU,below_put2 HB9.out (by omega) _ _⟩
theorem plus_same {n m:Int} {p:Bool} (hp:p=decide (n<0)) (hq:p=decide (m<0)):sg p (n.natAbs+m.natAbs)=n+m:=by
 cases p
 · have h1:¬ n<0:=of_decide_eq_false hp.symm
   have h2:¬ m<0:=of_decide_eq_false hq.symm
   simp [sg]; omega
 · have h1:n<0:=of_decide_eq_true hp.symm
   have h2:m<0:=of_decide_eq_true hq.symm
   simp [sg]; omega
theorem plus_diff {n m:Int} {p q:Bool} (hp:p=decide (n<0)) (hq:q=decide (m<0)) (hpq:p≠q):(m.natAbs≤n.natAbs→sg p (n.natAbs-m.natAbs)=n+m)∧(n.natAbs<m.natAbs→sg q (m.natAbs-n.natAbs)=n+m):=by
 cases p<;>cases q
 · exact absurd rfl hpq
 · have h1:¬ n<0:=of_decide_eq_false hp.symm
   have h2:m<0:=of_decide_eq_true hq.symm
   constructor<;>intro h<;>simp [sg]<;>omega
 · have h1:n<0:=of_decide_eq_true hp.symm
   have h2:¬ m<0:=of_decide_eq_false hq.symm
   constructor<;>intro h<;>simp [sg]<;>omega
 · exact absurd rfl hpq
set_option maxHeartbeats 6400000 in
set_option maxRecDepth 100000 in
theorem rplus_any {w0:World} (p q:Bool) (s t:ByteArray) (n m:Int) (hp:p=decide (n<0)) (hq:q=decide (m<0)) (hs:s=mag n.natAbs) (ht:t=mag m.natAbs) (h1:s.size≤1000000000) (h2:t.size≤1000000000) :
  Calls Tryz.prog 264 #[.agg #[.bool p,.string s],.agg #[.bool q,.string t]] w0 (WPost (n+m) w0):=by
 have hf1:=(((Frames.nil w0).push w0.heap.size #[.bool p,.string s] 23 rfl).push (w0.heap.size+1) #[.bool q,.string t] 23 (by simp)).push (w0.heap.size+1+1) #[.bool false,.string ⟨#[]⟩] 23 (by simp)
 have HB:=Lib.hid (below_alloc_ (below_alloc_ (below_new w0 (.cells #[.bool p,.string s] 23)) (.cells #[.bool q,.string t] 23)) (.cells #[.bool false,.string ⟨#[]⟩] 23))
 have HF:=Lib.hid hf1
 obtain ⟨N,hN⟩:∃ N,N=n.natAbs:=⟨_,rfl⟩
 obtain ⟨M,hM⟩:∃ M,M=m.natAbs:=⟨_,rfl⟩
 rw [← hN] at hs
 rw [← hM] at ht
 have HS:=Lib.hid hs
 have HT:=Lib.hid ht
 have HP:=Lib.hid hp
 have HQ:=Lib.hid hq
 have HN:=Lib.hid hN
 have HM:=Lib.hid hM
 have KN:Hid ((dig N).length≤250000001):=len_mag hs h1
 have KM:Hid ((dig M).length≤250000001):=len_mag ht h2
 have H1:Hid (s.size≤4294967296):=Nat.le_trans h1 (by decide)
 have H2:Hid (t.size≤4294967296):=Nat.le_trans h2 (by decide)
 obtain ⟨ra,hra⟩:∃ a,a=decide (n+m<0):=⟨_,rfl⟩
 obtain ⟨ru,hru⟩:∃ u,u=mag (n+m).natAbs:=⟨_,rfl⟩
 have HRES:Hid ((Value.agg #[.bool ra,.string ru])=wholeV (n+m)):=by rw [hra,hru]; rfl
 have HRA:=Lib.hid hra
 have HRU:=Lib.hid hru
 clear hra hru
 clear hs ht hp hq h1 h2 hf1 hN hM
 go_enter Tryz.func264,Tryz.ntmps264
 go_wp2
 generalize ((w0.alloc (.cells #[.bool p,.string s] 23)).alloc (.cells #[.bool q,.string t] 23)).alloc (.cells #[.bool false,.string ⟨#[]⟩] 23)=w1 at HB HF ⊢
 refine wp_region_acts 6 (fun w'=>Below w0.heap.size w0 w'∧Frames w' [(w0.heap.size+1+1,#[.bool false,.string ⟨#[]⟩],23),(w0.heap.size+1,#[.bool q,.string t],23),(w0.heap.size,#[.bool p,.string s],23)]) (fun w w'=>Below w.heap.size w w') (fun i w v=>match i with
   | 0=>v=.pointer (some ⟨w0.heap.size,1,none⟩)
   | 1=>v=.string s
   | 2=>∃ A c,v=.slice A (dig N).length c∧Words w (.slice A (dig N).length c) (dig N)
   | 3=>v=.pointer (some ⟨w0.heap.size+1,1,none⟩)
   | 4=>v=.string t
   | _=>∃ A c,v=.slice A (dig M).length c∧Words w (.slice A (dig M).length c) (dig M)) (by kernel_rfl) (by kernel_rfl) (by kernel_rfl) ⟨HB.out.drew,HF.out.on (Below.drew (Below.refl _ _))⟩ (fun _ _=>(Below.refl _ _)) ?_ ⟨?_,?_,?_,?_,?_,?_,trivial⟩ ?_
 · intro i w1 w2 v hC hC2 hE hV
   match i with
   | 0=>exact hV
   | 1=>exact hV
   | 2=>obtain ⟨A,c,e,h⟩:=hV; exact ⟨A,c,e,h.below hE⟩
   | 3=>exact hV
   | 4=>exact hV
   | _+5=>obtain ⟨A,c,e,h⟩:=hV; exact ⟨A,c,e,h.below hE⟩
 · intro a' w' hag hC hd K hK
   have e2:a'.tmps.getD 2 undef=.pointer (some ⟨w0.heap.size,0,none⟩):=hag 2 rfl
   go_step
   exact hK _ _ hC ((Below.refl _ _)) rfl
 · intro a' w' hag hC hd K hK
   have e7:a'.tmps.getD 7 undef=.pointer (some ⟨w0.heap.size,1,none⟩):=hd.1
   have hc0:=(hC.2.get 2 rfl).cell 1 (.string s) rfl
   have HK:=Lib.hid (hK (.string s) _ hC (Below.refl _ _) rfl)
   clear hK hC
   go_step
   exact HK.out
 · intro a' w' hag hC hd K hK
   have e8:a'.tmps.getD 8 undef=.string s:=hd.1
   go_step
   refine (words_any s N HS.out H1.out).mono ?_
   rintro e w2 ⟨A,c,rfl,h1,h2⟩
   exact hK _ _ ⟨hC.1.trans (h2.mono hC.1.size),hC.2.on h2⟩ h2 ⟨_,_,rfl,h1⟩
 · intro a' w' hag hC hd K hK
   have e3:a'.tmps.getD 3 undef=.pointer (some ⟨w0.heap.size+1,0,none⟩):=hag 3 rfl
   go_step
   exact hK _ _ hC ((Below.refl _ _)) rfl
 · intro a' w' hag hC hd K hK
   have e10:a'.tmps.getD 10 undef=.pointer (some ⟨w0.heap.size+1,1,none⟩):=hd.1
   have hc0:=(hC.2.get 1 rfl).cell 1 (.string t) rfl
   have HK:=Lib.hid (hK (.string t) _ hC (Below.refl _ _) rfl)
   clear hK hC
   go_step
   exact HK.out
 · intro a' w' hag hC hd K hK
   have e11:a'.tmps.getD 11 undef=.string t:=hd.1
   go_step
   refine (words_any t M HT.out H2.out).mono ?_
   rintro e w2 ⟨A,c,rfl,h1,h2⟩
   exact hK _ _ ⟨hC.1.trans (h2.mono hC.1.size),hC.2.on h2⟩ h2 ⟨_,_,rfl,h1⟩
 · intro u w' hC hall
   obtain ⟨u0,u1,u2,u3,u4,u5,_⟩:=hall
   have u0:u 0=.pointer (some ⟨w0.heap.size,1,none⟩):=u0
   have u1:u 1=.string s:=u1
   obtain ⟨A9,c9,eu2,h9⟩:=u2
   have u2:u 2=.slice A9 (dig N).length c9:=eu2
   have u3:u 3=.pointer (some ⟨w0.heap.size+1,1,none⟩):=u3
   have u4:u 4=.string t:=u4
   obtain ⟨A12,c12,eu5,h12⟩:=u5
   have u5:u 5=.slice A12 (dig M).length c12:=eu5
   simp only [fillR,List.take_succ_cons,List.take_zero,Act.put,List.setIfInBounds_toArray,List.set_cons_succ,List.set_cons_zero,Nat.zero_add,Nat.reduceAdd,u0,u1,u2,u3,u4,u5]
   clear u0 u1 u2 u3 u4 u5
   have HC:=Lib.hid hC
   have H9:=Lib.hid h9
   have H12:=Lib.hid h12
   obtain ⟨lN,hlN⟩:∃ l,l=(dig N).length:=⟨_,rfl⟩
   obtain ⟨lM,hlM⟩:∃ l,l=(dig M).length:=⟨_,rfl⟩
   rw [← hlN] at H9
   rw [← hlM] at H12
   rw [← hlN,← hlM]
   have hlNb:lN≤250000001:=by rw [hlN]; exact KN.out
   have hlMb:lM≤250000001:=by rw [hlM]; exact KM.out
   clear hlN hlM
   clear hC h9 h12
   obtain ⟨w2,hw2⟩:∃ w2,w2=w':=⟨_,rfl⟩
   rw [← hw2] at HC H9 H12 ⊢
   clear hw2
   have hc0:=(HC.out.2.get 2 rfl).cell 0 (.bool p) rfl
   have hc1:=(HC.out.2.get 1 rfl).cell 0 (.bool q) rfl
   by_cases hpq:p=q
   · subst hpq
     have HV:Hid (sg p (N+M)=n+m):=by rw [Hid,HN.out,HM.out]; exact plus_same HP.out HQ.out
     go_wp2
     clear hc0 hc1
     refine wp_region_acts 6 (fun w'=>Below w0.heap.size w0 w'∧Frames w' [(w0.heap.size+1+1,#[.bool false,.string ⟨#[]⟩],23),(w0.heap.size+1,#[.bool p,.string t],23),(w0.heap.size,#[.bool p,.string s],23)]∧Words w' (.slice A9 lN c9) (dig N)∧Words w' (.slice A12 lM c12) (dig M)) (fun w w'=>Below w.heap.size w w') (fun i w v=>match i with
       | 0=>v=.pointer (some ⟨w0.heap.size,0,none⟩)
       | 1=>v=.bool p
       | 2=>v=.slice A9 lN c9
       | 3=>v=.slice A12 lM c12
       | 4=>∃ A l c,v=.slice A l c∧Words w (.slice A l c) (dig (N+M))
       | _=>v=.agg #[.bool ra,.string ru]) (by kernel_rfl) (by kernel_rfl) (by kernel_rfl) ⟨HC.out.1.drew,HC.out.2.on (Below.drew (Below.refl _ _)),H9.out.below (Below.drew (Below.refl _ _)),H12.out.below (Below.drew (Below.refl _ _))⟩ (fun _ _=>(Below.refl _ _)) ?_ ⟨?_,?_,?_,?_,?_,?_,trivial⟩ ?_
     · intro i w1 w2 v hC hC2 hE hV
       match i with
       | 0=>exact hV
       | 1=>exact hV
       | 2=>exact hV
       | 3=>exact hV
       | 4=>obtain ⟨A,l,c,e,h⟩:=hV; exact ⟨A,l,c,e,h.below hE⟩
       | _+5=>exact hV
     · intro a' w' hag hC hd K hK
       have e2:a'.tmps.getD 2 undef=.pointer (some ⟨w0.heap.size,0,none⟩):=hag 2 rfl
       go_step
       exact hK _ _ hC ((Below.refl _ _)) rfl
     · intro a' w' hag hC hd K hK
       have e18:a'.tmps.getD 18 undef=.pointer (some ⟨w0.heap.size,0,none⟩):=hd.1
       have hc0:=(hC.2.1.get 2 rfl).cell 0 (.bool p) rfl
       have HK:=Lib.hid (hK (.bool p) _ hC (Below.refl _ _) rfl)
       clear hK hC
       go_step
       exact HK.out
     · intro a' w' hag hC hd K hK
       have e5:a'.tmps.getD 5 undef=.slice A9 lN c9:=hag 5 rfl
       go_step
       exact hK _ _ hC ((Below.refl _ _)) rfl
     · intro a' w' hag hC hd K hK
       have e6:a'.tmps.getD 6 undef=.slice A12 lM c12:=hag 6 rfl
       go_step
       exact hK _ _ hC ((Below.refl _ _)) rfl
     · intro a' w' hag hC hd K hK
       have e20:a'.tmps.getD 20 undef=.slice A9 lN c9:=hd.1
       have e21:a'.tmps.getD 21 undef=.slice A12 lM c12:=hd.2.1
       go_step
       refine (rmore_any hC.2.2.1 hC.2.2.2 (Nat.le_trans hlNb (by decide)) (Nat.le_trans hlMb (by decide))).mono ?_
       rintro e w2 ⟨v,rfl,h1,h2⟩
       rw [val_dig,val_dig] at h1
       obtain ⟨A,l,c,rfl⟩:=h1.form
       exact hK _ _ ⟨hC.1.trans (h2.mono hC.1.size),hC.2.1.on h2,hC.2.2.1.below h2,hC.2.2.2.below h2⟩ h2 ⟨_,_,_,rfl,h1⟩
     · intro a' w' hag hC hd K hK
       have e19:a'.tmps.getD 19 undef=.bool p:=hd.1
       obtain ⟨A22,l22,c22,e22,h22⟩:=hd.2.1
       have e22:a'.tmps.getD 22 undef=.slice A22 l22 c22:=e22
       go_step
       refine (made_any p h22 (by rw [h22.len.1]; exact Nat.le_trans (len_add KN.out KM.out) (by decide))).mono ?_
       rintro e w2 ⟨rfl,hb⟩
       rw [val_dig,HV.out,← HRES.out]
       exact hK _ _ ⟨hC.1.trans (hb.mono hC.1.size),hC.2.1.on hb,hC.2.2.1.below hb,hC.2.2.2.below hb⟩ hb rfl
     · intro u w' hC hall
       obtain ⟨u0,u1,u2,u3,u4,u5,_⟩:=hall
       have u0:u 0=.pointer (some ⟨w0.heap.size,0,none⟩):=u0
       have u1:u 1=.bool p:=u1
       have u2:u 2=.slice A9 lN c9:=u2
       have u3:u 3=.slice A12 lM c12:=u3
       have u5:u 5=.agg #[.bool ra,.string ru]:=u5
       simp only [fillR,List.take_succ_cons,List.take_zero,Act.put,List.setIfInBounds_toArray,List.set_cons_succ,List.set_cons_zero,Nat.zero_add,Nat.reduceAdd,u0,u1,u2,u3,u5]
       clear u0 u1 u2 u3 u5
       have HB9:=Lib.hid hC.1
       have HX9:=Lib.hid (hC.2.1.get 0 rfl)
       clear hC
       have hp0:=HX9.out.cell 0 _ rfl
       have hp1:=HX9.out.cell 1 _ rfl
       have hf:=HX9.out.frozen
       go_wp2
       have hk:=(HX9.out.set 0 (.bool ra)).set 1 (.string ru)
       have k0:=hk.cell 0 _ rfl
       have k1:=hk.cell 1 _ rfl
       exact bodyPost_ret (v:=.agg #[.bool ra,.string ru]) (by simp [results,Tryz.results264,go_sem,k0,k1]) rfl ⟨_,_,rfl,HRA,HRU,below_put2 HB9.out (by omega) _ _⟩
   · have HV:=Lib.hid (plus_diff HP.out HQ.out hpq)
     rw [← HN.out,← HM.out] at HV
     have hbq:(p==q)=false:=by rw [beq_eq_false_iff_ne]; exact hpq
     obtain ⟨r,hr⟩:∃ r,r=cmpN N M:=⟨_,rfl⟩
     have HR:=Lib.hid hr
     clear hr
     go_wp2_with fail
     refine (runder_any H9.out H12.out).mono ?_
     rintro e w2' ⟨rfl,kk,rfl⟩
     rw [← HR.out]
     have HC':=Lib.hid (show Below w0.heap.size w0 (w2.drewN kk)∧Frames (w2.drewN kk) [(w0.heap.size+1+1,#[.bool false,.string ⟨#[]⟩],23),(w0.heap.size+1,#[.bool q,.string t],23),(w0.heap.size,#[.bool p,.string s],23)] from ⟨HC.out.1.trans (Below.drewN_ (Below.refl _ _) kk),HC.out.2.on (Below.drewN_ (Below.refl _ _) kk)⟩)
     have H9':=Lib.hid (H9.out.below (Below.drewN_ (Below.refl _ _) kk))
     have H12':=Lib.hid (H12.out.below (Below.drewN_ (Below.refl _ _) kk))
     generalize w2.drewN kk=w3 at HC' H9' H12' ⊢
     clear HC H9 H12 hc0 hc1 w2
     obtain ⟨w2,hw2⟩:∃ w2,w2=w3:=⟨_,rfl⟩
     rw [← hw2] at HC' H9' H12' ⊢
     have HC:=HC'
     have H9:=H9'
     have H12:=H12'
     clear HC' H9' H12' hw2
     by_cases hle:M≤N
     · have hr0:(0:Int)≤r:=by rw [HR.out]; exact cmpN_ge hle
       have HL:=Lib.hid hle
       have HLL:Hid (lM≤lN):=by rw [Hid,H9.out.len.1,H12.out.len.1]; exact dig_len_mono _ _ hle
       go_wp2
       refine wp_region_acts 6 (fun w'=>Below w0.heap.size w0 w'∧Frames w' [(w0.heap.size+1+1,#[.bool false,.string ⟨#[]⟩],23),(w0.heap.size+1,#[.bool q,.string t],23),(w0.heap.size,#[.bool p,.string s],23)]∧Words w' (.slice A9 lN c9) (dig N)∧Words w' (.slice A12 lM c12) (dig M)) (fun w w'=>Below w.heap.size w w') (fun i w v=>match i with
         | 0=>v=.pointer (some ⟨w0.heap.size,0,none⟩)
         | 1=>v=.bool p
         | 2=>v=.slice A9 lN c9
         | 3=>v=.slice A12 lM c12
         | 4=>∃ A l c,v=.slice A l c∧Words w (.slice A l c) (dig (N-M))
         | _=>v=.agg #[.bool ra,.string ru]) (by kernel_rfl) (by kernel_rfl) (by kernel_rfl) ⟨HC.out.1.drew,HC.out.2.on (Below.drew (Below.refl _ _)),H9.out.below (Below.drew (Below.refl _ _)),H12.out.below (Below.drew (Below.refl _ _))⟩ (fun _ _=>(Below.refl _ _)) ?_ ⟨?_,?_,?_,?_,?_,?_,trivial⟩ ?_
       · intro i w1 w2 v hC hC2 hE hV
         match i with
         | 0=>exact hV
         | 1=>exact hV
         | 2=>exact hV
         | 3=>exact hV
         | 4=>obtain ⟨A,l,c,e,h⟩:=hV; exact ⟨A,l,c,e,h.below hE⟩
         | _+5=>exact hV
       · intro a' w' hag hC hd K hK
         have e2:a'.tmps.getD 2 undef=.pointer (some ⟨w0.heap.size,0,none⟩):=hag 2 rfl
         go_step
         exact hK _ _ hC ((Below.refl _ _)) rfl
       · intro a' w' hag hC hd K hK
         have e28:a'.tmps.getD 28 undef=.pointer (some ⟨w0.heap.size,0,none⟩):=hd.1
         have hc0:=(hC.2.1.get 2 rfl).cell 0 (.bool p) rfl
         have HK:=Lib.hid (hK (.bool p) _ hC (Below.refl _ _) rfl)
         clear hK hC
         go_step
         exact HK.out
       · intro a' w' hag hC hd K hK
         have e5:a'.tmps.getD 5 undef=.slice A9 lN c9:=hag 5 rfl
         go_step
         exact hK _ _ hC ((Below.refl _ _)) rfl
       · intro a' w' hag hC hd K hK
         have e6:a'.tmps.getD 6 undef=.slice A12 lM c12:=hag 6 rfl
         go_step
         exact hK _ _ hC ((Below.refl _ _)) rfl
       · intro a' w' hag hC hd K hK
         have e30:a'.tmps.getD 30 undef=.slice A9 lN c9:=hd.1
         have e31:a'.tmps.getD 31 undef=.slice A12 lM c12:=hd.2.1
         go_step
         refine (rless_any hC.2.2.1 hC.2.2.2 (Nat.le_trans hlNb (by decide)) (by rw [val_dig,val_dig]; exact HL.out) HLL.out).mono ?_
         rintro e w2 ⟨v,rfl,h1,h2⟩
         rw [val_dig,val_dig] at h1
         obtain ⟨A,l,c,rfl⟩:=h1.form
         exact hK _ _ ⟨hC.1.trans (h2.mono hC.1.size),hC.2.1.on h2,hC.2.2.1.below h2,hC.2.2.2.below h2⟩ h2 ⟨_,_,_,rfl,h1⟩
       · intro a' w' hag hC hd K hK
         have e29:a'.tmps.getD 29 undef=.bool p:=hd.1
         obtain ⟨A32,l32,c32,e32,h32⟩:=hd.2.1
         have e32:a'.tmps.getD 32 undef=.slice A32 l32 c32:=e32
         go_step
         refine (made_any p h32 (by rw [h32.len.1]; exact Nat.le_trans (dig_len_mono _ _ (Nat.sub_le _ _)) (Nat.le_trans KN.out (by decide)))).mono ?_
         rintro e w2 ⟨rfl,hb⟩
         rw [val_dig,HV.out.1 HL.out,← HRES.out]
         exact hK _ _ ⟨hC.1.trans (hb.mono hC.1.size),hC.2.1.on hb,hC.2.2.1.below hb,hC.2.2.2.below hb⟩ hb rfl
       · intro u w' hC hall
         obtain ⟨u0,u1,u2,u3,u4,u5,_⟩:=hall
         have u0:u 0=.pointer (some ⟨w0.heap.size,0,none⟩):=u0
         have u1:u 1=.bool p:=u1
         have u2:u 2=.slice A9 lN c9:=u2
         have u3:u 3=.slice A12 lM c12:=u3
         have u5:u 5=.agg #[.bool ra,.string ru]:=u5
         simp only [fillR,List.take_succ_cons,List.take_zero,Act.put,List.setIfInBounds_toArray,List.set_cons_succ,List.set_cons_zero,Nat.zero_add,Nat.reduceAdd,u0,u1,u2,u3,u5]
         clear u0 u1 u2 u3 u5
         have HB9:=Lib.hid hC.1
         have HX9:=Lib.hid (hC.2.1.get 0 rfl)
         clear hC
         have hp0:=HX9.out.cell 0 _ rfl
         have hp1:=HX9.out.cell 1 _ rfl
         have hf:=HX9.out.frozen
         go_wp2
         have hk:=(HX9.out.set 0 (.bool ra)).set 1 (.string ru)
         have k0:=hk.cell 0 _ rfl
         have k1:=hk.cell 1 _ rfl
         exact bodyPost_ret (v:=.agg #[.bool ra,.string ru]) (by simp [results,Tryz.results264,go_sem,k0,k1]) rfl ⟨_,_,rfl,HRA,HRU,below_put2 HB9.out (by omega) _ _⟩
     · have hr0:r<0:=by rw [HR.out,cmpN_lt (by omega)]; decide
       have HL:=Lib.hid (Nat.not_le.1 hle)
       have HLL:Hid (lN≤lM):=by rw [Hid,H9.out.len.1,H12.out.len.1]; exact dig_len_mono _ _ (by omega)
       go_wp2
       refine wp_region_acts 6 (fun w'=>Below w0.heap.size w0 w'∧Frames w' [(w0.heap.size+1+1,#[.bool false,.string ⟨#[]⟩],23),(w0.heap.size+1,#[.bool q,.string t],23),(w0.heap.size,#[.bool p,.string s],23)]∧Words w' (.slice A9 lN c9) (dig N)∧Words w' (.slice A12 lM c12) (dig M)) (fun w w'=>Below w.heap.size w w') (fun i w v=>match i with
         | 0=>v=.pointer (some ⟨w0.heap.size+1,0,none⟩)
         | 1=>v=.bool q
         | 2=>v=.slice A12 lM c12
         | 3=>v=.slice A9 lN c9
         | 4=>∃ A l c,v=.slice A l c∧Words w (.slice A l c) (dig (M-N))
         | _=>v=.agg #[.bool ra,.string ru]) (by kernel_rfl) (by kernel_rfl) (by kernel_rfl) ⟨HC.out.1.drew,HC.out.2.on (Below.drew (Below.refl _ _)),H9.out.below (Below.drew (Below.refl _ _)),H12.out.below (Below.drew (Below.refl _ _))⟩ (fun _ _=>(Below.refl _ _)) ?_ ⟨?_,?_,?_,?_,?_,?_,trivial⟩ ?_
       · intro i w1 w2 v hC hC2 hE hV
         match i with
         | 0=>exact hV
         | 1=>exact hV
         | 2=>exact hV
         | 3=>exact hV
         | 4=>obtain ⟨A,l,c,e,h⟩:=hV; exact ⟨A,l,c,e,h.below hE⟩
         | _+5=>exact hV
       · intro a' w' hag hC hd K hK
         have e3:a'.tmps.getD 3 undef=.pointer (some ⟨w0.heap.size+1,0,none⟩):=hag 3 rfl
         go_step
         exact hK _ _ hC ((Below.refl _ _)) rfl
       · intro a' w' hag hC hd K hK
         have e34:a'.tmps.getD 34 undef=.pointer (some ⟨w0.heap.size+1,0,none⟩):=hd.1
         have hc0:=(hC.2.1.get 1 rfl).cell 0 (.bool q) rfl
         have HK:=Lib.hid (hK (.bool q) _ hC (Below.refl _ _) rfl)
         clear hK hC
         go_step
         exact HK.out
       · intro a' w' hag hC hd K hK
         have e6:a'.tmps.getD 6 undef=.slice A12 lM c12:=hag 6 rfl
         go_step
         exact hK _ _ hC ((Below.refl _ _)) rfl
       · intro a' w' hag hC hd K hK
         have e5:a'.tmps.getD 5 undef=.slice A9 lN c9:=hag 5 rfl
         go_step
         exact hK _ _ hC ((Below.refl _ _)) rfl
       · intro a' w' hag hC hd K hK
         have e36:a'.tmps.getD 36 undef=.slice A12 lM c12:=hd.1
         have e37:a'.tmps.getD 37 undef=.slice A9 lN c9:=hd.2.1
         go_step
         refine (rless_any hC.2.2.2 hC.2.2.1 (Nat.le_trans hlMb (by decide)) (by rw [val_dig,val_dig]; exact Nat.le_of_lt HL.out) HLL.out).mono ?_
         rintro e w2 ⟨v,rfl,h1,h2⟩
         rw [val_dig,val_dig] at h1
         obtain ⟨A,l,c,rfl⟩:=h1.form
         exact hK _ _ ⟨hC.1.trans (h2.mono hC.1.size),hC.2.1.on h2,hC.2.2.1.below h2,hC.2.2.2.below h2⟩ h2 ⟨_,_,_,rfl,h1⟩
       · intro a' w' hag hC hd K hK
         have e35:a'.tmps.getD 35 undef=.bool q:=hd.1
         obtain ⟨A38,l38,c38,e38,h38⟩:=hd.2.1
         have e38:a'.tmps.getD 38 undef=.slice A38 l38 c38:=e38
         go_step
         refine (made_any q h38 (by rw [h38.len.1]; exact Nat.le_trans (dig_len_mono _ _ (Nat.sub_le _ _)) (Nat.le_trans KM.out (by decide)))).mono ?_
         rintro e w2 ⟨rfl,hb⟩
         rw [val_dig,HV.out.2 HL.out,← HRES.out]
         exact hK _ _ ⟨hC.1.trans (hb.mono hC.1.size),hC.2.1.on hb,hC.2.2.1.below hb,hC.2.2.2.below hb⟩ hb rfl
       · intro u w' hC hall
         obtain ⟨u0,u1,u2,u3,u4,u5,_⟩:=hall
         have u0:u 0=.pointer (some ⟨w0.heap.size+1,0,none⟩):=u0
         have u1:u 1=.bool q:=u1
         have u2:u 2=.slice A12 lM c12:=u2
         have u3:u 3=.slice A9 lN c9:=u3
         have u5:u 5=.agg #[.bool ra,.string ru]:=u5
         simp only [fillR,List.take_succ_cons,List.take_zero,Act.put,List.setIfInBounds_toArray,List.set_cons_succ,List.set_cons_zero,Nat.zero_add,Nat.reduceAdd,u0,u1,u2,u3,u5]
         clear u0 u1 u2 u3 u5
         have HB9:=Lib.hid hC.1
         have HX9:=Lib.hid (hC.2.1.get 0 rfl)
         clear hC
         have hp0:=HX9.out.cell 0 _ rfl
         have hp1:=HX9.out.cell 1 _ rfl
         have hf:=HX9.out.frozen
         go_wp2
         have hk:=(HX9.out.set 0 (.bool ra)).set 1 (.string ru)
         have k0:=hk.cell 0 _ rfl
         have k1:=hk.cell 1 _ rfl
         exact bodyPost_ret (v:=.agg #[.bool ra,.string ru]) (by simp [results,Tryz.results264,go_sem,k0,k1]) rfl ⟨_,_,rfl,HRA,HRU,below_put2 HB9.out (by omega) _ _⟩
end Go.Proofs.YtmfedaakeeiolaaGreat
end
