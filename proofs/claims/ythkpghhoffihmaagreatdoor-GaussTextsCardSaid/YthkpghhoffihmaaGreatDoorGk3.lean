/- BigE, Int, IntB. -/
import Derived.Deep.LoopGhost
import Derived.Deep.DeepCutAuto
import Derived.Deep.CutBlock
import Derived.Test.YthkpghhoffihmaaGreatDoorGk2
set_option linter.unnecessarySimpa false
set_option linter.unusedVariables false
set_option linter.unusedSimpArgs false
section
namespace Go.Proofs.YthkpghhoffihmaaGreatDoor
section
open Go.RowKit
def StepPost (w:World) (g:Nat) (pre us post:List Nat) (U V:Nat) (e:Ending) (w':World):Prop :=
 ∃ (q':Nat) (ms:List Nat),e=.returned (.int .u64 (q':Int))∧q'<4294967296∧ms.length=us.length∧val ms+q'*V=U∧val ms<V∧Buf w' g (pre++(ms++post))∧Only g w w'
set_option maxHeartbeats 1000000 in
theorem step_any {A:Option Addr} {n cv cu g j m:Nat} {vs pre us post:List Nat} {w:World} (hv:Words w (.slice A n cv) vs) (hu:Buf w g (pre++(us++post))) (hne:∀ b o,A=some ⟨b,o,none⟩→b≠g)
  (hj:pre.length=j) (hm:us.length=m) (hmn:m=n+1) (hcu:m≤cu) (hsz:n≤17179869184) (hjz:j≤34359738368) (q U V:Nat) (hq:q<4294967296) (hU:val us=U) (hV:val vs=V) (hq1:q*V≤U+V) (hq2:U<(q+1)*V) :
  Calls Tryz.prog 376 #[.slice (some ⟨g,j,none⟩) m cu,.slice A n cv,.int .u64 (q:Int)] w (StepPost w g pre us post U V):=by
 have hn:=Lib.hid hv.len.1
 have HA:=Lib.hid hv
 have hwv:=Lib.hid hv.1
 have hwu:Hid (Wf us):=Lib.hid hu.1.right.left
 have HJ:=Lib.hid hj
 have HM:=Lib.hid hm
 have HU:=Lib.hid hU
 have HV:=Lib.hid hV
 have HQ1:=Lib.hid hq1
 have HQ2:=Lib.hid hq2
 have HNE:=Lib.hid hne
 have HMN:=Lib.hid hmn
 have hmn1:m≤n+1:=by omega
 have hmn2:n+1≤m:=by omega
 clear hv hj hm hU hV hq1 hq2 hne hmn
 go_enter Tryz.func376,Tryz.ntmps376
 go_wp2
 go_loopw [7,8,14] (fun c b i wr=>∃ (k d e:Nat) (ms:List Nat),k≤m∧d<4294967296∧e≤1∧c=.int .u64 (d:Int)∧b=.int .u64 (e:Int)∧i=.int .i64 (k:Int)∧Hid (ms.length=k)∧Hid (k=m→d=0) ∧
  Hid (val ms+q*val (vs.take k)=val (us.take k)+4294967296^k*(e+d))∧Buf wr g (pre++((ms++us.drop k)++post))∧Only g w wr) (fun _ _ i _=>m-(intOf i).toNat)
 case atStart=>exact ⟨0,0,0,[],by omega,by omega,by omega,rfl,rfl,rfl,rfl,fun _=>rfl,by simp [Hid,val],by simpa using hu,Only.refl _ _⟩
 case round =>
  obtain ⟨k,d,e,ms,hk,hd,he,rfl,rfl,rfl,HK,HD0,HE,hbuf,ho⟩:=hrel
  have hgl:=hbuf.lt
  by_cases hk1:k<m
  · have hlen:=mid_len pre ms us post k HK.out (by rw [HM.out]; omega)
    have hst:=hbuf.cell (j+k) (by rw [hlen,HJ.out,HM.out]; omega)
    rw [← HJ.out,mid_get pre ms us post k HK.out (by rw [HM.out]; omega),HJ.out] at hst
    have hfz:=hbuf.frozen (j+k)
    have hul:=hwu.out.get? k
    have HBUF:=Lib.hid hbuf
    clear hlen hbuf hu
    by_cases hk2:k<n
    · have hY:=Only.words HA.out ho HNE.out
      obtain ⟨b2,o2,rfl,hcy⟩:=hY.open_ (by omega)
      have hcy:=hcy k hk2
      have hyl:=hwv.out.get? k
      obtain ⟨m',hm'⟩:∃ m',m'=q*vs[k]?.getD 0:=⟨_,rfl⟩
      have hmi:(q:Int)*((vs[k]?.getD 0:Nat):Int)=(m':Int):=by rw [hm']; exact (Int.natCast_mul _ _).symm
      have hc:=step_carry q (vs[k]?.getD 0) d hq hyl hd
      rw [← hm'] at hc
      obtain ⟨hc1,hc2⟩:=hc
      have hand:=and_mask (d+m') (by omega)
      obtain ⟨D1,D,z,b',hD1,hD,hDz,hDb,hz,hb',hzz⟩:=sub_word2 (us[k]?.getD 0) ((d+m') % 4294967296) e hul (by omega) he
      obtain ⟨lo,hlo⟩:∃ lo,lo=(d+m') % 4294967296:=⟨_,rfl⟩
      rw [← hlo] at hand hD1 hzz
      rw [Int.natCast_add] at hand
      have HMP:=Lib.hid hm'
      have HLO:=Lib.hid hlo
      have HZZ:=Lib.hid hzz
      clear hY hm' hlo hzz
      go_wp2
      go_roundw
      case rel =>
       refine ⟨k+1,(d+m')/4294967296,b',ms++[z],by omega,hc2,hb',by go_num,rfl,rfl,?_,fun h=>by exfalso; omega,?_,?_,ho.set _ _⟩
       · rw [Hid,List.length_append,HK.out]; rfl
       · exact step_val us vs ms k q d e z b' (d+m') HK.out HE.out (by rw [HMP.out]; rfl) (by rw [← HLO.out]; exact HZZ.out)
       · have h:=HBUF.out.set (j+k) z _ hz rfl
         rw [← HJ.out,mid_set pre ms us post k z HK.out (by rw [HM.out]; omega),HJ.out] at h
         exact h
      case measure=>simp [intOf]; omega
    · have hv0:vs.getD k 0=0:=getD_out (by have:=hn.out; omega)
      have HV0:=Lib.hid hv0
      have hand:=and_mask d (by omega)
      obtain ⟨D1,D,z,b',hD1,hD,hDz,hDb,hz,hb',hzz⟩:=sub_word2 (us[k]?.getD 0) (d % 4294967296) e hul (by omega) he
      obtain ⟨lo,hlo⟩:∃ lo,lo=d % 4294967296:=⟨_,rfl⟩
      rw [← hlo] at hand hD1 hzz
      have HLO:=Lib.hid hlo
      have HZZ:=Lib.hid hzz
      clear hlo hzz hv0
      go_wp2
      go_roundw
      case rel =>
       refine ⟨k+1,d/4294967296,b',ms++[z],by omega,by omega,hb',by go_num,rfl,rfl,?_,fun h=>by omega,?_,?_,ho.set _ _⟩
       · rw [Hid,List.length_append,HK.out]; rfl
       · exact step_val us vs ms k q d e z b' d HK.out HE.out (by rw [HV0.out]; rfl) (by rw [← HLO.out]; exact HZZ.out)
       · have h:=HBUF.out.set (j+k) z _ hz rfl
         rw [← HJ.out,mid_set pre ms us post k z HK.out (by rw [HM.out]; omega),HJ.out] at h
         exact h
      case measure=>simp [intOf]; omega
  · obtain rfl:k=m:=by omega
    have hd0:=HD0.out rfl
    have h1:=HE.out
    rw [val_take_all us _ (by rw [HM.out]; exact Nat.le_refl _),val_take_all vs _ (by rw [← hn.out]; omega),HU.out,HV.out,hd0,Nat.add_zero] at h1
    have h2:us.drop k=[]:=List.drop_of_length_le (by rw [HM.out]; exact Nat.le_refl _)
    rw [h2,List.append_nil] at hbuf
    have hwm:=Lib.hid hbuf.1.right.left
    have H1:=Lib.hid h1
    have HBUF:=Lib.hid hbuf
    clear h1 h2 hd0 hbuf hu
    by_cases he0:e=0
    · subst he0
      have hfin:=step_end0 us ms U V q k HU.out H1.out HQ2.out
      have HF:=Lib.hid hfin
      clear hfin
      go_wp2
      go_ret
      exact ⟨q,ms,rfl,hq,by rw [HK.out,HM.out],HF.out.1,HF.out.2,HBUF.out,ho⟩
    · obtain rfl:e=1:=by omega
      have hq1:1≤q:=by
       have h3:=val_lt ms hwm.out
       rw [HK.out] at h3
       have h4:=H1.out
       rcases Nat.eq_zero_or_pos q with h | h
       · rw [h] at h4; omega
       · exact h
      obtain ⟨wm,rfl⟩:∃ wm:World,wm=wr:=⟨_,rfl⟩
      have HO:=Lib.hid ho
      have hqi:(1:Int)≤(q:Int):=by omega
      clear ho
      go_wp2
      go_loopw [7,56] (fun c i wr=>∃ (k' d:Nat) (ns:List Nat),k'≤k∧d≤1∧c=.int .u64 (d:Int)∧i=.int .i64 (k':Int)∧Hid (ns.length=k') ∧
       Hid (val ns+4294967296^k'*d=val (ms.take k')+val (vs.take k'))∧Buf wr g (pre++((ns++ms.drop k')++post))∧Only g w wr) (fun _ i _=>k-(intOf i).toNat)
      case atStart=>exact ⟨0,0,[],by omega,by omega,rfl,rfl,rfl,by simp [Hid,val],by simpa using HBUF.out,HO.out⟩
      case round =>
       obtain ⟨k',d',ns,hk',hd',rfl,rfl,HK',HE',hbuf,ho⟩:=hrel
       have hgl:=hbuf.lt
       by_cases hk1:k'<k
       · have hlen:=mid_len pre ns ms post k' HK'.out (by rw [HK.out]; omega)
         have hst:=hbuf.cell (j+k') (by rw [hlen,HJ.out,HK.out]; omega)
         rw [← HJ.out,mid_get pre ns ms post k' HK'.out (by rw [HK.out]; omega),HJ.out] at hst
         have hfz:=hbuf.frozen (j+k')
         have hul:=hwm.out.get? k'
         have HBUF2:=Lib.hid hbuf
         clear hlen hbuf HBUF
         by_cases hk2:k'<n
         · have hY:=Only.words HA.out ho HNE.out
           obtain ⟨b2,o2,rfl,hcy⟩:=hY.open_ (by omega)
           have hcy:=hcy k' hk2
           have hyl:=hwv.out.get? k'
           clear hY
           go_wp2
           go_roundw
           case rel =>
            refine ⟨k'+1,(d'+ms.getD k' 0+vs.getD k' 0)/4294967296,ns++[(d'+ms.getD k' 0+vs.getD k' 0) % 4294967296],by omega,by simp only [List.getD]; omega,by simp only [List.getD]; go_num,rfl,?_,more_val _ _ _ _ _ _ HK'.out HE'.out rfl,?_,ho.set _ _⟩
            · rw [Hid,List.length_append,HK'.out]; rfl
            · have h:=HBUF2.out.set (j+k') ((d'+ms.getD k' 0+vs.getD k' 0) % 4294967296) _ (by omega) (by simp only [List.getD]; go_num)
              rw [← HJ.out,mid_set pre ns ms post k' _ HK'.out (by rw [HK.out]; omega),HJ.out] at h
              exact h
           case measure=>simp [intOf]; omega
         · have hv0:vs.getD k' 0=0:=getD_out (by have:=hn.out; omega)
           have HV0:=Lib.hid hv0
           clear hv0
           go_wp2
           go_roundw
           case rel =>
            refine ⟨k'+1,(d'+ms.getD k' 0+vs.getD k' 0)/4294967296,ns++[(d'+ms.getD k' 0+vs.getD k' 0) % 4294967296],by omega,by rw [HV0.out]; simp only [List.getD]; omega,by rw [HV0.out]; simp only [List.getD]; go_num,rfl,?_,more_val _ _ _ _ _ _ HK'.out HE'.out rfl,?_,ho.set _ _⟩
            · rw [Hid,List.length_append,HK'.out]; rfl
            · have h:=HBUF2.out.set (j+k') ((d'+ms.getD k' 0+vs.getD k' 0) % 4294967296) _ (by omega) (by rw [HV0.out]; try (simp only [List.getD]; try go_num))
              rw [← HJ.out,mid_set pre ns ms post k' _ HK'.out (by rw [HK.out]; omega),HJ.out] at h
              exact h
           case measure=>simp [intOf]; omega
       · obtain rfl:k'=k:=by omega
         have h1:=HE'.out
         rw [val_take_all ms _ (by rw [HK.out]; exact Nat.le_refl _),val_take_all vs _ (by rw [← hn.out]; omega),HV.out] at h1
         have h2:ms.drop k'=[]:=List.drop_of_length_le (by rw [HK.out]; exact Nat.le_refl _)
         rw [h2,List.append_nil] at hbuf
         have hVl:V<4294967296^k':=by
          have h3:=val_lt vs hwv.out
          rw [HV.out,← hn.out] at h3
          exact Nat.lt_of_lt_of_le h3 (Nat.pow_le_pow_right (by omega) (by omega))
         have hfin:=step_end1 ms ns U V q k' d' H1.out hwm.out HK.out hbuf.1.right.left HK'.out hd' h1 hVl HQ1.out
         have HF:=Lib.hid hfin
         have HBUF2:=Lib.hid hbuf
         clear hfin hbuf h1 h2 HBUF hVl
         go_wp2
         go_ret
         exact ⟨q-1,ns,by rw [Int.ofNat_sub (by omega)]; rfl,by omega,by rw [HK'.out,HM.out],HF.out.2.1,HF.out.2.2,HBUF2.out,ho⟩
end
section
open Go.RowKit
theorem cmpN_lt {n m:Nat} (h:n<m):cmpN n m = -1:=if_pos h
theorem cmpN_ge {n m:Nat} (h:m≤n):0≤cmpN n m:=by
 unfold cmpN
 split
 · omega
 · split<;>omega
theorem short_dig {A:Option Addr} {la ca a:Nat} {w:World} (hx:Words w (.slice A la ca) (dig a)) (d:Nat) (hd0:0<d) (hd:d<4294967296) :
  Calls Tryz.prog 326 #[.slice A la ca,.int .u32 (d:Int)] w fun e w'=>∃ v r,e=.returned (.tuple #[v,.int .u32 ((r:Nat):Int)])∧Hid (r=a % d)∧r<d∧Words w' v (dig (a/d))∧Below w.heap.size w w':=by
 refine (short_any hx (by rw [hx.len.1]; exact hx.2.1) d hd0 hd).mono fun e w' ⟨v,h1,h2,h3⟩=>?_
 rw [val_dig] at h1 h2
 exact ⟨v,_,h1,rfl,Nat.mod_lt _ hd0,h2,h3⟩
def DivPost (w:World) (a b:Nat) (e:Ending) (w':World):Prop :=
 ∃ v1 v2,e=.returned (.tuple #[v1,v2])∧Words w' v1 (dig (a/b))∧Words w' v2 (dig (a % b))∧Below w.heap.size w w'
set_option maxRecDepth 100000 in
theorem divide_small {A B:Option Addr} {la ca lb cb a b:Nat} {w:World} (hx:Words w (.slice A la ca) (dig a)) (hy:Words w (.slice B lb cb) (dig b)) (hlt:a<b) :
  Calls Tryz.prog 358 #[.slice A la ca,.slice B lb cb] w (DivPost w a b):=by
 have HX:=Lib.hid hx
 have HY:=Lib.hid hy
 have HL:=Lib.hid hlt
 clear hx hy hlt
 go_enter Tryz.func358,Tryz.ntmps358
 go_wp2_with (go_at_call 335; refine (under_any HX.out HY.out).mono ?_; rw [cmpN_lt HL.out]; rintro e w' ⟨rfl,k,rfl⟩)
 go_ret2
 refine ⟨.slice none 0 0,.slice A la ca,rfl,?_,?_,Below.drewN_ (Below.refl _ _) k⟩
 · rw [Nat.div_eq_of_lt HL.out,dig_zero]; exact Words.nil _
 · rw [Nat.mod_eq_of_lt HL.out]; exact HX.out.below (Below.drewN_ (Below.refl _ _) k)
set_option maxRecDepth 100000 in
theorem divide_word {A B:Option Addr} {la ca cb a b:Nat} {w:World} (hx:Words w (.slice A la ca) (dig a)) (hy:Words w (.slice B 1 cb) (dig b)) (hge:b≤a) :
  Calls Tryz.prog 358 #[.slice A la ca,.slice B 1 cb] w (DivPost w a b):=by
 have hl:=hy.len.1
 have hb0:0<b:=by
  rcases Nat.eq_zero_or_pos b with h | h
  · rw [h,dig_zero] at hl; simp at hl
  · exact h
 have hbd:(dig b).getD 0 0=b:=by
  have h1:=val_dig b
  match hd:dig b,hl with
  | [x],_=>rw [hd] at h1; simp [val] at h1; simpa using h1
 have hblt:b<4294967296:=by have:=dig_lt b; rw [← hl] at this; omega
 obtain ⟨bb,o,rfl,hc⟩:=hy.open_ (by omega)
 have hc:w.cell? ⟨bb,o,none⟩=some (.int .u32 (b:Int)):=by have:=hc 0 (by omega); rw [hbd] at this; exact this
 have hsz:=hx.2.1
 rw [← hx.len.1] at hsz
 have HX:=Lib.hid hx
 have HY:=Lib.hid hy
 have HC:=Lib.hid (cmpN_ge hge)
 obtain ⟨r,hr⟩:∃ r,r=cmpN a b:=⟨_,rfl⟩
 have HR:=Lib.hid hr
 have hr0:0≤r:=by rw [hr]; exact HC.out
 have hb1:0<b:=hb0
 clear hx hy hge hl hbd hr HC
 go_enter Tryz.func358,Tryz.ntmps358
 go_wp2_with (first
  | (go_at_call 335; refine (under_any HX.out HY.out).mono ?_; rw [← HR.out]; rintro e w' ⟨rfl,k,rfl⟩)
  | (go_at_call 326; refine (short_dig (HX.out.below (Below.drewN_ (Below.refl _ _) _)) b hb1 hblt).mono ?_; rintro e w' ⟨v,r2,rfl,hr2,hr2b,hv,hbel⟩))
 have hrl:r2<4294967296:=by omega
 have HV:=Lib.hid hv
 have HB:=Lib.hid hbel
 clear hv hbel
 go_wp2_with (go_at_call 363; refine (cut_any (words_one _ r2 _ hrl rfl)).mono ?_; rintro e w2 ⟨rfl,rfl⟩)
 go_ret2
 refine ⟨v,.slice (some ⟨w'.heap.size,0,none⟩) (trim [r2]).length 1,rfl,HV.out.below ((Below.refl _ _).alloc (Nat.le_refl _) _),?_,(((Below.drewN_ (Below.refl _ _) _).trans (HB.out.mono (by simp))).alloc (by have:=HB.out.size; simpa using this) _)⟩
 have h1:=(words_one w' r2 _ hrl rfl).trim_
 rw [← hr2.out,← dig_of [r2] r2 (Wf.cons hrl Wf.nil) (by simp [val])]
 exact h1
end
section
open Go.RowKit
set_option maxRecDepth 100000 in
set_option maxHeartbeats 16000000 in
theorem divide_long {A B:Option Addr} {la ca lb cb a b:Nat} {w:World} (hx:Words w (.slice A la ca) (dig a)) (hy:Words w (.slice B lb cb) (dig b)) (hge:b≤a) (hl2:2≤lb) (hla:la≤4294967296) :
  Calls Tryz.prog 358 #[.slice A la ca,.slice B lb cb] w (DivPost w a b):=by
 have hlb:=hy.len.1
 have hla0:=hx.len.1
 have hlab:lb≤la:=by rw [hlb,hla0]; exact dig_len_mono b a hge
 obtain ⟨t,ht⟩:∃ t,t=(dig b).getD (lb-1) 0:=⟨_,rfl⟩
 have ht32:t<4294967296:=by rw [ht]; exact (Wf_dig b).getD _
 have ht0:0<t:=by
  rcases Nat.eq_zero_or_pos t with h | h
  · exfalso
    have h1:=trim_take_pred (dig b) lb (by omega) (by omega) (by rw [← ht]; exact h)
    have h3:(dig b).take lb=dig b:=List.take_of_length_le (by omega)
    rw [h3,trim_dig] at h1
    have h2:=trim_length_le ((dig b).take (lb-1))
    rw [h1,List.length_take] at h2
    omega
  · exact h
 obtain ⟨bb,o,rfl,hc⟩:=hy.open_ (by omega)
 have hc:w.cell? ⟨bb,o+(lb-1),none⟩=some (.int .u32 (t:Int)):=by have:=hc (lb-1) (by omega); rw [← ht] at this; exact this
 have HX:=Lib.hid hx
 have HY:=Lib.hid hy
 have HLB:=Lib.hid hlb
 have HLA:=Lib.hid hla0
 have HT:=Lib.hid ht
 obtain ⟨r,hr⟩:∃ r,r=cmpN a b:=⟨_,rfl⟩
 have hr0:0≤r:=by rw [hr]; exact cmpN_ge hge
 have HR:=Lib.hid hr
 have HGE:=Lib.hid hge
 have hlb1:((lb:Int)==1)=false:=by rw [beq_eq_false_iff_ne]; omega
 have hlb2:(0:Int)≤(lb:Int)-1:=by omega
 clear hx hy hge hlb hla0 ht hr
 go_enter Tryz.func358,Tryz.ntmps358
 go_wp2_with (go_at_call 335; refine (under_any HX.out HY.out).mono ?_; rw [← HR.out]; rintro e w' ⟨rfl,kk,rfl⟩)
 go_loop [8,9] (fun i c=>∃ k T:Nat,k≤31∧i=.int .i64 (k:Int)∧c=.int .u32 (T:Int)∧T<4294967296∧0<T∧Hid (T=t*2^k)) (fun _ c=>(4294967296-intOf c).toNat)
 case atStart=>exact ⟨0,t,by omega,rfl,rfl,ht32,ht0,by simp [Hid]⟩
 case round =>
  obtain ⟨k,T,hk,rfl,rfl,hT,hT0,HTT⟩:=hrel
  by_cases hdone:T<2147483648
  · have hq:(((T:Int)/2147483648)==0)=true:=by rw [beq_iff_eq]; omega
    go_wp2
    go_round
    case rel =>
     refine ⟨k+1,T*2,?_,by go_num,by go_num,by omega,by omega,?_⟩
     · rcases Nat.lt_or_ge k 31 with h | h
       · omega
       · exfalso
         have h1:=HTT.out
         have h2:t*2^31≤t*2^k:=Nat.mul_le_mul_left _ (Nat.pow_le_pow_right (by omega) h)
         omega
     · rw [Hid,HTT.out,Nat.pow_succ,Nat.mul_assoc]
    case measure=>simp [intOf]; omega
  · have hq:(((T:Int)/2147483648)==0)=false:=by rw [beq_eq_false_iff_ne]; omega
    have HN:=Lib.hid (norm_top b lb t k HLB.out.symm (by omega) HT.out.symm (by rw [← HTT.out]; omega) (by rw [← HTT.out]; exact hT) hk)
    have HXd:=Lib.hid (HX.out.below (Below.drewN_ (Below.refl _ _) kk))
    have HYd:=Lib.hid (HY.out.below (Below.drewN_ (Below.refl _ _) kk))
    clear hc hq
    go_wp2_with fail
    refine (left_any HYd.out (by omega) k (by omega)).mono ?_
    rintro e w1 ⟨vv,rfl,hvv,hb1⟩
    rw [val_dig] at hvv
    obtain ⟨Av,nv,cv,rfl⟩:=hvv.form
    have hnv:nv=lb:=by rw [hvv.len.1]; exact HN.out.1
    subst hnv
    have HVV:=Lib.hid hvv
    have HB1:=Lib.hid hb1
    clear hvv hb1
    go_wp2_with (at_make; refine wpList_make_words rfl _ _ rfl _ _ _ _ (la+1) (la+1) rfl rfl (by omega) (by omega) (Nat.le_refl _) (by omega) ?_)
    intro w2 hbuf hb2 hz2
    have HBU:=Lib.hid hbuf
    have HB2:=Lib.hid hb2
    clear hz2 hbuf hb2
    go_wp2_with fail
    refine (left_any ((HXd.out.below HB1.out).below HB2.out) (by omega) k (by omega)).mono ?_
    rintro e w3 ⟨va,rfl,hva,hb3⟩
    rw [val_dig] at hva
    obtain ⟨Aa,na,ca',rfl⟩:=hva.form
    have hna:na≤la+1:=by
     rw [hva.len.1]
     refine dig_len_le _ _ ?_
     have h1:=dig_lt a
     rw [← HLA.out] at h1
     have h2:2^k≤2^32:=Nat.pow_le_pow_right (by omega) (by omega)
     rw [Nat.pow_succ]
     exact Nat.mul_lt_mul_of_lt_of_le h1 h2 (by omega)
    obtain ⟨gu,hgu⟩:∃ gu,gu=w1.heap.size:=⟨_,rfl⟩
    rw [← hgu] at HBU
    rw [← hgu]
    have HBU3:=Lib.hid (HBU.out.on hb3)
    have HVA:=Lib.hid hva
    have HB3:=Lib.hid hb3
    have HGU:=Lib.hid hgu
    clear hva hb3 hgu
    go_wp2_with (with_reducible refine wpList_copy_words rfl (.tmp 59) (.tmp 62) rfl gu (la+1) (la+1) _ rfl HBU3.out (by simp) Aa na ca' _ rfl HVA.out hna gu w3 (Below.refl _ _) (Nat.le_refl _) ?_)
    intro w4 hbu4 hb4
    obtain ⟨us0,hus⟩:∃ us0,us0=dig (a*2^k)++List.replicate (la+1-na) 0:=⟨_,rfl⟩
    rw [← hus] at hbu4
    have hus0:val us0=a*2^k:=by rw [hus,val_append,val_zeros,val_dig,Nat.mul_zero,Nat.add_zero]
    have hul0:us0.length=la+1:=by rw [hus,List.length_append,List.length_replicate,← HVA.out.len.1]; omega
    have HUS:=Lib.hid hus0
    have HUL:=Lib.hid hul0
    have HBU4:=Lib.hid hbu4
    have HB4:=Lib.hid hb4
    clear hus hbu4 hb4 hus0 hul0
    go_wp2_with (at_make; refine wpList_make_words rfl _ _ rfl _ _ _ _ (la+1-nv) (la+1-nv) rfl rfl (by omega) (by omega) (Nat.le_refl _) (by omega) ?_)
    intro w5 hbq hb5 hz5
    obtain ⟨gq,hgq⟩:∃ gq,gq=w4.heap.size:=⟨_,rfl⟩
    rw [← hgq] at hbq
    rw [← hgq]
    have HGQ:=Lib.hid hgq
    have HBQ:=Lib.hid hbq
    have HB5:=Lib.hid hb5
    clear hgq hz5 hbq hb5
    have hb45:Below w.heap.size w w5:=by
     have s1:=HB1.out.size
     have s2:=HB2.out.size
     have s3:=HB3.out.size
     have s4:=HB4.out.size
     have e0:(w.drewN kk).heap.size=w.heap.size:=rfl
     rw [e0] at s1
     refine ((((Below.drewN_ (Below.refl _ _) kk).trans HB1.out).trans (HB2.out.mono s1)).trans (HB3.out.mono (by omega))).trans ((HB4.out.mono ?_).trans (HB5.out.mono (by omega)))
     rw [HGU.out]; exact s1
    have hguq:gu<gq:=by rw [HGQ.out]; exact HBU4.out.lt
    have hBgu:w.heap.size≤gu:=by rw [HGU.out]; exact HB1.out.size
    have HNE:Hid (∀ b o,Av=some ⟨b,o,none⟩→b<gu):=by
     intro b o hA; rw [HGU.out]; exact HVV.out.lt (by omega) b o hA
    have HVV5:Hid (Words w5 (.slice Av nv cv) (dig (b*2^k))):=(((HVV.out.below HB2.out).below HB3.out).under HB4.out HNE.out).below HB5.out
    have HBU5:=Lib.hid (HBU4.out.on HB5.out)
    have HN1:=Lib.hid HN.out.1
    have HN2:=Lib.hid HN.out.2.1
    obtain ⟨vs,hvs⟩:∃ vs,vs=dig (b*2^k):=⟨_,rfl⟩
    have hwv:Hid (Wf vs):=by rw [hvs]; exact Wf_dig _
    have hvv:Hid (val vs=b*2^k):=by rw [hvs]; exact val_dig _
    have hD:=Div.first us0 a (b*2^k) k la nv (by have:=dig_lt a; rw [← HLA.out] at this; exact this) HUS.out HUL.out (by omega) hlab hk HN.out.2.2
    have HD:=Lib.hid hD
    have HVlt:Hid (b*2^k<4294967296^nv):=by
     have:=val_lt vs hwv.out
     rw [hvv.out,hvs,HN1.out] at this
     exact this
    rw [← hvs] at HVV5 HN1 HN2
    have HBv:=Lib.hid hb45
    have hwsz:=HBv.out.size
    clear hD hvs hb45 HX HY HXd HYd HVV HBU HBU3 HBU4 HVA HB1 HB2 HB3 HB4 HB5 HN HT HTT hc HR
    go_wp2
    go_loopw [13] (fun i wr=>∃ (j:Nat) (us qs:List Nat),j≤la+1-nv∧i=.int .i64 ((j:Int)-1)∧Hid (Div us0 us qs (b*2^k) j (la+1) nv)∧Hid (Buf wr gu us)∧Hid (Buf wr gq qs)∧Hid (Words wr (.slice Av nv cv) vs)∧Hid (Below w.heap.size w wr)) (fun i _=>(intOf i+1).toNat)
    case atStart=>exact ⟨la+1-nv,us0,List.replicate (la+1-nv) 0,by omega,by go_num,HD,HBU5,HBQ,HVV5,HBv⟩
    case round =>
     obtain ⟨j,us,qs,hj,rfl,hd,hbu,hbq,hvw,hbel⟩:=hrel
     clear HD HBU5 HBQ HVV5 HBv
     by_cases hj0:0<j
     · obtain ⟨j,rfl⟩:∃ j',j=j'+1:=⟨j-1,by omega⟩
       have e1:((j+1:Nat):Int)-1=(j:Int):=by omega
       rw [e1]
       clear e1
       have hlu:=Lib.hid hd.out.lu
       have hlq:=Lib.hid hd.out.lq
       have hwu:=Lib.hid hbu.out.1
       have HW:=Lib.hid (hd.out.window hwu.out HVlt.out (by omega))
       obtain ⟨mid,hmid⟩:∃ mid,mid=(us.drop j).take (nv+1):=⟨_,rfl⟩
       obtain ⟨x0,hx0⟩:∃ x,x=us.getD (j+nv) 0:=⟨_,rfl⟩
       obtain ⟨x1,hx1⟩:∃ x,x=us.getD (j+nv-1) 0:=⟨_,rfl⟩
       obtain ⟨x2,hx2⟩:∃ x,x=us.getD (j+nv-2) 0:=⟨_,rfl⟩
       obtain ⟨v1,hv1⟩:∃ x,x=vs.getD (nv-1) 0:=⟨_,rfl⟩
       obtain ⟨v2,hv2⟩:∃ x,x=vs.getD (nv-2) 0:=⟨_,rfl⟩
       obtain ⟨bv,ov,rfl,hcv⟩:=hvw.out.open_ (by omega)
       have c0:=hbu.out.cell (j+nv) (by rw [hlu.out]; omega)
       have c1:=hbu.out.cell (j+nv-1) (by rw [hlu.out]; omega)
       have c2:=hbu.out.cell (j+nv-2) (by rw [hlu.out]; omega)
       have c3:=hcv (nv-1) (by omega)
       have c4:=hcv (nv-2) (by omega)
       rw [← hx0] at c0
       rw [← hx1] at c1
       rw [← hx2] at c2
       rw [← hv1] at c3
       rw [← hv2] at c4
       have b0:x0<4294967296:=by rw [hx0]; exact hwu.out.getD _
       have b1:x1<4294967296:=by rw [hx1]; exact hwu.out.getD _
       have b2:x2<4294967296:=by rw [hx2]; exact hwu.out.getD _
       have b3:v1<4294967296:=by rw [hv1]; exact hwv.out.getD _
       have b4:v2<4294967296:=by rw [hv2]; exact hwv.out.getD _
       have b3':2147483648≤v1:=by rw [hv1]; exact HN2.out
       have hml:mid.length=nv+1:=by rw [hmid]; exact HW.out.2.2.1
       have hwm:Wf mid:=by rw [hmid]; exact (hwu.out.drop _).take _
       have mget:∀ i,i≤nv→mid.getD i 0=us.getD (j+i) 0:=by
        intro i hi
        rw [hmid]
        simp only [List.getD]
        rw [List.getElem?_take_of_lt (by omega),List.getElem?_drop]
       have hK:=knu_of mid vs nv hml HN1.out hl2 hwm hwv.out HN2.out (by rw [hvv.out,hmid]; exact HW.out.2.2.2.2.2)
       rw [mget nv (Nat.le_refl _),mget (nv-1) (by omega),mget (nv-2) (by omega),← Nat.add_sub_assoc (by omega),← Nat.add_sub_assoc (by omega),← hx0,← hx1,← hx2,← hv1,← hv2,hvv.out] at hK
       have HK:=Lib.hid hK
       obtain ⟨top,htop⟩:∃ top,top=x0*4294967296+x1:=⟨_,rfl⟩
       have hor:=or_two x0 x1 b0 b1
       rw [← htop] at hor
       rw [← htop] at HK
       have htb:top≤18446744073709551615:=by omega
       obtain ⟨q0,hq0⟩:∃ q,q=top/v1:=⟨_,rfl⟩
       obtain ⟨r0,hr0'⟩:∃ r,r=top % v1:=⟨_,rfl⟩
       have hqi:(top:Int)/(v1:Int)=(q0:Int):=by rw [hq0]; rfl
       have hri:(top:Int) % (v1:Int)=(r0:Int):=by rw [hr0']; rfl
       have hv1i:(1:Int)≤(v1:Int):=by omega
       have H0:Hid (q0*v1+r0=top∧val mid<(q0+1)*(b*2^k)∧r0<4294967296):=by
        refine ⟨by rw [hq0,hr0',Nat.mul_comm]; exact Nat.div_add_mod top v1,by rw [hq0]; exact HK.out.first,?_⟩
        have:=Nat.mod_lt top (show 0<v1 by omega)
        omega
       have i1:(0:Int)≤(j:Int)+(nv:Int):=by omega
       have i2:(j:Int)+(nv:Int)<(la:Int)+1:=by omega
       have i3:(0:Int)≤(j:Int)+(nv:Int)-1:=by omega
       have i4:(j:Int)+(nv:Int)-1<(la:Int)+1:=by omega
       have i5:(0:Int)≤(nv:Int)-1:=by omega
       have hq0b:q0≤8589934592:=by
        rw [hq0]
        refine Nat.le_trans (Nat.div_le_div_left b3' (by omega)) ?_
        omega
       have HTOP:=Lib.hid htop
       have HMID:=Lib.hid hmid
       have HMG:=Lib.hid mget
       clear hcv hx0 hx1 hx2 hv1 hv2 hwm mget hK htop hq0 hr0' hmid
       obtain ⟨wo,rfl⟩:∃ wo:World,wo=wr:=⟨_,rfl⟩
       go_wp2
       go_quiet (fail)
       go_wp2
       go_quiet (fail)
       go_upto_block 5 with fail
       go_cut [15] (fun q wc=>∃ (q':Nat),q'<4294967296∧q=.int .u64 (q':Int)∧Hid (q'*(b*2^k)≤val mid+b*2^k∧val mid<(q'+1)*(b*2^k))∧∃ d,wc=wo.drewN d)
       case first =>
        clear i1 i2
        have i5:(0:Int)≤(nv:Int)-2:=by omega
        have i6:(0:Int)≤(j:Int)+(nv:Int)-2:=by omega
        have i7:(j:Int)+(nv:Int)-2<(la:Int)+1:=by omega
        have hnvb:nv≤4294967296:=by omega
        have hjb:j≤4294967296:=by omega
        clear hla ht32 ht0 HLA hr0 HGE hk hT hT0 hdone hlab HLB hlb1 hlb2 hna HGU HUS HUL hguq hBgu HVlt hwsz hd hj hj0 hlu hlq hwu HW c0 c1 b0 b1 hml HTOP HMID HMG i3 i4 hbu hbq hbel hvw HNE
        go_wp2
        go_loopw [15,16] (fun qv rv wr=>∃ (q r:Nat),qv=.int .u64 (q:Int)∧rv=.int .u64 (r:Int)∧r<4294967296∧q≤8589934592∧Hid (q*v1+r=top∧val mid<(q+1)*(b*2^k))∧∃ d,wr=wo.drewN d) (fun qv _ _=>(intOf qv).toNat)
        case atStart=>exact ⟨q0,r0,rfl,by rw [hri],H0.out.2.2,hq0b,⟨H0.out.1,H0.out.2.1⟩,by first | exact ⟨_,rfl⟩ | exact ⟨_,World.drewN_drewN ..⟩⟩
        case round =>
         obtain ⟨q,r',rfl,rfl,hrb,hqb,HQ,d,rfl⟩:=hrel
         clear hqi hri H0 hor htb hq0b
         by_cases hA:4294967296≤q
         · have hq1:val mid<q*(b*2^k):=HK.out.down HQ.out.1 (.inl hA)
           have hqe:(q-1)*v1+(r'+v1)=top:=by
            have h1:=HQ.out.1
            obtain ⟨q',rfl⟩:∃ q',q=q'+1:=⟨q-1,by omega⟩
            rw [Nat.add_mul] at h1
            simp only [Nat.add_sub_cancel]
            omega
           have HQ1:=Lib.hid hq1
           have HQE:=Lib.hid hqe
           have hAi:decide ((4294967296:Int)≤(q:Int))=true:=by rw [decide_eq_true_eq]; omega
           clear hq1 hqe
           go_wp2
           go_quiet (fail)
           have hqq:1≤q:=by omega
           clear hAi hA
           by_cases hB:4294967296≤r'+v1
           · have hBi:(4294967296:Int)≤(r':Int)+(v1:Int):=by omega
             have HO:=Lib.hid (HK.out.out HQE.out hB)
             go_wp2_with fail
             go_meet
             exact ⟨q-1,HO.out.1,by go_num,⟨HK.out.done HQE.out HO.out.1 HO.out.2,by rw [Nat.sub_add_cancel (by omega)]; exact HQ1.out⟩,by first | exact ⟨_,rfl⟩ | exact ⟨_,World.drewN_drewN ..⟩⟩
           · have hBi:¬ (4294967296:Int)≤(r':Int)+(v1:Int):=by omega
             go_wp2
             go_roundw
             case rel=>exact ⟨q-1,r'+v1,by go_num,by go_num,by omega,by omega,⟨HQE.out,by rw [Nat.sub_add_cancel (by omega)]; exact HQ1.out⟩,by first | exact ⟨_,rfl⟩ | exact ⟨_,World.drewN_drewN ..⟩⟩
             case measure=>simp [intOf]; omega
         · have hAi:decide ((4294967296:Int)≤(q:Int))=false:=by rw [decide_eq_false_iff_not]; omega
           obtain ⟨m,hm⟩:∃ m,m=q*v2:=⟨_,rfl⟩
           have hmb:m≤18446744065119617025:=by rw [hm]; exact mul_word _ _ (by omega) b4
           have hmi:(q:Int)*(v2:Int)=(m:Int):=by rw [hm]; exact (Int.natCast_mul _ _).symm
           have hor2:=or_two r' x2 hrb b2
           obtain ⟨s,hs⟩:∃ s,s=r'*4294967296+x2:=⟨_,rfl⟩
           rw [← hs] at hor2
           have HM:=Lib.hid hm
           have HS:=Lib.hid hs
           clear hm hs
           by_cases hC:s<m
           · have hCi:decide ((s:Int)<(m:Int))=true:=by rw [decide_eq_true_eq]; omega
             have hq1:val mid<q*(b*2^k):=HK.out.down HQ.out.1 (.inr (by rw [← HS.out,← HM.out]; exact hC))
             have hq0:1≤q:=by
              rcases Nat.eq_zero_or_pos q with h | h
              · rw [h,Nat.zero_mul] at hq1; omega
              · exact h
             have hqe:(q-1)*v1+(r'+v1)=top:=by
              have h1:=HQ.out.1
              obtain ⟨q',rfl⟩:∃ q',q=q'+1:=⟨q-1,by omega⟩
              rw [Nat.add_mul] at h1
              simp only [Nat.add_sub_cancel]
              omega
             have HQ1:=Lib.hid hq1
             have HQE:=Lib.hid hqe
             clear hq1 hqe
             go_wp2
             go_quiet (fail)
             have hqq:q≤4294967295:=by omega
             clear HM HS hor2 hmi hmb hCi hAi hA hC hqb
             by_cases hB:4294967296≤r'+v1
             · have hBi:(4294967296:Int)≤(r':Int)+(v1:Int):=by omega
               have HO:=Lib.hid (HK.out.out HQE.out hB)
               go_wp2_with fail
               go_meet
               exact ⟨q-1,HO.out.1,by go_num,⟨HK.out.done HQE.out HO.out.1 HO.out.2,by rw [Nat.sub_add_cancel (by omega)]; exact HQ1.out⟩,by first | exact ⟨_,rfl⟩ | exact ⟨_,World.drewN_drewN ..⟩⟩
             · have hBi:¬ (4294967296:Int)≤(r':Int)+(v1:Int):=by omega
               go_wp2
               go_roundw
               case rel=>exact ⟨q-1,r'+v1,by go_num,by go_num,by omega,by omega,⟨HQE.out,by rw [Nat.sub_add_cancel (by omega)]; exact HQ1.out⟩,by first | exact ⟨_,rfl⟩ | exact ⟨_,World.drewN_drewN ..⟩⟩
               case measure=>simp [intOf]; omega
           · have hCi:decide ((s:Int)<(m:Int))=false:=by rw [decide_eq_false_iff_not]; omega
             have HD2:=Lib.hid (HK.out.done HQ.out.1 (by omega) (by rw [← HS.out,← HM.out]; omega))
             go_wp2
             go_quiet (fail)
             go_wp2_with fail
             go_meet
             exact ⟨q,by omega,rfl,⟨HD2.out,HQ.out.2⟩,by first | exact ⟨_,rfl⟩ | exact ⟨_,World.drewN_drewN ..⟩⟩
       case rest =>
        obtain ⟨q,hq,rfl,HQ,d,rfl⟩:=hcut
        clear hqi hri H0 hor hq0b htb
        clear c0 c1 c2 c3 c4 b0 b1 b2 b3 b4 b3' HK HTOP HMG hv1i i1 i2 i3 i4 i5
        go_wp2_with fail
        have hbud:Buf (wo.drewN d) gu (us.take j++(mid++us.drop (j+nv+1))):=by
         rw [HMID.out,← HW.out.1]
         exact hbu.out
        have hvwd:Words (wo.drewN d) (.slice (some ⟨bv,ov,none⟩) nv cv) vs:=hvw.out.below (Below.drewN_ (Below.refl _ _) d)
        refine (step_any (j:=j) hvwd hbud (fun b o hA=>by have:=HNE.out b o hA; omega) HW.out.2.1 (by omega) (by omega) (by omega) (by omega) (by omega) q (val mid) (b*2^k) hq rfl hvv.out HQ.out.1 HQ.out.2).mono ?_
        rintro e w6 ⟨q',ms,rfl,hq',hml',hvq,hms,hbu6,ho6⟩
        have hnx:=Lib.hid (hd.out.next (q:=q') (ms:=ms) hwu.out HVlt.out (by omega) HUL.out (by rw [hml',HMID.out]) (by rw [← HMID.out]; exact hvq) hms)
        have hbq6:=(show Buf (wo.drewN d) gq qs from hbq.out).only ho6 (by omega)
        have hst:=hbq6.cell j (by rw [hlq.out]; omega)
        have hfz:=hbq6.frozen j
        have hgq6:=hbq6.lt
        have HBU6:=Lib.hid hbu6
        have HBQ6:=Lib.hid hbq6
        have HVW6:=Lib.hid (Only.words hvwd ho6 (fun b o hA=>by have:=HNE.out b o hA; omega))
        have HBEL6:=Lib.hid ((Below.drewN_ hbel.out d).trans (ho6.below hBgu hbel.out.size))
        clear hbud hvwd hbu6 hbq6 ho6 hvq hms hml' hbu hbq hvw hbel hd HW HQ HMID hml
        go_wp2
        go_roundw
        case rel =>
         have ho:Only gq w6 (w6.setCell ⟨gq,j,none⟩ (.int .u32 (q':Int))):=(Only.refl gq w6).set j _
         exact ⟨j,_,_,by omega,rfl,hnx,HBU6.out.only ho (by omega),HBQ6.out.set j q' _ hq' rfl,Only.words HVW6.out ho (fun b o hA=>by have:=HNE.out b o hA; omega),HBEL6.out.setCell (show w.heap.size≤gq by omega) _⟩
        case measure=>simp [intOf]
     · obtain rfl:j=0:=by omega
       have hlast:=hd.out.last HUS.out hbu.out.1 HVlt.out (by omega)
       have HLAST:=Lib.hid hlast
       have hlu:=Lib.hid hd.out.lu
       have hlq:=Lib.hid hd.out.lq
       have hbw:=hbu.out.words (cap:=la+1) (by rw [hlu.out]; omega) (by rw [hlu.out]; exact Nat.le_refl _)
       have hbc:=Words.cut (xs:=us) (by rw [hlu.out] at hbw ⊢; exact hbw) nv (by rw [hlu.out]; omega)
       have hqw:=hbq.out.words (cap:=la+1-nv) (by rw [hlq.out]; omega) (by rw [hlq.out]; exact Nat.le_refl _)
       rw [hlq.out] at hqw
       have HBC:Hid (Words wr.drew _ _):=Lib.hid (show Words wr.drew _ _ from hbc)
       have HQW:Hid (Words wr.drew _ _):=Lib.hid (show Words wr.drew _ _ from hqw)
       have hni:(nv:Int)≤(la:Int)+1:=by omega
       clear hlast hbw hbc hqw
       obtain ⟨wr',hwr'⟩:∃ w',w'=wr:=⟨_,rfl⟩
       go_wp2
       refine wp_region_acts 7 (fun w'=>w'=wr.drew) (fun _ _=>True) (fun i _ v=>match i with
        | 0=>v=.slice (some ⟨gq,0,none⟩) (la+1-nv) (la+1-nv)
        | 1=>v=.slice (some ⟨gq,0,none⟩) (trim qs).length (la+1-nv)
        | 2=>v=.slice (some ⟨gu,0,none⟩) (la+1) (la+1)
        | 3=>v=.int .i64 (nv:Int)
        | 4=>v=.slice (some ⟨gu,0,none⟩) nv (la+1)
        | 5=>v=.slice (some ⟨gu,0,none⟩) (trim (us.take nv)).length (la+1)
        | _=>v=.int .i64 (k:Int)) (by kernel_rfl) (by kernel_rfl) (by kernel_rfl) rfl (fun _ _=>trivial) (fun _ _ _ _ _ _ _ h=>h) ⟨?_,?_,?_,?_,?_,?_,?_,trivial⟩ ?_
       · intro a' w' hag hC hd K hK
         subst hC
         have e:a'.tmps.getD 4 undef=.slice (some ⟨gq,0,none⟩) (la+1-nv) (la+1-nv):=hag 4 rfl
         go_step
         exact hK _ _ rfl trivial rfl
       · intro a' w' hag hC hd K hK
         subst hC
         have e:a'.tmps.getD 163 undef=.slice (some ⟨gq,0,none⟩) (la+1-nv) (la+1-nv):=hd.1
         go_step
         refine (cut_any HQW.out).mono ?_
         rintro e w'' ⟨rfl,rfl⟩
         exact hK _ _ rfl trivial rfl
       · intro a' w' hag hC hd K hK
         subst hC
         have e:a'.tmps.getD 11 undef=.slice (some ⟨gu,0,none⟩) (la+1) (la+1):=hag 11 rfl
         go_step
         exact hK _ _ rfl trivial rfl
       · intro a' w' hag hC hd K hK
         subst hC
         have e:a'.tmps.getD 12 undef=.int .i64 (nv:Int):=hag 12 rfl
         go_step
         exact hK _ _ rfl trivial rfl
       · intro a' w' hag hC hd K hK
         subst hC
         have e:a'.tmps.getD 165 undef=.slice (some ⟨gu,0,none⟩) (la+1) (la+1):=hd.1
         have e2:a'.tmps.getD 166 undef=.int .i64 (nv:Int):=hd.2.1
         go_step
         exact hK _ _ rfl trivial rfl
       · intro a' w' hag hC hd K hK
         subst hC
         have e:a'.tmps.getD 167 undef=.slice (some ⟨gu,0,none⟩) nv (la+1):=hd.1
         go_step
         refine (cut_any HBC.out).mono ?_
         rintro e w'' ⟨rfl,rfl⟩
         exact hK _ _ rfl trivial rfl
       · intro a' w' hag hC hd K hK
         subst hC
         have e:a'.tmps.getD 8 undef=.int .i64 (k:Int):=hag 8 rfl
         go_step
         exact hK _ _ rfl trivial rfl
       · intro u w' hC hall
         subst hC
         obtain ⟨h0,h1,h2,h3,h4,h5,h6,_⟩:=hall
         have h1:u 1=.slice (some ⟨gq,0,none⟩) (trim qs).length (la+1-nv):=h1
         have h5:u 5=.slice (some ⟨gu,0,none⟩) (trim (us.take nv)).length (la+1):=h5
         have h6:u 6=.int .i64 (k:Int):=h6
         simp only [fillR,List.take_succ_cons,List.take_zero,Act.put,List.setIfInBounds_toArray,List.set_cons_succ,List.set_cons_zero,Nat.zero_add,Nat.reduceAdd,h1,h5,h6]
         have HBT:=Lib.hid HBC.out.trim_
         have hbtl:(trim (us.take nv)).length≤17179869184:=HBT.out.2.1
         clear h0 h1 h2 h3 h4 h5 h6
         go_wp2_with (go_at_call 377; refine (right_any HBT.out hbtl k (by omega)).mono ?_; rintro e w7 ⟨vr,rfl,hvr,hb7⟩)
         go_ret2
         refine ⟨.slice (some ⟨gq,0,none⟩) (trim qs).length (la+1-nv),vr,rfl,?_,?_,hbel.out.drew.trans (hb7.mono hbel.out.size)⟩
         · rw [← dig_of qs _ HQW.out.1 HLAST.out.1]
           exact (HQW.out.trim_).below hb7
         · rw [val_trim,HLAST.out.2] at hvr
           exact hvr
theorem divide_any {A B:Option Addr} {la ca lb cb a b:Nat} {w:World} (hx:Words w (.slice A la ca) (dig a)) (hy:Words w (.slice B lb cb) (dig b)) (hb:0<b) (hla:la≤4294967296) :
  Calls Tryz.prog 358 #[.slice A la ca,.slice B lb cb] w (DivPost w a b):=by
 rcases Nat.lt_or_ge a b with h | h
 · exact divide_small hx hy h
 · have hl:=hy.len.1
   have h0:0<lb:=by
    rcases Nat.eq_zero_or_pos lb with h1 | h1
    · rw [h1] at hl
      have:=(dig_nil_iff b).1 (List.eq_nil_of_length_eq_zero hl.symm)
      omega
    · exact h1
   rcases Nat.eq_or_lt_of_le h0 with h1 | h1
   · subst h1
     exact divide_word hx hy h
   · exact divide_long hx hy h h1 hla
end
end Go.Proofs.YthkpghhoffihmaaGreatDoor
end
section
namespace Go.Proofs.YthkpghhoffihmaaGreatDoor
open Go.RowKit
def sg (neg:Bool) (m:Nat):Int:=if neg then -(m:Int) else (m:Int)
theorem sg_natAbs (neg:Bool) (m:Nat):(sg neg m).natAbs=m:=by cases neg<;>simp [sg]
theorem sg_neg (neg:Bool) (m:Nat):decide (sg neg m<0)=(neg&&decide (0<m)):=by
 cases neg<;>simp [sg]
theorem sg_of (n:Int):sg (decide (n<0)) n.natAbs=n:=by
 unfold sg
 split<;>rename_i h<;>simp at h<;>omega
theorem len_pos (m:Nat):decide (0<(dig m).length)=decide (0<m):=by
 rw [decide_eq_decide]
 have:=dig_nil_iff m
 constructor
 · intro h
   rcases Nat.eq_zero_or_pos m with h0 | h0
   · rw [this.2 h0] at h; simp at h
   · exact h0
 · intro h
   rcases Nat.eq_zero_or_pos (dig m).length with h0 | h0
   · have:=this.1 (List.eq_nil_of_length_eq_zero h0); omega
   · exact h0
theorem intAt_set {w:World} {b o:Nat} {A:Option Addr} {cap:Nat} {xs:List Nat} {neg:Bool} (hs:Slot w b o 2) (hw:Words w (.slice A (trim xs).length cap) (trim xs)) (hwf:Wf xs) (c:Bool) (hc:c=(neg&&decide (0<(trim xs).length))) :
  IntAt ((w.setCell ⟨b,o+1,none⟩ (.slice A (trim xs).length cap)).setCell ⟨b,o,none⟩ (.bool c)) b o (sg neg (val xs)) ∧
  Touch w ((w.setCell ⟨b,o+1,none⟩ (.slice A (trim xs).length cap)).setCell ⟨b,o,none⟩ (.bool c)) b o 2:=by
 have ht:Touch w ((w.setCell ⟨b,o+1,none⟩ (.slice A (trim xs).length cap)).setCell ⟨b,o,none⟩ (.bool c)) b o 2 :=
  ((Touch.refl w b o 2).set_ (o+1) (by omega) _).set_ o (by omega) _
 obtain ⟨cs,t,h1,h2,h3⟩:=id hs
 have hb:((w.setCell ⟨b,o+1,none⟩ (.slice A (trim xs).length cap)).setCell ⟨b,o,none⟩ (.bool c)).heap[b]?=some (.cells ((cs.setIfInBounds (o+1) (.slice A (trim xs).length cap)).setIfInBounds o (.bool c)) t (0,0)):=by
  simp [World.setCell,Array.getElem?_modify,h1]
 have hd:trim xs=dig (val xs):=dig_of xs _ hwf rfl
 refine ⟨⟨hs.touch ht,?_,.slice A (trim xs).length cap,?_,?_⟩,ht⟩
 · rw [cell_of_row _ _ _ _ _ _ hb,Array.getElem?_setIfInBounds_self_of_lt (by simp; omega),sg_neg,hc,hd,len_pos]
 · rw [cell_of_row _ _ _ _ _ _ hb,Array.getElem?_setIfInBounds_ne (by omega),Array.getElem?_setIfInBounds_self_of_lt (by omega)]
 · rw [sg_natAbs,← hd]
   exact hw.touch hs ht
theorem is_any {w:World} {b o:Nat} {A:Option Addr} {n cap:Nat} {xs:List Nat} (neg:Bool) (hs:Slot w b o 2) (hw:Words w (.slice A n cap) xs) :
  Calls Tryz.prog 328 #[.pointer (some ⟨b,o,none⟩),.bool neg,.slice A n cap] w fun e w'=>e=.returned (.pointer (some ⟨b,o,none⟩))∧IntAt w' b o (sg neg (val xs))∧Touch w w' b o 2:=by
 obtain ⟨v0,hc0⟩:=hs.cell o (by omega)
 obtain ⟨v1,hc1⟩:=hs.cell (o+1) (by omega)
 have hf0:=hs.frozen o
 have hf1:=hs.frozen (o+1)
 have HW:=Lib.hid hw
 have hset:=fun c hc=>intAt_set (neg:=neg) (c:=c) hs hw.trim_ hw.1 hc
 have HS:=Lib.hid hset
 have hml:=(trim_length_le xs)
 have hnl:=hw.2.1
 clear hset hw hs
 obtain ⟨m,hm⟩:∃ m,m=(trim xs).length:=⟨_,rfl⟩
 rw [← hm] at HS
 have hmb:m≤17179869184:=by omega
 have HM:=Lib.hid hm
 clear hm hml hnl
 cases neg
 all_goals
  go_enter Tryz.func328,Tryz.ntmps328
  go_wp2_with (go_at_call 363; refine (cut_any HW.out).mono ?_; rw [← HM.out]; rintro e w2 ⟨rfl,rfl⟩)
  go_ret
  exact ⟨rfl,HS.out _ (by simp)⟩
theorem set_any {w:World} {b o c p:Nat} {n:Int} (hz:Slot w b o 2) (hx:IntAt w c p n) :
  Calls Tryz.prog 323 #[.pointer (some ⟨b,o,none⟩),.pointer (some ⟨c,p,none⟩)] w fun e w'=>e=.returned (.pointer (some ⟨b,o,none⟩))∧IntAt w' b o n∧Touch w w' b o 2:=by
 have HX:=Lib.hid hx
 have HZ:=Lib.hid hz
 obtain ⟨_,hc0,v,hc1,hv⟩:=hx
 obtain ⟨A,m,cap,rfl⟩:=hv.form
 have HV:=Lib.hid hv
 have HC0:=Lib.hid hc0
 have HC1:=Lib.hid hc1
 have hlt:c<w.heap.size:=HX.out.lt
 clear hz hv hc0 hc1
 go_enter Tryz.func323,Tryz.ntmps323
 go_wp2
 refine wp_region_acts 10 (fun w'=>Below w.heap.size w w') (fun w w'=>Below w.heap.size w w') (fun i w v=>match i with
   | 0=>v=.pointer (some ⟨b,o,none⟩)
   | 1=>v=.pointer (some ⟨c,p,none⟩)
   | 2=>v=.pointer (some ⟨c,p,none⟩)
   | 3=>v=.pointer (some ⟨c,p,none⟩)
   | 4=>v=.bool (decide (n<0))
   | 5=>v=.pointer (some ⟨c,p,none⟩)
   | 6=>v=.pointer (some ⟨c,p,none⟩)
   | 7=>v=.pointer (some ⟨c,p+1,none⟩)
   | 8=>v=.slice A m cap
   | _=>∃ A' m' c',v=.slice A' m' c'∧Words w (.slice A' m' c') (dig n.natAbs)) (by kernel_rfl) (by kernel_rfl) (by kernel_rfl) ((Below.refl _ _).drew) (fun _ _=>Below.refl _ _) ?_ ⟨?_,?_,?_,?_,?_,?_,?_,?_,?_,?_,trivial⟩ ?_
 · intro i w1 w2 v hC hC2 hE hV
   match i with
   | 0=>exact hV
   | 1=>exact hV
   | 2=>exact hV
   | 3=>exact hV
   | 4=>exact hV
   | 5=>exact hV
   | 6=>exact hV
   | 7=>exact hV
   | 8=>exact hV
   | _+9=>obtain ⟨A',m',c',e,h⟩:=hV; exact ⟨A',m',c',e,h.below hE⟩
 · intro a' w' hag hC hd K hK
   have e0:a'.tmps.getD 0 undef=.pointer (some ⟨b,o,none⟩):=hag 0 rfl
   go_step
   exact hK _ _ hC (Below.refl _ _) rfl
 · intro a' w' hag hC hd K hK
   have e1:a'.tmps.getD 1 undef=.pointer (some ⟨c,p,none⟩):=hag 1 rfl
   go_step
   exact hK _ _ hC (Below.refl _ _) rfl
 · intro a' w' hag hC hd K hK
   have e6:a'.tmps.getD 6 undef=.pointer (some ⟨c,p,none⟩):=hd.1
   go_step
   exact hK _ _ hC (Below.refl _ _) rfl
 · intro a' w' hag hC hd K hK
   have e7:a'.tmps.getD 7 undef=.pointer (some ⟨c,p,none⟩):=hd.1
   go_step
   exact hK _ _ hC (Below.refl _ _) rfl
 · intro a' w' hag hC hd K hK
   have e8:a'.tmps.getD 8 undef=.pointer (some ⟨c,p,none⟩):=hd.1
   have hcell:w'.cell? ⟨c,p,none⟩=some (.bool (decide (n<0))):=by rw [hC.cell (p:=⟨c,p,none⟩) hlt]; exact HC0.out
   have HC:=Lib.hid hC
   clear hC
   go_step
   exact hK _ _ HC.out (Below.refl _ _) rfl
 · intro a' w' hag hC hd K hK
   have e1:a'.tmps.getD 1 undef=.pointer (some ⟨c,p,none⟩):=hag 1 rfl
   go_step
   exact hK _ _ hC (Below.refl _ _) rfl
 · intro a' w' hag hC hd K hK
   have e10:a'.tmps.getD 10 undef=.pointer (some ⟨c,p,none⟩):=hd.1
   go_step
   exact hK _ _ hC (Below.refl _ _) rfl
 · intro a' w' hag hC hd K hK
   have e11:a'.tmps.getD 11 undef=.pointer (some ⟨c,p,none⟩):=hd.1
   go_step
   exact hK _ _ hC (Below.refl _ _) rfl
 · intro a' w' hag hC hd K hK
   have e12:a'.tmps.getD 12 undef=.pointer (some ⟨c,p+1,none⟩):=hd.1
   have hcell:w'.cell? ⟨c,p+1,none⟩=some (.slice A m cap):=by rw [hC.cell (p:=⟨c,p+1,none⟩) hlt]; exact HC1.out
   have HC:=Lib.hid hC
   clear hC
   go_step
   exact hK _ _ HC.out (Below.refl _ _) rfl
 · intro a' w' hag hC hd K hK
   have e13:a'.tmps.getD 13 undef=.slice A m cap:=hd.1
   refine wp_append_copy (.const (.slice none 0 0)) (.tmp 13) rfl rfl e13 (HV.out.below hC) (fun v' w2 h1 h2=>?_)
   obtain ⟨A',m',c',rfl⟩:=h1.form
   exact hK _ _ (hC.trans (h2.mono hC.size)) h2 ⟨_,_,_,rfl,h1⟩
 · intro u w' hC hall
   obtain ⟨u0,u1,u2,u3,u4,u5,u6,u7,u8,u9,_⟩:=hall
   have u0:u 0=.pointer (some ⟨b,o,none⟩):=u0
   have u1:u 1=.pointer (some ⟨c,p,none⟩):=u1
   have u2:u 2=.pointer (some ⟨c,p,none⟩):=u2
   have u3:u 3=.pointer (some ⟨c,p,none⟩):=u3
   have u4:u 4=.bool (decide (n<0)):=u4
   have u5:u 5=.pointer (some ⟨c,p,none⟩):=u5
   have u6:u 6=.pointer (some ⟨c,p,none⟩):=u6
   have u7:u 7=.pointer (some ⟨c,p+1,none⟩):=u7
   have u8:u 8=.slice A m cap:=u8
   obtain ⟨A',m',c',eu9,hw'⟩:=u9
   have u9:u 9=.slice A' m' c':=eu9
   simp only [fillR,List.take_succ_cons,List.take_zero,Act.put,List.setIfInBounds_toArray,List.set_cons_succ,List.set_cons_zero,Nat.zero_add,Nat.reduceAdd,u0,u1,u2,u3,u4,u5,u6,u7,u8,u9]
   clear u0 u1 u2 u3 u4 u5 u6 u7 u8 u9
   have HW:=Lib.hid hw'
   have HC:=Lib.hid hC
   have hsl:=HZ.out.on hC
   clear hw' hC
   go_wp2_with (go_at_call 328; refine (is_any (decide (n<0)) hsl HW.out).mono ?_; rintro e w2 ⟨rfl,h1,h2⟩)
   go_ret
   rw [val_dig,sg_of] at h1
   exact ⟨rfl,h1,(Touch.of_below HC.out _ _ _).trans h2⟩
theorem sign_any {w:World} {b o:Nat} {n:Int} (hx:IntAt w b o n) :
  Calls Tryz.prog 237 #[.pointer (some ⟨b,o,none⟩)] w fun e w'=>e=.returned (.int .i64 n.sign)∧w=w':=by
 obtain ⟨_,hc0,v,hc1,hv⟩:=hx
 obtain ⟨A,m,cap,rfl⟩:=hv.form
 have hm:=hv.len.1
 have hd:=dig_nil_iff n.natAbs
 have hb:=hv.2.1
 rcases Int.lt_trichotomy n 0 with h | h | h
 · have hs:n.sign = -1:=Int.sign_eq_neg_one_of_neg h
   have hdn:decide (n<0)=true:=by simpa using h
   have hm1:0<m:=by
    rcases Nat.eq_zero_or_pos m with h0 | h0
    · have:=hd.1 (List.eq_nil_of_length_eq_zero (by omega)); omega
    · exact h0
   have hmb:m≤17179869184:=by omega
   have hm2:((m:Int)==0)=false:=by rw [beq_eq_false_iff_ne]; omega
   rw [hdn] at hc0
   rw [hs]
   clear hm hd hb hv hs hdn h
   go_enter Tryz.func237,Tryz.ntmps237
   go_wp2
   go_ret
   exact ⟨rfl,rfl⟩
 · subst h
   have hm0:m=0:=by rw [hm,hd.2 rfl]; rfl
   subst hm0
   clear hm hd hb hv
   go_enter Tryz.func237,Tryz.ntmps237
   go_wp2
   go_ret
   exact ⟨rfl,rfl⟩
 · have hs:n.sign=1:=Int.sign_eq_one_of_pos h
   have hdn:decide (n<0)=false:=by simp; omega
   have hm1:0<m:=by
    rcases Nat.eq_zero_or_pos m with h0 | h0
    · have:=hd.1 (List.eq_nil_of_length_eq_zero (by omega)); omega
    · exact h0
   have hmb:m≤17179869184:=by omega
   have hm2:((m:Int)==0)=false:=by rw [beq_eq_false_iff_ne]; omega
   rw [hdn] at hc0
   rw [hs]
   clear hm hd hb hv hs hdn h
   go_enter Tryz.func237,Tryz.ntmps237
   go_wp2
   go_ret
   exact ⟨rfl,rfl⟩
theorem intAt_sign {w:World} {b o:Nat} {n n':Int} (h:IntAt w b o n) (hn:n'.natAbs=n.natAbs) (c:Bool) (hc:c=decide (n'<0)) :
  IntAt (w.setCell ⟨b,o,none⟩ (.bool c)) b o n'∧Touch w (w.setCell ⟨b,o,none⟩ (.bool c)) b o 2:=by
 have ht:Touch w (w.setCell ⟨b,o,none⟩ (.bool c)) b o 2:=(Touch.refl w b o 2).set_ o (by omega) _
 obtain ⟨hs,_,v,hc1,hv⟩:=h
 obtain ⟨cs,t,h1,h2,h3⟩:=id hs
 have hb:(w.setCell ⟨b,o,none⟩ (.bool c)).heap[b]?=some (.cells (cs.setIfInBounds o (.bool c)) t (0,0)):=by
  simp [World.setCell,Array.getElem?_modify,h1]
 refine ⟨⟨hs.touch ht,?_,v,?_,?_⟩,ht⟩
 · rw [cell_of_row _ _ _ _ _ _ hb,Array.getElem?_setIfInBounds_self_of_lt (by omega),hc]
 · rw [cell_of_row _ _ _ _ _ _ hb,Array.getElem?_setIfInBounds_ne (by omega),← cell_of_row w b (o+1) cs t (0,0) h1]
   exact hc1
 · rw [hn]
   exact hv.touch hs ht
theorem neg_any {w:World} {b o c p:Nat} {n:Int} (hz:Slot w b o 2) (hx:IntAt w c p n) :
  Calls Tryz.prog 319 #[.pointer (some ⟨b,o,none⟩),.pointer (some ⟨c,p,none⟩)] w fun e w'=>e=.returned (.pointer (some ⟨b,o,none⟩))∧IntAt w' b o (-n)∧Touch w w' b o 2:=by
 have HX:=Lib.hid hx
 have HZ:=Lib.hid hz
 clear hx hz
 go_enter Tryz.func319,Tryz.ntmps319
 go_wp2_with fail
 refine (set_any HZ.out HX.out).mono ?_
 rintro e w1 ⟨rfl,h1,h2⟩
 obtain ⟨hs,hc0,v,hc1,hv⟩:=id h1
 obtain ⟨A,m,cap,rfl⟩:=hv.form
 have hm:=hv.len.1
 have hmb:m≤17179869184:=by have:=hv.2.1; omega
 have hlp:=len_pos n.natAbs
 rw [← hm] at hlp
 have hf:=hs.frozen o
 have HS:=Lib.hid fun c hc=>intAt_sign (n':=-n) h1 (by omega) c hc
 have H2:=Lib.hid h2
 have HLP:=Lib.hid hlp
 clear h1 h2 hs hv hm hlp
 by_cases h:n<0
 · have hd:decide (n<0)=true:=by simpa using h
   rw [hd] at hc0
   clear hd
   go_wp2
   go_ret
   have h3:=HS.out _ (show false=decide (-n<0) by simp; omega)
   exact ⟨rfl,h3.1,H2.out.trans h3.2⟩
 · have hd:decide (n<0)=false:=by simp; omega
   rw [hd] at hc0
   clear hd
   go_wp2
   go_ret
   have h3:=HS.out (decide (0<m)) (by rw [HLP.out,decide_eq_decide]; omega)
   exact ⟨rfl,h3.1,H2.out.trans h3.2⟩
theorem of_any {w:World} (n:Nat) (hn:n≤18446744073709551615) :
  Calls Tryz.prog 329 #[.int .u64 (n:Int)] w fun e w'=>∃ v,e=.returned v∧Words w' v (dig n)∧Below w.heap.size w w':=by
 have e1:trim [n % 4294967296,n/4294967296]=dig n:=dig_of _ _ (Wf.cons (by omega) (Wf.cons (by omega) Wf.nil)) (by simp only [val]; omega)
 have hw:=words_two w (n % 4294967296) (n/4294967296) ((n:Int) % 4294967296) ((n:Int)/4294967296) (by omega) (by omega) (by omega) (by omega)
 have HE:=Lib.hid e1
 have HW:=Lib.hid hw
 have hq:(n:Int)/4294967296≤4294967295:=by omega
 clear e1 hw
 go_enter Tryz.func329,Tryz.ntmps329
 go_wp2_with (go_at_call 363; refine (cut_any HW.out).mono ?_; rintro e w2 ⟨rfl,rfl⟩)
 go_ret
 refine ⟨_,rfl,?_,(Below.refl _ _).alloc (Nat.le_refl _) _⟩
 have h:=HW.out.trim_
 rw [HE.out] at h ⊢
 exact h
theorem IntAt.open_ {w:World} {b o:Nat} {n:Int} (h:IntAt w b o n):∃ A m cap,w.cell? ⟨b,o,none⟩=some (.bool (decide (n<0)))∧w.cell? ⟨b,o+1,none⟩=some (.slice A m cap)∧Words w (.slice A m cap) (dig n.natAbs)∧b<w.heap.size:=by
 have hlt:=h.lt
 obtain ⟨_,hc0,v,hc1,hv⟩:=h
 obtain ⟨A,m,cap,rfl⟩:=hv.form
 exact ⟨A,m,cap,hc0,hc1,hv,hlt⟩
theorem sg_mul (n m:Int):sg (decide (n<0) != decide (m<0)) (n.natAbs*m.natAbs)=n*m:=by
 have e1:((n.natAbs*m.natAbs:Nat):Int)=(n.natAbs:Int)*(m.natAbs:Int):=Int.natCast_mul _ _
 by_cases h:n<0<;>by_cases k:m<0
 · have a1:(n.natAbs:Int) = -n:=by omega
   have a2:(m.natAbs:Int) = -m:=by omega
   simp [sg,h,k,e1,a1,a2,Int.neg_mul,Int.mul_neg]
 · have a1:(n.natAbs:Int) = -n:=by omega
   have a2:(m.natAbs:Int)=m:=by omega
   simp [sg,h,k,e1,a1,a2,Int.neg_mul,Int.mul_neg]
 · have a1:(n.natAbs:Int)=n:=by omega
   have a2:(m.natAbs:Int) = -m:=by omega
   simp [sg,h,k,e1,a1,a2,Int.neg_mul,Int.mul_neg]
 · have a1:(n.natAbs:Int)=n:=by omega
   have a2:(m.natAbs:Int)=m:=by omega
   simp [sg,h,k,e1,a1,a2,Int.neg_mul,Int.mul_neg]
def Okn (n:Int):Prop:=(dig n.natAbs).length≤4294967296
theorem mul_any {w:World} {b o c p d q:Nat} {n m:Int} (hz:Slot w b o 2) (hx:IntAt w c p n) (hy:IntAt w d q m) (hn:Okn n) (hm:Okn m) :
  Calls Tryz.prog 269 #[.pointer (some ⟨b,o,none⟩),.pointer (some ⟨c,p,none⟩),.pointer (some ⟨d,q,none⟩)] w fun e w'=>e=.returned (.pointer (some ⟨b,o,none⟩))∧IntAt w' b o (n*m)∧Touch w w' b o 2:=by
 obtain ⟨A,la,ca,hx0,hx1,hxv,hxl⟩:=hx.open_
 obtain ⟨B,lb,cb,hy0,hy1,hyv,hyl⟩:=hy.open_
 have hla:la≤4294967296:=by have:=hxv.len.1; unfold Okn at hn; omega
 have hlb:lb≤4294967296:=by have:=hyv.len.1; unfold Okn at hm; omega
 have HX0:=Lib.hid hx0
 have HX1:=Lib.hid hx1
 have HXV:=Lib.hid hxv
 have HY0:=Lib.hid hy0
 have HY1:=Lib.hid hy1
 have HYV:=Lib.hid hyv
 have HZ:=Lib.hid hz
 clear hx hy hx0 hx1 hxv hy0 hy1 hyv hz hn hm
 go_enter Tryz.func269,Tryz.ntmps269
 go_wp2
 refine wp_region_acts 19 (fun w'=>Below w.heap.size w w') (fun w w'=>Below w.heap.size w w') (fun i w v=>match i with
   | 0=>v=.pointer (some ⟨b,o,none⟩)
   | 1=>v=.pointer (some ⟨c,p,none⟩)
   | 2=>v=.pointer (some ⟨c,p,none⟩)
   | 3=>v=.pointer (some ⟨c,p,none⟩)
   | 4=>v=.bool (decide (n<0))
   | 5=>v=.pointer (some ⟨d,q,none⟩)
   | 6=>v=.pointer (some ⟨d,q,none⟩)
   | 7=>v=.pointer (some ⟨d,q,none⟩)
   | 8=>v=.bool (decide (m<0))
   | 9=>v=.bool (decide (n<0) != decide (m<0))
   | 10=>v=.pointer (some ⟨c,p,none⟩)
   | 11=>v=.pointer (some ⟨c,p,none⟩)
   | 12=>v=.pointer (some ⟨c,p+1,none⟩)
   | 13=>v=.slice A la ca
   | 14=>v=.pointer (some ⟨d,q,none⟩)
   | 15=>v=.pointer (some ⟨d,q,none⟩)
   | 16=>v=.pointer (some ⟨d,q+1,none⟩)
   | 17=>v=.slice B lb cb
   | _=>∃ A' m' c' zs,v=.slice A' m' c'∧Words w (.slice A' m' c') zs∧val zs=val (dig n.natAbs)*val (dig m.natAbs)) (by kernel_rfl) (by kernel_rfl) (by kernel_rfl) ((Below.refl _ _).drew) (fun _ _=>Below.refl _ _) ?_ ⟨?_,?_,?_,?_,?_,?_,?_,?_,?_,?_,?_,?_,?_,?_,?_,?_,?_,?_,?_,trivial⟩ ?_
 · intro i w1 w2 v hC hC2 hE hV
   match i with
   | 0=>exact hV
   | 1=>exact hV
   | 2=>exact hV
   | 3=>exact hV
   | 4=>exact hV
   | 5=>exact hV
   | 6=>exact hV
   | 7=>exact hV
   | 8=>exact hV
   | 9=>exact hV
   | 10=>exact hV
   | 11=>exact hV
   | 12=>exact hV
   | 13=>exact hV
   | 14=>exact hV
   | 15=>exact hV
   | 16=>exact hV
   | 17=>exact hV
   | _+18=>obtain ⟨A',m',c',zs,e,h,hz⟩:=hV; exact ⟨A',m',c',zs,e,h.below hE,hz⟩
 · intro a' w' hag hC hd K hK
   have e0:a'.tmps.getD 0 undef=.pointer (some ⟨b,o,none⟩):=hag 0 rfl
   go_step
   exact hK _ _ hC (Below.refl _ _) rfl
 · intro a' w' hag hC hd K hK
   have e1:a'.tmps.getD 1 undef=.pointer (some ⟨c,p,none⟩):=hag 1 rfl
   go_step
   exact hK _ _ hC (Below.refl _ _) rfl
 · intro a' w' hag hC hd K hK
   have e8:a'.tmps.getD 8 undef=.pointer (some ⟨c,p,none⟩):=hd.1
   go_step
   exact hK _ _ hC (Below.refl _ _) rfl
 · intro a' w' hag hC hd K hK
   have e9:a'.tmps.getD 9 undef=.pointer (some ⟨c,p,none⟩):=hd.1
   go_step
   exact hK _ _ hC (Below.refl _ _) rfl
 · intro a' w' hag hC hd K hK
   have e10:a'.tmps.getD 10 undef=.pointer (some ⟨c,p,none⟩):=hd.1
   have hcell:w'.cell? ⟨c,p,none⟩=some (.bool (decide (n<0))):=by rw [hC.cell (p:=⟨c,p,none⟩) hxl]; exact HX0.out
   have HC:=Lib.hid hC
   clear hC
   go_step
   exact hK _ _ HC.out (Below.refl _ _) rfl
 · intro a' w' hag hC hd K hK
   have e2:a'.tmps.getD 2 undef=.pointer (some ⟨d,q,none⟩):=hag 2 rfl
   go_step
   exact hK _ _ hC (Below.refl _ _) rfl
 · intro a' w' hag hC hd K hK
   have e12:a'.tmps.getD 12 undef=.pointer (some ⟨d,q,none⟩):=hd.1
   go_step
   exact hK _ _ hC (Below.refl _ _) rfl
 · intro a' w' hag hC hd K hK
   have e13:a'.tmps.getD 13 undef=.pointer (some ⟨d,q,none⟩):=hd.1
   go_step
   exact hK _ _ hC (Below.refl _ _) rfl
 · intro a' w' hag hC hd K hK
   have e14:a'.tmps.getD 14 undef=.pointer (some ⟨d,q,none⟩):=hd.1
   have hcell:w'.cell? ⟨d,q,none⟩=some (.bool (decide (m<0))):=by rw [hC.cell (p:=⟨d,q,none⟩) hyl]; exact HY0.out
   have HC:=Lib.hid hC
   clear hC
   go_step
   exact hK _ _ HC.out (Below.refl _ _) rfl
 · intro a' w' hag hC hd K hK
   have e11:a'.tmps.getD 11 undef=.bool (decide (n<0)):=hd.1
   have e15:a'.tmps.getD 15 undef=.bool (decide (m<0)):=hd.2.1
   go_step
   exact hK _ _ hC (Below.refl _ _) rfl
 · intro a' w' hag hC hd K hK
   have e1:a'.tmps.getD 1 undef=.pointer (some ⟨c,p,none⟩):=hag 1 rfl
   go_step
   exact hK _ _ hC (Below.refl _ _) rfl
 · intro a' w' hag hC hd K hK
   have e17:a'.tmps.getD 17 undef=.pointer (some ⟨c,p,none⟩):=hd.1
   go_step
   exact hK _ _ hC (Below.refl _ _) rfl
 · intro a' w' hag hC hd K hK
   have e18:a'.tmps.getD 18 undef=.pointer (some ⟨c,p,none⟩):=hd.1
   go_step
   exact hK _ _ hC (Below.refl _ _) rfl
 · intro a' w' hag hC hd K hK
   have e19:a'.tmps.getD 19 undef=.pointer (some ⟨c,p+1,none⟩):=hd.1
   have hcell:w'.cell? ⟨c,p+1,none⟩=some (.slice A la ca):=by rw [hC.cell (p:=⟨c,p+1,none⟩) hxl]; exact HX1.out
   have HC:=Lib.hid hC
   clear hC
   go_step
   exact hK _ _ HC.out (Below.refl _ _) rfl
 · intro a' w' hag hC hd K hK
   have e2:a'.tmps.getD 2 undef=.pointer (some ⟨d,q,none⟩):=hag 2 rfl
   go_step
   exact hK _ _ hC (Below.refl _ _) rfl
 · intro a' w' hag hC hd K hK
   have e21:a'.tmps.getD 21 undef=.pointer (some ⟨d,q,none⟩):=hd.1
   go_step
   exact hK _ _ hC (Below.refl _ _) rfl
 · intro a' w' hag hC hd K hK
   have e22:a'.tmps.getD 22 undef=.pointer (some ⟨d,q,none⟩):=hd.1
   go_step
   exact hK _ _ hC (Below.refl _ _) rfl
 · intro a' w' hag hC hd K hK
   have e23:a'.tmps.getD 23 undef=.pointer (some ⟨d,q+1,none⟩):=hd.1
   have hcell:w'.cell? ⟨d,q+1,none⟩=some (.slice B lb cb):=by rw [hC.cell (p:=⟨d,q+1,none⟩) hyl]; exact HY1.out
   have HC:=Lib.hid hC
   clear hC
   go_step
   exact hK _ _ HC.out (Below.refl _ _) rfl
 · intro a' w' hag hC hd K hK
   have e20:a'.tmps.getD 20 undef=.slice A la ca:=hd.1
   have e24:a'.tmps.getD 24 undef=.slice B lb cb:=hd.2.1
   go_step
   refine (product_any (HXV.out.below hC) (HYV.out.below hC) (by omega) (by omega)).mono ?_
   rintro e w2 ⟨v,zs,rfl,h1,h2,h3⟩
   obtain ⟨A',m',c',rfl⟩:=h1.form
   exact hK _ _ (hC.trans (h3.mono hC.size)) h3 ⟨_,_,_,_,rfl,h1,h2⟩
 · intro u w' hC hall
   obtain ⟨u0,u1,u2,u3,u4,u5,u6,u7,u8,u9,u10,u11,u12,u13,u14,u15,u16,u17,u18,_⟩:=hall
   have u0:u 0=.pointer (some ⟨b,o,none⟩):=u0
   have u1:u 1=.pointer (some ⟨c,p,none⟩):=u1
   have u2:u 2=.pointer (some ⟨c,p,none⟩):=u2
   have u3:u 3=.pointer (some ⟨c,p,none⟩):=u3
   have u4:u 4=.bool (decide (n<0)):=u4
   have u5:u 5=.pointer (some ⟨d,q,none⟩):=u5
   have u6:u 6=.pointer (some ⟨d,q,none⟩):=u6
   have u7:u 7=.pointer (some ⟨d,q,none⟩):=u7
   have u8:u 8=.bool (decide (m<0)):=u8
   have u9:u 9=.bool (decide (n<0) != decide (m<0)):=u9
   have u10:u 10=.pointer (some ⟨c,p,none⟩):=u10
   have u11:u 11=.pointer (some ⟨c,p,none⟩):=u11
   have u12:u 12=.pointer (some ⟨c,p+1,none⟩):=u12
   have u13:u 13=.slice A la ca:=u13
   have u14:u 14=.pointer (some ⟨d,q,none⟩):=u14
   have u15:u 15=.pointer (some ⟨d,q,none⟩):=u15
   have u16:u 16=.pointer (some ⟨d,q+1,none⟩):=u16
   have u17:u 17=.slice B lb cb:=u17
   obtain ⟨A',m',c',zs,eu18,hw',hzs⟩:=u18
   have u18:u 18=.slice A' m' c':=eu18
   simp only [fillR,List.take_succ_cons,List.take_zero,Act.put,List.setIfInBounds_toArray,List.set_cons_succ,List.set_cons_zero,Nat.zero_add,Nat.reduceAdd,u0,u1,u2,u3,u4,u5,u6,u7,u8,u9,u10,u11,u12,u13,u14,u15,u16,u17,u18]
   clear u0 u1 u2 u3 u4 u5 u6 u7 u8 u9 u10 u11 u12 u13 u14 u15 u16 u17 u18
   have HW:=Lib.hid hw'
   have HC:=Lib.hid hC
   have hsl:=HZ.out.on hC
   have HZS:=Lib.hid hzs
   clear hw' hC hzs
   go_wp2_with (go_at_call 328; refine (is_any _ hsl HW.out).mono ?_; rintro e w2 ⟨rfl,h1,h2⟩)
   go_ret
   refine ⟨rfl,?_,(Touch.of_below HC.out _ _ _).trans h2⟩
   rw [HZS.out,val_dig,val_dig,sg_mul] at h1
   exact h1
theorem cmpN_lss {n m:Nat} (h:n<m):decide (0≤cmpN n m)=false:=by rw [cmpN_lt h]; rfl
theorem cmpN_geq {n m:Nat} (h:m≤n):decide (0≤cmpN n m)=true:=by rw [decide_eq_true_eq]; exact cmpN_ge h
theorem add_any {w:World} {b o c p d q:Nat} {n m:Int} (neg:Bool) (hz:Slot w b o 2) (hx:IntAt w c p n) (hy:IntAt w d q m) (hn:Okn n) (hm:Okn m) :
  Calls Tryz.prog 324 #[.pointer (some ⟨b,o,none⟩),.pointer (some ⟨c,p,none⟩),.pointer (some ⟨d,q,none⟩),.bool neg] w fun e w'=>e=.returned (.pointer (some ⟨b,o,none⟩))∧IntAt w' b o (n+sg neg m.natAbs)∧Touch w w' b o 2:=by
 obtain ⟨A,la,ca,hx0,hx1,hxv,hxl⟩:=hx.open_
 obtain ⟨B,lb,cb,hy0,hy1,hyv,hyl⟩:=hy.open_
 have hla:la≤4294967296:=by have:=hxv.len.1; unfold Okn at hn; omega
 have hlb:lb≤4294967296:=by have:=hyv.len.1; unfold Okn at hm; omega
 have HX0:=Lib.hid hx0
 have HX1:=Lib.hid hx1
 have HXV:=Lib.hid hxv
 have HY0:=Lib.hid hy0
 have HY1:=Lib.hid hy1
 have HYV:=Lib.hid hyv
 have HZ:=Lib.hid hz
 clear hx hy hx0 hx1 hxv hy0 hy1 hyv hz hn hm
 by_cases hs:decide (n<0)=neg
 · have HF:Hid (sg neg (n.natAbs+m.natAbs)=n+sg neg m.natAbs):=by
    subst hs
    by_cases h:n<0
    · simp only [h,decide_true,sg,Hid]; simp; omega
    · simp only [h,decide_false,sg,Hid]; simp; omega
   have hbb:(decide (n<0)==neg)=true:=by rw [hs]; exact beq_self_eq_true neg
   have hc:=HX0.out
   clear hs
   go_enter Tryz.func324,Tryz.ntmps324
   go_wp2
   clear hc
   refine wp_region_acts 11 (fun w'=>Below w.heap.size w w') (fun w w'=>Below w.heap.size w w') (fun i w v=>match i with
     | 0=>v=.pointer (some ⟨b,o,none⟩)
     | 1=>v=.bool neg
     | 2=>v=.pointer (some ⟨c,p,none⟩)
     | 3=>v=.pointer (some ⟨c,p,none⟩)
     | 4=>v=.pointer (some ⟨c,p+1,none⟩)
     | 5=>v=.slice A la ca
     | 6=>v=.pointer (some ⟨d,q,none⟩)
     | 7=>v=.pointer (some ⟨d,q,none⟩)
     | 8=>v=.pointer (some ⟨d,q+1,none⟩)
     | 9=>v=.slice B lb cb
     | _=>∃ A' m' c' zs,v=.slice A' m' c'∧Words w (.slice A' m' c') zs∧val zs=val (dig n.natAbs)+val (dig m.natAbs)) (by kernel_rfl) (by kernel_rfl) (by kernel_rfl) ((Below.refl _ _).drew) (fun _ _=>Below.refl _ _) ?_ ⟨?_,?_,?_,?_,?_,?_,?_,?_,?_,?_,?_,trivial⟩ ?_
   · intro i w1 w2 v hC hC2 hE hV
     match i with
     | 0=>exact hV
     | 1=>exact hV
     | 2=>exact hV
     | 3=>exact hV
     | 4=>exact hV
     | 5=>exact hV
     | 6=>exact hV
     | 7=>exact hV
     | 8=>exact hV
     | 9=>exact hV
     | _+10=>obtain ⟨A',m',c',zs,e,h,hz⟩:=hV; exact ⟨A',m',c',zs,e,h.below hE,hz⟩
   · intro a' w' hag hC hd K hK
     have e0:a'.tmps.getD 0 undef=.pointer (some ⟨b,o,none⟩):=hag 0 rfl
     go_step
     exact hK _ _ hC (Below.refl _ _) rfl
   · intro a' w' hag hC hd K hK
     have e3:a'.tmps.getD 3 undef=.bool neg:=hag 3 rfl
     go_step
     exact hK _ _ hC (Below.refl _ _) rfl
   · intro a' w' hag hC hd K hK
     have e1:a'.tmps.getD 1 undef=.pointer (some ⟨c,p,none⟩):=hag 1 rfl
     go_step
     exact hK _ _ hC (Below.refl _ _) rfl
   · intro a' w' hag hC hd K hK
     have e18:a'.tmps.getD 18 undef=.pointer (some ⟨c,p,none⟩):=hd.1
     go_step
     exact hK _ _ hC (Below.refl _ _) rfl
   · intro a' w' hag hC hd K hK
     have e19:a'.tmps.getD 19 undef=.pointer (some ⟨c,p,none⟩):=hd.1
     go_step
     exact hK _ _ hC (Below.refl _ _) rfl
   · intro a' w' hag hC hd K hK
     have e20:a'.tmps.getD 20 undef=.pointer (some ⟨c,p+1,none⟩):=hd.1
     have hcell:w'.cell? ⟨c,p+1,none⟩=some (.slice A la ca):=by rw [hC.cell (p:=⟨c,p+1,none⟩) hxl]; exact HX1.out
     have HC:=Lib.hid hC
     clear hC
     go_step
     exact hK _ _ HC.out (Below.refl _ _) rfl
   · intro a' w' hag hC hd K hK
     have e2:a'.tmps.getD 2 undef=.pointer (some ⟨d,q,none⟩):=hag 2 rfl
     go_step
     exact hK _ _ hC (Below.refl _ _) rfl
   · intro a' w' hag hC hd K hK
     have e22:a'.tmps.getD 22 undef=.pointer (some ⟨d,q,none⟩):=hd.1
     go_step
     exact hK _ _ hC (Below.refl _ _) rfl
   · intro a' w' hag hC hd K hK
     have e23:a'.tmps.getD 23 undef=.pointer (some ⟨d,q,none⟩):=hd.1
     go_step
     exact hK _ _ hC (Below.refl _ _) rfl
   · intro a' w' hag hC hd K hK
     have e24:a'.tmps.getD 24 undef=.pointer (some ⟨d,q+1,none⟩):=hd.1
     have hcell:w'.cell? ⟨d,q+1,none⟩=some (.slice B lb cb):=by rw [hC.cell (p:=⟨d,q+1,none⟩) hyl]; exact HY1.out
     have HC:=Lib.hid hC
     clear hC
     go_step
     exact hK _ _ HC.out (Below.refl _ _) rfl
   · intro a' w' hag hC hd K hK
     have e21:a'.tmps.getD 21 undef=.slice A la ca:=hd.1
     have e25:a'.tmps.getD 25 undef=.slice B lb cb:=hd.2.1
     go_step
     refine (more_any (HXV.out.below hC) (HYV.out.below hC) (by omega) (by omega)).mono ?_
     rintro e w2 ⟨v,zs,rfl,h1,h2,h3⟩
     obtain ⟨A',m',c',rfl⟩:=h1.form
     exact hK _ _ (hC.trans (h3.mono hC.size)) h3 ⟨_,_,_,_,rfl,h1,h2⟩
   · intro u w' hC hall
     obtain ⟨u0,u1,u2,u3,u4,u5,u6,u7,u8,u9,u10,_⟩:=hall
     have u0:u 0=.pointer (some ⟨b,o,none⟩):=u0
     have u1:u 1=.bool neg:=u1
     have u2:u 2=.pointer (some ⟨c,p,none⟩):=u2
     have u3:u 3=.pointer (some ⟨c,p,none⟩):=u3
     have u4:u 4=.pointer (some ⟨c,p+1,none⟩):=u4
     have u5:u 5=.slice A la ca:=u5
     have u6:u 6=.pointer (some ⟨d,q,none⟩):=u6
     have u7:u 7=.pointer (some ⟨d,q,none⟩):=u7
     have u8:u 8=.pointer (some ⟨d,q+1,none⟩):=u8
     have u9:u 9=.slice B lb cb:=u9
     obtain ⟨A',m',c',zs,eu10,hw',hzs⟩:=u10
     have u10:u 10=.slice A' m' c':=eu10
     simp only [fillR,List.take_succ_cons,List.take_zero,Act.put,List.setIfInBounds_toArray,List.set_cons_succ,List.set_cons_zero,Nat.zero_add,Nat.reduceAdd,u0,u1,u2,u3,u4,u5,u6,u7,u8,u9,u10]
     clear u0 u1 u2 u3 u4 u5 u6 u7 u8 u9 u10
     have HW:=Lib.hid hw'
     have HC:=Lib.hid hC
     have hsl:=HZ.out.on hC
     have HZS:=Lib.hid hzs
     clear hw' hC hzs
     go_wp2_with (go_at_call 328; refine (is_any _ hsl HW.out).mono ?_; rintro e w2 ⟨rfl,h1,h2⟩)
     go_ret
     refine ⟨rfl,?_,(Touch.of_below HC.out _ _ _).trans h2⟩
     rw [HZS.out,val_dig,val_dig] at h1
     rw [← HF.out]
     exact h1
 · have hbb:(decide (n<0)==neg)=false:=by rw [beq_eq_false_iff_ne]; exact hs
   have hc:=HX0.out
   have HS:=Lib.hid hs
   clear hs
   go_enter Tryz.func324,Tryz.ntmps324
   go_wp2
   clear hc hbb
   refine wp_region_acts 9 (fun w'=>Below w.heap.size w w') (fun w w'=>Below w.heap.size w w') (fun i w v=>match i with
     | 0=>v=.pointer (some ⟨c,p,none⟩)
     | 1=>v=.pointer (some ⟨c,p,none⟩)
     | 2=>v=.pointer (some ⟨c,p+1,none⟩)
     | 3=>v=.slice A la ca
     | 4=>v=.pointer (some ⟨d,q,none⟩)
     | 5=>v=.pointer (some ⟨d,q,none⟩)
     | 6=>v=.pointer (some ⟨d,q+1,none⟩)
     | 7=>v=.slice B lb cb
     | _=>v=.int .i64 (cmpN n.natAbs m.natAbs)) (by kernel_rfl) (by kernel_rfl) (by kernel_rfl) ((Below.refl _ _).drew) (fun _ _=>Below.refl _ _) ?_ ⟨?_,?_,?_,?_,?_,?_,?_,?_,?_,trivial⟩ ?_
   · intro i w1 w2 v hC hC2 hE hV
     match i with
     | 0=>exact hV
     | 1=>exact hV
     | 2=>exact hV
     | 3=>exact hV
     | 4=>exact hV
     | 5=>exact hV
     | 6=>exact hV
     | 7=>exact hV
     | _+8=>exact hV
   · intro a' w' hag hC hd K hK
     have e1:a'.tmps.getD 1 undef=.pointer (some ⟨c,p,none⟩):=hag 1 rfl
     go_step
     exact hK _ _ hC (Below.refl _ _) rfl
   · intro a' w' hag hC hd K hK
     have e29:a'.tmps.getD 29 undef=.pointer (some ⟨c,p,none⟩):=hd.1
     go_step
     exact hK _ _ hC (Below.refl _ _) rfl
   · intro a' w' hag hC hd K hK
     have e30:a'.tmps.getD 30 undef=.pointer (some ⟨c,p,none⟩):=hd.1
     go_step
     exact hK _ _ hC (Below.refl _ _) rfl
   · intro a' w' hag hC hd K hK
     have e31:a'.tmps.getD 31 undef=.pointer (some ⟨c,p+1,none⟩):=hd.1
     have hcell:w'.cell? ⟨c,p+1,none⟩=some (.slice A la ca):=by rw [hC.cell (p:=⟨c,p+1,none⟩) hxl]; exact HX1.out
     have HC:=Lib.hid hC
     clear hC
     go_step
     exact hK _ _ HC.out (Below.refl _ _) rfl
   · intro a' w' hag hC hd K hK
     have e2:a'.tmps.getD 2 undef=.pointer (some ⟨d,q,none⟩):=hag 2 rfl
     go_step
     exact hK _ _ hC (Below.refl _ _) rfl
   · intro a' w' hag hC hd K hK
     have e33:a'.tmps.getD 33 undef=.pointer (some ⟨d,q,none⟩):=hd.1
     go_step
     exact hK _ _ hC (Below.refl _ _) rfl
   · intro a' w' hag hC hd K hK
     have e34:a'.tmps.getD 34 undef=.pointer (some ⟨d,q,none⟩):=hd.1
     go_step
     exact hK _ _ hC (Below.refl _ _) rfl
   · intro a' w' hag hC hd K hK
     have e35:a'.tmps.getD 35 undef=.pointer (some ⟨d,q+1,none⟩):=hd.1
     have hcell:w'.cell? ⟨d,q+1,none⟩=some (.slice B lb cb):=by rw [hC.cell (p:=⟨d,q+1,none⟩) hyl]; exact HY1.out
     have HC:=Lib.hid hC
     clear hC
     go_step
     exact hK _ _ HC.out (Below.refl _ _) rfl
   · intro a' w' hag hC hd K hK
     have e32:a'.tmps.getD 32 undef=.slice A la ca:=hd.1
     have e36:a'.tmps.getD 36 undef=.slice B lb cb:=hd.2.1
     go_step
     refine (under_any (HXV.out.below hC) (HYV.out.below hC)).mono ?_
     rintro e w2 ⟨rfl,h1⟩
     exact hK _ _ (hC.trans (h1.below _)) (h1.below _) rfl
   · intro u w' hC hall
     obtain ⟨u0,u1,u2,u3,u4,u5,u6,u7,u8,_⟩:=hall
     have u0:u 0=.pointer (some ⟨c,p,none⟩):=u0
     have u1:u 1=.pointer (some ⟨c,p,none⟩):=u1
     have u2:u 2=.pointer (some ⟨c,p+1,none⟩):=u2
     have u3:u 3=.slice A la ca:=u3
     have u4:u 4=.pointer (some ⟨d,q,none⟩):=u4
     have u5:u 5=.pointer (some ⟨d,q,none⟩):=u5
     have u6:u 6=.pointer (some ⟨d,q+1,none⟩):=u6
     have u7:u 7=.slice B lb cb:=u7
     have u8:u 8=.int .i64 (cmpN n.natAbs m.natAbs):=u8
     simp only [fillR,List.take_succ_cons,List.take_zero,Act.put,List.setIfInBounds_toArray,List.set_cons_succ,List.set_cons_zero,Nat.zero_add,Nat.reduceAdd,u0,u1,u2,u3,u4,u5,u6,u7,u8]
     clear u0 u1 u2 u3 u4 u5 u6 u7 u8
     have HB3:=Lib.hid hC
     have HX0:=Lib.hid ((hC.cell (p:=⟨c,p,none⟩) hxl).trans HX0.out)
     have HX1:=Lib.hid ((hC.cell (p:=⟨c,p+1,none⟩) hxl).trans HX1.out)
     have HY1:=Lib.hid ((hC.cell (p:=⟨d,q+1,none⟩) hyl).trans HY1.out)
     have HXV:=Lib.hid (HXV.out.below hC)
     have HYV:=Lib.hid (HYV.out.below hC)
     have HZ:=Lib.hid (HZ.out.on hC)
     have hxl:=Nat.lt_of_lt_of_le hxl hC.size
     have hyl:=Nat.lt_of_lt_of_le hyl hC.size
     obtain ⟨w3,rfl⟩:∃ w3,w3=w':=⟨_,rfl⟩
     clear hC
     rcases Nat.lt_or_ge n.natAbs m.natAbs with hlt | hge
     · have hd:=cmpN_lss hlt
       have HF:Hid (sg neg (m.natAbs-n.natAbs)=n+sg neg m.natAbs):=by
        have hs:=HS.out
        cases neg<;>simp at hs<;>simp only [sg,Hid]<;>simp<;>omega
       have hLE:Hid (val (dig n.natAbs)≤val (dig m.natAbs)):=by rw [val_dig,val_dig]; exact Nat.le_of_lt hlt
       have hLL:la≤lb:=by rw [HXV.out.len.1,HYV.out.len.1]; exact dig_len_mono _ _ (Nat.le_of_lt hlt)
       clear hlt
       go_wp2
       clear hd
       refine wp_region_acts 11 (fun w'=>Below w3.heap.size w3 w') (fun w w'=>Below w.heap.size w w') (fun i w v=>match i with
         | 0=>v=.pointer (some ⟨b,o,none⟩)
         | 1=>v=.bool neg
         | 2=>v=.pointer (some ⟨d,q,none⟩)
         | 3=>v=.pointer (some ⟨d,q,none⟩)
         | 4=>v=.pointer (some ⟨d,q+1,none⟩)
         | 5=>v=.slice B lb cb
         | 6=>v=.pointer (some ⟨c,p,none⟩)
         | 7=>v=.pointer (some ⟨c,p,none⟩)
         | 8=>v=.pointer (some ⟨c,p+1,none⟩)
         | 9=>v=.slice A la ca
         | _=>∃ A' m' c' zs,v=.slice A' m' c'∧Words w (.slice A' m' c') zs∧val zs=val (dig m.natAbs)-val (dig n.natAbs)) (by kernel_rfl) (by kernel_rfl) (by kernel_rfl) ((Below.refl _ _).drew) (fun _ _=>Below.refl _ _) ?_ ⟨?_,?_,?_,?_,?_,?_,?_,?_,?_,?_,?_,trivial⟩ ?_
       · intro i w1 w2 v hC hC2 hE hV
         match i with
         | 0=>exact hV
         | 1=>exact hV
         | 2=>exact hV
         | 3=>exact hV
         | 4=>exact hV
         | 5=>exact hV
         | 6=>exact hV
         | 7=>exact hV
         | 8=>exact hV
         | 9=>exact hV
         | _+10=>obtain ⟨A',m',c',zs,e,h,hz⟩:=hV; exact ⟨A',m',c',zs,e,h.below hE,hz⟩
       · intro a' w' hag hC hd K hK
         have e0:a'.tmps.getD 0 undef=.pointer (some ⟨b,o,none⟩):=hag 0 rfl
         go_step
         exact hK _ _ hC (Below.refl _ _) rfl
       · intro a' w' hag hC hd K hK
         have e3:a'.tmps.getD 3 undef=.bool neg:=hag 3 rfl
         go_step
         exact hK _ _ hC (Below.refl _ _) rfl
       · intro a' w' hag hC hd K hK
         have e2:a'.tmps.getD 2 undef=.pointer (some ⟨d,q,none⟩):=hag 2 rfl
         go_step
         exact hK _ _ hC (Below.refl _ _) rfl
       · intro a' w' hag hC hd K hK
         have e56:a'.tmps.getD 56 undef=.pointer (some ⟨d,q,none⟩):=hd.1
         go_step
         exact hK _ _ hC (Below.refl _ _) rfl
       · intro a' w' hag hC hd K hK
         have e57:a'.tmps.getD 57 undef=.pointer (some ⟨d,q,none⟩):=hd.1
         go_step
         exact hK _ _ hC (Below.refl _ _) rfl
       · intro a' w' hag hC hd K hK
         have e58:a'.tmps.getD 58 undef=.pointer (some ⟨d,q+1,none⟩):=hd.1
         have hcell:w'.cell? ⟨d,q+1,none⟩=some (.slice B lb cb):=by rw [hC.cell (p:=⟨d,q+1,none⟩) hyl]; exact HY1.out
         have HC:=Lib.hid hC
         clear hC
         go_step
         exact hK _ _ HC.out (Below.refl _ _) rfl
       · intro a' w' hag hC hd K hK
         have e1:a'.tmps.getD 1 undef=.pointer (some ⟨c,p,none⟩):=hag 1 rfl
         go_step
         exact hK _ _ hC (Below.refl _ _) rfl
       · intro a' w' hag hC hd K hK
         have e60:a'.tmps.getD 60 undef=.pointer (some ⟨c,p,none⟩):=hd.1
         go_step
         exact hK _ _ hC (Below.refl _ _) rfl
       · intro a' w' hag hC hd K hK
         have e61:a'.tmps.getD 61 undef=.pointer (some ⟨c,p,none⟩):=hd.1
         go_step
         exact hK _ _ hC (Below.refl _ _) rfl
       · intro a' w' hag hC hd K hK
         have e62:a'.tmps.getD 62 undef=.pointer (some ⟨c,p+1,none⟩):=hd.1
         have hcell:w'.cell? ⟨c,p+1,none⟩=some (.slice A la ca):=by rw [hC.cell (p:=⟨c,p+1,none⟩) hxl]; exact HX1.out
         have HC:=Lib.hid hC
         clear hC
         go_step
         exact hK _ _ HC.out (Below.refl _ _) rfl
       · intro a' w' hag hC hd K hK
         have e59:a'.tmps.getD 59 undef=.slice B lb cb:=hd.1
         have e63:a'.tmps.getD 63 undef=.slice A la ca:=hd.2.1
         go_step
         refine (less_any (HYV.out.below hC) (HXV.out.below hC) (by omega) hLE.out hLL).mono ?_
         rintro e w2 ⟨v,zs,rfl,h1,h2,h3⟩
         obtain ⟨A',m',c',rfl⟩:=h1.form
         exact hK _ _ (hC.trans (h3.mono hC.size)) h3 ⟨_,_,_,_,rfl,h1,h2⟩
       · intro u w' hC hall
         obtain ⟨u0,u1,u2,u3,u4,u5,u6,u7,u8,u9,u10,_⟩:=hall
         have u0:u 0=.pointer (some ⟨b,o,none⟩):=u0
         have u1:u 1=.bool neg:=u1
         have u2:u 2=.pointer (some ⟨d,q,none⟩):=u2
         have u3:u 3=.pointer (some ⟨d,q,none⟩):=u3
         have u4:u 4=.pointer (some ⟨d,q+1,none⟩):=u4
         have u5:u 5=.slice B lb cb:=u5
         have u6:u 6=.pointer (some ⟨c,p,none⟩):=u6
         have u7:u 7=.pointer (some ⟨c,p,none⟩):=u7
         have u8:u 8=.pointer (some ⟨c,p+1,none⟩):=u8
         have u9:u 9=.slice A la ca:=u9
         obtain ⟨A',m',c',zs,eu10,hw',hzs⟩:=u10
         have u10:u 10=.slice A' m' c':=eu10
         simp only [fillR,List.take_succ_cons,List.take_zero,Act.put,List.setIfInBounds_toArray,List.set_cons_succ,List.set_cons_zero,Nat.zero_add,Nat.reduceAdd,u0,u1,u2,u3,u4,u5,u6,u7,u8,u9,u10]
         clear u0 u1 u2 u3 u4 u5 u6 u7 u8 u9 u10
         have HW:=Lib.hid hw'
         have HC:=Lib.hid hC
         have hsl:=HZ.out.on hC
         have HZS:=Lib.hid hzs
         clear hw' hC hzs
         go_wp2_with (go_at_call 328; refine (is_any _ hsl HW.out).mono ?_; rintro e w2 ⟨rfl,h1,h2⟩)
         go_ret
         refine ⟨rfl,?_,(Touch.of_below (HB3.out.trans (HC.out.mono HB3.out.size)) _ _ _).trans h2⟩
         rw [HZS.out,val_dig,val_dig] at h1
         rw [← HF.out]
         exact h1
     · have hd:=cmpN_geq hge
       have HF:Hid (sg (decide (n<0)) (n.natAbs-m.natAbs)=n+sg neg m.natAbs):=by
        have hs:=HS.out
        cases neg<;>simp at hs<;>simp only [sg,Hid]<;>simp [hs]<;>omega
       have hLE:Hid (val (dig m.natAbs)≤val (dig n.natAbs)):=by rw [val_dig,val_dig]; exact hge
       have hLL:lb≤la:=by rw [HXV.out.len.1,HYV.out.len.1]; exact dig_len_mono _ _ hge
       clear hge
       go_wp2
       clear hd
       refine wp_region_acts 14 (fun w'=>Below w3.heap.size w3 w') (fun w w'=>Below w.heap.size w w') (fun i w v=>match i with
         | 0=>v=.pointer (some ⟨b,o,none⟩)
         | 1=>v=.pointer (some ⟨c,p,none⟩)
         | 2=>v=.pointer (some ⟨c,p,none⟩)
         | 3=>v=.pointer (some ⟨c,p,none⟩)
         | 4=>v=.bool (decide (n<0))
         | 5=>v=.pointer (some ⟨c,p,none⟩)
         | 6=>v=.pointer (some ⟨c,p,none⟩)
         | 7=>v=.pointer (some ⟨c,p+1,none⟩)
         | 8=>v=.slice A la ca
         | 9=>v=.pointer (some ⟨d,q,none⟩)
         | 10=>v=.pointer (some ⟨d,q,none⟩)
         | 11=>v=.pointer (some ⟨d,q+1,none⟩)
         | 12=>v=.slice B lb cb
         | _=>∃ A' m' c' zs,v=.slice A' m' c'∧Words w (.slice A' m' c') zs∧val zs=val (dig n.natAbs)-val (dig m.natAbs)) (by kernel_rfl) (by kernel_rfl) (by kernel_rfl) ((Below.refl _ _).drew) (fun _ _=>Below.refl _ _) ?_ ⟨?_,?_,?_,?_,?_,?_,?_,?_,?_,?_,?_,?_,?_,?_,trivial⟩ ?_
       · intro i w1 w2 v hC hC2 hE hV
         match i with
         | 0=>exact hV
         | 1=>exact hV
         | 2=>exact hV
         | 3=>exact hV
         | 4=>exact hV
         | 5=>exact hV
         | 6=>exact hV
         | 7=>exact hV
         | 8=>exact hV
         | 9=>exact hV
         | 10=>exact hV
         | 11=>exact hV
         | 12=>exact hV
         | _+13=>obtain ⟨A',m',c',zs,e,h,hz⟩:=hV; exact ⟨A',m',c',zs,e,h.below hE,hz⟩
       · intro a' w' hag hC hd K hK
         have e0:a'.tmps.getD 0 undef=.pointer (some ⟨b,o,none⟩):=hag 0 rfl
         go_step
         exact hK _ _ hC (Below.refl _ _) rfl
       · intro a' w' hag hC hd K hK
         have e1:a'.tmps.getD 1 undef=.pointer (some ⟨c,p,none⟩):=hag 1 rfl
         go_step
         exact hK _ _ hC (Below.refl _ _) rfl
       · intro a' w' hag hC hd K hK
         have e40:a'.tmps.getD 40 undef=.pointer (some ⟨c,p,none⟩):=hd.1
         go_step
         exact hK _ _ hC (Below.refl _ _) rfl
       · intro a' w' hag hC hd K hK
         have e41:a'.tmps.getD 41 undef=.pointer (some ⟨c,p,none⟩):=hd.1
         go_step
         exact hK _ _ hC (Below.refl _ _) rfl
       · intro a' w' hag hC hd K hK
         have e42:a'.tmps.getD 42 undef=.pointer (some ⟨c,p,none⟩):=hd.1
         have hcell:w'.cell? ⟨c,p,none⟩=some (.bool (decide (n<0))):=by rw [hC.cell (p:=⟨c,p,none⟩) hxl]; exact HX0.out
         have HC:=Lib.hid hC
         clear hC
         go_step
         exact hK _ _ HC.out (Below.refl _ _) rfl
       · intro a' w' hag hC hd K hK
         have e1:a'.tmps.getD 1 undef=.pointer (some ⟨c,p,none⟩):=hag 1 rfl
         go_step
         exact hK _ _ hC (Below.refl _ _) rfl
       · intro a' w' hag hC hd K hK
         have e44:a'.tmps.getD 44 undef=.pointer (some ⟨c,p,none⟩):=hd.1
         go_step
         exact hK _ _ hC (Below.refl _ _) rfl
       · intro a' w' hag hC hd K hK
         have e45:a'.tmps.getD 45 undef=.pointer (some ⟨c,p,none⟩):=hd.1
         go_step
         exact hK _ _ hC (Below.refl _ _) rfl
       · intro a' w' hag hC hd K hK
         have e46:a'.tmps.getD 46 undef=.pointer (some ⟨c,p+1,none⟩):=hd.1
         have hcell:w'.cell? ⟨c,p+1,none⟩=some (.slice A la ca):=by rw [hC.cell (p:=⟨c,p+1,none⟩) hxl]; exact HX1.out
         have HC:=Lib.hid hC
         clear hC
         go_step
         exact hK _ _ HC.out (Below.refl _ _) rfl
       · intro a' w' hag hC hd K hK
         have e2:a'.tmps.getD 2 undef=.pointer (some ⟨d,q,none⟩):=hag 2 rfl
         go_step
         exact hK _ _ hC (Below.refl _ _) rfl
       · intro a' w' hag hC hd K hK
         have e48:a'.tmps.getD 48 undef=.pointer (some ⟨d,q,none⟩):=hd.1
         go_step
         exact hK _ _ hC (Below.refl _ _) rfl
       · intro a' w' hag hC hd K hK
         have e49:a'.tmps.getD 49 undef=.pointer (some ⟨d,q,none⟩):=hd.1
         go_step
         exact hK _ _ hC (Below.refl _ _) rfl
       · intro a' w' hag hC hd K hK
         have e50:a'.tmps.getD 50 undef=.pointer (some ⟨d,q+1,none⟩):=hd.1
         have hcell:w'.cell? ⟨d,q+1,none⟩=some (.slice B lb cb):=by rw [hC.cell (p:=⟨d,q+1,none⟩) hyl]; exact HY1.out
         have HC:=Lib.hid hC
         clear hC
         go_step
         exact hK _ _ HC.out (Below.refl _ _) rfl
       · intro a' w' hag hC hd K hK
         have e47:a'.tmps.getD 47 undef=.slice A la ca:=hd.1
         have e51:a'.tmps.getD 51 undef=.slice B lb cb:=hd.2.1
         go_step
         refine (less_any (HXV.out.below hC) (HYV.out.below hC) (by omega) hLE.out hLL).mono ?_
         rintro e w2 ⟨v,zs,rfl,h1,h2,h3⟩
         obtain ⟨A',m',c',rfl⟩:=h1.form
         exact hK _ _ (hC.trans (h3.mono hC.size)) h3 ⟨_,_,_,_,rfl,h1,h2⟩
       · intro u w' hC hall
         obtain ⟨u0,u1,u2,u3,u4,u5,u6,u7,u8,u9,u10,u11,u12,u13,_⟩:=hall
         have u0:u 0=.pointer (some ⟨b,o,none⟩):=u0
         have u1:u 1=.pointer (some ⟨c,p,none⟩):=u1
         have u2:u 2=.pointer (some ⟨c,p,none⟩):=u2
         have u3:u 3=.pointer (some ⟨c,p,none⟩):=u3
         have u4:u 4=.bool (decide (n<0)):=u4
         have u5:u 5=.pointer (some ⟨c,p,none⟩):=u5
         have u6:u 6=.pointer (some ⟨c,p,none⟩):=u6
         have u7:u 7=.pointer (some ⟨c,p+1,none⟩):=u7
         have u8:u 8=.slice A la ca:=u8
         have u9:u 9=.pointer (some ⟨d,q,none⟩):=u9
         have u10:u 10=.pointer (some ⟨d,q,none⟩):=u10
         have u11:u 11=.pointer (some ⟨d,q+1,none⟩):=u11
         have u12:u 12=.slice B lb cb:=u12
         obtain ⟨A',m',c',zs,eu13,hw',hzs⟩:=u13
         have u13:u 13=.slice A' m' c':=eu13
         simp only [fillR,List.take_succ_cons,List.take_zero,Act.put,List.setIfInBounds_toArray,List.set_cons_succ,List.set_cons_zero,Nat.zero_add,Nat.reduceAdd,u0,u1,u2,u3,u4,u5,u6,u7,u8,u9,u10,u11,u12,u13]
         clear u0 u1 u2 u3 u4 u5 u6 u7 u8 u9 u10 u11 u12 u13
         have HW:=Lib.hid hw'
         have HC:=Lib.hid hC
         have hsl:=HZ.out.on hC
         have HZS:=Lib.hid hzs
         clear hw' hC hzs
         go_wp2_with (go_at_call 328; refine (is_any _ hsl HW.out).mono ?_; rintro e w2 ⟨rfl,h1,h2⟩)
         go_ret
         refine ⟨rfl,?_,(Touch.of_below (HB3.out.trans (HC.out.mono HB3.out.size)) _ _ _).trans h2⟩
         rw [HZS.out,val_dig,val_dig] at h1
         rw [← HF.out]
         exact h1
theorem sg_not (m:Int):sg (!decide (m<0)) m.natAbs = -m:=by
 by_cases h:m<0
 · simp [sg,h]; omega
 · simp [sg,h]; omega
theorem Add_any {w:World} {b o c p d q:Nat} {n m:Int} (hz:Slot w b o 2) (hx:IntAt w c p n) (hy:IntAt w d q m) (hn:Okn n) (hm:Okn m) :
  Calls Tryz.prog 271 #[.pointer (some ⟨b,o,none⟩),.pointer (some ⟨c,p,none⟩),.pointer (some ⟨d,q,none⟩)] w fun e w'=>e=.returned (.pointer (some ⟨b,o,none⟩))∧IntAt w' b o (n+m)∧Touch w w' b o 2:=by
 have hc:=hy.2.1
 have H:=Lib.hid (add_any (decide (m<0)) hz hx hy hn hm)
 clear hx hy hz hn hm
 go_enter Tryz.func271,Tryz.ntmps271
 go_wp2_with (go_at_call 324; refine H.out.mono ?_; rintro e w1 ⟨rfl,h1,h2⟩)
 go_ret
 rw [sg_of] at h1
 exact ⟨rfl,h1,h2⟩
theorem Sub_any {w:World} {b o c p d q:Nat} {n m:Int} (hz:Slot w b o 2) (hx:IntAt w c p n) (hy:IntAt w d q m) (hn:Okn n) (hm:Okn m) :
  Calls Tryz.prog 229 #[.pointer (some ⟨b,o,none⟩),.pointer (some ⟨c,p,none⟩),.pointer (some ⟨d,q,none⟩)] w fun e w'=>e=.returned (.pointer (some ⟨b,o,none⟩))∧IntAt w' b o (n-m)∧Touch w w' b o 2:=by
 have hc:=hy.2.1
 have H:=Lib.hid (add_any (!decide (m<0)) hz hx hy hn hm)
 clear hx hy hz hn hm
 obtain ⟨s,hs⟩:∃ s,s=decide (m<0):=⟨_,rfl⟩
 rw [← hs] at hc H
 have HS:=Lib.hid hs
 clear hs
 go_enter Tryz.func229,Tryz.ntmps229
 go_wp2_with (go_at_call 324; refine H.out.mono ?_; rintro e w1 ⟨rfl,h1,h2⟩)
 go_ret
 rw [HS.out,sg_not] at h1
 exact ⟨rfl,h1,h2⟩
def cmpI (n m:Int):Int:=if n<m then -1 else if m<n then 1 else 0
theorem cmpI_neg {n m:Int} (h:n<0) (k:m<0):cmpN m.natAbs n.natAbs=cmpI n m:=by
 unfold cmpN cmpI
 by_cases h1:n<m
 · rw [if_pos h1,if_pos (by omega)]
 · rw [if_neg h1,if_neg (by omega)]
   by_cases h2:m<n
   · rw [if_pos h2,if_pos (by omega)]
   · rw [if_neg h2,if_neg (by omega)]
theorem cmpI_pos {n m:Int} (h:¬ n<0) (k:¬ m<0):cmpN n.natAbs m.natAbs=cmpI n m:=by
 unfold cmpN cmpI
 by_cases h1:n<m
 · rw [if_pos h1,if_pos (by omega)]
 · rw [if_neg h1,if_neg (by omega)]
   by_cases h2:m<n
   · rw [if_pos h2,if_pos (by omega)]
   · rw [if_neg h2,if_neg (by omega)]
theorem Cmp_any {w:World} {c p d q:Nat} {n m:Int} (hx:IntAt w c p n) (hy:IntAt w d q m) :
  Calls Tryz.prog 267 #[.pointer (some ⟨c,p,none⟩),.pointer (some ⟨d,q,none⟩)] w fun e w'=>e=.returned (.int .i64 (cmpI n m))∧Below w.heap.size w w':=by
 obtain ⟨A,la,ca,hx0,hx1,hxv,hxl⟩:=hx.open_
 obtain ⟨B,lb,cb,hy0,hy1,hyv,hyl⟩:=hy.open_
 have HX1:=Lib.hid hx1
 have HXV:=Lib.hid hxv
 have HY1:=Lib.hid hy1
 have HYV:=Lib.hid hyv
 clear hx hy hx1 hxv hy1 hyv
 by_cases h:n<0<;>by_cases k:m<0
 · have HF:=Lib.hid (cmpI_neg h k)
   rw [decide_eq_true h] at hx0
   rw [decide_eq_true k] at hy0
   clear h k
   go_enter Tryz.func267,Tryz.ntmps267
   go_wp2
   clear hx0 hy0
   refine wp_region_acts 9 (fun w'=>Below w.heap.size w w') (fun w w'=>Below w.heap.size w w') (fun i w v=>match i with
     | 0=>v=.pointer (some ⟨d,q,none⟩)
     | 1=>v=.pointer (some ⟨d,q,none⟩)
     | 2=>v=.pointer (some ⟨d,q+1,none⟩)
     | 3=>v=.slice B lb cb
     | 4=>v=.pointer (some ⟨c,p,none⟩)
     | 5=>v=.pointer (some ⟨c,p,none⟩)
     | 6=>v=.pointer (some ⟨c,p+1,none⟩)
     | 7=>v=.slice A la ca
     | _=>v=.int .i64 (cmpN m.natAbs n.natAbs)) (by kernel_rfl) (by kernel_rfl) (by kernel_rfl) ((Below.refl _ _).drew) (fun _ _=>Below.refl _ _) ?_ ⟨?_,?_,?_,?_,?_,?_,?_,?_,?_,trivial⟩ ?_
   · intro i w1 w2 v hC hC2 hE hV
     match i with
     | 0=>exact hV
     | 1=>exact hV
     | 2=>exact hV
     | 3=>exact hV
     | 4=>exact hV
     | 5=>exact hV
     | 6=>exact hV
     | 7=>exact hV
     | _+8=>exact hV
   · intro a' w' hag hC hd K hK
     have e1:a'.tmps.getD 1 undef=.pointer (some ⟨d,q,none⟩):=hag 1 rfl
     go_step
     exact hK _ _ hC (Below.refl _ _) rfl
   · intro a' w' hag hC hd K hK
     have e16:a'.tmps.getD 16 undef=.pointer (some ⟨d,q,none⟩):=hd.1
     go_step
     exact hK _ _ hC (Below.refl _ _) rfl
   · intro a' w' hag hC hd K hK
     have e17:a'.tmps.getD 17 undef=.pointer (some ⟨d,q,none⟩):=hd.1
     go_step
     exact hK _ _ hC (Below.refl _ _) rfl
   · intro a' w' hag hC hd K hK
     have e18:a'.tmps.getD 18 undef=.pointer (some ⟨d,q+1,none⟩):=hd.1
     have hcell:w'.cell? ⟨d,q+1,none⟩=some (.slice B lb cb):=by rw [hC.cell (p:=⟨d,q+1,none⟩) hyl]; exact HY1.out
     have HC:=Lib.hid hC
     clear hC
     go_step
     exact hK _ _ HC.out (Below.refl _ _) rfl
   · intro a' w' hag hC hd K hK
     have e0:a'.tmps.getD 0 undef=.pointer (some ⟨c,p,none⟩):=hag 0 rfl
     go_step
     exact hK _ _ hC (Below.refl _ _) rfl
   · intro a' w' hag hC hd K hK
     have e20:a'.tmps.getD 20 undef=.pointer (some ⟨c,p,none⟩):=hd.1
     go_step
     exact hK _ _ hC (Below.refl _ _) rfl
   · intro a' w' hag hC hd K hK
     have e21:a'.tmps.getD 21 undef=.pointer (some ⟨c,p,none⟩):=hd.1
     go_step
     exact hK _ _ hC (Below.refl _ _) rfl
   · intro a' w' hag hC hd K hK
     have e22:a'.tmps.getD 22 undef=.pointer (some ⟨c,p+1,none⟩):=hd.1
     have hcell:w'.cell? ⟨c,p+1,none⟩=some (.slice A la ca):=by rw [hC.cell (p:=⟨c,p+1,none⟩) hxl]; exact HX1.out
     have HC:=Lib.hid hC
     clear hC
     go_step
     exact hK _ _ HC.out (Below.refl _ _) rfl
   · intro a' w' hag hC hd K hK
     have e19:a'.tmps.getD 19 undef=.slice B lb cb:=hd.1
     have e23:a'.tmps.getD 23 undef=.slice A la ca:=hd.2.1
     go_step
     refine (under_any (HYV.out.below hC) (HXV.out.below hC)).mono ?_
     rintro e w2 ⟨rfl,h1⟩
     exact hK _ _ (hC.trans (h1.below _)) (h1.below _) rfl
   · intro u w' hC hall
     obtain ⟨u0,u1,u2,u3,u4,u5,u6,u7,u8,_⟩:=hall
     have u0:u 0=.pointer (some ⟨d,q,none⟩):=u0
     have u1:u 1=.pointer (some ⟨d,q,none⟩):=u1
     have u2:u 2=.pointer (some ⟨d,q+1,none⟩):=u2
     have u3:u 3=.slice B lb cb:=u3
     have u4:u 4=.pointer (some ⟨c,p,none⟩):=u4
     have u5:u 5=.pointer (some ⟨c,p,none⟩):=u5
     have u6:u 6=.pointer (some ⟨c,p+1,none⟩):=u6
     have u7:u 7=.slice A la ca:=u7
     have u8:u 8=.int .i64 (cmpN m.natAbs n.natAbs):=u8
     simp only [fillR,List.take_succ_cons,List.take_zero,Act.put,List.setIfInBounds_toArray,List.set_cons_succ,List.set_cons_zero,Nat.zero_add,Nat.reduceAdd,u0,u1,u2,u3,u4,u5,u6,u7,u8]
     clear u0 u1 u2 u3 u4 u5 u6 u7 u8
     have HC:=Lib.hid hC
     clear hC
     go_wp2
     go_ret
     exact ⟨by rw [← HF.out]; rfl,HC.out⟩
 · have hf:cmpI n m = -1:=if_pos (by omega)
   rw [hf]
   rw [decide_eq_true h] at hx0
   rw [decide_eq_false k] at hy0
   clear h k hf
   go_enter Tryz.func267,Tryz.ntmps267
   go_wp2
   go_ret
   exact ⟨rfl,Below.refl _ _⟩
 · have hf:cmpI n m=1:=by rw [cmpI,if_neg (by omega),if_pos (by omega)]
   rw [hf]
   rw [decide_eq_false h] at hx0
   rw [decide_eq_true k] at hy0
   clear h k hf
   go_enter Tryz.func267,Tryz.ntmps267
   go_wp2
   go_ret
   exact ⟨rfl,Below.refl _ _⟩
 · have HF:=Lib.hid (cmpI_pos h k)
   rw [decide_eq_false h] at hx0
   rw [decide_eq_false k] at hy0
   clear h k
   go_enter Tryz.func267,Tryz.ntmps267
   go_wp2
   clear hx0 hy0
   refine wp_region_acts 9 (fun w'=>Below w.heap.size w w') (fun w w'=>Below w.heap.size w w') (fun i w v=>match i with
     | 0=>v=.pointer (some ⟨c,p,none⟩)
     | 1=>v=.pointer (some ⟨c,p,none⟩)
     | 2=>v=.pointer (some ⟨c,p+1,none⟩)
     | 3=>v=.slice A la ca
     | 4=>v=.pointer (some ⟨d,q,none⟩)
     | 5=>v=.pointer (some ⟨d,q,none⟩)
     | 6=>v=.pointer (some ⟨d,q+1,none⟩)
     | 7=>v=.slice B lb cb
     | _=>v=.int .i64 (cmpN n.natAbs m.natAbs)) (by kernel_rfl) (by kernel_rfl) (by kernel_rfl) ((Below.refl _ _).drew) (fun _ _=>Below.refl _ _) ?_ ⟨?_,?_,?_,?_,?_,?_,?_,?_,?_,trivial⟩ ?_
   · intro i w1 w2 v hC hC2 hE hV
     match i with
     | 0=>exact hV
     | 1=>exact hV
     | 2=>exact hV
     | 3=>exact hV
     | 4=>exact hV
     | 5=>exact hV
     | 6=>exact hV
     | 7=>exact hV
     | _+8=>exact hV
   · intro a' w' hag hC hd K hK
     have e0:a'.tmps.getD 0 undef=.pointer (some ⟨c,p,none⟩):=hag 0 rfl
     go_step
     exact hK _ _ hC (Below.refl _ _) rfl
   · intro a' w' hag hC hd K hK
     have e35:a'.tmps.getD 35 undef=.pointer (some ⟨c,p,none⟩):=hd.1
     go_step
     exact hK _ _ hC (Below.refl _ _) rfl
   · intro a' w' hag hC hd K hK
     have e36:a'.tmps.getD 36 undef=.pointer (some ⟨c,p,none⟩):=hd.1
     go_step
     exact hK _ _ hC (Below.refl _ _) rfl
   · intro a' w' hag hC hd K hK
     have e37:a'.tmps.getD 37 undef=.pointer (some ⟨c,p+1,none⟩):=hd.1
     have hcell:w'.cell? ⟨c,p+1,none⟩=some (.slice A la ca):=by rw [hC.cell (p:=⟨c,p+1,none⟩) hxl]; exact HX1.out
     have HC:=Lib.hid hC
     clear hC
     go_step
     exact hK _ _ HC.out (Below.refl _ _) rfl
   · intro a' w' hag hC hd K hK
     have e1:a'.tmps.getD 1 undef=.pointer (some ⟨d,q,none⟩):=hag 1 rfl
     go_step
     exact hK _ _ hC (Below.refl _ _) rfl
   · intro a' w' hag hC hd K hK
     have e39:a'.tmps.getD 39 undef=.pointer (some ⟨d,q,none⟩):=hd.1
     go_step
     exact hK _ _ hC (Below.refl _ _) rfl
   · intro a' w' hag hC hd K hK
     have e40:a'.tmps.getD 40 undef=.pointer (some ⟨d,q,none⟩):=hd.1
     go_step
     exact hK _ _ hC (Below.refl _ _) rfl
   · intro a' w' hag hC hd K hK
     have e41:a'.tmps.getD 41 undef=.pointer (some ⟨d,q+1,none⟩):=hd.1
     have hcell:w'.cell? ⟨d,q+1,none⟩=some (.slice B lb cb):=by rw [hC.cell (p:=⟨d,q+1,none⟩) hyl]; exact HY1.out
     have HC:=Lib.hid hC
     clear hC
     go_step
     exact hK _ _ HC.out (Below.refl _ _) rfl
   · intro a' w' hag hC hd K hK
     have e38:a'.tmps.getD 38 undef=.slice A la ca:=hd.1
     have e42:a'.tmps.getD 42 undef=.slice B lb cb:=hd.2.1
     go_step
     refine (under_any (HXV.out.below hC) (HYV.out.below hC)).mono ?_
     rintro e w2 ⟨rfl,h1⟩
     exact hK _ _ (hC.trans (h1.below _)) (h1.below _) rfl
   · intro u w' hC hall
     obtain ⟨u0,u1,u2,u3,u4,u5,u6,u7,u8,_⟩:=hall
     have u0:u 0=.pointer (some ⟨c,p,none⟩):=u0
     have u1:u 1=.pointer (some ⟨c,p,none⟩):=u1
     have u2:u 2=.pointer (some ⟨c,p+1,none⟩):=u2
     have u3:u 3=.slice A la ca:=u3
     have u4:u 4=.pointer (some ⟨d,q,none⟩):=u4
     have u5:u 5=.pointer (some ⟨d,q,none⟩):=u5
     have u6:u 6=.pointer (some ⟨d,q+1,none⟩):=u6
     have u7:u 7=.slice B lb cb:=u7
     have u8:u 8=.int .i64 (cmpN n.natAbs m.natAbs):=u8
     simp only [fillR,List.take_succ_cons,List.take_zero,Act.put,List.setIfInBounds_toArray,List.set_cons_succ,List.set_cons_zero,Nat.zero_add,Nat.reduceAdd,u0,u1,u2,u3,u4,u5,u6,u7,u8]
     clear u0 u1 u2 u3 u4 u5 u6 u7 u8
     have HC:=Lib.hid hC
     clear hC
     go_wp2
     go_ret
     exact ⟨by rw [← HF.out]; rfl,HC.out⟩
theorem wpList_append_copy {ops:Array Oper} {rest:List Oper} {o:Oper} {a:Act} {w:World} {Q:Exit→Act→World→Prop} (hg:o.guard=none) (s x:Operand)
  (ho:o.op=.call { callee:=.builtin .append,args:=#[s,x],argTypes:=#[121,121] }) (A:Option Addr) (n c:Nat) (xs:List Nat) (hs:a.eval s=.slice none 0 0) (hx:a.eval x=.slice A n c) (hw:Words w (.slice A n c) xs)
  (hK:∀ v' w',Words w' v' xs→Below w.heap.size w w'→wpList Tryz.prog ops Q rest (a.put o.dst v') w'):wpList Tryz.prog ops Q (o::rest) a w :=
 wpList_plain hg fun K hK'=>wp_append_copy s x ho hs hx hw fun v' w' h1 h2=>hK' _ _ (hK v' w' h1 h2)
set_option maxHeartbeats 400000 in
theorem gcd_any {w:World} {b o c p d q:Nat} {n m:Int} (hz:Slot w b o 2) (hx:IntAt w c p n) (hy:IntAt w d q m) (hn:Okn n) (hm:Okn m) :
  Calls Tryz.prog 318 #[.pointer (some ⟨b,o,none⟩),.pointer none,.pointer none,.pointer (some ⟨c,p,none⟩),.pointer (some ⟨d,q,none⟩)] w fun e w'=>e=.returned (.pointer (some ⟨b,o,none⟩))∧IntAt w' b o (Int.gcd n m:Int)∧Touch w w' b o 2:=by
 obtain ⟨A,la,ca,hx0,hx1,hxv,hxl⟩:=hx.open_
 obtain ⟨B,lb,cb,hy0,hy1,hyv,hyl⟩:=hy.open_
 have HXV:=Lib.hid hxv
 have HYV:=Lib.hid hyv
 have HZ:=Lib.hid hz
 have HN:=Lib.hid hn
 have HM:=Lib.hid hm
 clear hx hy hx0 hxv hy0 hyv hz hn hm
 go_enter Tryz.func318,Tryz.ntmps318
 go_wp2
 go_quiet (fail)
 clear hx1 hy1
 go_wp2
 go_loopg [11,12] (m.natAbs) (fun k x y wr=>∃ (A B:Option Addr) (la ca lb cb:Nat) (u v:Nat),x=.slice A la ca∧y=.slice B lb cb∧Hid (Words wr (.slice A la ca) (dig u))∧Hid (Words wr (.slice B lb cb) (dig v))∧Hid (Nat.gcd u v=Int.gcd n m)∧Hid (v≤k)∧Hid ((dig u).length≤4294967296)∧Hid ((dig v).length≤4294967296)∧Hid (Below w.heap.size w wr))
 case atStart=>exact ⟨A,B,la,ca,lb,cb,n.natAbs,m.natAbs,rfl,rfl,HXV.out.below (Below.drewN_ (Below.refl _ _) _),HYV.out.below (Below.drewN_ (Below.refl _ _) _),rfl,Nat.le_refl _,HN.out,HM.out,Below.drewN_ (Below.refl _ _) _⟩
 case round =>
  obtain ⟨A,B,la,ca,lb,cb,u,v,rfl,rfl,hu,hv,hg,hk,hul,hvl,hb⟩:=hrel
  have hl:=hv.out.len.1
  have hlb:=hv.out.2.1
  by_cases h0:0<lb
  · have hv0:0<v:=by
     rcases Nat.eq_zero_or_pos v with h | h
     · rw [h,dig_zero] at hl; simp at hl; omega
     · exact h
    have HV0:=Lib.hid hv0
    have hlb2:lb≤17179869184:=by omega
    clear hl hlb hv0
    go_wp2_with fail
    refine (divide_any hu.out hv.out HV0.out (by rw [hu.out.len.1]; exact hul.out)).mono ?_
    rintro e w1 ⟨v1,v2,rfl,h1,h2,h3⟩
    obtain ⟨A2,m2,c2,rfl⟩:=h2.form
    have H2:=Lib.hid h2
    have H3:=Lib.hid h3
    clear h1 h2 h3
    go_wp2
    go_roundg (u % v)
    case measure=>exact Nat.lt_of_lt_of_le (Nat.mod_lt _ HV0.out) hk.out
    case rel =>
     refine ⟨B,A2,lb,cb,m2,c2,v,u % v,rfl,rfl,hv.out.below H3.out,H2.out,?_,Nat.le_refl _,hvl.out,?_,hb.out.trans (H3.out.mono hb.out.size)⟩
     · rw [Hid,← hg.out,Nat.gcd_comm v,← Nat.gcd_rec,Nat.gcd_comm]
     · exact Nat.le_trans (dig_len_mono _ _ (Nat.le_of_lt (Nat.mod_lt _ HV0.out))) hvl.out
  · obtain rfl:lb=0:=by omega
    have hv0:=(dig_nil_iff v).1 (List.eq_nil_of_length_eq_zero hl.symm)
    subst hv0
    have hgu:=hg.out
    rw [Nat.gcd_zero_right] at hgu
    have HG:=Lib.hid hgu
    clear hl hlb hgu
    go_wp2_with (at_builtin; refine wpList_append_copy rfl (.const (.slice none 0 0)) (.tmp 35) rfl _ _ _ _ rfl rfl hu.out (fun v' w' h1 h2=>?_))
    obtain ⟨A2,m2,c2,rfl⟩:=h1.form
    have H1:=Lib.hid h1
    have H2:=Lib.hid h2
    clear h1 h2
    go_wp2_with fail
    have hz2:Slot _ b o 2:=(HZ.out.below hb.out HZ.out.lt).on H2.out
    have HB2:=Lib.hid (hb.out.trans (H2.out.mono hb.out.size))
    refine (is_any false hz2 H1.out).mono ?_
    rintro e w3 ⟨rfl,h1,h2⟩
    rw [val_dig,HG.out] at h1
    have H3:=Lib.hid h1
    have H4:=Lib.hid h2
    clear h1 h2 hz2
    go_wp2
    go_ret
    exact ⟨rfl,H3.out,(Touch.of_below HB2.out b o 2).trans H4.out⟩
end Go.Proofs.YthkpghhoffihmaaGreatDoor
end
