/- RefC. -/
import Derived.BigQuiet
import Derived.Deep.QuietTactic
import Derived.Test.YtmfedaakeeiolaaGreatTk12
set_option linter.unnecessarySimpa false
set_option linter.unusedVariables false
set_option linter.unusedSimpArgs false
section
namespace Go.Proofs.YtmfedaakeeiolaaGreat
section
open Go.RowKit
theorem dig_len_bytes (n:Nat):(dig n).length=((led n).length+3)/4:=by
 refine Nat.le_antisymm (dig_len_le _ _ ?_) ?_
 · have h:=led_lt n
   rw [p256] at h
   rw [p32]
   exact Nat.lt_of_lt_of_le h (Nat.pow_le_pow_right (by decide) (by omega))
 · rcases Nat.eq_zero_or_pos n with h0 | h0
   · subst h0; rw [led_zero]; exact Nat.zero_le _
   · have h1:=led_len_pos n h0
     have h2:=dig_lt n
     rw [p256] at h1
     rw [p32] at h2
     have:=(Nat.pow_lt_pow_iff_right (by decide:1<2)).1 (Nat.lt_of_le_of_lt h1 h2)
     omega
theorem full_dig {ls:List Nat} {n:Nat} (hw:Wf ls) (hv:val ls=n) (hl:ls.length=(dig n).length):ls=dig n:=by
 have h:=dig_of ls n hw hv
 have h2:=trim_eq_take ls
 rw [h,← hl,List.take_of_length_le (Nat.le_refl _)] at h2
 exact h2.symm
theorem str_at {s:ByteArray} {n:Nat} (hs:s=mag n) (m k:Nat) (hm:m=s.size) (hk:k<m) (h:m-1-k<s.size):(s[m-1-k]'h).toNat=(led n).getD k 0:=by
 have e:leS s=led n:=by rw [hs,leS_mag]
 have h1:=leS_getD s k (by omega)
 rw [e] at h1
 rw [h1]
 subst hm
 rfl
set_option maxHeartbeats 1600000 in
set_option maxRecDepth 100000 in
theorem words_any {w:World} (s:ByteArray) (n:Nat) (hs:s=mag n) (hm:s.size≤4294967296) :
  Calls Tryz.prog 259 #[.string s] w fun e w'=>∃ A c,e=.returned (.slice A (dig n).length c)∧Words w' (.slice A (dig n).length c) (dig n)∧Below w.heap.size w w':=by
 obtain ⟨m,hms⟩:∃ m,m=s.size:=⟨_,rfl⟩
 have HN:Hid ((led n).length=m):=by rw [hms,hs,Hid,mag_size]
 have hmi:(s.size:Int)=(m:Int):=by rw [hms]
 have hmb:m≤4294967296:=by omega
 have HS:=Lib.hid hs
 have HM:=Lib.hid hms
 clear hs hms
 go_enter Tryz.func259,Tryz.ntmps259
 go_wp2_with (at_make; refine wpList_make_words rfl _ _ rfl _ _ _ _ ((m+3)/4) ((m+3)/4) rfl rfl (by omega) (by omega) (by omega) (by omega) ?_)
 intro w1 hbuf hb1 hz1
 have HZ1:=Lib.hid hz1
 clear hz1
 go_wp2
 go_loopw [4] (fun i wr=>∃ (k:Nat) (ls:List Nat),k≤m∧i=.int .i64 (k:Int)∧Hid (ls.length=(m+3)/4)∧Hid (val ls=bval ((led n).take k))∧Buf wr w.heap.size ls∧Below w.heap.size w wr) (fun i _=>m-(intOf i).toNat)
 case atStart=>exact ⟨0,List.replicate ((m+3)/4) 0,by omega,rfl,by simp [Hid],by rw [Hid,val_zeros]; rfl,hbuf,hb1⟩
 case round =>
  obtain ⟨k,ls,hk,rfl,HL,HVL,hbuf',hb'⟩:=hrel
  have hsz:=hb'.size
  have hblt:=hbuf'.lt
  clear hbuf hb1 HZ1
  by_cases hk0:k<m
  · obtain ⟨q,hq⟩:∃ q,q=k/4:=⟨_,rfl⟩
    obtain ⟨r,hr⟩:∃ r,r=k % 4:=⟨_,rfl⟩
    obtain ⟨sh,hs⟩:∃ sh,sh=k % 4*8:=⟨_,rfl⟩
    obtain ⟨x,hx⟩:∃ x,x=(led n).getD k 0:=⟨_,rfl⟩
    obtain ⟨a,ha⟩:∃ a,a=ls.getD q 0:=⟨_,rfl⟩
    obtain ⟨k1,k2,k3,k4,k5⟩:=byte_into ls (led n) k x q sh hbuf'.1 (by rw [HL.out]; omega) HVL.out (B8_led n) (by rw [HN.out]; exact hk0) hx.symm hq hs
    have hidx:m-1-k<s.size:=by omega
    have hch:(s[m-1-k]'hidx).toNat=x:=by rw [hx]; exact str_at HS.out m k HM.out hk0 hidx
    have hqi:(k:Int)/4=(q:Int):=by omega
    have hri:(k:Int) % 4=(r:Int):=by omega
    have hsi:8*(r:Int)=(sh:Int):=by omega
    have hs24:sh≤24:=by omega
    have hc2:=hbuf'.cell q (by rw [HL.out]; omega)
    rw [← ha] at hc2 k2 k3 k4 k5
    have hf:=hbuf'.frozen q
    have HB:=Lib.hid (hbuf'.set q (a+x*2^sh) _ k4 rfl)
    obtain ⟨t,ht⟩:∃ t,t=x*2^sh:=⟨_,rfl⟩
    have hti:(x:Int)*2^sh=(t:Int):=by rw [ht,Int.natCast_mul,Int.natCast_pow]; rfl
    rw [← ht] at k3 k4 k5 HB
    rw [Int.natCast_add] at HB
    have hmk2:((m:Int)-1-(k:Int))=((m-1-k:Nat):Int):=by omega
    have HK5:=Lib.hid k5
    have hql:q<(m+3)/4:=by omega
    clear ha hx ht hq hr hs k2 k3 k5 hbuf'
    go_wp2
    go_region
    go_wp2
    go_roundw
    case rel =>
     refine ⟨k+1,ls.set q (a+t),by omega,by go_num,by rw [Hid,List.length_set]; exact HL.out,HK5.out,HB.out,Below.drew (hb'.setCell (Nat.le_refl _) _)⟩
    case measure=>simp [intOf]; omega
  · obtain rfl:k=m:=by omega
    have hv:=HVL.out
    rw [List.take_of_length_le (by rw [HN.out]; exact Nat.le_refl _),bval_led] at hv
    have hd:ls=dig n:=full_dig hbuf'.1 hv (by rw [HL.out,dig_len_bytes,HN.out])
    have hln:(dig n).length=(k+3)/4:=by rw [← hd]; exact HL.out
    have hw:=hbuf'.words (cap:=(k+3)/4) (by rw [HL.out]; omega) (by rw [HL.out]; exact Nat.le_refl _)
    rw [hd] at hw
    have HW:=Lib.hid hw
    have HLN:=Lib.hid hln
    clear hbuf' hw hv hd hln
    go_wp2
    go_ret
    exact ⟨some ⟨w.heap.size,0,none⟩,(k+3)/4,by rw [HLN.out]; rfl,HW.out,hb'⟩
set_option maxHeartbeats 800000 in
set_option maxRecDepth 100000 in
theorem runder_cells (xs ys:List Nat) (b o b' o' n ca cb:Nat) (r:Int) (w:World) (hx:xs.length=n) (hy:ys.length=n) (hb:n≤17179869184) (h0:0<n) (hwx:Wf xs) (hwy:Wf ys) (hr:r=cmpN (val xs) (val ys))
  (hc:∀ i,i<n→w.cell? ⟨b,o+i,none⟩=some (.int .u32 (xs.getD i 0:Nat))) (hd:∀ i,i<n→w.cell? ⟨b',o'+i,none⟩=some (.int .u32 (ys.getD i 0:Nat))) :
  Calls Tryz.prog 258 #[.slice (some ⟨b,o,none⟩) n ca,.slice (some ⟨b',o',none⟩) n cb] w fun e w'=>e=.returned (.int .i64 r)∧Dr w w':=by
 have HX:=Lib.hid hx
 have HY:=Lib.hid hy
 have HR:=Lib.hid hr
 clear hx hy hr
 go_enter Tryz.func258,Tryz.ntmps258
 go_wp2
 go_loopw [5] (fun i wr=>∃ k:Nat,k≤n∧i=.int .i64 ((k:Int)-1)∧(∀ j,k≤j→j<n→xs.getD j 0=ys.getD j 0)∧Dr w wr) (fun i _=>(intOf i+1).toNat)
 case atStart=>exact ⟨n,Nat.le_refl _,rfl,fun j h1 h2=>by omega,Dr.refl _⟩
 case round =>
  obtain ⟨k,hk,rfl,hs,d,rfl⟩:=hrel
  have HS:=Lib.hid hs
  clear hs
  by_cases hk0:0<k
  · obtain ⟨k,rfl⟩:∃ j,k=j+1:=⟨k-1,by omega⟩
    have e1:((k+1:Nat):Int)-1=(k:Int):=by omega
    rw [e1]
    clear e1
    have hk1:(0:Int)≤(k:Int):=by omega
    have hk2:(k:Int)<(n:Int):=by omega
    have hcell:=hc k (by omega)
    have hcell':=hd k (by omega)
    go_wp2
    go_quiet (fail)
    go_wp2
    · have h1:(xs[k]?.getD 0)<(ys[k]?.getD 0):=by assumption
      go_ret
      refine ⟨ret_i ?_,by repeat (first | exact ⟨_,rfl⟩ | refine Dr.n ?_ _)⟩
      have h2:=val_lt_of xs ys k hwx (by rw [HX.out,HY.out]) (by rw [HX.out]; omega) (by simpa using h1) (fun j h3 h4=>HS.out j (by omega) (by rw [HX.out] at h4; exact h4))
      rw [HR.out,cmpN,if_pos h2]
    · go_quiet (fail)
      go_wp2
      · have h1:(ys[k]?.getD 0)<(xs[k]?.getD 0):=by assumption
        go_ret
        refine ⟨ret_i ?_,by repeat (first | exact ⟨_,rfl⟩ | refine Dr.n ?_ _)⟩
        have h2:=val_lt_of ys xs k hwy (by rw [HX.out,HY.out]) (by rw [HY.out]; omega) (by simpa using h1) (fun j h3 h4=>(HS.out j (by omega) (by rw [HY.out] at h4; exact h4)).symm)
        rw [HR.out,cmpN,if_neg (by omega),if_pos h2]
      · have h1:(ys[k]?.getD 0)≤(xs[k]?.getD 0):=Nat.le_of_not_lt (by assumption)
        have h2:(xs[k]?.getD 0)≤(ys[k]?.getD 0):=Nat.le_of_not_lt (by assumption)
        go_roundw
        case rel =>
         refine ⟨k,by omega,rfl,fun j h3 h4=>?_,by repeat (first | exact ⟨_,rfl⟩ | refine Dr.n ?_ _)⟩
         rcases Nat.eq_or_lt_of_le h3 with rfl | h5
         · simpa using Nat.le_antisymm h2 h1
         · exact HS.out j (by omega) h4
        case measure=>simp [intOf]
  · obtain rfl:k=0:=by omega
    go_wp2
    go_ret
    refine ⟨ret_i ?_,_,rfl⟩
    have:xs=ys:=val_eq_of_same xs ys (by rw [HX.out,HY.out]) (fun i hi=>HS.out i (by omega) (by rw [HX.out] at hi; exact hi))
    rw [HR.out,this]
    simp [cmpN]
set_option maxHeartbeats 800000 in
set_option maxRecDepth 100000 in
theorem runder_any {w:World} {A B:Option Addr} {la ca lb cb n m:Nat} (hx:Words w (.slice A la ca) (dig n)) (hy:Words w (.slice B lb cb) (dig m)) :
  Calls Tryz.prog 258 #[.slice A la ca,.slice B lb cb] w fun e w'=>e=.returned (.int .i64 (cmpN n m))∧Dr w w':=by
 have hla:=hx.len.1
 have hlb:=hy.len.1
 have hsz:=hx.2.1
 have hsz2:=hy.2.1
 rcases Nat.lt_trichotomy la lb with h | h | h
 · have hc:cmpN n m = -1:=by rw [cmpN,if_pos (dig_len_lt n m (by omega))]
   rw [hc]
   rw [← hla] at hsz
   rw [← hlb] at hsz2
   clear hx hy hc hla hlb
   go_enter Tryz.func258,Tryz.ntmps258
   go_wp2
   go_ret
   exact ⟨rfl,Dr.refl _⟩
 · subst h
   by_cases h0:la=0
   · subst h0
     have e1:=(dig_nil_iff n).1 (List.eq_nil_of_length_eq_zero hla.symm)
     have e2:=(dig_nil_iff m).1 (List.eq_nil_of_length_eq_zero hlb.symm)
     have hc:cmpN n m=0:=by rw [e1,e2]; rfl
     rw [hc]
     clear hx hy hc hla hlb hsz hsz2 e1 e2
     go_enter Tryz.func258,Tryz.ntmps258
     go_wp2
     refine wp_loop_rounds 1 ?_
     rw [rounds_succ]
     go_wp2
     go_ret
     exact ⟨rfl,Dr.refl _⟩
   · obtain ⟨b,o,rfl,hc⟩:=hx.open_ (by omega)
     obtain ⟨b',o',rfl,hd⟩:=hy.open_ (by omega)
     exact runder_cells (dig n) (dig m) b o b' o' la ca cb _ w hla.symm hlb.symm (by omega) (by omega) (Wf_dig n) (Wf_dig m) (by rw [val_dig,val_dig]) hc hd
 · have hc:cmpN n m=1:=by have:=dig_len_lt m n (by omega); rw [cmpN,if_neg (by omega),if_pos this]
   rw [hc]
   rw [← hla] at hsz
   rw [← hlb] at hsz2
   clear hx hy hc hla hlb
   go_enter Tryz.func258,Tryz.ntmps258
   go_wp2
   go_ret
   exact ⟨rfl,Dr.refl _⟩
theorem at_any {w:World} {A:Option Addr} {n cap:Nat} {xs:List Nat} (h:Words w (.slice A n cap) xs) (i:Nat) (hi:i≤4611686018427387904) :
  Calls Tryz.prog 374 #[.slice A n cap,.int .i64 (i:Int)] w fun e w'=>e=.returned (.int .u64 ((xs.getD i 0:Nat):Int))∧w=w':=by
 have hl:=h.len.1
 have hb:=h.2.1
 have HX:=Lib.hid h
 have HL:=Lib.hid hl
 have hn:n≤17179869184:=by omega
 obtain ⟨x,hx⟩:∃ x,x=xs.getD i 0:=⟨_,rfl⟩
 have hx32:x<4294967296:=by rw [hx]; exact h.1.getD i
 by_cases hlt:i<n
 · obtain ⟨b,o,rfl,hall⟩:=h.open_ (by omega)
   have hc:=hall i (by omega)
   rw [← hx] at hc ⊢
   clear hall h hx hl hb
   go_enter Tryz.func374,Tryz.ntmps374
   go_wp2
   go_ret
   exact ⟨rfl,rfl⟩
 · have hx0:x=0:=by rw [hx]; exact getD_out (by omega)
   rw [← hx,hx0]
   clear h hx hl hb hx0
   go_enter Tryz.func374,Tryz.ntmps374
   go_wp2
   go_ret
   exact ⟨rfl,rfl⟩
set_option maxHeartbeats 800000 in
theorem small_any {A:Option Addr} {la ca:Nat} {xs:List Nat} {w:World} (hx:Words w (.slice A la ca) xs) (h1:la≤17179869184) (d:Nat) (hd0:0<d) (hd:d<4294967296) :
  Calls Tryz.prog 372 #[.slice A la ca,.int .u64 (d:Int)] w fun e w'=>∃ v,e=.returned (.tuple #[v,.int .u64 ((val xs % d:Nat):Int)])∧Words w' v (dig (val xs/d))∧Below w.heap.size w w':=by
 have hla:=Lib.hid hx.len.1
 have HA:=Lib.hid hx
 have hwx:=Lib.hid hx.1
 clear hx
 have hd1:(1:Int)≤(d:Int):=by omega
 go_enter Tryz.func372,Tryz.ntmps372
 go_wp2_with (at_make; refine wpList_make_words rfl _ _ rfl _ _ _ _ la la rfl rfl rfl rfl (by omega) (by omega) ?_)
 intro w1 hbuf hb1 hz1
 have HZ:=Lib.hid hz1
 clear hz1
 go_wp2
 go_loopw [7,8] (fun c i wr=>∃ (k r:Nat) (qs:List Nat),k≤la∧r<d∧c=.int .u64 (r:Int)∧i=.int .i64 ((k:Int)-1)∧Hid (qs.length=la-k)∧Hid (val qs*d+r=val (xs.drop k))∧Buf wr w.heap.size (List.replicate k 0++qs)∧Below w.heap.size w wr) (fun _ i _=>(intOf i+1).toNat)
 case atStart=>exact ⟨la,0,[],by omega,hd0,rfl,rfl,by simp [Hid],by rw [Hid,List.drop_of_length_le (by rw [hla.out]; exact Nat.le_refl _)]; simp [val],by simpa using hbuf,hb1⟩
 case round =>
  obtain ⟨k,r,qs,hk,hr,rfl,rfl,HK,HV,hbuf',hb'⟩:=hrel
  have hlt:=hb'.size
  have hblt:=hbuf'.lt
  clear hbuf hb1 HZ
  by_cases hk0:0<k
  · obtain ⟨k,rfl⟩:∃ j,k=j+1:=⟨k-1,by omega⟩
    have e1:((k+1:Nat):Int)-1=(k:Int):=by omega
    rw [e1]
    clear e1
    have hX:=(HA.out.below hb')
    obtain ⟨b,o,rfl,hall⟩:=hX.open_ (by omega)
    obtain ⟨x,hx⟩:∃ x,x=xs.getD k 0:=⟨_,rfl⟩
    have hcx:wr.cell? ⟨b,o+k,none⟩=some (.int .u32 (x:Int)):=by rw [hx]; exact hall k (by omega)
    have hxl:x<4294967296:=by rw [hx]; exact hwx.out.getD k
    have hst:=hbuf'.cell k (by rw [List.length_append,HK.out,List.length_replicate]; omega)
    have hfz:=hbuf'.frozen k
    have HBUF:=Lib.hid hbuf'
    obtain ⟨t,ht⟩:∃ t,t=r*4294967296+x:=⟨_,rfl⟩
    have hti:(r:Int)*4294967296+(x:Int)=(t:Int):=by omega
    have hrb:(r:Int)*4294967296≤18446744069414584320:=by omega
    have htb:t≤18446744073709551615:=by omega
    obtain ⟨q,hqd⟩:∃ q,q=t/d:=⟨_,rfl⟩
    obtain ⟨r',hrd⟩:∃ r',r'=t % d:=⟨_,rfl⟩
    have hq:((t:Int)/(d:Int))=(q:Int):=by rw [hqd]; rfl
    have hq2:((t:Int) % (d:Int))=(r':Int):=by rw [hrd]; rfl
    have hqb:q≤4294967295:=by have:=short_word r d x hr hxl; rw [← ht,← hqd] at this; omega
    have hrb:r'<d:=by rw [hrd]; exact Nat.mod_lt _ hd0
    have HQ:=Lib.hid hqd
    have HR:=Lib.hid hrd
    have HT:=Lib.hid ht
    have HXX:=Lib.hid hx
    have hk1:(0:Int)≤(k:Int):=by omega
    clear hX hall hbuf' ht hqd hrd hx
    go_wp2
    go_roundw
    case rel =>
     refine ⟨k,r',q::qs,by omega,hrb,by rw [hq2],rfl,?_,by rw [HQ.out,HR.out]; exact short_val xs qs k r d t (by have:=hla.out; omega) HV.out (by rw [HT.out,HXX.out]),?_,hb'.setCell (Nat.le_refl _) _⟩
     · rw [Hid,List.length_cons,HK.out]; omega
     · have:=HBUF.out.set k q _ (by omega) rfl
       rw [set_zero_append] at this
       exact this
    case measure=>simp [intOf]
  · obtain rfl:k=0:=by omega
    rw [List.replicate_zero,List.nil_append] at hbuf'
    have hw:=hbuf'.words (cap:=la) (by rw [HK.out]; omega) (by rw [HK.out]; omega)
    rw [HK.out,Nat.sub_zero] at hw
    have HW:=Lib.hid hw
    have hend:=Lib.hid (short_end xs qs r d hr (by have:=HV.out; rwa [List.drop_zero] at this))
    clear hbuf' hw
    go_wp2_with (go_at_call 330; refine (rcut_any HW.out).mono ?_; rintro e w2 ⟨rfl,rfl⟩)
    go_ret2
    refine ⟨.slice (some ⟨w.heap.size,0,none⟩) (trim qs).length la,?_,?_,hb'⟩
    · rw [← hend.out.2]; rfl
    · rw [← dig_of qs _ HW.out.1 hend.out.1]
      exact HW.out.trim_
end
section
open Go.RowKit
set_option maxHeartbeats 1600000 in
set_option maxRecDepth 100000 in
theorem rmore_any {A B:Option Addr} {la ca lb cb:Nat} {xs ys:List Nat} {w:World} (hx:Words w (.slice A la ca) xs) (hy:Words w (.slice B lb cb) ys) (h1:la≤8589934592) (h2:lb≤8589934592) :
  Calls Tryz.prog 337 #[.slice A la ca,.slice B lb cb] w fun e w'=>∃ v,e=.returned v∧Words w' v (dig (val xs+val ys))∧Below w.heap.size w w':=by
 have hla:=Lib.hid hx.len.1
 have hlb:=Lib.hid hy.len.1
 have HA:=Lib.hid hx
 have HB:=Lib.hid hy
 have hwx:=Lib.hid hx.1
 have hwy:=Lib.hid hy.1
 obtain ⟨n,hn⟩:∃ n,n=max la lb+1:=⟨_,rfl⟩
 have hnb:n≤8589934593:=by omega
 rcases Nat.lt_or_ge la lb with hcase | hcase
 · have hni:(lb:Int)+1=(n:Int):=by omega
   have HN:=Lib.hid hn
   clear hx hy hn
   go_enter Tryz.func337,Tryz.ntmps337
   go_wp2_with (at_make; refine wpList_make_words rfl _ _ rfl _ _ _ _ n n rfl rfl (by first | rfl | omega) (by first | rfl | omega) (Nat.le_refl _) (by omega) ?_)
   intro w1 hbuf hb1 hz1
   have HZ:=Lib.hid hz1
   clear hz1
   go_wp2
   go_loopw [7,8] (fun c i wr=>∃ (k d:Nat) (zs:List Nat),k≤n∧d≤1∧c=.int .u64 (d:Int)∧i=.int .i64 (k:Int)∧Hid (zs.length=k)∧Hid (val zs+4294967296^k*d=val (xs.take k)+val (ys.take k))∧Buf wr w.heap.size (zs++List.replicate (n-k) 0)∧Below w.heap.size w wr) (fun _ i _=>n-(intOf i).toNat)
   case atStart=>exact ⟨0,0,[],by omega,by omega,rfl,rfl,rfl,by simp [Hid,val],by simpa using hbuf,hb1⟩
   case round =>
    obtain ⟨k,d,zs,hk,hd,rfl,rfl,HK,HV,hbuf',hb'⟩:=hrel
    have hlt:=hb'.size
    have hblt:=hbuf'.lt
    clear hbuf hb1 HZ
    by_cases hk1:k<n
    · obtain ⟨x,hx⟩:∃ x,x=xs.getD k 0:=⟨_,rfl⟩
      obtain ⟨y,hy⟩:∃ y,y=ys.getD k 0:=⟨_,rfl⟩
      have hx32:x<4294967296:=by rw [hx]; exact hwx.out.getD k
      have hy32:y<4294967296:=by rw [hy]; exact hwy.out.getD k
      have HX:=Lib.hid hx
      have HY:=Lib.hid hy
      have hst:=hbuf'.cell k (by rw [List.length_append,HK.out,List.length_replicate]; omega)
      have hfz:=hbuf'.frozen k
      have HBUF:=Lib.hid hbuf'
      have HBB:=Lib.hid hb'
      clear hx hy hbuf' hb'
      go_wp2_with fail
      refine (at_any (HA.out.below HBB.out) k (by omega)).mono ?_
      rintro e w2 ⟨rfl,rfl⟩
      rw [← HX.out]
      go_wp2_with fail
      refine (at_any (HB.out.below HBB.out) k (by omega)).mono ?_
      rintro e w3 ⟨rfl,rfl⟩
      rw [← HY.out]
      go_wp2
      go_roundw
      case rel =>
       refine ⟨k+1,(d+x+y)/4294967296,zs++[(d+x+y) % 4294967296],by omega,by omega,by go_num,by go_num,?_,?_,?_,HBB.out.setCell (Nat.le_refl _) _⟩
       · rw [Hid,List.length_append,HK.out]; rfl
       · exact more_val _ _ _ _ _ _ HK.out HV.out (by rw [HX.out,HY.out])
       · have:=HBUF.out.push HK.out (by omega) ((d+x+y) % 4294967296) _ (by omega) (by go_num)
         rw [show n-k-1=n-(k+1) from by omega] at this
         exact this
      case measure=>simp [intOf]; omega
    · obtain rfl:k=n:=by omega
      rw [Nat.sub_self,List.replicate_zero,List.append_nil] at hbuf'
      have hv:val zs=val xs+val ys:=by
       have e1:=HV.out
       rw [val_take_all xs k (by rw [← hla.out]; have:=HN.out; omega),val_take_all ys k (by rw [← hlb.out]; have:=HN.out; omega)] at e1
       have e2:=val_lt xs hwx.out
       have e3:=val_lt ys hwy.out
       have e4:4294967296^xs.length≤4294967296^(k-1):=Nat.pow_le_pow_right (by decide) (by rw [← hla.out]; have:=HN.out; omega)
       have e5:4294967296^ys.length≤4294967296^(k-1):=Nat.pow_le_pow_right (by decide) (by rw [← hlb.out]; have:=HN.out; omega)
       have e6:4294967296^k=4294967296^(k-1)*4294967296:=by rw [← Nat.pow_succ]; congr 1; have:=HN.out; omega
       rcases (by omega:d=0∨d=1) with rfl | rfl
       · omega
       · omega
      have hw:=hbuf'.words (cap:=k) (by rw [HK.out]; omega) (by rw [HK.out]; exact Nat.le_refl _)
      have hdd:=dig_of zs _ hbuf'.1 hv
      rw [HK.out] at hw
      have HW:=Lib.hid hw
      have HD:=Lib.hid hdd
      clear hbuf' hw hv hdd
      go_wp2_with fail
      refine (rcut_any HW.out).mono ?_
      rintro e w2 ⟨rfl,rfl⟩
      go_wp2
      go_ret
      refine ⟨_,rfl,?_,hb'⟩
      rw [← HD.out]
      exact HW.out.trim_
 · have hni:(la:Int)+1=(n:Int):=by omega
   have HN:=Lib.hid hn
   clear hx hy hn
   go_enter Tryz.func337,Tryz.ntmps337
   go_wp2_with (at_make; refine wpList_make_words rfl _ _ rfl _ _ _ _ n n rfl rfl (by first | rfl | omega) (by first | rfl | omega) (Nat.le_refl _) (by omega) ?_)
   intro w1 hbuf hb1 hz1
   have HZ:=Lib.hid hz1
   clear hz1
   go_wp2
   go_loopw [7,8] (fun c i wr=>∃ (k d:Nat) (zs:List Nat),k≤n∧d≤1∧c=.int .u64 (d:Int)∧i=.int .i64 (k:Int)∧Hid (zs.length=k)∧Hid (val zs+4294967296^k*d=val (xs.take k)+val (ys.take k))∧Buf wr w.heap.size (zs++List.replicate (n-k) 0)∧Below w.heap.size w wr) (fun _ i _=>n-(intOf i).toNat)
   case atStart=>exact ⟨0,0,[],by omega,by omega,rfl,rfl,rfl,by simp [Hid,val],by simpa using hbuf,hb1⟩
   case round =>
    obtain ⟨k,d,zs,hk,hd,rfl,rfl,HK,HV,hbuf',hb'⟩:=hrel
    have hlt:=hb'.size
    have hblt:=hbuf'.lt
    clear hbuf hb1 HZ
    by_cases hk1:k<n
    · obtain ⟨x,hx⟩:∃ x,x=xs.getD k 0:=⟨_,rfl⟩
      obtain ⟨y,hy⟩:∃ y,y=ys.getD k 0:=⟨_,rfl⟩
      have hx32:x<4294967296:=by rw [hx]; exact hwx.out.getD k
      have hy32:y<4294967296:=by rw [hy]; exact hwy.out.getD k
      have HX:=Lib.hid hx
      have HY:=Lib.hid hy
      have hst:=hbuf'.cell k (by rw [List.length_append,HK.out,List.length_replicate]; omega)
      have hfz:=hbuf'.frozen k
      have HBUF:=Lib.hid hbuf'
      have HBB:=Lib.hid hb'
      clear hx hy hbuf' hb'
      go_wp2_with fail
      refine (at_any (HA.out.below HBB.out) k (by omega)).mono ?_
      rintro e w2 ⟨rfl,rfl⟩
      rw [← HX.out]
      go_wp2_with fail
      refine (at_any (HB.out.below HBB.out) k (by omega)).mono ?_
      rintro e w3 ⟨rfl,rfl⟩
      rw [← HY.out]
      go_wp2
      go_roundw
      case rel =>
       refine ⟨k+1,(d+x+y)/4294967296,zs++[(d+x+y) % 4294967296],by omega,by omega,by go_num,by go_num,?_,?_,?_,HBB.out.setCell (Nat.le_refl _) _⟩
       · rw [Hid,List.length_append,HK.out]; rfl
       · exact more_val _ _ _ _ _ _ HK.out HV.out (by rw [HX.out,HY.out])
       · have:=HBUF.out.push HK.out (by omega) ((d+x+y) % 4294967296) _ (by omega) (by go_num)
         rw [show n-k-1=n-(k+1) from by omega] at this
         exact this
      case measure=>simp [intOf]; omega
    · obtain rfl:k=n:=by omega
      rw [Nat.sub_self,List.replicate_zero,List.append_nil] at hbuf'
      have hv:val zs=val xs+val ys:=by
       have e1:=HV.out
       rw [val_take_all xs k (by rw [← hla.out]; have:=HN.out; omega),val_take_all ys k (by rw [← hlb.out]; have:=HN.out; omega)] at e1
       have e2:=val_lt xs hwx.out
       have e3:=val_lt ys hwy.out
       have e4:4294967296^xs.length≤4294967296^(k-1):=Nat.pow_le_pow_right (by decide) (by rw [← hla.out]; have:=HN.out; omega)
       have e5:4294967296^ys.length≤4294967296^(k-1):=Nat.pow_le_pow_right (by decide) (by rw [← hlb.out]; have:=HN.out; omega)
       have e6:4294967296^k=4294967296^(k-1)*4294967296:=by rw [← Nat.pow_succ]; congr 1; have:=HN.out; omega
       rcases (by omega:d=0∨d=1) with rfl | rfl
       · omega
       · omega
      have hw:=hbuf'.words (cap:=k) (by rw [HK.out]; omega) (by rw [HK.out]; exact Nat.le_refl _)
      have hdd:=dig_of zs _ hbuf'.1 hv
      rw [HK.out] at hw
      have HW:=Lib.hid hw
      have HD:=Lib.hid hdd
      clear hbuf' hw hv hdd
      go_wp2_with fail
      refine (rcut_any HW.out).mono ?_
      rintro e w2 ⟨rfl,rfl⟩
      go_wp2
      go_ret
      refine ⟨_,rfl,?_,hb'⟩
      rw [← HD.out]
      exact HW.out.trim_
set_option maxHeartbeats 1600000 in
set_option maxRecDepth 100000 in
theorem rless_any {A B:Option Addr} {la ca lb cb:Nat} {xs ys:List Nat} {w:World} (hx:Words w (.slice A la ca) xs) (hy:Words w (.slice B lb cb) ys) (h1:la≤8589934592) (hle:val ys≤val xs) (hlen:lb≤la) :
  Calls Tryz.prog 338 #[.slice A la ca,.slice B lb cb] w fun e w'=>∃ v,e=.returned v∧Words w' v (dig (val xs-val ys))∧Below w.heap.size w w':=by
 have hla:=Lib.hid hx.len.1
 have hlb:=Lib.hid hy.len.1
 have HA:=Lib.hid hx
 have HB:=Lib.hid hy
 have hwx:=Lib.hid hx.1
 have hwy:=Lib.hid hy.1
 have HL:=Lib.hid hle
 clear hx hy hle
 go_enter Tryz.func338,Tryz.ntmps338
 go_wp2_with (at_make; refine wpList_make_words rfl _ _ rfl _ _ _ _ la la rfl rfl rfl rfl (Nat.le_refl _) (by omega) ?_)
 intro w1 hbuf hb1 hz1
 have HZ:=Lib.hid hz1
 clear hz1
 go_wp2
 go_loopw [6,7] (fun c i wr=>∃ (k d:Nat) (zs:List Nat),k≤la∧d≤1∧c=.int .u64 (d:Int)∧i=.int .i64 (k:Int)∧Hid (zs.length=k)∧Hid (val zs+val (ys.take k)=val (xs.take k)+4294967296^k*d)∧Buf wr w.heap.size (zs++List.replicate (la-k) 0)∧Below w.heap.size w wr) (fun _ i _=>la-(intOf i).toNat)
 case atStart=>exact ⟨0,0,[],by omega,by omega,rfl,rfl,rfl,by simp [Hid,val],by simpa using hbuf,hb1⟩
 case round =>
  obtain ⟨k,d,zs,hk,hd,rfl,rfl,HK,HV,hbuf',hb'⟩:=hrel
  have hlt:=hb'.size
  have hblt:=hbuf'.lt
  clear hbuf hb1 HZ
  by_cases hk1:k<la
  · obtain ⟨x,hx⟩:∃ x,x=xs.getD k 0:=⟨_,rfl⟩
    obtain ⟨y,hy⟩:∃ y,y=ys.getD k 0:=⟨_,rfl⟩
    have hx32:x<4294967296:=by rw [hx]; exact hwx.out.getD k
    have hy32:y<4294967296:=by rw [hy]; exact hwy.out.getD k
    obtain ⟨X,hX⟩:∃ X,X=4294967296+x-y-d:=⟨_,rfl⟩
    have hXi:4294967296+(x:Int)-(y:Int)-(d:Int)=(X:Int):=by omega
    have hXb:X≤8589934591:=by omega
    have HXX:=Lib.hid hX
    have HX:=Lib.hid hx
    have HY:=Lib.hid hy
    have hst:=hbuf'.cell k (by rw [List.length_append,HK.out,List.length_replicate]; omega)
    have hfz:=hbuf'.frozen k
    have HBUF:=Lib.hid hbuf'
    have HBB:=Lib.hid hb'
    clear hx hy hbuf' hb' hX
    go_wp2_with fail
    refine (at_any (HA.out.below HBB.out) k (by omega)).mono ?_
    rintro e w2 ⟨rfl,rfl⟩
    rw [← HX.out]
    go_wp2_with fail
    refine (at_any (HB.out.below HBB.out) k (by omega)).mono ?_
    rintro e w3 ⟨rfl,rfl⟩
    rw [← HY.out]
    go_wp2
    go_roundw
    case rel =>
     refine ⟨k+1,1-X/4294967296,zs++[X % 4294967296],by omega,by omega,by go_num,by go_num,?_,?_,?_,HBB.out.setCell (Nat.le_refl _) _⟩
     · rw [Hid,List.length_append,HK.out]; rfl
     · exact less_val _ _ _ _ _ _ _ HK.out HV.out (by rw [← HX.out,← HY.out]; have:=HXX.out; omega)
     · have:=HBUF.out.push HK.out (by omega) (X % 4294967296) _ (by omega) (by go_num)
       rw [show la-k-1=la-(k+1) from by omega] at this
       exact this
    case measure=>simp [intOf]; omega
  · obtain rfl:k=la:=by omega
    rw [Nat.sub_self,List.replicate_zero,List.append_nil] at hbuf'
    have hv:=less_end xs ys zs k d hbuf'.1 HK.out (by
     have h1:=HV.out
     rw [val_take_all ys _ (by rw [← hlb.out]; omega),val_take_all xs _ (by rw [hla.out]; exact Nat.le_refl _)] at h1
     exact h1) HL.out hd
    have hw:=hbuf'.words (cap:=k) (by rw [HK.out]; omega) (by rw [HK.out]; exact Nat.le_refl _)
    have hdd:=dig_of zs _ hbuf'.1 hv
    rw [HK.out] at hw
    have HW:=Lib.hid hw
    have HD:=Lib.hid hdd
    clear hbuf' hw hv hdd
    go_wp2_with fail
    refine (rcut_any HW.out).mono ?_
    rintro e w2 ⟨rfl,rfl⟩
    go_wp2
    go_ret
    refine ⟨_,rfl,?_,hb'⟩
    rw [← HD.out]
    exact HW.out.trim_
theorem bits_top (m l t j:Nat) (hl:(dig m).length=l+1) (ht:(dig m).getD l 0=t) (h1:t<2^j) (h2:0<j→2^(j-1)≤t) (hj:0<j):Bits m (32*l+j):=by
 have hm:=dig_lt m
 rw [hl] at hm
 rw [dig_getD] at ht
 rw [Nat.pow_succ] at hm
 have h3:m/4294967296^l<4294967296:=Nat.div_lt_of_lt_mul hm
 rw [Nat.mod_eq_of_lt h3] at ht
 have hP:0<4294967296^l:=Nat.pow_pos (by decide)
 have e1:2^(32*l+j)=4294967296^l*2^j:=by rw [p32,← Nat.pow_add]
 have e2:2^(32*l+j-1)=4294967296^l*2^(j-1):=by
  rw [p32,← Nat.pow_add]
  congr 1
  omega
 refine ⟨?_,fun _=>?_⟩
 · rw [e1]
   subst ht
   rw [Nat.mul_comm]
   exact (Nat.div_lt_iff_lt_mul hP).1 h1
 · rw [e2]
   subst ht
   rw [Nat.mul_comm]
   exact (Nat.le_div_iff_mul_le hP).1 (h2 hj)
set_option maxRecDepth 100000 in
theorem rbits_any {w:World} {A:Option Addr} {n cap m:Nat} (h:Words w (.slice A n cap) (dig m)) :
  Calls Tryz.prog 347 #[.slice A n cap] w fun e w'=>∃ L:Nat,e=.returned (.int .i64 (L:Int))∧Bits m L∧L≤32*n∧Below w.heap.size w w':=by
 have hl:=h.len.1
 have hb:=h.2.1
 have hn:n≤17179869184:=by omega
 rcases Nat.eq_zero_or_pos n with hz | hz
 · subst hz
   have hm:m=0:=(dig_nil_iff _).1 (List.eq_nil_of_length_eq_zero hl.symm)
   have HM:=Lib.hid hm
   clear hm hl hb h
   go_enter Tryz.func347,Tryz.ntmps347
   go_wp2
   go_ret
   exact ⟨0,rfl,by rw [HM.out]; exact ⟨by decide,fun h=>absurd h (by decide)⟩,by omega,Below.refl _ _⟩
 · obtain ⟨l,rfl⟩:∃ l,n=l+1:=⟨n-1,by omega⟩
   have ht0:(dig m).getD l 0≠0:=by
    have:=dig_top m (fun e=>by rw [e] at hl; simp at hl)
    rwa [← hl] at this
   obtain ⟨b,o,rfl,hall⟩:=h.open_ (by omega)
   obtain ⟨t,ht⟩:∃ t,t=(dig m).getD l 0:=⟨_,rfl⟩
   have hc:w.cell? ⟨b,o+l,none⟩=some (.int .u32 (t:Int)):=by rw [ht]; exact hall l (by omega)
   have ht32:t<4294967296:=by rw [ht]; exact (Wf_dig _).getD _
   have htp:0<t:=by omega
   have HF:=Lib.hid (fun j h1 h2 hj=>bits_top m l t j hl.symm ht.symm h1 h2 hj)
   have hll:((l+1:Nat):Int)-1=(l:Int):=by omega
   clear hl hb h ht0 hall ht
   go_enter Tryz.func347,Tryz.ntmps347
   go_wp2
   go_loopw [3,4] (fun i c wr=>∃ j T:Nat,j≤32∧i=.int .i64 ((32*l+j:Nat):Int)∧c=.int .u32 (T:Int)∧T<4294967296∧Hid (T=t/2^j)∧Hid (0<j→2^(j-1)≤t)∧Below w.heap.size w wr) (fun _ c _=>(intOf c).toNat)
   case atStart=>exact ⟨0,t,by omega,by go_num,rfl,ht32,by simp [Hid],fun h=>absurd h (by decide),by first | exact Below.refl _ _ | exact Below.drewN_ (Below.refl _ _) _⟩
   case round =>
    obtain ⟨j,T,hj,rfl,rfl,hT,HTT,HJ,hbb⟩:=hrel
    by_cases hT0:0<T
    · have hj32:j<32:=by
       rcases Nat.lt_or_ge j 32 with h | h
       · exact h
       · exfalso
         have h1:=HTT.out
         have h2:2^32≤2^j:=Nat.pow_le_pow_right (by decide) h
         rw [Nat.div_eq_of_lt (by omega)] at h1
         omega
      have HJ2:Hid (2^j≤t):=by
       have h1:=HTT.out
       rcases Nat.lt_or_ge t (2^j) with h | h
       · rw [Nat.div_eq_of_lt h] at h1; omega
       · exact h
      go_wp2
      go_roundw
      case rel =>
       refine ⟨j+1,T/2,by omega,by go_num,by go_num,by omega,?_,fun _=>HJ2.out,hbb⟩
       rw [Hid,HTT.out,Nat.pow_succ,Nat.div_div_eq_div_mul]
      case measure=>simp [intOf]; omega
    · obtain rfl:T=0:=by omega
      have hlt:t<2^j:=by
       have h1:=HTT.out
       rcases Nat.lt_or_ge t (2^j) with h | h
       · exact h
       · have:=Nat.div_pos h (Nat.two_pow_pos j)
         omega
      have hj0:0<j:=by
       rcases Nat.eq_zero_or_pos j with h | h
       · subst h; simp at hlt; omega
       · exact h
      have HG:=Lib.hid (HF.out j hlt HJ.out hj0)
      clear hc hlt
      go_wp2
      go_ret
      exact ⟨32*l+j,rfl,HG.out,by omega,hbb⟩
end
section
open Go.RowKit
set_option maxHeartbeats 1600000 in
set_option maxRecDepth 100000 in
theorem up_any {A:Option Addr} {la ca:Nat} {xs:List Nat} {w:World} (hx:Words w (.slice A la ca) xs) (h1:la≤8589934592) (n:Nat) (hn:n≤137438953472) :
  Calls Tryz.prog 348 #[.slice A la ca,.int .i64 (n:Int)] w fun e w'=>∃ v,e=.returned v∧Words w' v (dig (val xs*2^n))∧Below w.heap.size w w':=by
 have hla:=Lib.hid hx.len.1
 have HA:=Lib.hid hx
 have hwx:=Lib.hid hx.1
 rcases Nat.eq_zero_or_pos la with hz | hz
 · subst hz
   have hxs:xs=[]:=List.eq_nil_of_length_eq_zero hla.out.symm
   have HE:Hid (dig (val xs*2^n)=[]):=by rw [hxs]; simp [Hid,val,dig_zero]
   clear hx hxs
   go_enter Tryz.func348,Tryz.ntmps348
   go_wp2
   go_ret
   exact ⟨_,rfl,by rw [HE.out]; exact Words.nil _,Below.refl _ _⟩
 have hla0:((la:Int)==0)=false:=by rw [beq_eq_false_iff_ne]; omega
 clear hx
 obtain ⟨s,hs⟩:∃ s,s=n % 32:=⟨_,rfl⟩
 have hs32:s<32:=by omega
 have hsi:(n:Int) % 32=(s:Int):=by omega
 have HS:=Lib.hid hs
 clear hs
 go_enter Tryz.func348,Tryz.ntmps348
 go_wp2_with (at_make; refine wpList_make_words rfl _ _ rfl _ _ _ _ (n/32) (n/32+la+1) rfl rfl (by omega) (by omega) (by omega) (by omega) ?_)
 intro w1 hbuf hb1 hz1
 have HROW:=Lib.hid (Row.of_buf (n:=n/32) hbuf (Nat.le_refl _) (by omega) (by omega))
 have HZ:=Lib.hid hz1
 clear hz1 hbuf
 go_wp2
 go_loopw [5,6,7] (fun v c i wr=>∃ (k d:Nat) (ys:List Nat),k≤la∧Hid (d<2^s)∧c=.int .u64 (d:Int)∧i=.int .i64 (k:Int)∧Hid (ys.length=k)∧Hid (val ys+4294967296^k*d=val (xs.take k)*2^s)∧Hid (Row wr w.heap.size v (List.replicate (n/32) 0++ys))∧Below w.heap.size w wr) (fun _ _ i _=>la-(intOf i).toNat)
 case atStart=>exact ⟨0,0,[],by omega,Nat.two_pow_pos _,rfl,rfl,rfl,by simp [Hid,val],by simpa [Hid] using HROW.out,hb1⟩
 case round =>
  obtain ⟨k,d,ys,hk,HD,rfl,rfl,HK,HV,hrow',hb'⟩:=hrel
  have hlt:=hb'.size
  clear HROW hb1 HZ
  by_cases hk1:k<la
  · have hX:=(HA.out.below hb')
    obtain ⟨b,o,rfl,hall⟩:=hX.open_ (by omega)
    obtain ⟨x,hx⟩:∃ x,x=xs.getD k 0:=⟨_,rfl⟩
    have hcx:wr.cell? ⟨b,o+k,none⟩=some (.int .u32 (x:Int)):=by rw [hx]; exact hall k hk1
    have hxl:x<4294967296:=by rw [hx]; exact hwx.out.getD k
    obtain ⟨m,hm⟩:∃ m,m=x*2^s:=⟨_,rfl⟩
    have hmi:(x:Int)*2^s=(m:Int):=by rw [hm,Int.natCast_mul,Int.natCast_pow]; rfl
    have hmb:=mul_two_pow_lt x s hxl (by omega)
    rw [← hm] at hmb
    have hsp:2^s≤2^32:=Nat.pow_le_pow_right (by omega) (by omega)
    have hp:=Nat.two_pow_pos s
    have hd1:=HD.out
    have hm1:m≤18446744073709551615:=by omega
    have hd2:d≤4294967296:=by omega
    have hsum:d+m≤18446744073709551615:=by omega
    have HM:=Lib.hid hm
    have HXX:=Lib.hid hx
    clear hX hall hm hmb hsp hp hd1 hx
    go_wp2_with (at_builtin; refine wpList_append_word rfl (.tmp 36) (.tmp 40) rfl w.heap.size _ (List.replicate (n/32) 0++ys) rfl (hrow'.out.alloc _) ⟨wr.heap.size,0,none⟩ 1 ((d+m) % 4294967296) _ rfl (cell_new0 _ _ _) ?_ (by omega) ?_ ?_ ?_)
    · omega
    · simp only [List.length_append,List.length_replicate,HK.out]; omega
    · simp; omega
    · intro v' w' hrow2 hb2
      have HR2:=Lib.hid hrow2
      have hb3:Below w.heap.size w w':=(hb'.alloc (by omega) _).trans hb2
      clear hrow2 hb2 hb'
      go_wp2
      go_roundw
      case rel =>
       refine ⟨k+1,(d+m)/4294967296,ys++[(d+m) % 4294967296],by omega,?_,by go_num,by go_num,?_,?_,HR2.out,hb3⟩
       · rw [Hid,HM.out]; exact left_carry _ s d hxl (by omega) HD.out
       · rw [Hid,List.length_append,HK.out]; rfl
       · exact left_val xs ys k d s _ HK.out HV.out (by rw [HM.out,HXX.out])
      case measure=>simp [intOf]; omega
  · obtain rfl:k=la:=by omega
    have hsp:2^s≤2^32:=Nat.pow_le_pow_right (by omega) (by omega)
    have hd1:d<4294967296:=by have:=HD.out; omega
    clear hsp
    go_wp2_with (at_builtin; refine wpList_append_word rfl (.tmp 44) (.tmp 47) rfl w.heap.size _ (List.replicate (n/32) 0++ys) rfl (hrow'.out.alloc _) ⟨wr.heap.size,0,none⟩ 1 d _ rfl (cell_new0 _ _ _) ?_ hd1 ?_ ?_ ?_)
    · omega
    · simp only [List.length_append,List.length_replicate,HK.out]; omega
    · simp; omega
    · intro v' w' hrow2 hb2
      have hb3:Below w.heap.size w w':=(hb'.alloc (by omega) _).trans hb2
      have hw:=hrow2.words (by simp only [List.length_append,List.length_replicate,HK.out,List.length_cons,List.length_nil]; omega)
      have HW:=Lib.hid hw
      obtain ⟨A',L',cap',rfl⟩:=hw.form
      clear hrow2 hb2 hb' hw
      go_wp2_with (go_at_call 330; refine (rcut_any HW.out).mono ?_; rintro e w2 ⟨rfl,rfl⟩)
      go_ret
      refine ⟨_,rfl,?_,hb3⟩
      have h2:=HW.out.trim_
      have h3:trim (List.replicate (n/32) 0++(ys++[d]))=dig (val xs*2^n):=by
       refine dig_of _ _ HW.out.1 (left_end xs ys n d ?_)
       have:=HV.out
       rw [val_take_all xs _ (by rw [hla.out]; exact Nat.le_refl _),HS.out] at this
       rw [HK.out]; exact this
      rw [← h3]
      exact h2
set_option maxHeartbeats 1600000 in
set_option maxRecDepth 100000 in
theorem rproduct_any {A B:Option Addr} {la ca lb cb:Nat} {xs ys:List Nat} {w:World} (hx:Words w (.slice A la ca) xs) (hy:Words w (.slice B lb cb) ys) (h1:la≤8589934592) (h2:lb≤8589934592) :
  Calls Tryz.prog 260 #[.slice A la ca,.slice B lb cb] w fun e w'=>∃ v,e=.returned v∧Words w' v (dig (val xs*val ys))∧Below w.heap.size w w':=by
 have hla:=Lib.hid hx.len.1
 have hlb:=Lib.hid hy.len.1
 have HA:=Lib.hid hx
 have HB:=Lib.hid hy
 have hwx:=Lib.hid hx.1
 have hwy:=Lib.hid hy.1
 clear hx hy
 go_enter Tryz.func260,Tryz.ntmps260
 go_wp2_with (at_make; refine wpList_make_words rfl _ _ rfl _ _ _ _ (la+lb) (la+lb) rfl rfl (by omega) (by omega) (Nat.le_refl _) (by omega) ?_)
 intro w1 hbuf hb1 hz1
 have HZ:=Lib.hid hz1
 clear hz1
 go_wp2
 go_loopw [6] (fun i wr=>∃ (k:Nat) (os:List Nat),k≤la∧i=.int .i64 (k:Int)∧Hid (os.length=la+lb)∧Hid (val os=val (xs.take k)*val ys)∧Hid (∀ j,k+lb≤j→os.getD j 0=0)∧Buf wr w.heap.size os∧Below w.heap.size w wr) (fun i _=>la-(intOf i).toNat)
 case atStart=>exact ⟨0,List.replicate (la+lb) 0,by omega,rfl,by simp [Hid],by simp [Hid,val,val_zeros],fun j _=>by simp [List.getD,List.getElem?_replicate]; split<;>rfl,hbuf,hb1⟩
 case round =>
  obtain ⟨i,os,hi,rfl,HK,HV,H0,hbuf',hb'⟩:=hrel
  obtain ⟨wo,rfl⟩:∃ wo:World,wo=wr:=⟨_,rfl⟩
  clear hbuf hb1 HZ
  by_cases hk1:i<la
  · have hX:=(HA.out.below hb')
    obtain ⟨b,o,rfl,hall⟩:=hX.open_ (by omega)
    obtain ⟨x,hx⟩:∃ x,x=xs.getD i 0:=⟨_,rfl⟩
    have hcx:wo.cell? ⟨b,o+i,none⟩=some (.int .u32 (x:Int)):=by rw [hx]; exact hall i hk1
    have hxl:x<4294967296:=by rw [hx]; exact hwx.out.getD i
    have HXX:=Lib.hid hx
    have HBUF:=Lib.hid hbuf'
    clear hX hall hbuf' hx
    go_wp2
    go_loopw [7,9] (fun c j wr=>∃ (k d:Nat) (os':List Nat),k≤lb∧d<4294967296∧c=.int .u64 (d:Int)∧j=.int .i64 (k:Int)∧Hid (os'.length=la+lb)∧Hid (val os'+4294967296^(i+k)*d=val os+4294967296^i*(x*val (ys.take k)))∧Hid (∀ j,i+lb≤j→os'.getD j 0=0)∧Buf wr w.heap.size os'∧Below w.heap.size w wr) (fun _ j _=>lb-(intOf j).toNat)
    case atStart=>exact ⟨0,0,os,by omega,by omega,rfl,rfl,HK,by simp [Hid,val],H0,HBUF.out,hb'⟩
    case round =>
     obtain ⟨k,d,os',hk,hd,rfl,rfl,HK',HV',H0',hbuf2,hb2⟩:=hrel
     have hlt:=hb2.size
     have hblt:=hbuf2.lt
     clear hb' hcx
     by_cases hk2:k<lb
     · have hY:=(HB.out.below hb2)
       obtain ⟨b2,o2,rfl,hall⟩:=hY.open_ (by omega)
       obtain ⟨y,hy⟩:∃ y,y=ys.getD k 0:=⟨_,rfl⟩
       have hcy:wr.cell? ⟨b2,o2+k,none⟩=some (.int .u32 (y:Int)):=by rw [hy]; exact hall k hk2
       have hyl:y<4294967296:=by rw [hy]; exact hwy.out.getD k
       obtain ⟨z,hz⟩:∃ z,z=os'.getD (i+k) 0:=⟨_,rfl⟩
       have hst:wr.cell? ⟨w.heap.size,i+k,none⟩=some (.int .u32 (z:Int)):=by rw [hz]; exact hbuf2.cell (i+k) (by rw [HK'.out]; omega)
       have hfz:=hbuf2.frozen (i+k)
       have hol:z<4294967296:=by rw [hz]; exact hbuf2.1.getD (i+k)
       obtain ⟨m,hm⟩:∃ m,m=x*y:=⟨_,rfl⟩
       have hmb:m≤18446744065119617025:=by rw [hm]; exact mul_word _ _ hxl hyl
       have hmi:(x:Int)*(y:Int)=(m:Int):=by rw [hm]; exact (Int.natCast_mul _ _).symm
       have HM:=Lib.hid hm
       have HY:=Lib.hid hy
       have HZZ:=Lib.hid hz
       have HBUF2:=Lib.hid hbuf2
       obtain ⟨t,ht⟩:∃ t,t=d+m+z:=⟨_,rfl⟩
       have hti:(d:Int)+(m:Int)+(z:Int)=(t:Int):=by omega
       have htb:t≤18446744073709551615:=by omega
       have HT:=Lib.hid ht
       clear hY hall hbuf2 hm HBUF hy hz ht
       go_wp2
       go_region
       go_wp2
       go_roundw
       case rel =>
        refine ⟨k+1,t/4294967296,os'.set (i+k) (t % 4294967296),by omega,by omega,by go_num,by go_num,?_,?_,?_,?_,Below.setCell (Below.drew hb2) (Nat.le_refl _) _⟩
        · rw [Hid,List.length_set]; exact HK'.out
        · exact prod_val os os' ys i k d x _ (by rw [HK'.out]; omega) HV'.out (by rw [HT.out,HM.out,HY.out,HZZ.out]; omega)
        · intro j hj
          rw [getD_set,if_neg (by omega)]
          exact H0'.out j hj
        · exact (HBUF2.out.drewN 1).set (i+k) _ _ (by omega) (by go_num)
       case measure=>simp [intOf]; omega
     · obtain rfl:k=lb:=by omega
       have hst:=hbuf2.cell (i+k) (by rw [HK'.out]; omega)
       have hfz:=hbuf2.frozen (i+k)
       have HBUF2:=Lib.hid hbuf2
       clear hbuf2 HBUF
       go_wp2
       go_roundw
       case rel =>
        refine ⟨i+1,os'.set (i+k) d,by omega,by go_num,?_,?_,?_,HBUF2.out.set (i+k) d _ hd (by go_num),hb2.setCell (Nat.le_refl _) _⟩
        · rw [Hid,List.length_set]; exact HK'.out
        · have h1:=HV'.out
          rw [val_take_all ys k (by rw [hlb.out]; exact Nat.le_refl _),HXX.out] at h1
          have hl:=hlb.out
          have h2:=H0'.out (i+k) (Nat.le_refl _)
          rw [hl] at h1 h2 ⊢
          exact prod_end os os' xs ys i d (by rw [HK'.out]; omega) h2 HV.out h1
        · intro j hj
          rw [getD_set]
          split
          · omega
          · exact H0'.out j (by omega)
       case measure=>simp [intOf]; omega
  · obtain rfl:i=la:=by omega
    have hv:val os=val xs*val ys:=by
     have h1:=HV.out
     rwa [val_take_all xs _ (by rw [hla.out]; exact Nat.le_refl _)] at h1
    have hw:=hbuf'.words (cap:=i+lb) (by rw [HK.out]; omega) (by rw [HK.out]; exact Nat.le_refl _)
    have hdd:=dig_of os _ hbuf'.1 hv
    rw [HK.out] at hw
    have HW:=Lib.hid hw
    have HD:=Lib.hid hdd
    clear hw hbuf' hv hdd
    go_wp2_with fail
    refine (rcut_any HW.out).mono ?_
    rintro e w2 ⟨rfl,rfl⟩
    go_wp2
    go_ret
    refine ⟨_,rfl,?_,hb'⟩
    rw [← HD.out]
    exact HW.out.trim_
end
section
open Go.RowKit
theorem at_val {w:World} {A:Option Addr} {n cap:Nat} {xs:List Nat} (h:Words w (.slice A n cap) xs) (i x:Nat) (hi:i≤4611686018427387904) (hx:xs.getD i 0=x) (k:Nat) :
  Calls Tryz.prog 374 #[.slice A n cap,.int .i64 (i:Int)] (w.drewN k) fun e w'=>e=.returned (.int .u64 (x:Int))∧w'=w.drewN k :=
 (at_any (h.below (Below.drewN_ (Below.refl _ _) k)) i hi).mono fun e w' h=>⟨by rw [h.1,hx],h.2.symm⟩
theorem Row.on_ {w w':World} {base:Nat} {v:Value} {zs:List Nat} (h:Row w base v zs) (k:Below w.heap.size w w'):Row w' base v zs:=by
 obtain ⟨h0,h1,h2⟩:=h
 refine ⟨h0,h1,?_⟩
 rcases h2 with h2 | ⟨g,cap,cur,e,hg,hh,hc⟩
 · exact .inl h2
 · exact .inr ⟨g,cap,cur,e,hg,by rw [k.block g (heap_some_lt hh)]; exact hh,hc⟩
set_option maxHeartbeats 1600000 in
set_option maxRecDepth 100000 in
theorem down_any {A:Option Addr} {la ca:Nat} {xs:List Nat} {w:World} (hx:Words w (.slice A la ca) xs) (h1:la≤17179869184) (n:Nat) (hn:n≤1099511627776) :
  Calls Tryz.prog 375 #[.slice A la ca,.int .i64 (n:Int)] w fun e w'=>∃ v,e=.returned v∧Words w' v (dig (val xs/2^n))∧Below w.heap.size w w':=by
 have hla:=Lib.hid hx.len.1
 have HA:=Lib.hid hx
 have hwx:=Lib.hid hx.1
 obtain ⟨s,hs⟩:∃ s,s=n % 32:=⟨_,rfl⟩
 have hs32:s<32:=by omega
 have hsi:(n:Int) % 32=(s:Int):=by omega
 obtain ⟨q,hq⟩:∃ q,q=n/32:=⟨_,rfl⟩
 have hqi:(n:Int)/32=(q:Int):=by omega
 have hqb:q≤34359738368:=by omega
 obtain ⟨ys,hys⟩:∃ ys,ys=xs.drop q:=⟨_,rfl⟩
 have hwy:Hid (Wf ys):=by rw [hys]; exact hx.1.drop q
 have hly:Hid (ys.length=la-q):=by rw [hys,Hid,List.length_drop,hla.out]
 have HYX:Hid (∀ k,xs.getD (q+k) 0=ys.getD k 0):=by
  intro k
  rw [hys]
  simp [List.getD]
 have HV:Hid (val ys/2^s=val xs/2^n):=by
  rcases Nat.lt_or_ge q la with h | h
  · have:=shr_words xs n hx.1 (by rw [← hla.out]; omega)
    rw [Hid,hys,hs,hq]; exact this
  · have h2:=shr_none xs n hx.1 (by rw [← hla.out]; omega)
    rw [Hid,h2,hys,List.drop_of_length_le (by rw [← hla.out]; exact h)]
    simp [val]
 clear hx hs hq hys
 go_enter Tryz.func375,Tryz.ntmps375
 go_wp2
 go_loopw [5,6] (fun v i wr=>∃ (k:Nat),k≤la-q∧i=.int .i64 ((q+k:Nat):Int)∧Hid (Row wr w.heap.size v ((shrL s ys).take k))∧Below w.heap.size w wr) (fun _ i _=>la-(intOf i).toNat)
 case atStart=>exact ⟨0,by omega,by go_num,Row.nil _ _,Below.refl _ _⟩
 case round =>
  obtain ⟨k,hk,rfl,hrow,hb'⟩:=hrel
  have hlt:=hb'.size
  have hkl:Hid (((shrL s ys).take k).length=k):=by rw [Hid,List.length_take,shrL_length,hly.out]; omega
  by_cases hk1:q+k<la
  · have hX:=(HA.out.below hb')
    obtain ⟨b,o,rfl,hall⟩:=hX.open_ (by omega)
    obtain ⟨x,hx⟩:∃ x,x=xs.getD (q+k) 0:=⟨_,rfl⟩
    obtain ⟨x2,hx2⟩:∃ x,x=xs.getD (q+k+1) 0:=⟨_,rfl⟩
    have hcx:wr.cell? ⟨b,o+(q+k),none⟩=some (.int .u32 (x:Int)):=by rw [hx]; exact hall (q+k) hk1
    have hx32:x<4294967296:=by rw [hx]; exact hwx.out.getD _
    have hx232:x2<4294967296:=by rw [hx2]; exact hwx.out.getD _
    obtain ⟨t,ht⟩:∃ t,t=x2*4294967296+x:=⟨_,rfl⟩
    have hti:(x2:Int)*4294967296+(x:Int)=(t:Int):=by omega
    have hxb:(x2:Int)*4294967296≤18446744069414584320:=by omega
    have htb:t≤18446744073709551615:=by omega
    obtain ⟨u,hu⟩:∃ u,u=t/2^s:=⟨_,rfl⟩
    have hui:(t:Int)/2^s=(u:Int):=by rw [hu,Int.natCast_ediv,Int.natCast_pow]; rfl
    have hub:u≤18446744073709551615:=by rw [hu]; exact Nat.le_trans (Nat.div_le_self _ _) htb
    have HU:=Lib.hid hu
    have HT:=Lib.hid ht
    have HXX:=Lib.hid hx
    have HX2:=Lib.hid hx2
    have HXW:=Lib.hid hX
    have hki:((q+k:Nat):Int)+1=((q+k+1:Nat):Int):=by omega
    clear hX hall hx hx2 ht hu
    go_wp2
    go_quiet ((go_at_call 374; exact Calls.quiet_of_same (at_val HXW.out (q+k+1) x2 (by omega) HX2.out.symm _)))
    go_wp2_with (at_builtin; refine wpList_append_word rfl (.tmp 30) (.tmp 34) rfl w.heap.size _ ((shrL s ys).take k) rfl ((Row.on_ hrow.out (Below.drewN_ (Below.refl _ _) _)).alloc _) ⟨_,0,none⟩ 1 (u % 4294967296) _ rfl (cell_new0 _ _ _) ?_ (by omega) ?_ ?_ ?_)
    · omega
    · rw [hkl.out]; omega
    · simp; omega
    · intro v' w' hrow2 hb2
      have HR2:=Lib.hid hrow2
      have hb3:Below w.heap.size w w':=((Below.drewN_ hb' _).alloc (by simpa using hlt) _).trans hb2
      clear hrow2 hb2 hb'
      go_wp2
      go_roundw
      case rel =>
       refine ⟨k+1,by omega,by go_num,?_,hb3⟩
       have h:=HR2.out
       have e:((shrL s ys).take k)++[u % 4294967296]=(shrL s ys).take (k+1):=by
        rw [shrL_take s ys k (by rw [hly.out]; omega)]
        have e2:(ys.getD k 0+4294967296*ys.getD (k+1) 0)/2^s=u:=by
         rw [HU.out,HT.out,← HYX.out k,← HYX.out (k+1),← HXX.out,← Nat.add_assoc,← HX2.out,Nat.add_comm,Nat.mul_comm]
        rw [e2]
       rw [e] at h
       exact h
      case measure=>simp [intOf]; omega
  · have hke:k=la-q:=by omega
    have hw:=hrow.out.words (by rw [hkl.out]; omega)
    rw [List.take_of_length_le (by rw [shrL_length,hly.out]; omega)] at hw
    have HW:=Lib.hid hw
    obtain ⟨A',L',cap',rfl⟩:=hw.form
    clear hw hke
    go_wp2_with fail
    refine (rcut_any HW.out).mono ?_
    rintro e w2 ⟨rfl,rfl⟩
    go_wp2
    go_ret
    refine ⟨_,rfl,?_,hb'⟩
    rw [← HV.out,← val_shrL s ys hwy.out hs32,← dig_of _ _ (Wf_shrL s ys) rfl]
    exact HW.out.trim_
theorem Buf.window {w:World} {g j m L c:Nat} {us:List Nat} (h:Buf w g us) (hl:us.length=L) (hL:L≤17179869184) (hj:j+m≤L) (hm:0<m) (hc:m≤c):Words w (.slice (some ⟨g,j,none⟩) m c) ((us.drop j).take m):=by
 obtain ⟨hw,cs,h1,h2,h3⟩:=h
 have hlen:((us.drop j).take m).length=m:=by rw [List.length_take,List.length_drop]; omega
 refine ⟨(hw.drop j).take m,by rw [hlen]; omega,_,c,by rw [hlen],by rw [hlen]; exact hc,fun _=>⟨g,j,cs,_,rfl,h1,fun i hi=>?_⟩⟩
 rw [hlen] at hi
 rw [h3 (j+i) (by omega)]
 congr 3
 simp [List.getD,List.getElem?_take,hi]
theorem cmpN_le {n m:Nat}:cmpN n m≤0↔n≤m:=by
 unfold cmpN
 split
 · omega
 · split<;>omega
set_option maxHeartbeats 1600000 in
set_option maxRecDepth 100000 in
theorem fits_any {w:World} {Av:Option Addr} {n cv gu L j q V:Nat} {us:List Nat} (hv:Words w (.slice Av n cv) (dig V)) (hu:Buf w gu us) (hl:us.length=L) (hL:L≤8589934592) (hj:j+n+1≤L) (hn:n≤4294967296) (hq:q<4294967296) (r:Bool) (hr:decide (q*V≤val ((us.drop j).take (n+1)))=r) :
  Calls Tryz.prog 373 #[.slice (some ⟨gu,0,none⟩) L L,.slice Av n cv,.int .i64 (j:Int),.int .u64 (q:Int)] w fun e w'=>e=.returned (.bool r)∧Below w.heap.size w w':=by
 have HV:=Lib.hid hv
 have HU:=Lib.hid hu
 have HL:=Lib.hid hl
 obtain ⟨mid,hmid⟩:∃ mid,mid=(us.drop j).take (n+1):=⟨_,rfl⟩
 rw [← hmid] at hr
 have HR:=Lib.hid hr
 have HMID:=Lib.hid hmid
 have hwq:=words_one w q _ hq rfl
 have HWQ:=Lib.hid hwq
 have HB:=Lib.hid (below_new w (.cells #[.int .u32 (q:Int)] 284))
 have HV1:=Lib.hid (hv.below HB.out)
 clear hv hu hl hr hmid hwq
 go_enter Tryz.func373,Tryz.ntmps373
 go_wp2_with fail
 refine (rproduct_any HWQ.out HV1.out (by decide) (by omega)).mono ?_
 rintro e w2 ⟨v,rfl,h1,hb⟩
 obtain ⟨Ax,nx,cx,rfl⟩:=h1.form
 have HX:=Lib.hid h1
 have HB2:=Lib.hid (HB.out.trans (hb.mono HB.out.size))
 clear h1 hb
 have hwin:∀ c,n+1≤c→Words w2 (.slice (some ⟨gu,j,none⟩) (n+1) c) mid:=fun c hc=>by rw [HMID.out]; exact ((HU.out.on HB2.out).window HL.out (by omega) (by omega) (by omega) hc)
 have HWIN:=Lib.hid hwin
 clear hwin
 go_wp2_with fail
 rw [show j+n+1-j=n+1 by omega]
 refine (rcut_any (HWIN.out (L-j) (by omega))).mono ?_
 rintro e w3 ⟨rfl,rfl⟩
 have hmw:=HWIN.out (L-j) (by omega)
 have hd:trim mid=dig (val mid):=(dig_val mid hmw.1).symm
 have hcw:=(HWIN.out (L-j) (by omega)).trim_
 rw [hd] at hcw ⊢
 have HCW:=Lib.hid hcw
 clear hd hcw hmw
 go_wp2_with fail
 refine (runder_any HX.out HCW.out).mono ?_
 rintro e w4 ⟨rfl,hdr⟩
 have HB4:=Lib.hid (HB2.out.trans (hdr.below _))
 have hcv:val [q]*val (dig V)=q*V:=by rw [val_dig]; simp [val]
 rw [hcv]
 have hkk:decide (cmpN (q*V) (val mid)≤0)=r:=by rw [← HR.out]; exact decide_eq_decide.2 cmpN_le
 have HKK:=Lib.hid hkk
 clear hdr hcv hkk
 go_wp2
 go_ret
 refine ⟨?_,HB4.out⟩
 rw [← HKK.out]
 rfl
end
end Go.Proofs.YtmfedaakeeiolaaGreat
end
