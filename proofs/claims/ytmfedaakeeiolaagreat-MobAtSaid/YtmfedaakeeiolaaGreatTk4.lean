/- BigA. -/
import Derived.BigQuiet
import Derived.Deep.QuietTactic
import Derived.WalkSpells
import Derived.WalkLawsBesides
import Derived.Test.YtmfedaakeeiolaaGreatProg
import Derived.Test.YtmfedaakeeiolaaGreatTk3
set_option linter.unnecessarySimpa false
set_option linter.unusedVariables false
set_option linter.unusedSimpArgs false
section
namespace Go.Proofs.YtmfedaakeeiolaaGreat
section
open Go.RowKit
theorem trim_take_pred (xs:List Nat) (k:Nat) (hk:0<k) (hl:k≤xs.length) (h0:xs.getD (k-1) 0=0):trim (xs.take (k-1))=trim (xs.take k):=by
 obtain ⟨j,rfl⟩:∃ j,k=j+1:=⟨k-1,by omega⟩
 simp only [Nat.add_sub_cancel] at *
 rw [List.take_succ_eq_append_getElem (by omega),← getD_in (by omega),h0,trim_snoc_zero]
theorem trim_take_done (xs:List Nat) (k:Nat) (hk:0<k) (hl:k≤xs.length) (h0:xs.getD (k-1) 0≠0):(trim (xs.take k)).length=k:=by
 obtain ⟨j,rfl⟩:∃ j,k=j+1:=⟨k-1,by omega⟩
 simp only [Nat.add_sub_cancel] at *
 rw [List.take_succ_eq_append_getElem (by omega),← getD_in (by omega),trim_snoc_pos _ _ h0]
 simp; omega
theorem cut_cells (xs:List Nat) (b o n cap:Nat) (w:World) (hn:xs.length=n) (hb:n≤17179869184) (hcap:n≤cap)
  (hc:∀ i,i<n→w.cell? ⟨b,o+i,none⟩=some (.int .u32 (xs.getD i 0:Nat))) :
  Calls Tryz.prog 376 #[.slice (some ⟨b,o,none⟩) n cap] w fun e w'=>e=.returned (.slice (some ⟨b,o,none⟩) (trim xs).length cap)∧w=w':=by
 have HN:=Lib.hid hn
 clear hn
 go_enter Tryz.func376,Tryz.ntmps376
 go_wp2
 go_loop [0] (fun s=>∃ k:Nat,k≤n∧s=.slice (some ⟨b,o,none⟩) k cap∧trim (xs.take k)=trim xs) (fun s=>match s with | .slice _ k _=>k | _=>0)
 case atStart=>exact ⟨n,Nat.le_refl _,rfl,by rw [List.take_of_length_le (by rw [HN.out]; exact Nat.le_refl _)]⟩
 case round =>
  obtain ⟨k,hk,rfl,hr⟩:=hrel
  have HR:=Lib.hid hr
  clear hr
  by_cases hk0:0<k
  · have hk1:(0:Int)≤(k:Int)-1:=by omega
    have hcell:=hc (k-1) (by omega)
    go_wp2
    · have h0:(((xs[k-1]?.getD 0:Nat):Int)==0)=true:=by assumption
      have h0':xs.getD (k-1) 0=0:=by simp at h0; simpa using h0
      exact ⟨⟨k-1,by omega,rfl,by rw [trim_take_pred xs k hk0 (by rw [HN.out]; exact hk) h0',HR.out]⟩,by simp; omega⟩
    · have h0:(((xs[k-1]?.getD 0:Nat):Int)==0)=false:=by assumption
      have h0':xs.getD (k-1) 0≠0:=by simp at h0; simpa using h0
      go_ret
      refine ⟨?_,rfl⟩
      have:=trim_take_done xs k hk0 (by rw [HN.out]; exact hk) h0'
      rw [HR.out] at this
      rw [this]
      rfl
  · obtain rfl:k=0:=by omega
    go_wp2
    go_ret
    refine ⟨?_,rfl⟩
    have:=HR.out
    have hz:(trim xs).length=0:=by rw [← this]; rfl
    rw [hz]
    rfl
theorem cut_any {w:World} {A:Option Addr} {n cap:Nat} {xs:List Nat} (h:Words w (.slice A n cap) xs) :
  Calls Tryz.prog 376 #[.slice A n cap] w fun e w'=>e=.returned (.slice A (trim xs).length cap)∧w=w':=by
 obtain ⟨hl,hcap⟩:=h.len
 by_cases h0:n=0
 · subst h0
   obtain rfl:xs=[]:=List.eq_nil_of_length_eq_zero hl.symm
   clear hl h
   go_enter Tryz.func376,Tryz.ntmps376
   go_wp2
   refine wp_loop_rounds 1 ?_
   rw [rounds_succ]
   go_wp2
   go_ret
   exact ⟨rfl,rfl⟩
 · obtain ⟨b,o,rfl,hc⟩:=h.open_ (by omega)
   exact cut_cells xs b o n cap w hl.symm (by rw [hl]; exact h.2.1) hcap hc
theorem ret_i {k:IntKind} {a b:Int} (h:a=b):Ending.returned (.int k a)=.returned (.int k b):=by rw [h]
theorem under_cells (xs ys:List Nat) (b o b' o' n ca cb:Nat) (r:Int) (w:World) (hx:xs.length=n) (hy:ys.length=n) (hb:n≤17179869184) (h0:0<n) (hwx:Wf xs) (hwy:Wf ys) (hr:r=cmpN (val xs) (val ys))
  (hc:∀ i,i<n→w.cell? ⟨b,o+i,none⟩=some (.int .u32 (xs.getD i 0:Nat))) (hd:∀ i,i<n→w.cell? ⟨b',o'+i,none⟩=some (.int .u32 (ys.getD i 0:Nat))) :
  Calls Tryz.prog 364 #[.slice (some ⟨b,o,none⟩) n ca,.slice (some ⟨b',o',none⟩) n cb] w fun e w'=>e=.returned (.int .i64 r)∧Dr w w':=by
 have HX:=Lib.hid hx
 have HY:=Lib.hid hy
 have HR:=Lib.hid hr
 clear hx hy hr
 go_enter Tryz.func364,Tryz.ntmps364
 go_wp2
 go_loopw [5] (fun i wr=>∃ k:Nat,k≤n∧i=.int .i64 ((k:Int)-1)∧(∀ j,k≤j→j<n→xs.getD j 0=ys.getD j 0)∧Dr w wr) (fun i _=>(intOf i+1).toNat)
 case atStart=>exact ⟨n,Nat.le_refl _,rfl,fun j h1 h2=>by omega,Dr.refl _⟩
 case round =>
  obtain ⟨k,hk,rfl,hs,d,rfl⟩:=hrel
  have HS:=Lib.hid hs
  clear hs
  by_cases hk0:0<k
  · obtain ⟨k,rfl⟩:∃ j,k=j+1:=⟨k-1,by omega⟩
    have e1:((k+1:Nat):Int)-1=(k:Int):=by omega
    rw [e1]
    clear e1
    have hk1:(0:Int)≤(k:Int):=by omega
    have hk2:(k:Int)<(n:Int):=by omega
    have hcell:=hc k (by omega)
    have hcell':=hd k (by omega)
    go_wp2
    go_quiet (fail)
    go_wp2
    · have h1:(xs[k]?.getD 0)<(ys[k]?.getD 0):=by assumption
      go_ret
      refine ⟨ret_i ?_,by repeat (first | exact ⟨_,rfl⟩ | refine Dr.n ?_ _)⟩
      have h2:=val_lt_of xs ys k hwx (by rw [HX.out,HY.out]) (by rw [HX.out]; omega) (by simpa using h1) (fun j h3 h4=>HS.out j (by omega) (by rw [HX.out] at h4; exact h4))
      rw [HR.out,cmpN,if_pos h2]
    · go_quiet (fail)
      go_wp2
      · have h1:(ys[k]?.getD 0)<(xs[k]?.getD 0):=by assumption
        go_ret
        refine ⟨ret_i ?_,by repeat (first | exact ⟨_,rfl⟩ | refine Dr.n ?_ _)⟩
        have h2:=val_lt_of ys xs k hwy (by rw [HX.out,HY.out]) (by rw [HY.out]; omega) (by simpa using h1) (fun j h3 h4=>(HS.out j (by omega) (by rw [HY.out] at h4; exact h4)).symm)
        rw [HR.out,cmpN,if_neg (by omega),if_pos h2]
      · have h1:(ys[k]?.getD 0)≤(xs[k]?.getD 0):=Nat.le_of_not_lt (by assumption)
        have h2:(xs[k]?.getD 0)≤(ys[k]?.getD 0):=Nat.le_of_not_lt (by assumption)
        go_roundw
        case rel =>
         refine ⟨k,by omega,rfl,fun j h3 h4=>?_,by repeat (first | exact ⟨_,rfl⟩ | refine Dr.n ?_ _)⟩
         rcases Nat.eq_or_lt_of_le h3 with rfl | h5
         · simpa using Nat.le_antisymm h2 h1
         · exact HS.out j (by omega) h4
        case measure=>simp [intOf]
  · obtain rfl:k=0:=by omega
    go_wp2
    go_ret
    refine ⟨ret_i ?_,_,rfl⟩
    have:xs=ys:=val_eq_of_same xs ys (by rw [HX.out,HY.out]) (fun i hi=>HS.out i (by omega) (by rw [HX.out] at hi; exact hi))
    rw [HR.out,this]
    simp [cmpN]
theorem under_any {w:World} {A B:Option Addr} {la ca lb cb n m:Nat} (hx:Words w (.slice A la ca) (dig n)) (hy:Words w (.slice B lb cb) (dig m)) :
  Calls Tryz.prog 364 #[.slice A la ca,.slice B lb cb] w fun e w'=>e=.returned (.int .i64 (cmpN n m))∧Dr w w':=by
 have hla:=hx.len.1
 have hlb:=hy.len.1
 have hsz:=hx.2.1
 have hsz2:=hy.2.1
 rcases Nat.lt_trichotomy la lb with h | h | h
 · have hc:cmpN n m = -1:=by rw [cmpN,if_pos (dig_len_lt n m (by omega))]
   rw [hc]
   rw [← hla] at hsz
   rw [← hlb] at hsz2
   clear hx hy hc hla hlb
   go_enter Tryz.func364,Tryz.ntmps364
   go_wp2
   go_ret
   exact ⟨rfl,Dr.refl _⟩
 · subst h
   by_cases h0:la=0
   · subst h0
     have e1:=(dig_nil_iff n).1 (List.eq_nil_of_length_eq_zero hla.symm)
     have e2:=(dig_nil_iff m).1 (List.eq_nil_of_length_eq_zero hlb.symm)
     have hc:cmpN n m=0:=by rw [e1,e2]; rfl
     rw [hc]
     clear hx hy hc hla hlb hsz hsz2 e1 e2
     go_enter Tryz.func364,Tryz.ntmps364
     go_wp2
     refine wp_loop_rounds 1 ?_
     rw [rounds_succ]
     go_wp2
     go_ret
     exact ⟨rfl,Dr.refl _⟩
   · obtain ⟨b,o,rfl,hc⟩:=hx.open_ (by omega)
     obtain ⟨b',o',rfl,hd⟩:=hy.open_ (by omega)
     exact under_cells (dig n) (dig m) b o b' o' la ca cb _ w hla.symm hlb.symm (by omega) (by omega) (Wf_dig n) (Wf_dig m) (by rw [val_dig,val_dig]) hc hd
 · have hc:cmpN n m=1:=by have:=dig_len_lt m n (by omega); rw [cmpN,if_neg (by omega),if_pos this]
   rw [hc]
   rw [← hla] at hsz
   rw [← hlb] at hsz2
   clear hx hy hc hla hlb
   go_enter Tryz.func364,Tryz.ntmps364
   go_wp2
   go_ret
   exact ⟨rfl,Dr.refl _⟩
end
section
open Go.RowKit
theorem more_core (A B:Option Addr) (la ca lb cb:Nat) (xs ys:List Nat) (v0 v1:Value) (w:World) (hx:Words w (.slice A la ca) xs) (hy:Words w (.slice B lb cb) ys) (hsz:la≤8589934592)
  (hv:(v0=.slice A la ca∧v1=.slice B lb cb∧lb≤la)∨(v1=.slice A la ca∧v0=.slice B lb cb∧lb<la)) :
  Calls Tryz.prog 370 #[v0,v1] w fun e w'=>∃ v zs,e=.returned v∧Words w' v zs∧val zs=val xs+val ys∧Below w.heap.size w w':=by
 have hla:=Lib.hid hx.len.1
 have hlb:=Lib.hid hy.len.1
 have HA:=Lib.hid hx
 have HB:=Lib.hid hy
 have hwx:=Lib.hid hx.1
 have hwy:=Lib.hid hy.1
 clear hx hy
 rcases hv with ⟨rfl,rfl,hle⟩ | ⟨rfl,rfl,hle⟩
 all_goals
  go_enter Tryz.func370,Tryz.ntmps370
  go_wp2_with (at_make; refine wpList_make_words rfl _ _ rfl _ _ _ _ (la+1) (la+1) rfl rfl (by omega) (by omega) (Nat.le_refl _) (by omega) ?_)
  intro w1 hbuf hb1 hz1
  have HZ:=Lib.hid hz1
  clear hz1
  go_wp2
  go_loopw [6,22] (fun c i wr=>∃ (k d:Nat) (zs:List Nat),k≤la∧d≤1∧c=.int .u64 (d:Int)∧i=.int .i64 (k:Int)∧Hid (zs.length=k)∧Hid (val zs+4294967296^k*d=val (xs.take k)+val (ys.take k))∧Buf wr w.heap.size (zs++List.replicate (la+1-k) 0)∧Below w.heap.size w wr) (fun _ i _=>la-(intOf i).toNat)
  case atStart=>exact ⟨0,0,[],by omega,by omega,rfl,rfl,rfl,by simp [Hid,val],by simpa using hbuf,hb1⟩
  case round =>
   obtain ⟨k,d,zs,hk,hd,rfl,rfl,HK,HV,hbuf',hb'⟩:=hrel
   have hlt:=hb'.size
   have hblt:=hbuf'.lt
   clear hbuf hb1 HZ
   by_cases hk1:k<la
   · have hX:=(HA.out.below hb')
     obtain ⟨b,o,rfl,hcx⟩:=hX.open_ (by omega)
     have hcx:=hcx k hk1
     have hxl:((xs[k]?.getD 0:Nat):Int)<4294967296:=by have:=hwx.out.get? k; omega
     have hst:=hbuf'.cell k (by rw [List.length_append,HK.out,List.length_replicate]; omega)
     have hfz:=hbuf'.frozen k
     have HBUF:=Lib.hid hbuf'
     clear hX hbuf'
     by_cases hk2:k<lb
     · have hY:=(HB.out.below hb')
       obtain ⟨b2,o2,rfl,hcy⟩:=hY.open_ (by omega)
       have hcy:=hcy k hk2
       have hyl:((ys[k]?.getD 0:Nat):Int)<4294967296:=by have:=hwy.out.get? k; omega
       clear hY
       go_wp2
       go_roundw
       case rel =>
        refine ⟨k+1,(d+xs.getD k 0+ys.getD k 0)/4294967296,zs++[(d+xs.getD k 0+ys.getD k 0) % 4294967296],by omega,by simp only [List.getD]; omega,?_,rfl,?_,more_val _ _ _ _ _ _ HK.out HV.out rfl,?_,hb'.setCell (Nat.le_refl _) _⟩
        · simp only [List.getD]; go_num
        · rw [Hid,List.length_append,HK.out]; rfl
        · have:=HBUF.out.push HK.out (by omega) ((d+xs.getD k 0+ys.getD k 0) % 4294967296) _ (by omega) (by simp only [List.getD]; try go_num)
          rw [show la+1-k-1=la+1-(k+1) from by omega] at this
          exact this
       case measure=>simp [intOf]; omega
     · have hy0:ys.getD k 0=0:=getD_out (by have:=hlb.out; omega)
       have HY0:=Lib.hid hy0
       clear hy0
       go_wp2
       go_roundw
       case rel =>
        refine ⟨k+1,(d+xs.getD k 0+ys.getD k 0)/4294967296,zs++[(d+xs.getD k 0+ys.getD k 0) % 4294967296],by omega,by rw [HY0.out]; simp only [List.getD]; omega,?_,rfl,?_,more_val _ _ _ _ _ _ HK.out HV.out rfl,?_,hb'.setCell (Nat.le_refl _) _⟩
        · rw [HY0.out]; simp only [List.getD]; go_num
        · rw [Hid,List.length_append,HK.out]; rfl
        · have:=HBUF.out.push HK.out (by omega) ((d+xs.getD k 0+ys.getD k 0) % 4294967296) _ (by omega) (by rw [HY0.out]; try (simp only [List.getD]; try go_num))
          rw [show la+1-k-1=la+1-(k+1) from by omega] at this
          exact this
       case measure=>simp [intOf]; omega
   · obtain rfl:k=la:=by omega
     have hst:=hbuf'.cell k (by rw [List.length_append,HK.out,List.length_replicate]; omega)
     have hfz:=hbuf'.frozen k
     have HBUF:=Lib.hid hbuf'
     clear hbuf'
     go_wp2
     go_ret
     have hpush:=HBUF.out.push HK.out (by omega) d _ (by omega) (by go_num)
     rw [show k+1-k-1=0 from by omega,List.replicate_zero,List.append_nil] at hpush
     have hlen:(zs++[d]).length=k+1:=by rw [List.length_append,HK.out]; rfl
     have hw:=hpush.words (cap:=k+1) (by rw [hlen]; omega) (by rw [hlen]; exact Nat.le_refl _)
     rw [hlen] at hw
     refine ⟨_,_,rfl,hw,?_,hb'.setCell (Nat.le_refl _) _⟩
     have h1:=HV.out
     rw [val_snoc,HK.out,h1,val_take_all _ _ (by rw [hla.out]; exact Nat.le_refl _),val_take_all _ _ (by rw [← hlb.out]; omega)]
theorem more_any {A B:Option Addr} {la ca lb cb:Nat} {xs ys:List Nat} {w:World} (hx:Words w (.slice A la ca) xs) (hy:Words w (.slice B lb cb) ys) (h1:la≤8589934592) (h2:lb≤8589934592) :
  Calls Tryz.prog 370 #[.slice A la ca,.slice B lb cb] w fun e w'=>∃ v zs,e=.returned v∧Words w' v zs∧val zs=val xs+val ys∧Below w.heap.size w w':=by
 rcases Nat.lt_or_ge la lb with h | h
 · refine (more_core B A lb cb la ca ys xs _ _ w hy hx h2 (.inr ⟨rfl,rfl,h⟩)).mono fun e w' ⟨v,zs,r1,r2,r3,r4⟩=>⟨v,zs,r1,r2,by omega,r4⟩
 · exact more_core A B la ca lb cb xs ys _ _ w hx hy h1 (.inl ⟨rfl,rfl,h⟩)
theorem less_any {A B:Option Addr} {la ca lb cb:Nat} {xs ys:List Nat} {w:World} (hx:Words w (.slice A la ca) xs) (hy:Words w (.slice B lb cb) ys) (hsz:la≤8589934592) (hle:val ys≤val xs) (hlen:lb≤la) :
  Calls Tryz.prog 371 #[.slice A la ca,.slice B lb cb] w fun e w'=>∃ v zs,e=.returned v∧Words w' v zs∧val zs=val xs-val ys∧Below w.heap.size w w':=by
 have hla:=Lib.hid hx.len.1
 have hlb:=Lib.hid hy.len.1
 have HA:=Lib.hid hx
 have HB:=Lib.hid hy
 have hwx:=Lib.hid hx.1
 have hwy:=Lib.hid hy.1
 have HL:=Lib.hid hle
 clear hx hy hle
 go_enter Tryz.func371,Tryz.ntmps371
 go_wp2_with (at_make; refine wpList_make_words rfl _ _ rfl _ _ _ _ la la rfl rfl rfl rfl (Nat.le_refl _) (by omega) ?_)
 intro w1 hbuf hb1 hz1
 have HZ:=Lib.hid hz1
 clear hz1
 go_wp2
 go_loopw [6,16] (fun c i wr=>∃ (k d:Nat) (zs:List Nat),k≤la∧d≤1∧c=.int .u64 (d:Int)∧i=.int .i64 (k:Int)∧Hid (zs.length=k)∧Hid (val zs+val (ys.take k)=val (xs.take k)+4294967296^k*d)∧Buf wr w.heap.size (zs++List.replicate (la-k) 0)∧Below w.heap.size w wr) (fun _ i _=>la-(intOf i).toNat)
 case atStart=>exact ⟨0,0,[],by omega,by omega,rfl,rfl,rfl,by simp [Hid,val],by simpa using hbuf,hb1⟩
 case round =>
  obtain ⟨k,d,zs,hk,hd,rfl,rfl,HK,HV,hbuf',hb'⟩:=hrel
  have hlt:=hb'.size
  have hblt:=hbuf'.lt
  clear hbuf hb1 HZ
  by_cases hk1:k<la
  · have hX:=(HA.out.below hb')
    obtain ⟨b,o,rfl,hcx⟩:=hX.open_ (by omega)
    have hcx:=hcx k hk1
    have hxl:=hwx.out.get? k
    have hst:=hbuf'.cell k (by rw [List.length_append,HK.out,List.length_replicate]; omega)
    have hfz:=hbuf'.frozen k
    have HBUF:=Lib.hid hbuf'
    clear hX hbuf'
    by_cases hk2:k<lb
    · have hY:=(HB.out.below hb')
      obtain ⟨b2,o2,rfl,hcy⟩:=hY.open_ (by omega)
      have hcy:=hcy k hk2
      have hyl:=hwy.out.get? k
      obtain ⟨D,z,d',hD,hDz,hDd,hz,hd',he⟩:=sub_word (xs[k]?.getD 0) (d+ys[k]?.getD 0) hxl (by omega)
      have HE:=Lib.hid he
      clear hY he
      rw [Int.natCast_add] at hD
      go_wp2
      go_roundw
      case rel =>
       refine ⟨k+1,d',zs++[z],by omega,hd',rfl,rfl,?_,less_val _ _ _ _ _ _ _ HK.out HV.out (by simpa only [List.getD] using HE.out),?_,hb'.setCell (Nat.le_refl _) _⟩
       · rw [Hid,List.length_append,HK.out]; rfl
       · have:=HBUF.out.push HK.out (by omega) z _ (by omega) rfl
         rw [show la-k-1=la-(k+1) from by omega] at this
         exact this
      case measure=>simp [intOf]; omega
    · have hy0:ys.getD k 0=0:=getD_out (by have:=hlb.out; omega)
      have HY0:=Lib.hid hy0
      obtain ⟨D,z,d',hD,hDz,hDd,hz,hd',he⟩:=sub_word (xs[k]?.getD 0) d hxl (by omega)
      have HE:=Lib.hid he
      clear hy0 he
      go_wp2
      go_roundw
      case rel =>
       refine ⟨k+1,d',zs++[z],by omega,hd',rfl,rfl,?_,less_val _ _ _ _ _ _ _ HK.out HV.out (by rw [HY0.out,Nat.add_zero]; simpa only [List.getD] using HE.out),?_,hb'.setCell (Nat.le_refl _) _⟩
       · rw [Hid,List.length_append,HK.out]; rfl
       · have:=HBUF.out.push HK.out (by omega) z _ (by omega) rfl
         rw [show la-k-1=la-(k+1) from by omega] at this
         exact this
      case measure=>simp [intOf]; omega
  · obtain rfl:k=la:=by omega
    rw [Nat.sub_self,List.replicate_zero,List.append_nil] at hbuf'
    have hw:=hbuf'.words (cap:=k) (by rw [HK.out]; omega) (by rw [HK.out]; exact Nat.le_refl _)
    have hzw:=hbuf'.1
    rw [HK.out] at hw
    have HW:=Lib.hid hw
    clear hw hbuf'
    go_wp2
    go_ret
    refine ⟨_,_,rfl,HW.out,less_end xs ys zs k d hzw HK.out ?_ HL.out hd,hb'⟩
    have h1:=HV.out
    rw [val_take_all ys _ (by rw [← hlb.out]; omega),val_take_all xs _ (by rw [hla.out]; exact Nat.le_refl _)] at h1
    exact h1
end
section
open Go.RowKit
set_option maxHeartbeats 1000000 in
theorem product_any {A B:Option Addr} {la ca lb cb:Nat} {xs ys:List Nat} {w:World} (hx:Words w (.slice A la ca) xs) (hy:Words w (.slice B lb cb) ys) (h1:la≤8589934592) (h2:lb≤8589934592) :
  Calls Tryz.prog 346 #[.slice A la ca,.slice B lb cb] w fun e w'=>∃ v zs,e=.returned v∧Words w' v zs∧val zs=val xs*val ys∧Below w.heap.size w w':=by
 have hla:=Lib.hid hx.len.1
 have hlb:=Lib.hid hy.len.1
 have HA:=Lib.hid hx
 have HB:=Lib.hid hy
 have hwx:=Lib.hid hx.1
 have hwy:=Lib.hid hy.1
 clear hx hy
 go_enter Tryz.func346,Tryz.ntmps346
 go_wp2_with (at_make; refine wpList_make_words rfl _ _ rfl _ _ _ _ (la+lb) (la+lb) rfl rfl (by omega) (by omega) (Nat.le_refl _) (by omega) ?_)
 intro w1 hbuf hb1 hz1
 have HZ:=Lib.hid hz1
 clear hz1
 go_wp2
 go_loopw [19] (fun i wr=>∃ (k:Nat) (os:List Nat),k≤la∧i=.int .i64 (k:Int)∧Hid (os.length=la+lb)∧Hid (val os=val (xs.take k)*val ys)∧Hid (∀ j,k+lb≤j→os.getD j 0=0)∧Buf wr w.heap.size os∧Below w.heap.size w wr) (fun i _=>la-(intOf i).toNat)
 case atStart=>exact ⟨0,List.replicate (la+lb) 0,by omega,rfl,by simp [Hid],by simp [Hid,val,val_zeros],fun j _=>by simp [List.getD,List.getElem?_replicate]; split<;>rfl,hbuf,hb1⟩
 case round =>
  obtain ⟨i,os,hi,rfl,HK,HV,H0,hbuf',hb'⟩:=hrel
  obtain ⟨wo,rfl⟩:∃ wo:World,wo=wr:=⟨_,rfl⟩
  clear hbuf hb1 HZ
  by_cases hk1:i<la
  · have hX:=(HA.out.below hb')
    obtain ⟨b,o,rfl,hcx⟩:=hX.open_ (by omega)
    have hcx:=hcx i hk1
    have hxl:=hwx.out.get? i
    have HBUF:=Lib.hid hbuf'
    clear hX hbuf'
    go_wp2
    go_loopw [8,26] (fun c j wr=>∃ (k d:Nat) (os':List Nat),k≤lb∧d<4294967296∧c=.int .u64 (d:Int)∧j=.int .i64 (k:Int)∧Hid (os'.length=la+lb)∧Hid (val os'+4294967296^(i+k)*d=val os+4294967296^i*(xs.getD i 0*val (ys.take k)))∧Hid (∀ j,i+lb≤j→os'.getD j 0=0)∧Buf wr w.heap.size os'∧Below w.heap.size w wr) (fun _ j _=>lb-(intOf j).toNat)
    case atStart=>exact ⟨0,0,os,by omega,by omega,rfl,rfl,HK,by simp [Hid,val],H0,HBUF.out,hb'⟩
    case round =>
     obtain ⟨k,d,os',hk,hd,rfl,rfl,HK',HV',H0',hbuf2,hb2⟩:=hrel
     have hlt:=hb2.size
     have hblt:=hbuf2.lt
     clear hb' hcx
     by_cases hk2:k<lb
     · have hY:=(HB.out.below hb2)
       obtain ⟨b2,o2,rfl,hcy⟩:=hY.open_ (by omega)
       have hcy:=hcy k hk2
       have hyl:=hwy.out.get? k
       have hst:=hbuf2.cell (i+k) (by rw [HK'.out]; omega)
       have hfz:=hbuf2.frozen (i+k)
       have hol:=hbuf2.1.get? (i+k)
       obtain ⟨m,hm⟩:∃ m,m=xs[i]?.getD 0*ys[k]?.getD 0:=⟨_,rfl⟩
       have hmb:m≤18446744065119617025:=by rw [hm]; exact mul_word _ _ hxl hyl
       have hmi:((xs[i]?.getD 0:Nat):Int)*((ys[k]?.getD 0:Nat):Int)=(m:Int):=by rw [hm]; exact (Int.natCast_mul _ _).symm
       have HM:=Lib.hid hm
       have HBUF2:=Lib.hid hbuf2
       clear hY hbuf2 hm HBUF
       go_wp2
       go_roundw
       case rel =>
        refine ⟨k+1,(d+(m+os'.getD (i+k) 0))/4294967296,os'.set (i+k) ((d+(m+os'.getD (i+k) 0)) % 4294967296),by omega,by simp only [List.getD]; omega,by simp only [List.getD]; go_num,rfl,?_,?_,?_,?_,hb2.setCell (Nat.le_refl _) _⟩
        · rw [Hid,List.length_set]; exact HK'.out
        · exact prod_val os os' ys i k d (xs.getD i 0) _ (by rw [HK'.out]; omega) HV'.out (by rw [HM.out]; rfl)
        · intro j hj
          rw [getD_set,if_neg (by omega)]
          exact H0'.out j hj
        · exact HBUF2.out.set (i+k) _ _ (by omega) (by simp only [List.getD]; go_num)
       case measure=>simp [intOf]; omega
     · obtain rfl:k=lb:=by omega
       have hst:=hbuf2.cell (i+k) (by rw [HK'.out]; omega)
       have hfz:=hbuf2.frozen (i+k)
       have HBUF2:=Lib.hid hbuf2
       clear hbuf2 HBUF
       go_wp2
       go_roundw
       case rel =>
        refine ⟨i+1,os'.set (i+k) d,by omega,rfl,?_,?_,?_,HBUF2.out.set (i+k) d _ hd (by go_num),hb2.setCell (Nat.le_refl _) _⟩
        · rw [Hid,List.length_set]; exact HK'.out
        · have h1:=HV'.out
          rw [val_take_all ys k (by rw [hlb.out]; exact Nat.le_refl _)] at h1
          have hl:=hlb.out
          have h2:=H0'.out (i+k) (Nat.le_refl _)
          rw [hl] at h1 h2 ⊢
          exact prod_end os os' xs ys i d (by rw [HK'.out]; omega) h2 HV.out h1
        · intro j hj
          rw [getD_set]
          split
          · omega
          · exact H0'.out j (by omega)
       case measure=>simp [intOf]; omega
  · obtain rfl:i=la:=by omega
    have hw:=hbuf'.words (cap:=i+lb) (by rw [HK.out]; omega) (by rw [HK.out]; exact Nat.le_refl _)
    rw [HK.out] at hw
    have HW:=Lib.hid hw
    clear hw hbuf'
    go_wp2
    go_ret
    refine ⟨_,_,rfl,HW.out,?_,hb'⟩
    rw [HV.out,val_take_all xs _ (by rw [hla.out]; exact Nat.le_refl _)]
end
section
open Go.RowKit
theorem left_any {A:Option Addr} {la ca:Nat} {xs:List Nat} {w:World} (hx:Words w (.slice A la ca) xs) (h1:la≤8589934592) (n:Nat) (hn:n≤137438953472) :
  Calls Tryz.prog 377 #[.slice A la ca,.int .i64 (n:Int)] w fun e w'=>∃ v,e=.returned v∧Words w' v (dig (val xs*2^n))∧Below w.heap.size w w':=by
 have hla:=Lib.hid hx.len.1
 have HA:=Lib.hid hx
 have hwx:=Lib.hid hx.1
 clear hx
 obtain ⟨s,hs⟩:∃ s,s=n % 32:=⟨_,rfl⟩
 have hs32:s<32:=by omega
 have hsi:(n:Int) % 32=(s:Int):=by omega
 have HS:=Lib.hid hs
 clear hs
 go_enter Tryz.func377,Tryz.ntmps377
 go_wp2_with (at_make; refine wpList_make_words rfl _ _ rfl _ _ _ _ (n/32) (n/32+la+1) rfl rfl (by omega) (by omega) (by omega) (by omega) ?_)
 intro w1 hbuf hb1 hz1
 have HROW:=Lib.hid (Row.of_buf (n:=n/32) hbuf (Nat.le_refl _) (by omega) (by omega))
 have HZ:=Lib.hid hz1
 clear hz1 hbuf
 go_wp2
 go_loopw [5,6,20] (fun v c i wr=>∃ (k d:Nat) (ys:List Nat),k≤la∧Hid (d<2^s)∧c=.int .u64 (d:Int)∧i=.int .i64 (k:Int)∧Hid (ys.length=k)∧Hid (val ys+4294967296^k*d=val (xs.take k)*2^s)∧Hid (Row wr w.heap.size v (List.replicate (n/32) 0++ys))∧Below w.heap.size w wr) (fun _ _ i _=>la-(intOf i).toNat)
 case atStart=>exact ⟨0,0,[],by omega,Nat.two_pow_pos _,rfl,rfl,rfl,by simp [Hid,val],by simpa [Hid] using HROW.out,hb1⟩
 case round =>
  obtain ⟨k,d,ys,hk,HD,rfl,rfl,HK,HV,hrow',hb'⟩:=hrel
  have hlt:=hb'.size
  clear HROW hb1 HZ
  by_cases hk1:k<la
  · have hX:=(HA.out.below hb')
    obtain ⟨b,o,rfl,hcx⟩:=hX.open_ (by omega)
    have hcx:=hcx k hk1
    have hxl:=hwx.out.get? k
    obtain ⟨m,hm⟩:∃ m,m=xs[k]?.getD 0*2^s:=⟨_,rfl⟩
    have hmi:((xs[k]?.getD 0:Nat):Int)*2^s=(m:Int):=by rw [hm,Int.natCast_mul,Int.natCast_pow]; rfl
    have hmb:=mul_two_pow_lt (xs[k]?.getD 0) s hxl (by omega)
    rw [← hm] at hmb
    have hsp:2^s≤2^32:=Nat.pow_le_pow_right (by omega) (by omega)
    have hp:=Nat.two_pow_pos s
    have hd1:=HD.out
    have hm1:m≤18446744073709551615:=by omega
    have hd2:d≤4294967296:=by omega
    have hor:bits BinOp.or IntKind.u64 (d:Int) (m:Int)=((d+m:Nat):Int):=by rw [bits_or_u64_nat d m (by omega) (by omega),hm,or_add _ _ _ hd1]
    rw [Int.natCast_add] at hor
    have hsum:d+m≤18446744073709551615:=by omega
    have HM:=Lib.hid hm
    clear hX hm hmb hsp hp hd1
    go_wp2_with (at_builtin; refine wpList_append_word rfl (.tmp 31) (.tmp 34) rfl w.heap.size _ (List.replicate (n/32) 0++ys) rfl (hrow'.out.alloc _) ⟨wr.heap.size,0,none⟩ 1 ((d+m) % 4294967296) _ rfl (cell_new0 _ _ _) ?_ (by omega) ?_ ?_ ?_)
    · omega
    · simp only [List.length_append,List.length_replicate,HK.out]; omega
    · simp; omega
    · intro v' w' hrow2 hb2
      have HR2:=Lib.hid hrow2
      have hb3:Below w.heap.size w w':=(hb'.alloc (by omega) _).trans hb2
      clear hrow2 hb2 hb'
      go_wp2
      go_roundw
      case rel =>
       refine ⟨k+1,(d+m)/4294967296,ys++[(d+m) % 4294967296],by omega,?_,by go_num,rfl,?_,?_,HR2.out,hb3⟩
       · rw [Hid,HM.out]; exact left_carry _ s d hxl (by omega) HD.out
       · rw [Hid,List.length_append,HK.out]; rfl
       · exact left_val xs ys k d s _ HK.out HV.out (by rw [HM.out]; rfl)
      case measure=>simp [intOf]; omega
  · obtain rfl:k=la:=by omega
    have hsp:2^s≤2^32:=Nat.pow_le_pow_right (by omega) (by omega)
    have hd1:d<4294967296:=by have:=HD.out; omega
    clear hsp
    go_wp2_with (at_builtin; refine wpList_append_word rfl (.tmp 39) (.tmp 42) rfl w.heap.size _ (List.replicate (n/32) 0++ys) rfl (hrow'.out.alloc _) ⟨wr.heap.size,0,none⟩ 1 d _ rfl (cell_new0 _ _ _) ?_ hd1 ?_ ?_ ?_)
    · omega
    · simp only [List.length_append,List.length_replicate,HK.out]; omega
    · simp; omega
    · intro v' w' hrow2 hb2
      have hb3:Below w.heap.size w w':=(hb'.alloc (by omega) _).trans hb2
      have hw:=hrow2.words (by simp only [List.length_append,List.length_replicate,HK.out,List.length_cons,List.length_nil]; omega)
      have HW:=Lib.hid hw
      obtain ⟨A',L',cap',rfl⟩:=hw.form
      clear hrow2 hb2 hb' hw
      go_wp2_with (go_at_call 376; refine (cut_any HW.out).mono ?_; rintro e w2 ⟨rfl,rfl⟩)
      go_ret
      refine ⟨_,rfl,?_,hb3⟩
      have h2:=HW.out.trim_
      have h3:trim (List.replicate (n/32) 0++(ys++[d]))=dig (val xs*2^n):=by
       refine dig_of _ _ HW.out.1 (left_end xs ys n d ?_)
       have:=HV.out
       rw [val_take_all xs _ (by rw [hla.out]; exact Nat.le_refl _),HS.out] at this
       rw [HK.out]; exact this
      rw [← h3]
      exact h2
theorem or_two (a x:Nat) (ha:a<4294967296) (hx:x<4294967296):bits BinOp.or IntKind.u64 ((a:Int)*4294967296) (x:Int)=((a*4294967296+x:Nat):Int):=by
 have:=bits_or_u64_nat (a*4294967296) x (by omega) (by omega)
 rw [or_word a x hx] at this
 rw [← this]; rfl
theorem or_two' (a x:Nat) (ha:a<4294967296) (hx:x<4294967296):bits BinOp.or IntKind.u64 (x:Int) ((a:Int)*4294967296)=((a*4294967296+x:Nat):Int):=by
 have:=bits_or_u64_nat x (a*4294967296) (by omega) (by omega)
 rw [Nat.or_comm,or_word a x hx] at this
 rw [← this]; rfl
theorem short_any {A:Option Addr} {la ca:Nat} {xs:List Nat} {w:World} (hx:Words w (.slice A la ca) xs) (h1:la≤17179869184) (d:Nat) (hd0:0<d) (hd:d<4294967296) :
  Calls Tryz.prog 368 #[.slice A la ca,.int .u32 (d:Int)] w fun e w'=>∃ v,e=.returned (.tuple #[v,.int .u32 ((val xs % d:Nat):Int)])∧Words w' v (dig (val xs/d))∧Below w.heap.size w w':=by
 have hla:=Lib.hid hx.len.1
 have HA:=Lib.hid hx
 have hwx:=Lib.hid hx.1
 clear hx
 have hd1:(1:Int)≤(d:Int):=by omega
 go_enter Tryz.func368,Tryz.ntmps368
 go_wp2_with (at_make; refine wpList_make_words rfl _ _ rfl _ _ _ _ la la rfl rfl rfl rfl (by omega) (by omega) ?_)
 intro w1 hbuf hb1 hz1
 have HZ:=Lib.hid hz1
 clear hz1
 go_wp2
 go_loopw [7,8] (fun c i wr=>∃ (k r:Nat) (qs:List Nat),k≤la∧r<d∧c=.int .u64 (r:Int)∧i=.int .i64 ((k:Int)-1)∧Hid (qs.length=la-k)∧Hid (val qs*d+r=val (xs.drop k))∧Buf wr w.heap.size (List.replicate k 0++qs)∧Below w.heap.size w wr) (fun _ i _=>(intOf i+1).toNat)
 case atStart=>exact ⟨la,0,[],by omega,hd0,rfl,rfl,by simp [Hid],by rw [Hid,List.drop_of_length_le (by rw [hla.out]; exact Nat.le_refl _)]; simp [val],by simpa using hbuf,hb1⟩
 case round =>
  obtain ⟨k,r,qs,hk,hr,rfl,rfl,HK,HV,hbuf',hb'⟩:=hrel
  have hlt:=hb'.size
  have hblt:=hbuf'.lt
  clear hbuf hb1 HZ
  by_cases hk0:0<k
  · obtain ⟨k,rfl⟩:∃ j,k=j+1:=⟨k-1,by omega⟩
    have e1:((k+1:Nat):Int)-1=(k:Int):=by omega
    rw [e1]
    clear e1
    have hX:=(HA.out.below hb')
    obtain ⟨b,o,rfl,hcx⟩:=hX.open_ (by omega)
    have hcx:=hcx k (by omega)
    have hxl:=hwx.out.get? k
    have hst:=hbuf'.cell k (by rw [List.length_append,HK.out,List.length_replicate]; omega)
    have hfz:=hbuf'.frozen k
    have HBUF:=Lib.hid hbuf'
    have hor:=or_two r (xs[k]?.getD 0) (by omega) hxl
    obtain ⟨t,ht⟩:∃ t,t=r*4294967296+xs[k]?.getD 0:=⟨_,rfl⟩
    rw [← ht] at hor
    have htb:t≤18446744073709551615:=by omega
    obtain ⟨q,hqd⟩:∃ q,q=t/d:=⟨_,rfl⟩
    obtain ⟨r',hrd⟩:∃ r',r'=t % d:=⟨_,rfl⟩
    have hq:((t:Int)/(d:Int))=(q:Int):=by rw [hqd]; rfl
    have hq2:((t:Int) % (d:Int))=(r':Int):=by rw [hrd]; rfl
    have hqb:q≤4294967295:=by have:=short_word r d (xs[k]?.getD 0) hr hxl; rw [← ht,← hqd] at this; omega
    have hrb:r'<d:=by rw [hrd]; exact Nat.mod_lt _ hd0
    have HQ:=Lib.hid hqd
    have HR:=Lib.hid hrd
    have HT:=Lib.hid ht
    have hk1:(0:Int)≤(k:Int):=by omega
    clear hX hbuf' ht hqd hrd
    go_wp2
    go_roundw
    case rel =>
     refine ⟨k,r',q::qs,by omega,hrb,by rw [hq2],rfl,?_,by rw [HQ.out,HR.out]; exact short_val xs qs k r d t (by have:=hla.out; omega) HV.out (by rw [HT.out]; rfl),?_,hb'.setCell (Nat.le_refl _) _⟩
     · rw [Hid,List.length_cons,HK.out]; omega
     · have:=HBUF.out.set k q _ (by omega) rfl
       rw [set_zero_append] at this
       exact this
    case measure=>simp [intOf]
  · obtain rfl:k=0:=by omega
    rw [List.replicate_zero,List.nil_append] at hbuf'
    have hw:=hbuf'.words (cap:=la) (by rw [HK.out]; omega) (by rw [HK.out]; omega)
    rw [HK.out,Nat.sub_zero] at hw
    have HW:=Lib.hid hw
    have hend:=Lib.hid (short_end xs qs r d hr (by have:=HV.out; rwa [List.drop_zero] at this))
    clear hbuf' hw
    go_wp2_with (go_at_call 376; refine (cut_any HW.out).mono ?_; rintro e w2 ⟨rfl,rfl⟩)
    go_ret2
    refine ⟨.slice (some ⟨w.heap.size,0,none⟩) (trim qs).length la,?_,?_,hb'⟩
    · rw [← hend.out.2]; rfl
    · rw [← dig_of qs _ HW.out.1 hend.out.1]
      exact HW.out.trim_
theorem right_any {A:Option Addr} {la ca:Nat} {xs:List Nat} {w:World} (hx:Words w (.slice A la ca) xs) (h1:la≤17179869184) (n:Nat) (hn:n≤1099511627776) :
  Calls Tryz.prog 378 #[.slice A la ca,.int .i64 (n:Int)] w fun e w'=>∃ v,e=.returned v∧Words w' v (dig (val xs/2^n))∧Below w.heap.size w w':=by
 have hla:=Lib.hid hx.len.1
 have hlc:=hx.len.2
 by_cases h0:la≤n/32
 · have HE:=Lib.hid (shr_none xs n hx.1 (by rw [← hla.out]; exact h0))
   have h0':(la:Int)≤(n:Int)/32:=by omega
   clear hx
   go_enter Tryz.func378,Tryz.ntmps378
   go_wp2
   go_ret
   refine ⟨_,rfl,?_,Below.refl _ _⟩
   rw [HE.out,dig_zero]
   exact Words.nil w
 · have h0':(n:Int)/32<(la:Int):=by omega
   obtain ⟨s,hs⟩:∃ s,s=n % 32:=⟨_,rfl⟩
   have hs32:s<32:=by omega
   have hsi:(n:Int) % 32=(s:Int):=by omega
   obtain ⟨q,hq⟩:∃ q,q=n/32:=⟨_,rfl⟩
   have hqi:(n:Int)/32=(q:Int):=by omega
   have hqla:q<la:=by omega
   have HE:=shr_words xs n hx.1 (by rw [← hla.out]; omega)
   rw [← hs,← hq] at HE
   have hd:=Words.drop (xs:=xs) (by have:=hx; rw [hla.out] at this; exact this) q (by rw [← hla.out]; omega)
   rw [← hla.out] at hd
   obtain ⟨b,o,rfl,_⟩:=hx.open_ (by omega)
   have hadd:(Option.map (fun x:Addr=>x.add q) (some ⟨b,o,none⟩):Option Addr)=some ⟨b,o+q,none⟩:=by
    simp only [Option.map_some,Addr.add]
    split
    · rename_i h; subst h; rfl
    · rfl
   rw [hadd] at hd
   have HD:=Lib.hid hd
   have hwy:=Lib.hid hd.1
   have hly:=Lib.hid hd.len.1
   have HE2:=Lib.hid HE
   obtain ⟨ys,hys⟩:∃ ys,ys=xs.drop q:=⟨_,rfl⟩
   rw [← hys] at HD hwy hly HE2
   clear hx hadd hd HE hs hq hys h0 h0'
   go_enter Tryz.func378,Tryz.ntmps378
   go_wp2_with (at_make; refine wpList_make_words rfl _ _ rfl _ _ _ _ (la-q) (la-q) rfl rfl (by omega) (by omega) (by omega) (by omega) ?_)
   intro w1 hbuf hb1 hz1
   have HZ:=Lib.hid hz1
   clear hz1
   go_wp2
   go_loopw [23] (fun i wr=>∃ (k:Nat),k≤la-q∧i=.int .i64 (k:Int)∧Buf wr w.heap.size ((shrL s ys).take k++List.replicate (la-q-k) 0)∧Below w.heap.size w wr) (fun i _=>la-q-(intOf i).toNat)
   case atStart=>exact ⟨0,by omega,rfl,by simpa using hbuf,hb1⟩
   case round =>
    obtain ⟨k,hk,rfl,hbuf',hb'⟩:=hrel
    have hlt:=hb'.size
    have hblt:=hbuf'.lt
    clear hbuf hb1 HZ
    have hkl:((shrL s ys).take k).length=k:=by rw [List.length_take,shrL_length,← hly.out]; omega
    by_cases hk1:k<la-q
    · have hki:(k:Int)<((la-q:Nat):Int):=by omega
      have hX:=(HD.out.below hb')
      obtain ⟨b',o',he',hcx⟩:=hX.open_ (by omega)
      injection he' with he'
      injection he' with e1 e2 _
      subst e1 e2
      have hcx1:=hcx k (by omega)
      have hxl:=hwy.out.get? k
      have hst:=hbuf'.cell k (by rw [List.length_append,hkl,List.length_replicate]; omega)
      have hfz:=hbuf'.frozen k
      have HBUF:=Lib.hid hbuf'
      have HKL:=Lib.hid hkl
      clear hX hbuf' hkl
      by_cases hk2:k+1<la-q
      · have hki2:(k:Int)+1<((la-q:Nat):Int):=by omega
        have hcx2:=hcx (k+1) hk2
        have hxl2:=hwy.out.get? (k+1)
        have hor:=or_two' (ys[k+1]?.getD 0) (ys[k]?.getD 0) hxl2 hxl
        obtain ⟨t,ht⟩:∃ t,t=ys[k+1]?.getD 0*4294967296+ys[k]?.getD 0:=⟨_,rfl⟩
        rw [← ht] at hor
        have htb:t≤18446744073709551615:=by omega
        obtain ⟨u,hu⟩:∃ u,u=t/2^s:=⟨_,rfl⟩
        have hui:(t:Int)/2^s=(u:Int):=by rw [hu,Int.natCast_ediv,Int.natCast_pow]; rfl
        have HU:=Lib.hid hu
        have HT:=Lib.hid ht
        clear hcx hu ht
        go_wp2
        go_roundw
        case rel =>
         refine ⟨k+1,by omega,rfl,?_,hb'.setCell (Nat.le_refl _) _⟩
         have h:=HBUF.out.push HKL.out (by omega) (u % 4294967296) ((u:Int) % 4294967296) (by omega) (by omega)
         rw [shrL_take s ys k (by rw [← hly.out]; exact hk1)]
         have e:(ys.getD k 0+4294967296*ys.getD (k+1) 0)/2^s=u:=by rw [HU.out,HT.out,Nat.add_comm,Nat.mul_comm]; rfl
         rw [e,show la-q-(k+1)=la-q-k-1 from by omega]
         exact h
        case measure=>simp [intOf]; omega
      · have hki2:¬ (k:Int)+1<((la-q:Nat):Int):=by omega
        have hy0:ys.getD (k+1) 0=0:=getD_out (by rw [← hly.out]; omega)
        have HY0:=Lib.hid hy0
        obtain ⟨u,hu⟩:∃ u,u=ys[k]?.getD 0/2^s:=⟨_,rfl⟩
        have hui:((ys[k]?.getD 0:Nat):Int)/2^s=(u:Int):=by rw [hu,Int.natCast_ediv,Int.natCast_pow]; rfl
        have HU:=Lib.hid hu
        clear hcx hu hy0
        go_wp2
        go_roundw
        case rel =>
         refine ⟨k+1,by omega,rfl,?_,hb'.setCell (Nat.le_refl _) _⟩
         have h:=HBUF.out.push HKL.out (by omega) (u % 4294967296) ((u:Int) % 4294967296) (by omega) (by omega)
         rw [shrL_take s ys k (by rw [← hly.out]; exact hk1)]
         have e:(ys.getD k 0+4294967296*ys.getD (k+1) 0)/2^s=u:=by rw [HU.out,HY0.out]; rfl
         rw [e,show la-q-(k+1)=la-q-k-1 from by omega]
         exact h
        case measure=>simp [intOf]; omega
    · obtain rfl:k=la-q:=by omega
      rw [Nat.sub_self,List.replicate_zero,List.append_nil,List.take_of_length_le (by rw [shrL_length,← hly.out]; exact Nat.le_refl _)] at hbuf'
      have hw:=hbuf'.words (cap:=la-q) (by rw [shrL_length,← hly.out]; omega) (by rw [shrL_length,← hly.out]; exact Nat.le_refl _)
      rw [shrL_length,← hly.out] at hw
      have HW:=Lib.hid hw
      clear hbuf' hw hkl
      go_wp2_with (go_at_call 376; refine (cut_any HW.out).mono ?_; rintro e w2 ⟨rfl,rfl⟩)
      go_ret
      refine ⟨_,rfl,?_,hb'⟩
      rw [← HE2.out,← val_shrL s ys hwy.out hs32,← dig_of _ _ (Wf_shrL s ys) rfl]
      exact HW.out.trim_
end
end Go.Proofs.YtmfedaakeeiolaaGreat
end
