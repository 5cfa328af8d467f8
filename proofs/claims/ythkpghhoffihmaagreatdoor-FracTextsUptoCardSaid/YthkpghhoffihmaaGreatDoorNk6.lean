/- StN, SeS, Sz, Gqa. -/
import Derived.Lib.SplitLaws
import Derived.Laws.OwnMore
import Derived.Test.YthkpghhoffihmaaGreatDoorNk5
set_option linter.unnecessarySimpa false
set_option linter.unusedVariables false
set_option linter.unusedSimpArgs false
section
namespace Go.Proofs.YthkpghhoffihmaaGreatDoor
open Go
def bsN (s:ByteArray):List Nat:=(leS s).reverse
theorem strN_bs (s:ByteArray):strN (bsN s)=s:=strN_leS s
theorem B8_bs (s:ByteArray):B8 (bsN s):=(B8_leS s).reverse
theorem bs_strN {xs:List Nat} (h:B8 xs):bsN (strN xs)=xs:=by rw [bsN,leS_strN xs h,List.reverse_reverse]
theorem strN_inj {xs ys:List Nat} (hx:B8 xs) (hy:B8 ys) (h:strN xs=strN ys):xs=ys:=by rw [← bs_strN hx,h,bs_strN hy]
theorem strN_data (xs:List Nat):(strN xs).data.toList=xs.map UInt8.ofNat:=by simp [strN]
theorem strN_eqL {s:ByteArray} {xs:List Nat} (h:s.data.toList=xs.map UInt8.ofNat):s=strN xs:=by
 apply ByteArray.ext
 rw [← Array.toList_inj,h,strN_data]
theorem strN_app (xs ys:List Nat):strN xs++strN ys=strN (xs++ys):=by
 refine strN_eqL ?_
 rw [ByteArray.data_append,Array.toList_append,strN_data,strN_data,List.map_append]
theorem strN_ext (xs:List Nat) (a b:Nat):(strN xs).extract a b=strN ((xs.drop a).take (b-a)):=by
 refine strN_eqL ?_
 rw [Lib.extract_data,strN_data,List.map_take,List.map_drop]
theorem strN_at {xs:List Nat} (h8:B8 xs) {i:Nat} (h:i<(strN xs).size):((strN xs)[i]'h).toNat=xs.getD i 0:=by
 have h1:=Lib.data_getElem? (strN xs) i h
 have hl:i<xs.length:=by rwa [strN_size] at h
 rw [strN_data,List.getElem?_map,List.getElem?_eq_getElem hl] at h1
 have h2:UInt8.ofNat xs[i]=(strN xs)[i]'h:=by simpa using h1
 rw [← h2,getD_in hl]
 have:=h8 _ (List.getElem_mem hl)
 simp [UInt8.toNat_ofNat']
 omega
theorem B8.drop {xs:List Nat} (h:B8 xs) (k:Nat):B8 (xs.drop k):=fun y hy=>h y (List.mem_of_mem_drop hy)
theorem B8.app {xs ys:List Nat} (h:B8 xs) (k:B8 ys):B8 (xs++ys):=fun x hx=>(List.mem_append.1 hx).elim (h x) (k x)
def rdF (xs:List Nat):Nat:=if xs.head?=some 45 then 1 else 0
def rdBad (xs:List Nat) (j:Nat):Prop:=¬ Dg (xs.getD j 0)∨(xs.getD j 0=48∧j=rdF xs∧1<xs.length)
theorem rd_ref (xs:List Nat):Rd xs↔xs.drop (rdF xs)≠[]∧(∀ j,j<(xs.drop (rdF xs)).length→Dg ((xs.drop (rdF xs)).getD j 0))∧¬ ((xs.drop (rdF xs)).getD 0 0=48∧(xs.head?=some 45∨1<(xs.drop (rdF xs)).length)):=by
 by_cases h:xs.head?=some 45
 · obtain ⟨ys,rfl⟩:∃ ys,xs=45::ys:=by
    cases xs with
    | nil=>cases h
    | cons x r=>exact ⟨r,by rw [show x=45 by simpa using h]⟩
   have e:rdF (45::ys)=1:=rfl
   rw [e,rd_neg,dgt_iff,show (45::ys).drop 1=ys from rfl]
   have h2:ys≠[]→(ys.head?=some 48↔ys.getD 0 0=48):=by
    cases ys with
    | nil=>intro k; exact absurd rfl k
    | cons y r=>intro _; simp
   constructor
   · rintro ⟨⟨a,b,c⟩,d⟩
     exact ⟨a,b,fun k=>d ((h2 a).2 k.1)⟩
   · rintro ⟨a,b,c⟩
     exact ⟨⟨a,b,fun k=>c ⟨k.1,.inl h⟩⟩,fun k=>c ⟨(h2 a).1 k,.inl h⟩⟩
 · have e:rdF xs=0:=if_neg h
   rw [e,rd_nat h,dgt_iff,List.drop_zero]
   refine and_congr_right fun _=>and_congr_right fun _=>not_congr (and_congr_right fun _=>?_)
   exact ⟨.inr,fun k=>k.resolve_left h⟩
theorem getD_drop (xs:List Nat) (k j:Nat):(xs.drop k).getD j 0=xs.getD (k+j) 0:=by
 rw [List.getD_eq_getElem?_getD,List.getD_eq_getElem?_getD,List.getElem?_drop]
theorem rd_loop (xs:List Nat):Rd xs↔rdF xs<xs.length∧∀ j,rdF xs≤j→j<xs.length→¬ rdBad xs j:=by
 rw [rd_ref]
 have hl:(xs.drop (rdF xs)).length=xs.length-rdF xs:=List.length_drop ..
 have hne:xs.drop (rdF xs)≠[]↔rdF xs<xs.length:=by
  rw [← List.length_pos_iff,hl]
  omega
 rw [hne,hl]
 have hsz:xs.head?=some 45↔rdF xs=1:=by
  unfold rdF
  split
  · simp [*]
  · simp [*]
 have hf:rdF xs≤1:=by
  unfold rdF
  split<;>omega
 rw [hsz,getD_drop]
 constructor
 · rintro ⟨a,b,c⟩
   refine ⟨a,fun j h1 h2 h3=>?_⟩
   rcases h3 with h3 | ⟨h3,h4,h5⟩
   · have:=b (j-rdF xs) (by omega)
     rw [getD_drop,show rdF xs+(j-rdF xs)=j by omega] at this
     exact h3 this
   · refine c ⟨by rw [Nat.add_zero,← h4]; exact h3,?_⟩
     omega
 · rintro ⟨a,b⟩
   refine ⟨a,fun j hj=>?_,fun h=>?_⟩
   · rw [getD_drop]
     have:=b (rdF xs+j) (by omega) (by omega)
     exact Classical.byContradiction fun k=>this (.inl k)
   · refine b (rdF xs) (Nat.le_refl _) a (.inr ⟨by have:=h.1; rwa [Nat.add_zero] at this,rfl,?_⟩)
     have:=h.2
     omega
theorem rdN_ref (xs:List Nat):rdN xs=if xs.head?=some 45 then -(dval (xs.drop (rdF xs)):Int) else dval (xs.drop (rdF xs)):=by
 unfold rdN rdF
 split
 · rw [List.drop_one]
 · rfl
def dgS (xs:List Nat):List Nat:=if xs.head?=some 45∨xs.head?=some 43 then xs.drop 1 else xs
def SOk (xs:List Nat):Prop:=dgS xs≠[]∧∀ x∈dgS xs,Dg x
theorem mem_getD {xs:List Nat} (h:∀ j,j<xs.length→Dg (xs.getD j 0)):∀ x∈xs,Dg x:=fun x hx=>by
 obtain ⟨j,hj,e⟩:=List.getElem_of_mem hx
 have:=h j hj
 rwa [getD_in hj,e] at this
theorem rd_dgS {xs:List Nat} (h:Rd xs):dgS xs=xs.drop (rdF xs)∧SOk xs:=by
 obtain ⟨h1,h2,_⟩:=(rd_ref xs).1 h
 have e:dgS xs=xs.drop (rdF xs):=by
  unfold dgS rdF
  by_cases k:xs.head?=some 45
  · rw [if_pos (.inl k),if_pos k]
  · rw [if_neg k,List.drop_zero]
    refine if_neg fun k2=>?_
    have k3:=k2.resolve_left k
    have e0:rdF xs=0:=if_neg k
    rw [e0,List.drop_zero] at h1 h2
    cases xs with
    | nil=>exact h1 rfl
    | cons x r =>
     have:=h2 0 (by simp)
     have e:x=43:=by simpa using k3
     have e2:(x::r).getD 0 0=x:=rfl
     rw [e2,e] at this
     have:=this.1
     omega
 refine ⟨e,?_⟩
 unfold SOk
 rw [e]
 exact ⟨h1,mem_getD h2⟩
end Go.Proofs.YthkpghhoffihmaaGreatDoor
end
section
namespace Go.Proofs.YthkpghhoffihmaaGreatDoor
open Go Go.RowKit
theorem Row.cellAt {w:World} {base g n cap:Nat} {zs:List Nat} (h:Row w base (.slice (some ⟨g,0,none⟩) n cap) zs) (hn:n=zs.length) (j:Nat) (hj:j<zs.length):w.cell? ⟨g,j,none⟩=some (.int .u32 (zs.getD j 0:Nat)):=by
 subst hn
 rw [h.2.cellAt j (by omega),List.getElem?_map,List.getElem?_eq_getElem hj,getD_in hj]
 rfl
theorem Row.frozenAt {w:World} {base g n cap:Nat} {zs:List Nat} (h:Row w base (.slice (some ⟨g,0,none⟩) n cap) zs) (hn:n=zs.length) (j:Nat):w.frozen? ⟨g,j,none⟩=false:=by
 subst hn
 exact h.2.frozenAt j
theorem Row.shape {w:World} {base:Nat} {v:Value} {zs:List Nat} (h:Row w base v zs):(zs=[]∧v=.slice none 0 0)∨∃ g cap,v=.slice (some ⟨g,0,none⟩) zs.length cap∧base≤g∧g<w.heap.size:=by
 obtain ⟨hw,hlen,h2⟩:=h
 rcases h2 with ⟨e,h0⟩ | ⟨g,cap,cur,e,hg,hh,_⟩
 · exact .inl ⟨List.eq_nil_of_length_eq_zero h0,e⟩
 · exact .inr ⟨g,cap,e,hg,heap_some_lt hh⟩
theorem Row.below {w w':World} {base:Nat} {v:Value} {zs:List Nat} (h:Row w base v zs) (k:Below w.heap.size w w'):Row w' base v zs:=by
 refine ⟨h.1,h.2.1,?_⟩
 rcases h.2.2 with h2 | ⟨g,cap,cur,e,hg,hh,h3⟩
 · exact .inl h2
 · exact .inr ⟨g,cap,cur,e,hg,by rw [k.block g (heap_some_lt hh)]; exact hh,h3⟩
theorem ss_step {ps:List Nat} {k x:Nat} (hk:k<ps.length) (hx:ps.getD k 0=x):dval (ps.take (k+1))=10*dval (ps.take k)+(x-48):=by rw [dval_take ps k hk,hx]
theorem ss_lt {ps:List Nat} (k:Nat) (h:∀ x∈ps.take k,Dg x) (hk:k≤9):dval (ps.take k)<1000000000:=by
 refine Nat.lt_of_lt_of_le (dval_lt _ h) (Nat.le_trans (Nat.pow_le_pow_right (by decide) (Nat.le_trans (List.length_take_le ..) hk)) (by decide))
theorem ss_take {ds:List Nat} (j n:Nat):ds.take (j+n)=ds.take j++(ds.drop j).take n:=List.take_add ..
theorem ss_group {ls ys ds:List Nat} {j n:Nat} {c:Nat} (hj:j+n≤ds.length) (hv:val ls=dval (ds.take j)) (hl:ys.length=ls.length) (he:val ys+4294967296^ys.length*c=val (ls.take ls.length)*10^n+dval ((ds.drop j).take n)) :
  val (ys++if 0<c then [c] else [])=dval (ds.take (j+n)):=by
 rw [mulw_end ls ys _ c _ hl he,hv,ss_take,dval_append,List.length_take,List.length_drop,Nat.min_eq_left (by omega)]
theorem ss_row {ys ls:List Nat} {k z:Nat} (hy:ys.length=k) (hk:k<ls.length):(ys++ls.drop k).set k z=(ys++[z])++ls.drop (k+1):=by
 rw [List.set_append_right _ _ (by omega),hy,Nat.sub_self,List.drop_eq_getElem_cons hk,List.set_cons_zero,List.append_assoc]
 rfl
theorem ss_get {ys ls:List Nat} {k:Nat} (hy:ys.length=k):(ys++ls.drop k).getD k 0=ls.getD k 0:=by
 have:=getD_app ys (ls.drop k) 0
 rw [Nat.add_zero,hy] at this
 rw [this,getD_drop,Nat.add_zero]
set_option maxRecDepth 100000 in
set_option maxHeartbeats 3200000 in
theorem SetString_any {w:World} {b o:Nat} {xs:List Nat} (hz:Slot w b o 2) (h8:B8 xs) (hl:xs.length≤1000000) :
  Calls Tryz.prog 241 #[.pointer (some ⟨b,o,none⟩),.string (strN xs),.int .i64 10] w fun e w' =>
   (SOk xs∧e=.returned (.tuple #[.pointer (some ⟨b,o,none⟩),.bool true])∧IntAt w' b o (sg (decide (xs.head?=some 45)) (dval (dgS xs)))∧Touch w w' b o 2)∨(¬ SOk xs∧e=.returned (.tuple #[.pointer none,.bool false])∧Below w.heap.size w w'):=by
 have hcv:=fun (w:World) (s:ByteArray)=>run_bytes_of_string (P:=Tryz.prog) w 9 57 5 s Tryz.underlying9 Tryz.underlying57 Tryz.underlying5
 have hcase:xs=[]∨(∃ ds,xs=45::ds)∨(∃ ds,xs=43::ds)∨(∃ x r,xs=x::r∧x≠45∧x≠43):=by
  cases xs with
  | nil=>exact .inl rfl
  | cons x r =>
   by_cases h1:x=45
   · exact .inr (.inl ⟨r,by rw [h1]⟩)
   by_cases h2:x=43
   · exact .inr (.inr (.inl ⟨r,by rw [h2]⟩))
   exact .inr (.inr (.inr ⟨x,r,rfl,h1,h2⟩))
 have HZ:=Lib.hid hz
 clear hz
 rcases hcase with rfl | hcase
 · have hs:strN []=⟨#[]⟩:=rfl
   rw [hs]
   go_enter Tryz.func241,Tryz.ntmps241
   go_wp2
   go_ret2
   exact .inr ⟨fun h=>h.1 rfl,rfl,Below.refl _ _⟩
 obtain ⟨S,hS⟩:∃ S,S=strN xs:=⟨_,rfl⟩
 have hne:¬ S.toList=[]:=by
  rw [Lib.toList_data,hS,strN_data]
  intro h
  rcases hcase with ⟨ds,rfl⟩ | ⟨ds,rfl⟩ | ⟨x,r,rfl,_⟩<;>cases h
 have hne2:S.toList.isEmpty=false:=by
  cases hq:S.toList with
  | nil=>exact absurd hq hne
  | cons x r=>rfl
 have h0:0<xs.length:=by rcases hcase with ⟨ds,rfl⟩ | ⟨ds,rfl⟩ | ⟨x,r,rfl,_⟩<;>simp
 have hsz:(S.size:Int)=(xs.length:Int):=by rw [hS,strN_size]
 have hidx:0<S.size:=by omega
 have hch:(S[0]'hidx).toNat=xs.getD 0 0:=by
  subst hS
  exact strN_at h8 hidx
 have hex:S.extract 1 S.size=strN (xs.drop 1):=by
  rw [hS,strN_ext,strN_size,List.take_of_length_le (by rw [List.length_drop]; exact Nat.le_refl _)]
 rw [← hS]
 obtain ⟨M,hM⟩:∃ M,M=xs.length:=⟨_,rfl⟩
 rw [← hM] at hsz h0 hl
 have main:∃ (ds:List Nat) (ng:Bool),dgS xs=ds∧decide (xs.head?=some 45)=ng∧B8 ds∧ds.length≤1000000∧((∃ c,xs.getD 0 0=c∧(c=45∧ng=true∨c=43∧ng=false)∧strN (xs.drop 1)=strN ds)∨(∃ c,xs.getD 0 0=c∧((c:Int)==45)=false∧((c:Int)==43)=false∧ng=false∧S=strN ds)):=by
  rcases hcase with ⟨ds,rfl⟩ | ⟨ds,rfl⟩ | ⟨x,r,rfl,h1,h2⟩
  · exact ⟨ds,true,rfl,rfl,h8.tail,by rw [List.length_cons] at hM; omega,.inl ⟨45,rfl,.inl ⟨rfl,rfl⟩,rfl⟩⟩
  · exact ⟨ds,false,rfl,rfl,h8.tail,by rw [List.length_cons] at hM; omega,.inl ⟨43,rfl,.inr ⟨rfl,rfl⟩,rfl⟩⟩
  · refine ⟨x::r,false,?_,?_,h8,by rw [← hM]; exact hl,.inr ⟨x,rfl,beq_eq_false_iff_ne.2 (by omega),beq_eq_false_iff_ne.2 (by omega),rfl,hS⟩⟩
    · unfold dgS
      exact if_neg (by simp [h1,h2])
    · simp [h1]
 obtain ⟨ds,ng,hdg,hng,hd8,hdl,hform⟩:=main
 have HDG:=Lib.hid hdg
 have HNG:=Lib.hid hng
 have HD8:=Lib.hid hd8
 obtain ⟨m,hm⟩:∃ m,m=ds.length:=⟨_,rfl⟩
 have HM:=Lib.hid hm
 rw [← hm] at hdl
 have heq:(strN ds).toList=[]↔m=0:=by
  rw [Lib.toList_data,strN_data,List.map_eq_nil_iff,hm]
  exact List.length_eq_zero_iff.symm
 clear hdg hng hd8 hm hcase hM h8 hS
 have hgo:(∃ c,(S[0]'hidx).toNat=c∧(c=45∧ng=true∨c=43∧ng=false)∧S.extract 1 S.size=strN ds)∨(∃ c,(S[0]'hidx).toNat=c∧((c:Int)==45)=false∧((c:Int)==43)=false∧ng=false∧S=strN ds):=by
  rcases hform with ⟨c,h1,h2,h3⟩ | ⟨c,h1,h2⟩
  · exact .inl ⟨c,by rw [hch,h1],h2,by rw [hex,h3]⟩
  · exact .inr ⟨c,by rw [hch,h1],h2⟩
 clear hform hch hex
 rcases Nat.eq_zero_or_pos m with hm0 | hm0
 · subst hm0
   have hno:¬ SOk xs:=fun h=>h.1 (by rw [HDG.out]; exact List.eq_nil_of_length_eq_zero HM.out.symm)
   have HNO:=Lib.hid hno
   clear hno
   have heq:=heq.2 rfl
   have heq2:(strN ds).toList.isEmpty=true:=by rw [heq]; rfl
   rcases hgo with ⟨c,hch,⟨rfl,rfl⟩ | ⟨rfl,rfl⟩,hex⟩ | ⟨c,hch,hc1,hc2,rfl,rfl⟩
   · go_enter Tryz.func241,Tryz.ntmps241
     go_wp2
     go_ret2
     exact .inr ⟨HNO.out,rfl,Below.refl _ _⟩
   · go_enter Tryz.func241,Tryz.ntmps241
     go_wp2
     go_ret2
     exact .inr ⟨HNO.out,rfl,Below.refl _ _⟩
   · exact absurd heq hne
 have heq1:¬ (strN ds).toList=[]:=fun e=>by
  have:=heq.1 e
  omega
 have heq2:(strN ds).toList.isEmpty=false:=by
  cases hq:(strN ds).toList with
  | nil=>exact absurd hq heq1
  | cons x r=>rfl
 clear heq
 have HNE:Hid (ds≠[]):=fun e=>by
  have:=HM.out
  rw [e] at this
  simp at this
  omega
 rcases hgo with ⟨c,hch,⟨rfl,rfl⟩ | ⟨rfl,rfl⟩,hex⟩ | ⟨c,hch,hc1,hc2,rfl,rfl⟩
 all_goals
  go_enter Tryz.func241,Tryz.ntmps241
  go_wp2
  go_loopg [1,9] m (fun k sv l wr=>∃ (j:Nat) (ls:List Nat),m-j≤k∧j≤m∧sv=.string (strN (ds.drop j))∧Hid (∀ x∈ds.take j,Dg x)∧Hid (val ls=dval (ds.take j))∧Hid (ls.length≤j)∧Hid (Row wr w.heap.size l ls)∧Hid (Below w.heap.size w wr))
  case atStart=>exact ⟨0,[],by omega,by omega,rfl,by simp [Hid],rfl,Nat.le_refl _,Row.nil _ _,Below.refl _ _⟩
  case round =>
   obtain ⟨j,ls,hjk,hj,rfl,HDJ,HVJ,HLJ,HROW,HB⟩:=hrel
   obtain ⟨q,hq⟩:∃ q,q=m-j:=⟨_,rfl⟩
   obtain ⟨T,hT⟩:∃ T,T=strN (ds.drop j):=⟨_,rfl⟩
   have hsz:(T.size:Int)=(q:Int):=by rw [hT,strN_size,List.length_drop,← HM.out,hq]
   rw [← hT]
   rcases Nat.eq_zero_or_pos q with hq0 | hq0
   · subst hq0
     have hjm:j=m:=by omega
     have HV:Hid (val ls=dval ds):=by rw [Hid,HVJ.out,List.take_of_length_le (by rw [← HM.out]; omega)]
     have HOK:Hid (SOk xs):=by
      unfold Hid SOk
      rw [HDG.out]
      refine ⟨HNE.out,?_⟩
      have:=HDJ.out
      rwa [List.take_of_length_le (by rw [← HM.out]; omega)] at this
     have hw:=HROW.out.words (by have:=HLJ.out; omega)
     have HW:=Lib.hid hw
     obtain ⟨A',L',cap',rfl⟩:=hw.form
     have hz1:=HZ.out.on HB.out
     clear hw hT hq hjk hjm
     go_wp2_with fail
     refine (is_any _ hz1 HW.out).mono ?_
     rintro e w3 ⟨rfl,h1,h2⟩
     rw [HV.out] at h1
     have H3:=Lib.hid h1
     have H4:=Lib.hid h2
     clear h1 h2 hz1
     go_wp2
     go_ret2
     refine .inl ⟨HOK.out,rfl,?_,(Touch.of_below HB.out b o 2).trans H4.out⟩
     rw [HNG.out,HDG.out]
     exact H3.out
   · obtain ⟨n,hn⟩:∃ n,n=min 9 q:=⟨_,rfl⟩
     have hn9:n≤9:=by omega
     have hnq:n≤q:=by omega
     have hn0:0<n:=by omega
     have hmin:(if (q:Int)<9 then (q:Int) else 9)=(n:Int):=by split<;>omega
     obtain ⟨ps,hps⟩:∃ ps,ps=(ds.drop j).take n:=⟨_,rfl⟩
     obtain ⟨U,hU⟩:∃ U,U=strN ps:=⟨_,rfl⟩
     have hext:T.extract 0 n=U:=by rw [hT,strN_ext,List.drop_zero,Nat.sub_zero,hU,hps]
     have hpl:ps.length=n:=by
      rw [hps,List.length_take,List.length_drop,← HM.out]
      omega
     have hUs:(U.size:Int)=(n:Int):=by rw [hU,strN_size,hpl]
     have HPS:=Lib.hid hps
     have HPL:=Lib.hid hpl
     have HP8:Hid (B8 ps):=by rw [hps]; exact (HD8.out.drop j).take n
     have HNX:Hid (T.extract n T.size=strN (ds.drop (j+n))):=by
      rw [Hid,hT,strN_ext,strN_size,List.drop_drop,List.take_of_length_le (by rw [List.length_drop,List.length_drop]; omega)]
     have HPT:Hid (∀ k,∀ x∈ps.take k,x∈ds):=fun k x hx=>by
      rw [hps] at hx
      exact List.mem_of_mem_drop (List.mem_of_mem_take (List.mem_of_mem_take hx))
     have hlen:(ls.length:Int)=(ls.length:Int):=rfl
     have hcv1:=hcv wr U
     have HU:=Lib.hid hU
     have HQ:=Lib.hid hq
     have HN:=Lib.hid hn
     clear hps hpl hT hq hn hU
     go_wp2
     clear hcv1
     have hby:=byt_row (W:=wr) U (grownCap wr U.size 0 5) (grownCap wr U.size 0 5) wr.heap.size ((bytesRow U (grownCap wr U.size 0 5)).size,(bytesRow U (grownCap wr U.size 0 5)).size+1) rfl
     have hbl:=below_row wr (bytesRow U (grownCap wr U.size 0 5)) 5 ((bytesRow U (grownCap wr U.size 0 5)).size,(bytesRow U (grownCap wr U.size 0 5)).size+1)
     generalize grownCap wr U.size 0 5=cp at hby hbl ⊢
     generalize (wr.alloc (.cells (bytesRow U cp) 5 ((bytesRow U cp).size,(bytesRow U cp).size+1))).drew=W3 at hby hbl ⊢
     have hUn:U.size=n:=by omega
     rw [HU.out,leS_strN _ HP8.out,List.reverse_reverse,← HU.out,hUn] at hby
     have hrow3:=Lib.hid (HROW.out.below hbl)
     have hb3:=Lib.hid (HB.out.trans (hbl.mono HB.out.size))
     have HBY:=Lib.hid hby
     have hwr:wr.heap.size<W3.heap.size:=by obtain ⟨_,_,h,_⟩:=hby.open_; exact h
     rw [hUn]
     clear hby hbl hext hUs hUn
     go_loopw [11,12,48] (fun by_ ad iv w4=>∃ (k:Nat),k≤n∧by_=.int .u64 ((10^k:Nat):Int)∧ad=.int .u64 ((dval (ps.take k):Nat):Int)∧iv=.int .i64 (k:Int)∧Hid (∀ x∈ps.take k,Dg x)∧Hid (Row w4 w.heap.size u9 ls)∧Hid (Byt w4 (.slice (some ⟨wr.heap.size,0,none⟩) n cp) ps)∧Hid (Below w.heap.size w w4)) (fun _ _ iv _=>n-(intOf iv).toNat)
     case atStart=>exact ⟨0,by omega,rfl,rfl,rfl,by simp [Hid],hrow3,HBY,hb3⟩
     case round =>
      obtain ⟨k,hk,rfl,rfl,rfl,HDK,HR4,HBY4,HB4⟩:=hrel
      clear hb3 hrow3
      by_cases hkn:k<n
      · obtain ⟨hbl1,hb81,hbl2,hcell⟩:=HBY4.out.open_
        obtain ⟨x,hx⟩:∃ x,x=ps.getD k 0:=⟨_,rfl⟩
        have hc1:=hcell k (by rw [← hbl1]; exact hkn)
        rw [← hx] at hc1
        have hx8:x<256:=by rw [hx]; exact hb81.getD k
        obtain ⟨p,hp⟩:∃ p,p=10^k:=⟨_,rfl⟩
        have hp9:p≤100000000:=by rw [hp]; exact Nat.le_trans (Nat.pow_le_pow_right (by decide) (by omega:k≤8)) (by decide)
        have HP:Hid (10^(k+1)=p*10):=by rw [Hid,hp,Nat.pow_succ]
        obtain ⟨d,hd⟩:∃ d,d=dval (ps.take k):=⟨_,rfl⟩
        have hd9:d<1000000000:=by rw [hd]; exact ss_lt k HDK.out (by omega)
        have HST:=Lib.hid (ss_step (by rw [← hbl1]; exact hkn) hx.symm)
        have HXM:Hid (x∈ps):=by
         rw [Hid,hx,getD_in (by rw [← hbl1]; exact hkn)]
         exact List.getElem_mem _
        have HXT:Hid (ps.take (k+1)=ps.take k++[x]):=by
         rw [Hid,hx,getD_in (by rw [← hbl1]; exact hkn)]
         exact List.take_succ_eq_append_getElem (by rw [← hbl1]; exact hkn)
        rw [← hd] at HST
        rw [← hp,← hd]
        have hsz4:=HB4.out.size
        clear hcell hb81 hp hd hx hbl1
        rcases (by omega:x<48∨(48≤x∧x<58)∨58≤x) with hlt | ⟨hge,hlt⟩ | hge
        · have HNO:Hid (¬ SOk xs):=fun h=>by
           have h2:=h.2 x (by rw [HDG.out]; exact HPT.out n x (by rw [List.take_of_length_le (by rw [HPL.out]; exact Nat.le_refl _)]; exact HXM.out))
           have:=h2.1
           omega
          go_wp2
          go_ret2
          exact .inr ⟨HNO.out,rfl,by repeat (first | exact HB4.out | apply Below.drew)⟩
        · have hx1:(x:Int)-48=((x-48:Nat):Int):=by omega
          obtain ⟨y,hy⟩:∃ y,y=x-48:=⟨_,rfl⟩
          have hy9:y≤9:=by omega
          rw [← hy] at hx1
          have HY:=Lib.hid hy
          clear hy
          go_wp2
          go_roundw
          case rel =>
           refine ⟨k+1,by omega,?_,?_,by go_num,?_,HR4,HBY4,HB4⟩
           · rw [HP.out]
             go_num
           · rw [HST.out,← HY.out]
             go_num
           · rw [Hid,HXT.out]
             intro z hz
             rcases List.mem_append.1 hz with h | h
             · exact HDK.out z h
             · obtain rfl:=List.mem_singleton.1 h
               exact ⟨hge,hlt⟩
          case measure=>simp [intOf]; omega
        · have HNO:Hid (¬ SOk xs):=fun h=>by
           have h2:=h.2 x (by rw [HDG.out]; exact HPT.out n x (by rw [List.take_of_length_le (by rw [HPL.out]; exact Nat.le_refl _)]; exact HXM.out))
           have:=h2.2
           omega
          go_wp2
          go_ret2
          exact .inr ⟨HNO.out,rfl,by repeat (first | exact HB4.out | apply Below.drew)⟩
      · obtain rfl:k=n:=by omega
        obtain ⟨B,hB⟩:∃ B,B=10^k:=⟨_,rfl⟩
        have hB9:B≤1000000000:=by rw [hB]; exact Nat.le_trans (Nat.pow_le_pow_right (by decide) hn9) (by decide)
        obtain ⟨d,hd⟩:∃ d,d=dval (ps.take k):=⟨_,rfl⟩
        have hd9:d≤1000000000:=by rw [hd]; exact Nat.le_of_lt (ss_lt k HDK.out hn9)
        have hpd:d=dval ((ds.drop j).take k):=by rw [hd,← HPS.out,List.take_of_length_le (by rw [HPL.out]; exact Nat.le_refl _)]
        have HPD:=Lib.hid hpd
        have HB0:=Lib.hid hB
        have hdk:∀ x∈ds.take (j+k),Dg x:=by
         rw [ss_take]
         intro x hx
         rcases List.mem_append.1 hx with h | h
         · exact HDJ.out x h
         · rw [← HPS.out] at h
           exact HDK.out x (by rw [List.take_of_length_le (by rw [HPL.out]; exact Nat.le_refl _)]; exact h)
        have HDK2:=Lib.hid hdk
        rw [← hB,← hd]
        obtain ⟨t,ht⟩:∃ t,t=ls.length:=⟨_,rfl⟩
        have HTL:=Lib.hid ht
        have htb:t≤1000000:=by have:=HLJ.out; omega
        obtain ⟨A,cap,rfl⟩:∃ A cap,u9=.slice A t cap:=by
         rcases HR4.out.shape with ⟨e1,e2⟩ | ⟨g,cap,e,_⟩
         · refine ⟨none,0,?_⟩
           rw [e2,ht,e1]
           rfl
         · exact ⟨_,cap,by rw [e,ht]⟩
        clear hB hd hpd hdk ht
        have hsz4:=HB4.out.size
        go_wp2
        go_loopw [12,69] (fun ad iv w5=>∃ (i c:Nat) (ys:List Nat),i≤t∧iv=.int .i64 (i:Int)∧ad=.int .u64 (c:Int)∧c≤1000000000∧Hid (ys.length=i)∧Hid (val ys+4294967296^i*c=val (ls.take i)*B+d)∧Hid (Row w5 w.heap.size (.slice A t cap) (ys++ls.drop i))∧Hid (Below w.heap.size w w5)) (fun _ iv _=>t-(intOf iv).toNat)
        case atStart=>exact ⟨0,d,[],by omega,rfl,rfl,hd9,rfl,by simp [Hid,val],HR4,HB4⟩
        case round =>
         obtain ⟨i,c,ys,hi,rfl,rfl,hc9,HYL,HVY,HR5,HB5⟩:=hrel
         have hsz5:=HB5.out.size
         have hzl:(ys++ls.drop i).length=t:=by rw [List.length_append,List.length_drop,HYL.out,← HTL.out]; omega
         by_cases hit:i<t
         · obtain ⟨g,rfl,hgl⟩:∃ g,A=some ⟨g,0,none⟩∧w.heap.size≤g:=by
            rcases HR5.out.shape with ⟨e1,_⟩ | ⟨g,cap',e,hgl,_⟩
            · rw [e1] at hzl
              simp at hzl
              omega
            · injection e with e
              exact ⟨g,e,hgl⟩
           obtain ⟨y,hy⟩:∃ y,y=ls.getD i 0:=⟨_,rfl⟩
           have hc1:=HR5.out.cellAt hzl.symm i (by omega)
           rw [ss_get HYL.out,← hy] at hc1
           have hf1:=HR5.out.frozenAt hzl.symm i
           have hyb:y<4294967296:=by
            have:=HR5.out.1
            rw [hy,getD_in (by rw [← HTL.out]; exact hit)]
            exact HROW.out.1 _ (List.getElem_mem _)
           obtain ⟨r,hr⟩:∃ r,r=y*B:=⟨_,rfl⟩
           have hri:(y:Int)*(B:Int)=(r:Int):=by rw [hr,Int.natCast_mul]
           have hrb:r≤4294967295*1000000000:=by rw [hr]; exact Nat.mul_le_mul (by omega) hB9
           obtain ⟨z,hz⟩:∃ z,z=(c+r) % 4294967296:=⟨_,rfl⟩
           obtain ⟨c',hc'⟩:∃ c',c'=(c+r)/4294967296:=⟨_,rfl⟩
           have hz4:z<4294967296:=by omega
           have hzi:((c:Int)+(r:Int)) % 4294967296=(z:Int):=by omega
           have hci:((c:Int)+(r:Int))/4294967296=(c':Int):=by omega
           have hc'9:c'≤1000000000:=by omega
           have HSET:=Lib.hid (HR5.out.set i z (z:Int) (by omega) hz4 rfl)
           have HV2:Hid (val (ys++[z])+4294967296^(i+1)*c'=val (ls.take (i+1))*B+d):=by
            rw [hz,hc']
            exact mulw_val ls ys i B c d (c+r) HYL.out HVY.out (by rw [hr,hy])
           clear hr hz hc' hy
           go_wp2
           go_roundw
           case rel =>
            refine ⟨i+1,c',ys++[z],by omega,by go_num,rfl,hc'9,?_,HV2,?_,?_⟩
            · rw [Hid,List.length_append,HYL.out]
              rfl
            · rw [← ss_row HYL.out (by rw [← HTL.out]; exact hit)]
              exact HSET
            · exact (HB5.out.setCell (by omega) _)
           case measure=>simp [intOf]; omega
         · obtain rfl:i=t:=by omega
           have hyt:ys.length=ls.length:=by rw [HYL.out,HTL.out]
           have hge:=ss_group (ls:=ls) (ys:=ys) (ds:=ds) (j:=j) (n:=k) (c:=c) (by rw [← HM.out]; have:=HQ.out; omega) HVJ.out hyt (by rw [hyt,← HTL.out,← HB0.out,← HPD.out]; exact HVY.out)
           have hrw:ys++ls.drop i=ys:=by rw [List.drop_eq_nil_of_le (by rw [← HTL.out]; exact Nat.le_refl _),List.append_nil]
           have hrow5:=HR5.out
           rw [hrw] at hrow5
           have hlen2:ys.length+1≤j+k:=by rw [hyt]; have:=HLJ.out; omega
           have hnx:=HNX.out
           have hjk2:j+k≤m:=by have:=HQ.out; omega
           have hjk3:m-(j+k)<gk:=by omega
           have HJK3:=Lib.hid hjk3
           have HJK2:=Lib.hid hjk2
           have HGE:=Lib.hid hge
           have HLE2:=Lib.hid hlen2
           have HJ1:=Lib.hid hj
           clear hge hlen2 hjk2 hjk3 hyt hrw hj hjk hzl
           by_cases hc0:0<c
           · go_wp2_with (at_builtin; refine wpList_append_word rfl (.tmp 91) (.tmp 94) rfl w.heap.size _ ys rfl (hrow5.alloc _) ⟨wr.heap.size,0,none⟩ 1 c _ rfl (cell_new0 _ _ _) ?_ (by omega) ?_ ?_ ?_)
             · omega
             · have:=HLE2.out; have:=HJK2.out; omega
             · simp; omega
             intro v' w' hrow2 hb2
             have HR6:=Lib.hid hrow2
             have HB6:=Lib.hid ((HB5.out.alloc hsz5 _).trans hb2)
             clear hrow2 hb2 hrow5
             go_wp2
             go_roundg (m-(j+k))
             case measure=>exact HJK3.out
             case rel =>
              refine ⟨j+k,ys++[c],Nat.le_refl _,HJK2.out,rfl,HDK2,?_,?_,HR6,HB6⟩
              · have:=HGE.out
                rwa [if_pos hc0] at this
              · rw [Hid,List.length_append]
                exact HLE2.out
           · have hc00:c=0:=by omega
             subst hc00
             have HR6:=Lib.hid hrow5
             clear hrow5
             go_wp2
             go_roundg (m-(j+k))
             case measure=>exact HJK3.out
             case rel =>
              refine ⟨j+k,ys,Nat.le_refl _,HJK2.out,rfl,HDK2,?_,?_,HR6,HB5⟩
              · have:=HGE.out
                rwa [if_neg hc0,List.append_nil] at this
              · have:=HLE2.out
                unfold Hid
                omega
end Go.Proofs.YthkpghhoffihmaaGreatDoor
end
section
namespace Go.Proofs.YthkpghhoffihmaaGreatDoor
open Go.RowKit
def sz (n:Int):Nat:=(mag n.natAbs).size
theorem sz_le {n:Int} {k:Nat}:sz n≤k↔n.natAbs<256^k:=mag_size_le
theorem sz_mul {a b:Int} {i j:Nat} (h:sz a≤i) (k:sz b≤j):sz (a*b)≤i+j:=by
 rw [sz_le] at *
 rw [Int.natAbs_mul,Nat.pow_add]
 exact Nat.mul_lt_mul'' h k
theorem sz_add {a b:Int} {i:Nat} (h:sz a≤i) (k:sz b≤i):sz (a+b)≤i+1:=by
 rw [sz_le] at *
 rw [Nat.pow_succ]
 have:=Int.natAbs_add_le a b
 omega
theorem sz_neg (a:Int):sz (-a)=sz a:=by
 unfold sz; rw [Int.natAbs_neg]
theorem sz_sub {a b:Int} {i:Nat} (h:sz a≤i) (k:sz b≤i):sz (a-b)≤i+1:=by
 rw [Int.sub_eq_add_neg]
 exact sz_add h (by rw [sz_neg]; exact k)
theorem sz_nat (d:Nat):sz (d:Int)=(mag d).size:=by unfold sz; rw [Int.natAbs_natCast]
def Sz (k:Nat) (q:Rat):Prop:=sz q.num≤k∧sz (q.den:Int)≤k
theorem Sz.mono {i k:Nat} {q:Rat} (h:Sz i q) (hk:i≤k):Sz k q:=⟨Nat.le_trans h.1 hk,Nat.le_trans h.2 hk⟩
theorem Sz.neg {k:Nat} {x:Rat} (h:Sz k x):Sz k (-x):=⟨by rw [show (-x).num = -x.num from rfl,sz_neg]; exact h.1,h.2⟩
theorem Fit.sz {q:Rat} (h:Fit q):Sz 1024 q:=⟨h.1,by rw [sz_nat]; exact h.2⟩
theorem sz_divInt {n d:Int} {k:Nat} (hd:d≠0) (h1:sz n≤k) (h2:sz d≤k):Sz k (Rat.divInt n d) :=
 ⟨mag_mono (num_le n d hd) h1,by rw [sz_nat]; exact mag_mono (den_le n d hd) h2⟩
theorem Sz.add {i j:Nat} {x y:Rat} (h:Sz i x) (k:Sz j y):Sz (i+j+1) (x+y):=by
 rw [← divInt_Add]
 refine sz_divInt (Int.mul_ne_zero (den_ne x) (den_ne y)) (sz_add (sz_mul h.1 k.2) ?_) (Nat.le_succ_of_le (sz_mul h.2 k.2))
 rw [Nat.add_comm]
 exact sz_mul k.1 h.2
theorem Sz.sub {i j:Nat} {x y:Rat} (h:Sz i x) (k:Sz j y):Sz (i+j+1) (x-y):=by
 rw [← divInt_Sub]
 refine sz_divInt (Int.mul_ne_zero (den_ne x) (den_ne y)) (sz_sub (sz_mul h.1 k.2) ?_) (Nat.le_succ_of_le (sz_mul h.2 k.2))
 rw [Nat.add_comm]
 exact sz_mul k.1 h.2
theorem Sz.okR {k:Nat} {q:Rat} (h:Sz k q) (hk:k≤16384):OkR q:=by
 have k1:=wl_size (Nat.le_trans h.1 hk)
 have k2:=wl_size (Nat.le_trans h.2 hk)
 refine ⟨?_,?_⟩
 · show (dig _).length≤_
   omega
 · show (dig ((q.den:Int)).natAbs).length≤_
   omega
theorem Sz.okR2 {k:Nat} {q:Rat} (h:Sz k q) (hk:k≤4000000000):OkR q:=by
 have k1:=wl_size (Nat.le_trans h.1 hk)
 have k2:=wl_size (Nat.le_trans h.2 hk)
 refine ⟨?_,?_⟩
 · show (dig _).length≤_
   omega
 · show (dig ((q.den:Int)).natAbs).length≤_
   omega
structure GQ where
 re:Rat
 im:Rat
theorem GQ.ext2 {z w:GQ} (h:z.re=w.re) (k:z.im=w.im):z=w:=by cases z; cases w; cases h; cases k; rfl
def gsub (z w:GQ):GQ:=⟨z.re-w.re,z.im-w.im⟩
def gmul (z w:GQ):GQ:=⟨z.re*w.re-z.im*w.im,z.re*w.im+z.im*w.re⟩
def gneg (z:GQ):GQ:=⟨-z.re,-z.im⟩
def gnorm (z:GQ):Rat:=z.re*z.re+z.im*z.im
def gscale (z:GQ) (x:Rat):GQ:=⟨z.re*x,z.im*x⟩
def gzero (z:GQ):Bool:=decide (z.re=0)&&decide (z.im=0)
theorem gzero_iff {z:GQ}:gzero z=true↔z.re=0∧z.im=0:=by simp [gzero]
def GSz (k:Nat) (z:GQ):Prop:=Sz k z.re∧Sz k z.im
theorem GSz.neg {i:Nat} {z:GQ} (h:GSz i z):GSz i (gneg z):=⟨h.1.neg,h.2.neg⟩
end Go.Proofs.YthkpghhoffihmaaGreatDoor
end
