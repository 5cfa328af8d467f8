/- RRe, Spl, Splt, LsA, Frd, CiA, CiB, CiE, MtA, F1B, Fre, Frf, TxG, GrA, Rr3, Rr4, Tql. -/
import Derived.Shelf.Strings.SplitCore
import Derived.Shelf.Strings.Search3
import Derived.Shelf.Strings.Count
import Derived.Shelf.Small.Wraps
import Derived.Deep.MidRow
import Derived.Test.YthkpghhoffihmaaGreatDoorGk13
set_option linter.unnecessarySimpa false
set_option linter.unusedVariables false
set_option linter.unusedSimpArgs false
section
namespace Go.Proofs.YthkpghhoffihmaaGreatDoor.Y
open Go Go.RowKit
set_option maxRecDepth 100000
theorem dg_pow {n j:Nat} (h:n<10^j):dgL n≤j:=dig_len_le n j (Nat.lt_of_lt_of_le h (Nat.pow_le_pow_left (by decide) j))
noncomputable abbrev rdCc (ts:List Nat) (neg:Bool) (i ten n k:Nat):Option Nat→Cf Tryz.prog
 | none=>rdc0 ts neg i ten n k []
 | some y=>rdc1 ts neg y i ten n k []
theorem take_all {ts:List Nat} {i:Nat} (hi:i≤ts.length) (h:∀ j,j<i→Dg (ts.getD j 0)):∀ x∈ts.take i,Dg x:=mem_getD fun j hj=>by
 rw [List.length_take,Nat.min_eq_left hi] at hj
 have:=h j hj
 rw [List.getD_eq_getElem?_getD,List.getElem?_take_of_lt hj,← List.getD_eq_getElem?_getD]
 exact this
section
variable {β0:Env} {w:World} {res:SV} {ts:List Nat} {neg:Bool} {m:Nat} (h8:B8 ts) (hm:ts.length=m) (hm6:m≤100000) {v:Int} (hv:sg neg (dval ts)=v)
 (hY:(∀ j,j<m→Dg (ts.getD j 0))→res=rdOk v) (hN:∀ j,j<m→¬ Dg (ts.getD j 0)→res=rdNo)
include h8 hm hm6 hv hY hN
theorem rd_join:∀ (f i k:Nat) (o:Option Nat),2*(m-i)+(if k=9 then 1 else 0)=f→k≤9→k≤i→i≤m→(∀ j,j<i→Dg (ts.getD j 0))→o.getD 0=dval (ts.take (i-k)) →
  rdH β0 w res (rdCc ts neg i (10^k) (dval ((ts.drop (i-k)).take k)) k o):=by
 intro f
 induction f using Nat.strongRecOn with
 | ind f ih =>
 intro i k o hf hk hki hi hd ho
 have hdd:=take_all (by rw [hm]; exact hi) hd
 have hsp:ts.take i=ts.take (i-k)++(ts.drop (i-k)).take k:=by
  have:=ss_take (ds:=ts) (i-k) k
  rwa [show i-k+k=i by omega] at this
 have hgl:((ts.drop (i-k)).take k).length=k:=by
  rw [List.length_take,List.length_drop,hm]
  omega
 obtain ⟨y,hy⟩:∃ y,y=o.getD 0:=⟨_,rfl⟩
 have hd1:∀ x∈ts.take (i-k),Dg x:=fun x hx=>hdd x (by rw [hsp]; exact List.mem_append_left _ hx)
 have hd2:∀ x∈(ts.drop (i-k)).take k,Dg x:=fun x hx=>hdd x (by rw [hsp]; exact List.mem_append_right _ hx)
 have hyn:y*10^k+dval ((ts.drop (i-k)).take k)=dval (ts.take i):=by rw [hsp,dval_append,hgl,hy,ho]
 have hil:(ts.take i).length=i:=by rw [List.length_take,hm]; omega
 have hb:=dval_lt _ hdd
 rw [hil] at hb
 have hnl:=dval_lt _ hd2
 rw [hgl] at hnl
 obtain ⟨n,hn⟩:∃ n,n=dval ((ts.drop (i-k)).take k):=⟨_,rfl⟩
 obtain ⟨ten,ht⟩:∃ ten,ten=10^k:=⟨_,rfl⟩
 rw [← hn,← ht]
 rw [← hn,← ht] at hyn
 rw [← hn] at hnl
 have ht9:ten≤1000000000:=by rw [ht]; exact Nat.le_trans (Nat.pow_le_pow_right (by decide) hk) (by decide)
 have hn9:n<1000000000:=Nat.lt_of_lt_of_le hnl (by rw [← ht]; exact ht9)
 have hi1:i≤100000:=by omega
 have hs:dgL (y*ten+n)≤4294967296:=by rw [hyn]; exact Nat.le_trans (dg_pow hb) (by omega)
 have hp:dgL (y*ten)≤8589934592:=by
  refine Nat.le_trans (dg_pow (j:=i) ?_) (by omega)
  omega
 have hx:dgL y≤8589934592:=by
  refine Nat.le_trans (dg_pow (j:=i) (Nat.lt_of_le_of_lt ?_ hb)) (by omega)
  rw [← hyn]
  have h1:1≤ten:=by rw [ht]; exact Nat.le_trans (by decide:1≤10^0) (Nat.pow_le_pow_right (by decide) (Nat.zero_le k))
  have:=Nat.mul_le_mul (Nat.le_refl y) h1
  omega
 have hdn:dgL n≤8589934592:=Nat.le_trans (dg_pow (j:=9) hn9) (by decide)
 by_cases him:i=m
 · have hall:∀ j,j<m→Dg (ts.getD j 0):=fun j hj=>hd j (by omega)
   have hvv:sg neg (y*ten+n)=v:=by
    rw [hyn,List.take_of_length_le (by omega)]
    exact hv
   rw [hY hall]
   by_cases hk9:k=9
   · cases o with
     | none =>
      obtain rfl:y=0:=hy
      exact hd_ev (rd0_end9 β0 w hm ht9 hn9 hk9 him hp hdn hx hvv hs)
     | some z =>
      obtain rfl:y=z:=hy
      exact hd_ev (rd1_end9 β0 w hm ht9 hn9 hk9 him hp hdn hx hvv hs)
   · cases o with
     | none =>
      obtain rfl:y=0:=hy
      exact hd_ev (rd0_endM β0 w hm ht9 hn9 (by omega) him hp hdn hx hvv hs)
     | some z =>
      obtain rfl:y=z:=hy
      exact hd_ev (rd1_endM β0 w hm ht9 hn9 (by omega) him hp hdn hx hvv hs)
 · have hlt:i<m:=by omega
   by_cases hk9:k=9
   · have hnew:=ih (2*(m-i)+0) (by rw [if_pos hk9] at hf; omega) i 0 (some (y*ten+n)) (by rw [if_neg (by decide)]) (by omega) (by omega) hi hd (by rw [Nat.sub_zero,← hyn]; rfl)
     cases o with
     | none =>
      obtain rfl:y=0:=hy
      exact hd_ev (rd0_grp β0 w res hm ht9 hn9 hk9 hlt hp hdn hx hnew)
     | some z =>
      obtain rfl:y=z:=hy
      exact hd_ev (rd1_grp β0 w res hm ht9 hn9 hk9 hlt hp hdn hx hnew)
   · have hkl:k<9:=by omega
     obtain ⟨x,hxx⟩:∃ x,ts.getD i 0=x:=⟨_,rfl⟩
     rcases (by omega:x<48∨(48≤x∧x<58)∨58≤x) with h1 | ⟨h1,h2⟩ | h1
     · rw [hN i hlt (fun h=>by rw [hxx] at h; have:=h.1; omega)]
       cases o with
       | none=>exact hd_ev (rd0_badL β0 w h8 hm hkl hlt hxx h1)
       | some z=>exact hd_ev (rd1_badL β0 w h8 hm hkl hlt hxx h1)
     · have e1:10^(k+1)=10*ten:=by rw [ht,Nat.pow_succ,Nat.mul_comm]
       have e2:dval ((ts.drop (i+1-(k+1))).take (k+1))=10*n+(x-48):=by
        rw [show i+1-(k+1)=i-k by omega,dval_take _ k (by rw [List.length_drop,hm]; omega),getD_drop,show i-k+k=i by omega,hxx,← hn]
       have hnew:=ih (2*(m-(i+1))+(if k+1=9 then 1 else 0)) (by split<;>split at hf<;>omega) (i+1) (k+1) o rfl (by omega) (by omega) (by omega) (fun j hj=>by
        by_cases hj2:j=i
        · rw [hj2,hxx]
          exact ⟨h1,h2⟩
        · exact hd j (by omega)) (by rw [show i+1-(k+1)=i-k by omega]; exact ho)
       rw [e1,e2] at hnew
       cases o with
       | none=>exact hd_ev (rd0_step β0 w res h8 hm hm6 hkl hlt hxx h1 h2 hn9 ht9 hnew)
       | some z=>exact hd_ev (rd1_step β0 w res h8 hm hm6 hkl hlt hxx h1 h2 hn9 ht9 hnew)
     · rw [hN i hlt (fun h=>by rw [hxx] at h; have:=h.2; omega)]
       cases o with
       | none=>exact hd_ev (rd0_badH β0 w h8 hm hkl hlt hxx h1)
       | some z=>exact hd_ev (rd1_badH β0 w h8 hm hkl hlt hxx h1)
end
abbrev rdHd (xs:List Nat) (M x0:Nat) (neg:Bool) (hM:xs.length=M) (h0:0<M) (h8:B8 xs) (hx:xs.getD 0 0=x0) (hn:((x0:Int)==45)=neg):List (Ev Tryz.prog) :=
 [.eqv 13 (.int .i64 (((strN xs).size:Nat):Int)) (.int .i64 (M:Int)) (stz_lit hM),.eqv 14 (.bool (decide (0<(M:Int)))) (.bool true) (lt_lit (decide_eq_true (by omega))),eStI (i:=0) h8 (by omega) hx,.eqv 18 (.bool ((x0:Int)==45)) (.bool neg) (eq_lit hn)]
theorem strN_nil (ts:List Nat) {r:Bool} (h:decide (ts=[])=r):decide (strN ts=⟨#[]⟩)=r:=by
 rw [← h]
 refine decide_eq_decide.2 ⟨fun e=>?_,fun e=>by rw [e]; rfl⟩
 have:=congrArg ByteArray.size e
 rw [strN_size] at this
 exact List.eq_nil_of_length_eq_zero this
def sRReadE:Spec Tryz.prog :=
 Spec.auto Tryz.call110 [stV []] [] rdNo [] [eStrEq (strN []) ⟨#[]⟩ (r:=true) (strN_nil [] rfl)] [] 300 Tryz.func110 hmA (by kernel_rfl) (fun β=>by kernel_rfl)
section
variable {xs:List Nat} {M x0:Nat} (hM:xs.length=M) (h0:0<M) (h8:B8 xs) (hx:xs.getD 0 0=x0)
noncomputable def sRRead1 (hn:((x0:Int)==45)=true) (h1:decide (xs.drop 1=[])=true):Spec Tryz.prog :=
 Spec.auto Tryz.call110 [stV xs] [] rdNo [] (rdHd xs M x0 true hM h0 h8 hx hn++[eStD xs (k:=1) (by omega),eStrEq (strN (xs.drop 1)) ⟨#[]⟩ (strN_nil _ h1)]) [] 300 Tryz.func110 hmA (by kernel_rfl) (fun β=>by kernel_rfl)
section
variable {m y0:Nat} (hm:(xs.drop 1).length=m) (hm0:0<m) (hy:(xs.drop 1).getD 0 0=y0)
def rdHn (hn:((x0:Int)==45)=true) (h1:decide (xs.drop 1=[])=false) (z:Bool) (hz:((y0:Int)==48)=z):List (Ev Tryz.prog) :=
 rdHd xs M x0 true hM h0 h8 hx hn++[eStD xs (k:=1) (by omega),eStrEq (strN (xs.drop 1)) ⟨#[]⟩ (strN_nil _ h1),eStI (i:=0) (h8.drop 1) (by omega) hy,.eqv 28 (.bool ((y0:Int)==48)) (.bool z) (eq_lit hz)]
noncomputable def sRRead2 (hn:((x0:Int)==45)=true) (h1:decide (xs.drop 1=[])=false) (hz:((y0:Int)==48)=true):Spec Tryz.prog :=
 Spec.auto Tryz.call110 [stV xs] [] rdNo [] (rdHn hM h0 h8 hx hm hm0 hy hn h1 true hz) [] 300 Tryz.func110 hmA (by kernel_rfl) (fun β=>by kernel_rfl)
include hM h0 h8 hx hm hm0 hy in
theorem rd_startN (hn:((x0:Int)==45)=true) (h1:decide (xs.drop 1=[])=false) (hz:((y0:Int)==48)=false) (res:SV) (β:Env) (w:World) (h:rdH β w res (rdc0 (xs.drop 1) true 0 1 0 0 [])) :
  Calls Tryz.prog 110 (([stV xs]:List SV).map (SV.den β)).toArray w (Said Tryz.prog rdF2 0 res [] β w) :=
 sx_cut (P:=Tryz.prog) [stV xs] [] (rdHn hM h0 h8 hx hm hm0 hy hn h1 false hz++rdOn hm hm0) [] [] 300 res [] Tryz.func110 hmA (u:=0) (sl:=rdSl (xs.drop 1) true nilW 0 1 0 0) (ob:=[.dead,.box wh0 WHT]) (σ:=[0,0]) (p':=lpAt rdF2 1) (by kernel_rfl) (fun β=>ok_of_maps (by kernel_rfl)) (by kernel_rfl) (by kernel_rfl) β w (fun k o ho=>by simp at ho) h
end
def rdHp (hn:((x0:Int)==45)=false) (h1:decide (xs=[])=false) (z:Bool) (hz:((x0:Int)==48)=z):List (Ev Tryz.prog) :=
 rdHd xs M x0 false hM h0 h8 hx hn++[eStrEq (strN xs) ⟨#[]⟩ (strN_nil _ h1),eStI (i:=0) h8 (by omega) hx,.eqv 28 (.bool ((x0:Int)==48)) (.bool z) (eq_lit hz)]
def rdHq (l:Bool) (hl:decide (1<(M:Int))=l):List (Ev Tryz.prog):=[.eqv 33 (.int .i64 (((strN xs).size:Nat):Int)) (.int .i64 (M:Int)) (stz_lit hM),.eqv 34 (.bool (decide (1<(M:Int)))) (.bool l) (lt_lit hl)]
noncomputable def sRRead3 (hn:((x0:Int)==45)=false) (h1:decide (xs=[])=false) (hz:((x0:Int)==48)=true) (hl:decide (1<(M:Int))=true):Spec Tryz.prog :=
 Spec.auto Tryz.call110 [stV xs] [] rdNo [] (rdHp hM h0 h8 hx hn h1 true hz++rdHq hM true hl) [] 300 Tryz.func110 hmA (by kernel_rfl) (fun β=>by kernel_rfl)
include hM h0 h8 hx in
theorem rd_startP (hn:((x0:Int)==45)=false) (h1:decide (xs=[])=false) (hz:((x0:Int)==48)=false) (res:SV) (β:Env) (w:World) (h:rdH β w res (rdc0 xs false 0 1 0 0 [])) :
  Calls Tryz.prog 110 (([stV xs]:List SV).map (SV.den β)).toArray w (Said Tryz.prog rdF2 0 res [] β w) :=
 sx_cut (P:=Tryz.prog) [stV xs] [] (rdHp hM h0 h8 hx hn h1 false hz++rdOn hM h0) [] [] 300 res [] Tryz.func110 hmA (u:=0) (sl:=rdSl xs false nilW 0 1 0 0) (ob:=[.dead,.box wh0 WHT]) (σ:=[0,0]) (p':=lpAt rdF2 1) (by kernel_rfl) (fun β=>ok_of_maps (by kernel_rfl)) (by kernel_rfl) (by kernel_rfl) β w (fun k o ho=>by simp at ho) h
include hM h0 h8 hx in
theorem rd_start0 (hn:((x0:Int)==45)=false) (h1:decide (xs=[])=false) (hz:((x0:Int)==48)=true) (hl:decide (1<(M:Int))=false) (res:SV) (β:Env) (w:World) (h:rdH β w res (rdc0 xs false 0 1 0 0 [])) :
  Calls Tryz.prog 110 (([stV xs]:List SV).map (SV.den β)).toArray w (Said Tryz.prog rdF2 0 res [] β w) :=
 sx_cut (P:=Tryz.prog) [stV xs] [] (rdHp hM h0 h8 hx hn h1 true hz++rdHq hM false hl++rdOn hM h0) [] [] 300 res [] Tryz.func110 hmA (u:=0) (sl:=rdSl xs false nilW 0 1 0 0) (ob:=[.dead,.box wh0 WHT]) (σ:=[0,0]) (p':=lpAt rdF2 1) (by kernel_rfl) (fun β=>ok_of_maps (by kernel_rfl)) (by kernel_rfl) (by kernel_rfl) β w (fun k o ho=>by simp at ho) h
end
theorem rd_specOf {res:SV} {β:Env} {w:World} {e:Ending} {w':World} (hr:∃ (a:Bool × ByteArray) (k:Int),res=.tup [.a [.b (.v (.bool a.1)),.b (.v (.string a.2))],.c (.b (.v (.int .i64 k)))]) (h:Said Tryz.prog rdF2 0 res [] β w e w'):∃ xs:List Pl,freshS β w 0 xs∧e=.returned (res.den (extE β 0 xs))∧newHold w' [] xs∧Below w.heap.size w w':=by
 obtain ⟨a,k,rfl⟩:=hr
 obtain ⟨β',q,obj,_,rfl,_,_,_,g⟩:=h
 exact ⟨[],(fun _ h=>by cases h),rfl,trivial,g.bel⟩
theorem rread_all {xs:List Nat} (h8:B8 xs) (hl:xs.length≤100000) {res:SV} (hY:Rd xs→res=rdOk (rdN xs)) (hN:¬ Rd xs→res=rdNo) (β:Env) (w:World) :
  Calls Tryz.prog 110 (([stV xs]:List SV).map (SV.den β)).toArray w fun e w'=>∃ ys:List Pl,freshS β w 0 ys∧e=.returned (res.den (extE β 0 ys))∧newHold w' [] ys∧Below w.heap.size w w':=by
 have hh:∀ (k:Nat) (t:Thing),([]:List Thing)[k]?=some t→t.D w (β k):=fun k t h=>by simp at h
 have hres:∃ (a:Bool × ByteArray) (k:Int),res=.tup [.a [.b (.v (.bool a.1)),.b (.v (.string a.2))],.c (.b (.v (.int .i64 k)))]:=by
  by_cases hR:Rd xs
  · exact ⟨(_,_),_,hY hR⟩
  · exact ⟨(_,_),_,hN hR⟩
 have hiff:=rd_ref xs
 by_cases hnil:xs=[]
 · subst hnil
   rw [hN (fun h=>(hiff.1 h).1 rfl)]
   exact sRReadE.ok β w hh
 obtain ⟨M,hM⟩:∃ M,xs.length=M:=⟨_,rfl⟩
 obtain ⟨x0,hx⟩:∃ x0,xs.getD 0 0=x0:=⟨_,rfl⟩
 have h0:0<M:=by rw [← hM]; exact List.length_pos_iff.2 hnil
 have hhd:xs.head?=some 45↔x0=45:=by
  cases xs with
  | nil=>exact absurd rfl hnil
  | cons x r =>
   have:x=x0:=hx
   rw [this]
   simp
 cases hn:((x0:Int)==45) with
 | true =>
  have e45:x0=45:=by
   have:=beq_iff_eq.1 hn
   omega
  have ef:rdF xs=1:=if_pos (hhd.2 e45)
  rw [ef] at hiff
  cases h1:decide (xs.drop 1=[]) with
  | true =>
   rw [hN (fun h=>(hiff.1 h).1 (of_decide_eq_true h1))]
   exact (sRRead1 hM h0 h8 hx hn h1).ok β w hh
  | false =>
   have hne:=of_decide_eq_false h1
   obtain ⟨m,hm⟩:∃ m,(xs.drop 1).length=m:=⟨_,rfl⟩
   have hm0:0<m:=by rw [← hm]; exact List.length_pos_iff.2 hne
   obtain ⟨y0,hy⟩:∃ y0,(xs.drop 1).getD 0 0=y0:=⟨_,rfl⟩
   cases hz:((y0:Int)==48) with
   | true =>
    rw [hN (fun h=>(hiff.1 h).2.2 ⟨by rw [hy]; have:=beq_iff_eq.1 hz; omega,.inl (hhd.2 e45)⟩)]
    exact (sRRead2 hM h0 h8 hx hm hm0 hy hn h1 hz).ok β w hh
   | false =>
    have hz':=beq_eq_false_iff_ne.1 hz
    refine (rd_startN hM h0 h8 hx hm hm0 hy hn h1 hz res β w ?_).mono fun e w' h=>rd_specOf hres h
    have hv:sg true (dval (xs.drop 1))=rdN xs:=by
     rw [rdN_ref,if_pos (hhd.2 e45),ef]
     rfl
    refine rd_join (h8.drop 1) hm (by rw [← hm,List.length_drop]; omega) hv (fun h=>hY (hiff.2 ⟨hne,by rw [hm]; exact h,fun k=>hz' (by rw [← hy,k.1]; rfl)⟩)) (fun j hj hd=>hN (fun h=>hd ((hiff.1 h).2.1 j (by rw [hm]; exact hj)))) _ 0 0 none rfl (by omega) (by omega) (by omega) (fun j hj=>absurd hj (Nat.not_lt_zero j)) rfl
 | false =>
  have e45:¬ xs.head?=some 45:=fun h=>by
   have:=beq_eq_false_iff_ne.1 hn
   have:=hhd.1 h
   omega
  have ef:rdF xs=0:=if_neg e45
  rw [ef,List.drop_zero] at hiff
  have h1:decide (xs=[])=false:=decide_eq_false hnil
  have hv:sg false (dval xs)=rdN xs:=by
   rw [rdN_ref,if_neg e45,ef]
   rfl
  cases hz:((x0:Int)==48) with
  | true =>
   have e48:x0=48:=by
    have:=beq_iff_eq.1 hz
    omega
   cases hl1:decide (1<(M:Int)) with
   | true =>
    rw [hN (fun h=>(hiff.1 h).2.2 ⟨by rw [hx,e48],.inr (by rw [hM]; have:=of_decide_eq_true hl1; omega)⟩)]
    exact (sRRead3 hM h0 h8 hx hn h1 hz hl1).ok β w hh
   | false =>
    have hl2:=of_decide_eq_false hl1
    refine (rd_start0 hM h0 h8 hx hn h1 hz hl1 res β w ?_).mono fun e w' h=>rd_specOf hres h
    refine rd_join h8 hM (by omega) hv (fun h=>hY (hiff.2 ⟨hnil,by rw [hM]; exact h,fun k=>?_⟩)) (fun j hj hd=>hN (fun h=>hd ((hiff.1 h).2.1 j (by rw [hM]; exact hj)))) _ 0 0 none rfl (by omega) (by omega) (by omega) (fun j hj=>absurd hj (Nat.not_lt_zero j)) rfl
    rcases k.2 with k2 | k2
    · exact e45 k2
    · rw [hM] at k2
      omega
  | false =>
   have hz':=beq_eq_false_iff_ne.1 hz
   refine (rd_startP hM h0 h8 hx hn h1 hz res β w ?_).mono fun e w' h=>rd_specOf hres h
   refine rd_join h8 hM (by omega) hv (fun h=>hY (hiff.2 ⟨hnil,by rw [hM]; exact h,fun k=>hz' (by rw [← hx,k.1]; rfl)⟩)) (fun j hj hd=>hN (fun h=>hd ((hiff.1 h).2.1 j (by rw [hM]; exact hj)))) _ 0 0 none rfl (by omega) (by omega) (by omega) (fun j hj=>absurd hj (Nat.not_lt_zero j)) rfl
section
variable {xs:List Nat} (h8:B8 xs) (hl:xs.length≤100000)
def sRReadY {v:Int} (h:Rd xs) (hv:rdN xs=v):Spec Tryz.prog :=
 ⟨110,Tryz.call110,[stV xs],[],rdOk v,[],fun β w _=>rread_all h8 hl (fun _=>by rw [hv]) (fun k=>absurd h k) β w,by kernel_rfl⟩
def sRReadN (h:¬ Rd xs):Spec Tryz.prog :=
 ⟨110,Tryz.call110,[stV xs],[],rdNo,[],fun β w _=>rread_all h8 hl (fun k=>absurd k h) (fun _=>rfl) β w,by kernel_rfl⟩
end
end Go.Proofs.YthkpghhoffihmaaGreatDoor.Y
end
section
namespace Go.Proofs.YthkpghhoffihmaaGreatDoor
open Go
def splitU (b:UInt8):List UInt8→List (List UInt8)
 | []=>[[]]
 | x::r=>if x=b then []::splitU b r else match splitU b r with
  | p::ps=>(x::p)::ps
  | []=>[[x]]
theorem splitK_one (b:UInt8):∀ s:List UInt8,Lib.splitK [b] 0 (Lib.count s [b]) s=splitU b s
 | []=>by rw [Lib.count_one]; rfl
 | x::r=>by
  have ih:=splitK_one b r
  by_cases h:x=b
  · subst h
    have hix:Lib.index (x::r) [x]=0:=by rw [Lib.index]; simp [List.isPrefixOf]
    rw [Lib.count_cons_eq,Nat.add_comm,Lib.splitK,hix,if_neg (by decide)]
    unfold splitU
    rw [if_pos rfl,← ih]
    rfl
  · rw [Lib.count_cons_ne x b r h]
    unfold splitU
    rw [if_neg h,← ih]
    cases hk:Lib.count r [b] with
    | zero=>rfl
    | succ k =>
     have hp:([b]:List UInt8).isPrefixOf (x::r)=false:=by simp [List.isPrefixOf,Ne.symm h]
     have hix:Lib.index (x::r) [b]=if Lib.index r [b] == -1 then -1 else Lib.index r [b]+1:=by rw [Lib.index,hp]; simp
     have hm:Lib.index r [b] ≠ -1:=fun e=>by
      have:=Lib.count_miss e
      omega
     have hge:=Lib.index_ge r [b]
     obtain ⟨j,hj⟩:∃ j:Nat,Lib.index r [b]=j:=⟨(Lib.index r [b]).toNat,by omega⟩
     have hb:¬ (Lib.index r [b] == -1)=true:=fun e=>hm (beq_iff_eq.1 e)
     rw [if_neg hb] at hix
     have hb2:¬ (Lib.index (x::r) [b] == -1)=true:=fun e=>by
      have:=beq_iff_eq.1 e
      omega
     rw [Lib.splitK,Lib.splitK,if_neg hb,if_neg hb2,show (Lib.index (x::r) [b]).toNat=(Lib.index r [b]).toNat+1 by omega]
     show (x::r).take ((Lib.index r [b]).toNat+1+0)::Lib.splitK [b] 0 k ((x::r).drop ((Lib.index r [b]).toNat+1+1))=(x::r.take ((Lib.index r [b]).toNat+0))::Lib.splitK [b] 0 k (r.drop ((Lib.index r [b]).toNat+1))
     rfl
theorem u8_inj {x c:Nat} (hx:x<256) (hc:c<256):UInt8.ofNat x=UInt8.ofNat c↔x=c:=by
 refine ⟨fun h=>?_,fun h=>by rw [h]⟩
 have:=congrArg UInt8.toNat h
 simp [UInt8.toNat_ofNat'] at this
 omega
theorem splitU_nat {c:Nat} (hc:c<256):∀ xs:List Nat,B8 xs→splitU (UInt8.ofNat c) (xs.map UInt8.ofNat)=(splitL c xs).map (·.map UInt8.ofNat)
 | [],_=>rfl
 | x::r,h=>by
  have ih:=splitU_nat hc r h.tail
  rw [List.map_cons]
  unfold splitU splitL
  by_cases hx:x=c
  · rw [if_pos ((u8_inj h.head hc).2 hx),if_pos hx,ih]
    rfl
  · rw [if_neg fun e=>hx ((u8_inj h.head hc).1 e),if_neg hx,ih]
    cases splitL c r with
    | nil=>rfl
    | cons p ps=>rfl
theorem of_datas {l:List ByteArray} {m:List (List Nat)} (h:l.map (·.data.toList)=m.map (·.map UInt8.ofNat)):l=m.map strN:=by
 have e:l=(l.map (·.data.toList)).map fun u=>(⟨u.toArray⟩:ByteArray):=by
  rw [List.map_map]
  conv=>lhs; rw [← List.map_id l]
  exact List.map_congr_left fun x _=>rfl
 rw [e,h,List.map_map]
 rfl
theorem splitB_nat {c:Nat} (hc:c<256) (xs:List Nat) (h:B8 xs):Lib.splitB ⟨#[UInt8.ofNat c]⟩ 0 (Lib.countB (strN xs) ⟨#[UInt8.ofNat c]⟩) (strN xs)=(splitL c xs).map strN:=by
 refine of_datas ?_
 rw [Lib.splitB_data,← splitU_nat hc xs h,← splitK_one,strN_data,show (Lib.countB (strN xs) ⟨#[UInt8.ofNat c]⟩)=Lib.count (strN xs).data.toList [UInt8.ofNat c] from rfl,strN_data]
theorem splitL_len {c:Nat} (hc:c<256) (xs:List Nat) (h:B8 xs):Lib.countB (strN xs) ⟨#[UInt8.ofNat c]⟩+1=(splitL c xs).length:=by
 have h1:=Lib.splitB_all ⟨#[UInt8.ofNat c]⟩ (Nat.le_refl 1) 0 _ (strN xs) rfl
 rw [splitB_nat hc xs h,List.length_map] at h1
 exact h1.symm
theorem splitL_cons (c x:Nat) (r:List Nat):splitL c (x::r)=if x=c then []::splitL c r else match splitL c r with
  | p::ps=>(x::p)::ps
  | []=>[[x]]:=rfl
theorem splitL_out {c x:Nat} {r p:List Nat} {ps:List (List Nat)} (h:¬ x=c) (hq:splitL c r=p::ps):splitL c (x::r)=(x::p)::ps:=by rw [splitL_cons,if_neg h,hq]
theorem splitL_in {c:Nat} (r:List Nat):splitL c (c::r)=[]::splitL c r:=by rw [splitL_cons,if_pos rfl]
theorem cutA_out {x:Nat} (r:List Nat) (h:¬ x=47):cutA (x::r)=x::cutA r:=by rw [cutA,if_neg h]
theorem split_cutA:∀ xs:List Nat,(splitL 47 xs)[0]?=some (cutA xs)
 | []=>rfl
 | x::r=>by
  have ih:=split_cutA r
  by_cases h:x=47
  · subst h
    rw [splitL_in]
    rfl
  · cases hq:splitL 47 r with
    | nil=>exact absurd hq (split_ne 47 r)
    | cons p ps =>
     rw [hq] at ih
     have e:p=cutA r:=by simpa using ih
     rw [splitL_out h hq,e,cutA_out r h]
     rfl
theorem split_cutB:∀ xs:List Nat,(cutB xs=none∧splitL 47 xs=[xs])∨∃ r,cutB xs=some r∧splitL 47 xs=cutA xs::splitL 47 r
 | []=>.inl ⟨rfl,rfl⟩
 | x::r=>by
  by_cases h:x=47
  · subst h
    exact .inr ⟨r,by unfold cutB; rw [if_pos rfl],by rw [splitL_in]; unfold cutA; rw [if_pos rfl]⟩
  · rcases split_cutB r with ⟨h1,h2⟩ | ⟨t,h1,h2⟩
    · exact .inl ⟨by unfold cutB; rw [if_neg h]; exact h1,splitL_out h h2⟩
    · refine .inr ⟨t,by unfold cutB; rw [if_neg h]; exact h1,?_⟩
      rw [splitL_out h h2,cutA_out r h]
end Go.Proofs.YthkpghhoffihmaaGreatDoor
end
section
namespace Go.Proofs.YthkpghhoffihmaaGreatDoor
open Go Go.Shelf Go.RowKit
set_option maxRecDepth 100000
def splitRen:Go.Shelf.Ren:=⟨fun | 138=>315 | 143=>316 | 146=>94 | 195=>354 | 197=>355 | 217=>371 | 218=>356 | 219=>357 | 221=>217 | 224=>373 | 225=>372 | 260=>370 | 266=>379 | 267=>374 | 268=>314 | 314=>380 | n=>n,fun | 0=>0 | 3=>3 | 4=>4 | 5=>5 | 9=>9 | 21=>21 | 31=>134 | 46=>269 | 51=>278 | 105=>376 | 119=>388 | 138=>390 | 139=>391 | 146=>392 | n=>n,fun | 1=>0 | 3=>1 | 4=>2 | n=>n⟩
theorem splitLays:Go.Proofs.Lays.n146 Tryz.prog splitRen:={
 mixed:=by kernel_rfl
 f138:=Tryz.func315.trans (congrArg some (by kernel_rfl))
 f143:=Tryz.func316.trans (congrArg some (by kernel_rfl))
 f146:=Tryz.func94.trans (congrArg some (by kernel_rfl))
 f195:=Tryz.func354.trans (congrArg some (by kernel_rfl))
 f197:=Tryz.func355.trans (congrArg some (by kernel_rfl))
 f217:=Tryz.func371.trans (congrArg some (by kernel_rfl))
 f218:=Tryz.func356.trans (congrArg some (by kernel_rfl))
 f219:=Tryz.func357.trans (congrArg some (by kernel_rfl))
 f221:=Tryz.func217.trans (congrArg some (by kernel_rfl))
 f224:=Tryz.func373.trans (congrArg some (by kernel_rfl))
 f225:=Tryz.func372.trans (congrArg some (by kernel_rfl))
 f260:=Tryz.func370.trans (congrArg some (by kernel_rfl))
 f266:=Tryz.func379.trans (congrArg some (by kernel_rfl))
 f267:=Tryz.func374.trans (congrArg some (by kernel_rfl))
 f268:=Tryz.func314.trans (congrArg some (by kernel_rfl))
 f314:=Tryz.func380.trans (congrArg some (by kernel_rfl))
 t0:=Tryz.underlying0
 a0:=Tryz.isAgg0
 z0:=Tryz.sizeOf0
 v0:=Tryz.zeroValue0
 t3:=Tryz.underlying3
 a3:=Tryz.isAgg3
 z3:=Tryz.sizeOf3
 v3:=Tryz.zeroValue3
 t4:=Tryz.underlying4
 a4:=Tryz.isAgg4
 z4:=Tryz.sizeOf4
 v4:=Tryz.zeroValue4
 t5:=Tryz.underlying5
 a5:=Tryz.isAgg5
 z5:=Tryz.sizeOf5
 v5:=Tryz.zeroValue5
 t9:=Tryz.underlying9
 a9:=Tryz.isAgg9
 z9:=Tryz.sizeOf9
 v9:=Tryz.zeroValue9
 t21:=Tryz.underlying21
 a21:=Tryz.isAgg21
 z21:=Tryz.sizeOf21
 v21:=Tryz.zeroValue21
 t31:=Tryz.underlying134
 a31:=Tryz.isAgg134
 z31:=Tryz.sizeOf134
 v31:=Tryz.zeroValue134
 t46:=Tryz.underlying269
 a46:=Tryz.isAgg269
 z46:=Tryz.sizeOf269
 v46:=Tryz.zeroValue269
 t51:=Tryz.underlying278
 a51:=Tryz.isAgg278
 z51:=Tryz.sizeOf278
 v51:=Tryz.zeroValue278
 t105:=Tryz.underlying376
 a105:=Tryz.isAgg376
 z105:=Tryz.sizeOf376
 v105:=Tryz.zeroValue376
 t119:=Tryz.underlying388
 a119:=Tryz.isAgg388
 z119:=Tryz.sizeOf388
 t138:=Tryz.underlying390
 a138:=Tryz.isAgg390
 z138:=Tryz.sizeOf390
 v138:=Tryz.zeroValue390
 t139:=Tryz.underlying391
 a139:=Tryz.isAgg391
 z139:=Tryz.sizeOf391
 v139:=Tryz.zeroValue391
 t146:=Tryz.underlying392
 a146:=Tryz.isAgg392
 z146:=Tryz.sizeOf392
 v146:=Tryz.zeroValue392
 g1:=by kernel_rfl
 g3:=by kernel_rfl
 g4:=by kernel_rfl }
def cutSRen:Go.Shelf.Ren:=⟨fun | 104=>95 | 207=>317 | 211=>218 | n=>n,fun | 3=>3 | 4=>4 | 9=>9 | 24=>138 | n=>n,fun  | n=>n⟩
theorem cutSLays:Go.Proofs.Lays.n104 Tryz.prog cutSRen:={
 mixed:=by kernel_rfl
 f104:=Tryz.func95.trans (congrArg some (by kernel_rfl))
 f207:=Tryz.func317.trans (congrArg some (by kernel_rfl))
 f211:=Tryz.func218.trans (congrArg some (by kernel_rfl))
 t3:=Tryz.underlying3
 a3:=Tryz.isAgg3
 z3:=Tryz.sizeOf3
 v3:=Tryz.zeroValue3
 t4:=Tryz.underlying4
 a4:=Tryz.isAgg4
 z4:=Tryz.sizeOf4
 v4:=Tryz.zeroValue4
 t9:=Tryz.underlying9
 a9:=Tryz.isAgg9
 z9:=Tryz.sizeOf9
 v9:=Tryz.zeroValue9
 t24:=Tryz.underlying138
 a24:=Tryz.isAgg138
 z24:=Tryz.sizeOf138
 v24:=Tryz.zeroValue138 }
set_option maxHeartbeats 1000000 in
theorem split_ok (c:Nat) (hc:c<256) (xs:List Nat) (h8:B8 xs) (hl:xs.length<4294967281) (w:World) :
  Calls Tryz.prog 94 #[.string (strN xs),.string ⟨#[UInt8.ofNat c]⟩] w fun e w'=>e=.returned (.slice (some ⟨w.heap.size,0,none⟩) (splitL c xs).length (splitL c xs).length)∧w'=w.alloc (.cells (((splitL c xs).map strN).map Value.string).toArray 9):=by
 obtain ⟨sep,hsep⟩:∃ sep:ByteArray,sep=⟨#[UInt8.ofNat c]⟩:=⟨_,rfl⟩
 have h1:1≤sep.size:=by rw [hsep]; exact Nat.le_refl 1
 have hs:(strN xs).size<4294967281:=by rw [strN_size]; exact hl
 have hle:=Lib.countB_le sep h1 (strN xs).size (strN xs) (Nat.le_refl _)
 have hlen:=Lib.splitB_all sep h1 0 _ (strN xs) rfl
 have hI:∀ (x:ByteArray) (cc:Array Value),x.size≤(strN xs).size→Calls Tryz.prog (splitRen.f 143) #[.string x,.string sep] (w.alloc (.cells cc (splitRen.t 9))) fun e w'=>e=.returned (.int .i64 (Lib.indexB x sep))∧w'=w.alloc (.cells cc (splitRen.t 9)):=fun x cc _=>by
  subst hsep
  refine (Any.strings_Index_one { splitLays with } x (UInt8.ofNat c) _).mono fun e w' ⟨he,hw⟩=>⟨?_,hw⟩
  rw [he,← Lib.index_one]
 have hC:Calls Tryz.prog (splitRen.f 138) #[.string (strN xs),.string sep] w fun e w'=>e=.returned (.int .i64 (Lib.countB (strN xs) sep))∧w'=w:=by
  subst hsep
  refine (Any.strings_Count_one { splitLays with } (strN xs) (UInt8.ofNat c) w).mono fun e w' ⟨he,hw⟩=>⟨?_,hw⟩
  rw [he]
  show _=Ending.returned (Value.int .i64 ((Lib.count (strN xs).data.toList [UInt8.ofNat c]:Nat):Int))
  rw [Lib.count_one]
  rfl
 have c0:=Any.strings_genSplit_core (P:=Tryz.prog) (ρ:=splitRen) { splitLays with } (by kernel_rfl) (strN xs) sep 0 (-1) (Lib.countB (strN xs) sep+1) w hs h1 (Nat.zero_le _) hI hC (by decide) (by decide) (by rw [if_pos (by decide)]; omega)
 rw [Nat.add_sub_cancel,hlen] at c0
 have e2:Lib.cellsOf (Lib.splitB sep 0 (Lib.countB (strN xs) sep) (strN xs)) (Lib.countB (strN xs) sep+1)=((Lib.splitB sep 0 (Lib.countB (strN xs) sep) (strN xs)).map Value.string).toArray:=by rw [← hlen]; exact Lib.cellsOf_full _
 rw [e2] at c0
 subst hsep
 rw [splitB_nat hc xs h8,splitL_len hc xs h8] at c0
 generalize hq:(splitL c xs).length=q at c0 ⊢
 generalize hm:(((splitL c xs).map strN).map Value.string).toArray=cells at c0 ⊢
 have c1:Calls Tryz.prog 217 #[.string (strN xs),.string ⟨#[UInt8.ofNat c]⟩,.int .i64 ((0:Nat):Int),.int .i64 (-1)] w fun e w'=>e=.returned (.slice (some ⟨w.heap.size,0,none⟩) q q)∧w'=w.alloc (.cells cells 9):=c0
 clear c0 hI hC hle hlen e2 hq hm
 go_enter Tryz.func94,Tryz.ntmps94
 go_wp2_with (go_at_call 217; refine c1.mono ?_; rintro e w' ⟨rfl,hw⟩; rw [hw])
 go_ret
 exact ⟨rfl,rfl⟩
end Go.Proofs.YthkpghhoffihmaaGreatDoor
end
section
namespace Go.Proofs.YthkpghhoffihmaaGreatDoor.Y
open Go Go.RowKit
set_option maxRecDepth 100000
def RwD (sz n:Nat) (L:Nat→List Lf) (w:World) (g:Pl):Prop :=
 (n=0∧∀ c,¬ g.F c)∨(0<n∧∃ b o cs t fr,(∀ m,g.v m=some ⟨b,o+m,none⟩)∧(∀ c,g.F c↔c=b)∧w.heap[b]?=some (.cells cs t fr)∧∀ j,j<n→w.rangeAt b (o+j*sz) ((L j).map (Lf.den idE)))
theorem RwD.heap {sz n:Nat} {L:Nat→List Lf} {w w':World} {g:Pl} (h:RwD sz n L w g) (k:∀ b,g.F b→w'.heap[b]?=w.heap[b]?):RwD sz n L w' g:=by
 rcases h with h | ⟨h0,b,o,cs,t,fr,h1,h2,h3,h4⟩
 · exact .inl h
 · have e:=k b ((h2 b).2 rfl)
   refine .inr ⟨h0,b,o,cs,t,fr,h1,h2,by rw [e]; exact h3,fun j hj i v hv=>?_⟩
   have:=h4 j hj i v hv
   rw [cell_of_row _ _ _ _ _ _ h3] at this
   rw [cell_of_row _ _ _ _ _ _ (by rw [e]; exact h3)]
   exact this
theorem RwD.lt {sz n:Nat} {L:Nat→List Lf} {w:World} {g:Pl} (h:RwD sz n L w g) (c:Nat) (hc:g.F c):c<w.heap.size:=by
 rcases h with h | ⟨h0,b,o,cs,t,fr,h1,h2,h3,h4⟩
 · exact absurd hc (h.2 c)
 · rw [(h2 c).1 hc]
   exact heap_some_lt h3
theorem lsRw_stable (sz n:Nat) (L:Nat→List Lf):Stable (RwD sz n L) :=
 ⟨fun w g h c hc=>h.lt c hc,fun w w' g h k=>h.heap fun b hb=>k.block b (h.lt b hb),
  fun w w' g b o m s h hs ht hF=>h.heap fun c hc=>ht.block c (h.lt c hc) (fun e=>hF (e▸hc))⟩
def rwT (sz n:Nat) (L:Nat→List Lf):Thing:=thing (RwD sz n L) (lsRw_stable sz n L)
def lsYOf:SV→Nat
 | .one (.c (.b (.y k _ _)))=>k
 | _=>0
def lsZOf:SV→Nat
 | .one (.c (.b (.z k _)))=>k
 | _=>0
theorem ls_ix {T:TypeId} (hu:Tryz.prog.underlying T=some (.slice (Tryz.prog.elem T))) {sz:Nat} (hs:(Tryz.prog.info? (Tryz.prog.elem T)).map (·.size)=some sz) {n N j:Nat} {L:Nat→List Lf} (hj:j<n) (hN:n≤N) (k:Nat) (x y:Operand) (β:Env) (w:World) (h:holdsAll β w [(k,(rwT sz N L).ob)]) (ρ:Operand→Value) (o:Oper) (ho:o.op=.indexAddr T x y)
  (hx:(Op.indexAddr T x y).operands.toList.map ρ=[.slice ((β k).v 0) n ((β k).c 0),.int .i64 (j:Int)]):∃ ys w',fresh β w [(k,(rwT sz N L).ob)] ys∧(execOp ρ o).run Tryz.prog w=.ok (.value ((SV.one (.c (.b (.z k (j*sz))))).den (extE β 0 ys))) w'∧newHold w' [] ys∧Below w.heap.size w w':=by
 have h1:RwD sz N L w (β k):=h _ (List.mem_singleton.2 rfl)
 have h3:ρ x=.slice ((β k).v 0) n ((β k).c 0)∧ρ y=.int .i64 (j:Int):=by simpa [Op.operands] using hx
 rcases h1 with h1 | ⟨h0,b,of,cs,t,fr,h1,h2,h4,h5⟩
 · omega
 refine ⟨[],w,(fun _ h=>by cases h),?_,trivial,Below.refl _ _⟩
 unfold execOp
 rw [ho]
 dsimp only
 rw [h3.1,h3.2,h1 0]
 have e:((SV.one (.c (.b (.z k (j*sz))))).den (extE β 0 []))=.pointer (some ⟨b,of+j*sz,none⟩):=by
  show Value.pointer ((β k).v (j*sz))=_
  rw [h1]
 rw [e]
 have hz:((sizeOf (Tryz.prog.elem T)).run Tryz.prog w)=.ok sz w:=by
  cases hq:Tryz.prog.info? (Tryz.prog.elem T) with
  | none=>simp [hq] at hs
  | some i =>
   have hs:i.size=sz:=by simpa [hq] using hs
   simp [sizeOf,typeInfo,hq,hs]
 have h6:=run_indexAt_slice (P:=Tryz.prog) (w:=w) T ⟨b,of,none⟩ n ((β k).c 0) .i64 (j:Int) hu
 rw [if_pos ⟨by omega,by omega⟩,hz] at h6
 simp only [Result.andThen_ok,Int.toNat_natCast,Addr.add_mid] at h6
 simp [go_sem,Nat.add_zero,h6]
def eIx {T:TypeId} (hu:Tryz.prog.underlying T=some (.slice (Tryz.prog.elem T))) {sz:Nat} (hs:(Tryz.prog.info? (Tryz.prog.elem T)).map (·.size)=some sz) {n N j:Nat} (L:Nat→List Lf) (hj:j<n) (hN:n≤N):Ev Tryz.prog:=.dyn (fun o _ _=>match o.op with
 | .indexAddr t _ _=>Nat.beq t T
 | _=>false) fun o xs _=>match o.op with
 | .indexAddr _ x y=>lit (lsYOf (xs.getD 0 undefS)) fun k=>.rd (o.dst.getD 0) (.indexAddr T x y) (fun β=>[.slice ((β k).v 0) n ((β k).c 0),.int .i64 (j:Int)]) [(k,(rwT sz N L).ob)] 0 (.one (.c (.b (.z k (j*sz))))) [] (fun β w h ρ o ho hx=>ls_ix hu hs hj hN k x y β w h ρ o ho hx)
 | _=>.cut
section
variable {xs:List Nat} (h8:B8 xs)
def sWReadY {v:Int} (hl:xs.length≤40000) (h:Rd xs) (hv:rdN xs=v) (hf:(mag v.natAbs).size≤16384):Spec Tryz.prog :=
 ⟨109,Tryz.call109,[stV xs],[],rdOk v,[],fun β w _=>(WRead_any h8).mono fun e w' ⟨r,k,he,ha,hb⟩=>⟨[],(fun _ h=>by cases h),by
  subst hv
  rcases ha with ⟨_,_,_,rfl,rfl⟩ | ⟨hn,_,_⟩
  · rw [he]
    rfl
  · exact absurd ⟨h,hl,hf⟩ hn,trivial,hb⟩,by kernel_rfl⟩
noncomputable def sWReadN (h:¬ (Rd xs∧xs.length≤40000∧(mag (rdN xs).natAbs).size≤16384)):Spec Tryz.prog :=
 ⟨109,Tryz.call109,[stV xs],[],.tup [.a w00,nI' (wrK xs)],[],fun β w _=>(WRead_any h8).mono fun e w' ⟨r,k,he,ha,hb⟩=>⟨[],(fun _ h=>by cases h),by
  rcases ha with ⟨h1,h2,h3,_⟩ | ⟨_,rfl,hk,_⟩
  · exact absurd ⟨h1,h2,h3⟩ h
  · rw [he,hk]
    rfl,trivial,hb⟩,by kernel_rfl⟩
end
theorem wrK_ne {xs:List Nat}:(!(wrK xs==0))=true:=by
 unfold wrK
 split
 · rfl
 · split<;>rfl
def spL (ps:List (List Nat)) (j:Nat):List Lf:=[.b (.v (.string (strN (ps.getD j []))))]
def sSplit (c:Nat) (hc:c<256) (xs:List Nat) (h8:B8 xs) (hl:xs.length<4294967281) (n:Nat) (hn:(splitL c xs).length=n):Spec Tryz.prog :=
 ⟨94,Tryz.call94,[stV xs,.one (.c (.b (.v (.string ⟨#[UInt8.ofNat c]⟩))))],[],.one (.c (.b (.y 0 0 n))),[rwT 1 n (spL (splitL c xs))],fun β w _=>(split_ok c hc xs h8 hl w).mono fun e w' ⟨he,hw⟩=>by
  rw [hn] at he
  refine ⟨[⟨w.heap.size,fun m=>some ⟨w.heap.size,m,none⟩,fun _=>n,fun c=>c=w.heap.size,fun _=>undef⟩],fun x hx c hc=>?_,?_,⟨?_,trivial⟩,?_⟩
  · obtain rfl:=List.mem_singleton.1 hx
    exact .inl (Nat.le_of_eq hc.symm)
  · rw [he]
    rfl
  · refine .inr ⟨?_,w.heap.size,0,_,_,_,fun m=>by rw [Nat.zero_add],fun c=>Iff.rfl,by rw [hw]; exact heap_alloc_new w _,fun j hj i v hv=>?_⟩
    · rw [← hn]
      exact List.length_pos_iff.2 (split_ne c xs)
    · have hi:i=0:=by
       rcases Nat.eq_zero_or_pos i with h | h
       · exact h
       · rw [List.getElem?_eq_none (by simp [spL]; omega)] at hv
         cases hv
      subst hi
      have hv2:v=.string (strN ((splitL c xs).getD j [])):=(Option.some.inj hv).symm
      subst hv2
      rw [hw,Nat.add_zero,Nat.zero_add,Nat.mul_one]
      have hjl:j<(splitL c xs).length:=by rw [hn]; exact hj
      have h2:=World.cell?_alloc_new w (((splitL c xs).map strN).map Value.string).toArray 9 j
      rw [h2,List.getElem?_toArray,List.getElem?_map,List.getElem?_map,List.getElem?_eq_getElem hjl,List.getD_eq_getElem?_getD,List.getElem?_eq_getElem hjl]
      rfl
  · rw [hw]
    exact (Below.refl _ _).alloc (Nat.le_refl _) _,by kernel_rfl⟩
theorem sp_s:(Tryz.prog.info? (Tryz.prog.elem 134)).map (·.size)=some 1:=by kernel_rfl
def eSpI {n j:Nat} (ps:List (List Nat)) (hj:j<n):Ev Tryz.prog:=eIx (T:=134) Tryz.underlying134 sp_s (n:=n) (N:=n) (j:=j) (spL ps) hj (Nat.le_refl n)
theorem sp_ld {n j:Nat} {ps:List (List Nat)} (hj:j<n) (k:Nat) (x:Operand) (β:Env) (w:World) (h:holdsAll β w [(k,(rwT 1 n (spL ps)).ob)]) (ρ:Operand→Value) (o:Oper) (ho:o.op=.load 9 x)
  (hx:(Op.load 9 x).operands.toList.map ρ=[.pointer ((β k).v (j*1))]):∃ ys w',fresh β w [(k,(rwT 1 n (spL ps)).ob)] ys∧(execOp ρ o).run Tryz.prog w=.ok (.value ((stV (ps.getD j [])).den (extE β 0 ys))) w'∧newHold w' [] ys∧Below w.heap.size w w':=by
 have h1:RwD 1 n (spL ps) w (β k):=h _ (List.mem_singleton.2 rfl)
 have h3:ρ x=.pointer ((β k).v (j*1)):=by simpa [Op.operands] using hx
 rcases h1 with h1 | ⟨h0,b,of,cs,t,fr,h1,h2,h4,h5⟩
 · omega
 refine ⟨[],w,(fun _ h=>by cases h),?_,trivial,Below.refl _ _⟩
 have hc:w.cell? ⟨b,of+j*1,none⟩=some (.string (strN (ps.getD j []))):=h5 j hj 0 _ rfl
 have h6:(Instr.loadAt 9 (.pointer (some ⟨b,of+j*1,none⟩))).run Tryz.prog w=.ok (.string (strN (ps.getD j []))) w:=by
  have a1:=Tryz.isAgg9
  have hc2:=hc
  rw [Nat.mul_one] at hc2
  simp [Instr.loadAt,Instr.sureAddr,loadVar,a1,hc2]
 unfold execOp
 rw [ho]
 dsimp only
 rw [h3,h1]
 simp only [Sem.run_bind,h6,Result.andThen_ok]
 rfl
def eSpL {n j:Nat} (ps:List (List Nat)) (hj:j<n):Ev Tryz.prog:=.dyn (fun o xs _=>match o.op with
 | .load t _=>Nat.beq t 9
 | _=>false) fun o xs _=>match o.op with
 | .load _ x=>lit (lsZOf (xs.getD 0 undefS)) fun k=>.rd (o.dst.getD 0) (.load 9 x) (fun β=>[.pointer ((β k).v (j*1))]) [(k,(rwT 1 n (spL ps)).ob)] 0 (stV (ps.getD j [])) [] (fun β w h ρ o ho hx=>sp_ld hj k x β w h ρ o ho hx)
 | _=>.cut
abbrev KC:Nat:=1000000
structure RQ where
 a:Rat
 b:GQ
 c:Rat
structure RSz (k:Nat) (r:RQ):Prop where
 a:Sz k r.a
 b:GSz k r.b
 c:Sz k r.c
def rpow (r:RQ):Rat:=gnorm r.b-r.a*r.c
def rbyQ (i j:Bool) (r:RQ):Rat:=bif i then (bif j then r.b.im else r.b.re) else r.a
def rnm (r:RQ) (x:Rat):RQ:=⟨r.a*x⁻¹,gscale r.b x⁻¹,r.c*x⁻¹⟩
def FitC (m:RQ):Prop:=Fit m.a∧FitG m.b∧Fit m.c
section
variable {r:RQ} (h:RSz KC r) {i j:Bool} (hi:decide (r.a=0)=i) (hj:decide (r.b.re=0)=j) (h0:rbyQ i j r≠0)
include h hi hj h0
end
def rby (r:RQ):Rat:=rbyQ (decide (r.a=0)) (decide (r.b.re=0)) r
def rone (r:RQ):RQ:=rnm r (rby r)
inductive Fn where
 | ok (x:Rat) (h:Fit x)
 | no (f:Fr) (h:f.a.B=false)
def Fn.fr:Fn→Fr
 | .ok x h=>frX x h
 | .no f _=>f
def Fn.r (a:Fn):R4:=a.fr.r
structure MayC (r:RQ):Prop where
 fit:FitC r
 pow:decide ((rpow r).num.sign≤0)=false
 one:rone r=r
structure CkNo (l:List Lf):Prop where
 cl:l.all (Lf.of fun _=>false)=true
 prog:∀ (β:Env) (w:World),Calls Tryz.prog 173 (([.one (.a l)]:List SV).map (SV.den β)).toArray w fun e w'=>e=.returned (.int .i64 2)∧Below w.heap.size w w'
 ref:∀ (β:Env) (w:World),Calls Tryz.prog 64 (([.one (.a l)]:List SV).map (SV.den β)).toArray w fun e w'=>e=.returned (.int .i64 2)∧Below w.heap.size w w'
inductive Cp where
 | ok (r:RQ) (h:MayC r)
 | no (a b b' c:R4) (h:CkNo (rL a++(rL b++rL b')++rL c))
def Cp.a:Cp→R4
 | .ok r _=>fR r.a
 | .no a _ _ _ _=>a
def Cp.b:Cp→R4
 | .ok r _=>fR r.b.re
 | .no _ b _ _ _=>b
def Cp.c:Cp→R4
 | .ok r _=>fR r.c
 | .no _ _ _ c _=>c
section
variable (b c:Bool) (s t:ByteArray) (hs:s.size≤maxLen) (ht:t.size≤maxLen) (h:¬ IsFrac (rawV b c s t))
abbrev rwC (b c:Bool) (s t:ByteArray):List Lf:=[.b (.v (.bool b)),.b (.v (.string s)),.b (.v (.bool c)),.b (.v (.string t))]
end
def sFInt0 {d:Nat} (hd:d=1):Spec Tryz.prog:=(sFIntA 0 (by decide)).conv (.one (.a [.b (.v (.bool false)),.b (.v (.string (mag 0))),.b (.v (.bool false)),.b (.v (.string (mag d)))])) (by
 show SV.one (.a (fC (Rat.divInt 0 1)))=_
 rw [fC_int,hd]
 rfl)
def sFTextN (b c:Bool) (s t:ByteArray) (hs:s.size≤maxLen) (ht:t.size≤maxLen) (h:¬ IsFrac (rawV b c s t)):Spec Tryz.prog :=
 ⟨21,Tryz.call21,[.one (.a (rwC b c s t))],[],.tup [.c (.b (.v (.string ⟨#[]⟩))),nI' 2],[],fun β w hh=>by
  refine (FText_any b c s t hs ht).mono ?_
  rintro e w' ⟨v,k,rfl,⟨y,hf,hy,rfl,rfl⟩ | ⟨hn,rfl,rfl⟩,hb⟩
  · exact absurd ⟨y,hf,hy⟩ h
  · exact ⟨[],(fun _ h=>by cases h),rfl,trivial,hb⟩,by kernel_rfl⟩
abbrev frNo:SV:=.tup [.a [.b (.v (.bool false)),.b (.v (.string ⟨#[]⟩)),.b (.v (.bool false)),.b (.v (.string ⟨#[]⟩))],nI' 130]
theorem sp_len {xs:List Nat} {ps:List (List Nat)} {N:Nat} (hps:splitL 47 xs=ps) (hN:ps.length=N):(splitL 47 xs).length=N:=by rw [hps,hN]
def frSplit {xs:List Nat} (h8:B8 xs) (hl:xs.length<4294967281) {ps:List (List Nat)} {N:Nat} (hps:splitL 47 xs=ps) (hN:ps.length=N):Spec Tryz.prog :=
 ⟨94,Tryz.call94,[stV xs,.one (.c (.b (.v (.string ⟨#[47]⟩))))],[],.one (.c (.b (.y 0 0 N))),[rwT 1 N (spL ps)],fun β w hh=>by
  have:=(sSplit 47 (by decide) xs h8 hl N (sp_len hps hN)).ok β w hh
  rw [← hps]
  exact this,by kernel_rfl⟩
def frA {xs:List Nat} (h8:B8 xs) (hl:xs.length<4294967281) {ps:List (List Nat)} {N:Nat} (hps:splitL 47 xs=ps) (hN:ps.length=N) (h0:0<N) {d:Nat} (hd:d=1) (S:Ev Tryz.prog):List (Ev Tryz.prog) :=
 [(sFInt0 hd).e,(frSplit h8 hl hps hN).e,.eqv 16 (.bool (decide ((0:Int)<(N:Int)))) (.bool true) (lt_lit (decide_eq_true (by omega))),eSpI (n:=N) (j:=0) ps h0,eSpL (n:=N) (j:=0) ps h0,S]
def frB {ps:List (List Nat)} {N:Nat} (h1:1<N) (S:Ev Tryz.prog):List (Ev Tryz.prog) :=
 [.eqv 16 (.bool (decide ((1:Int)<(N:Int)))) (.bool true) (lt_lit (decide_eq_true (by omega))),eSpI (n:=N) (j:=1) ps h1,eSpL (n:=N) (j:=1) ps h1,S]
def frE {N:Nat} (h1:N=1):Ev Tryz.prog:=.eqv 16 (.bool (decide ((1:Int)<(N:Int)))) (.bool false) (lt_lit (decide_eq_false (by omega)))
noncomputable def frBad (p:List Nat):Ev Tryz.prog:=.eqv 27 (.bool (!(wrK p==0))) (.bool true) (by rw [wrK_ne])
def Wok (p:List Nat):Prop:=Rd p∧p.length≤40000∧(mag (rdN p).natAbs).size≤16384
def frW {p:List Nat} (b0:B8 p) (k0:Wok p) {v:Int} (hv:rdN p=v):Spec Tryz.prog:=sWReadY b0 k0.2.1 k0.1 hv (by rw [← hv]; exact k0.2.2)
def frD {p:List Nat} (b0:B8 p) (k0:Wok p) {d:Nat} (hv:rdN p=(d:Int)):Spec Tryz.prog:=(frW b0 k0 hv).conv (.tup [.a [.b (.v (.bool false)),.b (.v (.string (mag d)))],.c (.b (.v (.int .i64 0)))]) (by
 show rdOk (d:Int)=_
 unfold rdOk
 rw [show decide ((d:Int)<0)=false from decide_eq_false (by omega),Int.natAbs_natCast])
section
variable {xs:List Nat} (h8:B8 xs) (hl:xs.length<4294967281) {ps:List (List Nat)} {N:Nat} (hps:splitL 47 xs=ps) (hN:ps.length=N) (h0:0<N)
section
variable (b0:B8 (ps.getD 0 [])) (b1:B8 (ps.getD 1 []))
noncomputable def sFRd1 (h:¬ Wok (ps.getD 0 [])):Spec Tryz.prog :=
 Spec.auto Tryz.call22 [stV xs] [] frNo [] (frA h8 hl hps hN h0 rfl (sWReadN b0 h).e++[frBad (ps.getD 0 [])]) [] 400 Tryz.func22 hmA (by kernel_rfl) (fun β=>by kernel_rfl)
variable {v:Int} (k0:Wok (ps.getD 0 [])) (hv:rdN (ps.getD 0 [])=v)
noncomputable def sFRd2 {x:Rat} (hx:Fit x) (hd:x.den=1) (hv:rdN (ps.getD 0 [])=x.num) (h1:N=1) (he:decide (textQ x=strN xs)=true):Spec Tryz.prog :=
 Spec.auto Tryz.call22 [stV xs] [] (.tup [.a (fC x),nI' 0]) [] (frA h8 hl hps hN h0 hd (frW b0 k0 hv).e++[frE h1,(sFText hx rfl).e,eStrNe (textQ x) (strN xs) he]) [] 400 Tryz.func22 hmA (by kernel_rfl) (fun β=>by kernel_rfl)
noncomputable def sFRd3 (h1:N=1) (hs:(mag v.natAbs).size≤maxLen) (hn:¬ IsFrac (rawV (decide (v<0)) false (mag v.natAbs) (mag 1))):Spec Tryz.prog :=
 Spec.auto Tryz.call22 [stV xs] [] frNo [] (frA h8 hl hps hN h0 rfl (frW b0 k0 hv).e++[frE h1,(sFTextN _ _ _ _ hs (by rw [mag_1]; decide) hn).e]) [] 400 Tryz.func22 hmA (by kernel_rfl) (fun β=>by kernel_rfl)
noncomputable def sFRd4 (h1:1<N) (h:¬ Wok (ps.getD 1 [])):Spec Tryz.prog :=
 Spec.auto Tryz.call22 [stV xs] [] frNo [] (frA h8 hl hps hN h0 rfl (frW b0 k0 hv).e++frB (ps:=ps) h1 (sWReadN b1 h).e++[frBad (ps.getD 1 [])]) [] 400 Tryz.func22 hmA (by kernel_rfl) (fun β=>by kernel_rfl)
variable (k1:Wok (ps.getD 1 []))
noncomputable def sFRd5 {w:Int} (h1:1<N) (hw:rdN (ps.getD 1 [])=w) (hs:(mag v.natAbs).size≤maxLen) (ht:(mag w.natAbs).size≤maxLen) (hn:¬ IsFrac (rawV (decide (v<0)) (decide (w<0)) (mag v.natAbs) (mag w.natAbs))):Spec Tryz.prog :=
 Spec.auto Tryz.call22 [stV xs] [] frNo [] (frA h8 hl hps hN h0 rfl (frW b0 k0 hv).e++frB (ps:=ps) h1 (frW b1 k1 hw).e++[(sFTextN _ _ _ _ hs ht hn).e]) [] 400 Tryz.func22 hmA (by kernel_rfl) (fun β=>by kernel_rfl)
section
variable {x:Rat} (hx:Fit x) (hv:rdN (ps.getD 0 [])=x.num) (hw:rdN (ps.getD 1 [])=(x.den:Int)) (h1:1<N)
noncomputable def sFRd6 (he:decide (textQ x=strN xs)=true):Spec Tryz.prog :=
 Spec.auto Tryz.call22 [stV xs] [] (.tup [.a (fC x),nI' 0]) [] (frA h8 hl hps hN h0 rfl (frW b0 k0 hv).e++frB (ps:=ps) h1 (frD b1 k1 hw).e++[(sFText hx rfl).e,eStrNe (textQ x) (strN xs) he]) [] 400 Tryz.func22 hmA (by kernel_rfl) (fun β=>by kernel_rfl)
noncomputable def sFRd7 (he:decide (textQ x=strN xs)=false):Spec Tryz.prog :=
 Spec.auto Tryz.call22 [stV xs] [] frNo [] (frA h8 hl hps hN h0 rfl (frW b0 k0 hv).e++frB (ps:=ps) h1 (frD b1 k1 hw).e++[(sFText hx rfl).e,eStrNe (textQ x) (strN xs) he]) [] 400 Tryz.func22 hmA (by kernel_rfl) (fun β=>by kernel_rfl)
end
end
end
end Go.Proofs.YthkpghhoffihmaaGreatDoor.Y
end
section
namespace Go.Proofs.YthkpghhoffihmaaGreatDoor
open Go
theorem B8_tq (x:Rat):B8 (tqL x):=by
 unfold tqL
 split
 · exact B8_txt _
 · exact (B8_txt _).app (fun y hy=>by
    rcases List.mem_cons.1 hy with rfl | hy
    · decide
    · exact B8_txt _ y hy)
theorem txt_short {n:Int} (h:(mag n.natAbs).size≤1024):(txt n).length≤8193:=by
 have h1:=textN_len n
 rw [textN_size] at h1
 have h2:(dig n.natAbs).length≤256:=by
  rw [mag_size] at h
  have:=dig_len_bytes n.natAbs
  omega
 omega
theorem tq_short {x:Rat} (hx:Fit x):(tqL x).length≤16387:=by
 have h1:=txt_short hx.1
 have h2:=txt_short (n:=(x.den:Int)) (by rw [Int.natAbs_natCast]; exact hx.2)
 unfold tqL
 split
 · omega
 · rw [List.length_append,List.length_cons]
   omega
theorem split_mem (c:Nat):∀ xs:List Nat,∀ p∈splitL c xs,∀ y∈p,y∈xs
 | [],p,hp,y,hy=>by
  have:p=[]:=by simpa [splitL] using hp
  subst this
  cases hy
 | x::r,p,hp,y,hy=>by
  have ih:=split_mem c r
  rw [splitL_cons] at hp
  split at hp
  · rcases List.mem_cons.1 hp with rfl | hp
    · cases hy
    · exact List.mem_cons_of_mem _ (ih p hp y hy)
  · split at hp
    · rename_i q qs hq
      rw [hq] at ih
      rcases List.mem_cons.1 hp with rfl | hp
      · rcases List.mem_cons.1 hy with rfl | hy
        · exact List.mem_cons_self ..
        · exact List.mem_cons_of_mem _ (ih q (List.mem_cons_self ..) y hy)
      · exact List.mem_cons_of_mem _ (ih p (List.mem_cons_of_mem _ hp) y hy)
    · have:p=[x]:=by simpa using hp
      subst this
      have:y=x:=by simpa using hy
      subst this
      exact List.mem_cons_self ..
theorem B8_part {c:Nat} {xs:List Nat} (h:B8 xs) (j:Nat):B8 ((splitL c xs).getD j []):=by
 rw [List.getD_eq_getElem?_getD]
 cases hq:(splitL c xs)[j]? with
 | none=>exact B8.nil
 | some p=>exact fun y hy=>h y (split_mem c xs p (List.mem_of_getElem? hq) y hy)
theorem raw_num {v w:Int} {x:Rat} (h:(Value.agg #[.bool (decide (v<0)),.string (mag v.natAbs),.bool (decide (w<0)),.string (mag w.natAbs)])=fracV x):v=x.num∧w=(x.den:Int):=by
 obtain ⟨h1,h2,h3,h4⟩:=agg4 h
 have e2:=mag_inj h2
 have e4:=mag_inj h4
 have e3:¬ w<0:=of_decide_eq_false h3
 have e1:(v<0)↔(x.num<0):=by rw [← decide_eq_decide]; exact h1
 omega
end Go.Proofs.YthkpghhoffihmaaGreatDoor
namespace Go.Proofs.YthkpghhoffihmaaGreatDoor.Y
open Go Go.RowKit
set_option maxRecDepth 100000
theorem hh0 (β:Env) (w:World):∀ (k:Nat) (t:Thing),([]:List Thing)[k]?=some t→t.D w (β k):=fun k t h=>by simp at h
theorem wok_txt {n:Int} (h:(mag n.natAbs).size≤1024):Wok (txt n):=⟨(rd_txt n).1,Nat.le_trans (txt_short h) (by decide),by rw [(rd_txt n).2]; exact Nat.le_trans h (by decide)⟩
theorem part0 (xs:List Nat):(splitL 47 xs).getD 0 []=cutA xs:=by rw [List.getD_eq_getElem?_getD,split_cutA]; rfl
theorem part1 {xs r:List Nat} (h:splitL 47 xs=cutA xs::splitL 47 r):(splitL 47 xs).getD 1 []=cutA r:=by
 rw [h]
 show (splitL 47 r).getD 0 []=_
 exact part0 r
theorem tq_dec {x:Rat} {xs:List Nat} (h8:B8 xs) {b:Bool} (h:decide (tqL x=xs)=b):decide (textQ x=strN xs)=b:=by
 rw [← h,textQ_tq]
 exact decide_eq_decide.2 ⟨fun e=>strN_inj (B8_tq x) h8 e,fun e=>by rw [e]⟩
theorem fread_yes {x:Rat} (hx:Fit x) (β:Env) (w:World):Calls Tryz.prog 22 (([stV (tqL x)]:List SV).map (SV.den β)).toArray w fun e w'=>∃ ys:List Pl,freshS β w 0 ys∧e=.returned ((SV.tup [.a (fC x),nI' 0]).den (extE β 0 ys))∧newHold w' [] ys∧Below w.heap.size w w':=by
 have h8:=B8_tq x
 have hl:(tqL x).length<4294967281:=by have:=tq_short hx; omega
 have hlen:0<(splitL 47 (tqL x)).length:=List.length_pos_iff.2 (split_ne 47 _)
 have he:=tq_dec (x:=x) h8 (decide_eq_true rfl)
 obtain ⟨hr,hn,hd⟩:=tq_read x
 rcases hd with ⟨hd,hB⟩ | ⟨hd,r,hB,hr2,hn2⟩
 · have hA:(splitL 47 (tqL x)).getD 0 []=txt x.num:=by rw [part0,(tq_one hd).1]
   have hN:(splitL 47 (tqL x)).length=1:=by
    rcases split_cutB (tqL x) with ⟨_,h⟩ | ⟨r,h,_⟩
    · rw [h]
      rfl
    · rw [hB] at h
      cases h
   exact (sFRd2 h8 hl rfl rfl hlen (by rw [hA]; exact B8_txt _) (by rw [hA]; exact wok_txt hx.1) hx hd (by rw [hA]; exact (rd_txt _).2) hN he).ok β w (hh0 β w)
 · have hA:(splitL 47 (tqL x)).getD 0 []=txt x.num:=by rw [part0,(tq_two hd).1]
   have hB2:cutB (tqL x)=some (txt (x.den:Int)):=(tq_two hd).2
   rcases split_cutB (tqL x) with ⟨h,_⟩ | ⟨r',h,hs⟩
   · rw [h] at hB2
     cases hB2
   · rw [h] at hB2
     obtain rfl:=Option.some.inj hB2
     have hA1:(splitL 47 (tqL x)).getD 1 []=txt (x.den:Int):=by rw [part1 hs,(cutA_all (txt_no _)).1]
     have hN:1<(splitL 47 (tqL x)).length:=by
      rw [hs,List.length_cons]
      have:0<(splitL 47 (txt (x.den:Int))).length:=List.length_pos_iff.2 (split_ne 47 _)
      omega
     exact (sFRd6 h8 hl rfl rfl hlen (by rw [hA]; exact B8_txt _) (by rw [hA1]; exact B8_txt _) (by rw [hA]; exact wok_txt hx.1) (by rw [hA1]; exact wok_txt (by rw [Int.natAbs_natCast]; exact hx.2)) hx (by rw [hA]; exact (rd_txt _).2) (by rw [hA1]; exact (rd_txt _).2) hN he).ok β w (hh0 β w)
theorem fread_no {xs:List Nat} (h8:B8 xs) (hl:xs.length<4294967281) (h:∀ x,Fit x→tqL x≠xs) (β:Env) (w:World):Calls Tryz.prog 22 (([stV xs]:List SV).map (SV.den β)).toArray w fun e w'=>∃ ys:List Pl,freshS β w 0 ys∧e=.returned (frNo.den (extE β 0 ys))∧newHold w' [] ys∧Below w.heap.size w w':=by
 have hlen:0<(splitL 47 xs).length:=List.length_pos_iff.2 (split_ne 47 _)
 have b0:=B8_part (c:=47) h8 0
 have b1:=B8_part (c:=47) h8 1
 have big:∀ p:List Nat,Wok p→(mag (rdN p).natAbs).size≤maxLen:=fun p hp=>Nat.le_trans hp.2.2 (by decide)
 by_cases k0:Wok ((splitL 47 xs).getD 0 [])
 rotate_left
 · exact (sFRd1 h8 hl rfl rfl hlen b0 k0).ok β w (hh0 β w)
 rcases split_cutB xs with ⟨hB,hs⟩ | ⟨r,hB,hs⟩
 · have hN:(splitL 47 xs).length=1:=by rw [hs]; rfl
   refine (sFRd3 h8 hl rfl rfl hlen b0 k0 rfl hN (big _ k0) fun hf=>?_).ok β w (hh0 β w)
   obtain ⟨x,hx,hv⟩:=hf
   have hv':(Value.agg #[.bool (decide (rdN ((splitL 47 xs).getD 0 [])<0)),.string (mag (rdN ((splitL 47 xs).getD 0 [])).natAbs),.bool (decide ((1:Int)<0)),.string (mag (1:Int).natAbs)])=fracV x:=hv
   obtain ⟨h1,h2⟩:=raw_num hv'
   refine h x hx ?_
   unfold tqL
   rw [if_pos (by omega),← h1,k0.1.txt,part0,(cut_join xs).resolve_right (fun ⟨r,hr,_⟩=>by rw [hB] at hr; cases hr) |>.2]
 · have hN:1<(splitL 47 xs).length:=by
    rw [hs,List.length_cons]
    have:0<(splitL 47 r).length:=List.length_pos_iff.2 (split_ne 47 _)
    omega
   by_cases k1:Wok ((splitL 47 xs).getD 1 [])
   rotate_left
   · exact (sFRd4 h8 hl rfl rfl hlen b0 b1 k0 rfl hN k1).ok β w (hh0 β w)
   by_cases hf:IsFrac (rawV (decide (rdN ((splitL 47 xs).getD 0 [])<0)) (decide (rdN ((splitL 47 xs).getD 1 [])<0)) (mag (rdN ((splitL 47 xs).getD 0 [])).natAbs) (mag (rdN ((splitL 47 xs).getD 1 [])).natAbs))
   · obtain ⟨x,hx,hv⟩:=hf
     obtain ⟨h1,h2⟩:=raw_num hv
     exact (sFRd7 h8 hl rfl rfl hlen b0 b1 k0 k1 hx h1 h2 hN (tq_dec h8 (decide_eq_false (h x hx)))).ok β w (hh0 β w)
   · exact (sFRd5 h8 hl rfl rfl hlen b0 b1 k0 rfl k1 hN rfl (big _ k0) (big _ k1) hf).ok β w (hh0 β w)
def sFReadY {x:Rat} (hx:Fit x):Spec Tryz.prog :=
 ⟨22,Tryz.call22,[stV (tqL x)],[],.tup [.a (fC x),nI' 0],[],fun β w _=>fread_yes hx β w,by kernel_rfl⟩
def sFReadN {xs:List Nat} (h8:B8 xs) (hl:xs.length<4294967281) (h:∀ x,Fit x→tqL x≠xs):Spec Tryz.prog :=
 ⟨22,Tryz.call22,[stV xs],[],frNo,[],fun β w _=>fread_no h8 hl h β w,by kernel_rfl⟩
end Go.Proofs.YthkpghhoffihmaaGreatDoor.Y
end
section
namespace Go.Proofs.YthkpghhoffihmaaGreatDoor.Y
open Go Go.RowKit
set_option maxRecDepth 100000
abbrev tcI:ByteArray:=⟨#[105]⟩
abbrev tcP:ByteArray:=⟨#[43]⟩
abbrev tc0:ByteArray:=⟨#[48]⟩
theorem txt_pos (n:Int):1≤(txt n).length:=by
 unfold txt
 split
 · simp
 · rename_i h
   rw [List.length_reverse,List.length_append,dd_pos n.natAbs (by omega),List.length_cons]
   omega
theorem strN_one {a b:Nat} (ha:a<256) (hb:b<256) (h:strN [a]=strN [b]):a=b:=by
 unfold strN at h
 have h1:=congrArg (fun s:ByteArray=>s.data.toList) h
 simp only [List.map_cons,List.map_nil,List.cons.injEq,and_true] at h1
 have h2:=congrArg UInt8.toNat h1
 simpa [Nat.mod_eq_of_lt ha,Nat.mod_eq_of_lt hb] using h2
theorem textN_zero (n:Int):textN n=tc0↔n=0:=by
 constructor
 · intro h
   refine Classical.byContradiction fun h0=>?_
   have hl:(txt n).length=1:=by
    have:=congrArg ByteArray.size h
    rw [textN_size] at this
    exact this
   have hp:0<n.natAbs:=by omega
   have e:txt n=(dd n.natAbs++if n<0 then [45] else []).reverse:=by unfold txt; rw [if_neg h0]
   rw [e,List.length_reverse,List.length_append,dd_pos _ hp,List.length_cons] at hl
   have h1:dd (n.natAbs/10)=[]:=List.eq_nil_of_length_eq_zero (by omega)
   have h2:(if n<0 then [45] else []:List Nat)=[]:=List.eq_nil_of_length_eq_zero (by omega)
   have h3:=(dd_nil_iff _).1 h1
   rw [h2,dd_pos _ hp,h1,List.append_nil] at e
   have h4:strN [48+n.natAbs % 10]=strN [48]:=by
    unfold textN at h
    rw [e] at h
    exact h
   have:=strN_one (by omega) (by omega) h4
   omega
 · rintro rfl
   rfl
theorem textQ_zero (x:Rat):textQ x=tc0↔x=0:=by
 constructor
 · intro h
   unfold textQ at h
   split at h
   · exact Rat.num_eq_zero.1 ((textN_zero _).1 h)
   · have:=congrArg ByteArray.size h
     rw [ByteArray.size_append,ByteArray.size_append,textN_size,textN_size] at this
     have h1:=txt_pos x.num
     have h2:=txt_pos (x.den:Int)
     have h3:(⟨#[47]⟩:ByteArray).size=1:=rfl
     have h4:tc0.size=1:=rfl
     omega
 · rintro rfl
   rfl
theorem textQ_dec {x:Rat} {b:Bool} (h:decide (x=0)=b):decide (textQ x=tc0)=b:=by
 rw [← h,Bool.eq_iff_iff,decide_eq_true_iff,decide_eq_true_iff,textQ_zero]
theorem textQ_small {x:Rat} (h:Fit x):(textQ x).size≤400001:=by
 have h1:=textN_small (n:=x.num) (Nat.le_trans h.1 (by decide))
 have h2:=textN_small (n:=(x.den:Int)) (by rw [Int.natAbs_natCast]; exact Nat.le_trans h.2 (by decide))
 unfold textQ
 split
 · omega
 · rw [ByteArray.size_append,ByteArray.size_append]
   have h3:(⟨#[47]⟩:ByteArray).size=1:=rfl
   omega
def textGb (z:GQ) (a b c:Bool):ByteArray:=bif a then textQ z.re else bif b then textQ z.im++tcI else bif c then textQ z.re++textQ z.im++tcI else textQ z.re++tcP++textQ z.im++tcI
def textG (z:GQ):ByteArray:=textGb z (decide (z.im=0)) (decide (z.re=0)) (decide (z.im.num<0))
section
variable {z:GQ} (hz:FitG z) {a b c:Bool} (ha:decide (z.im=0)=a) (hb:decide (z.re=0)=b) (hc:decide (z.im.num<0)=c)
theorem tg_lt {c:Bool} (hc:decide (z.im.num<0)=c):Value.bool (decide (z.im.num<0))=.bool c:=by rw [hc]
theorem tg_gt {c:Bool} (ha:decide (z.im=0)=false) (hc:decide (z.im.num<0)=c):Value.bool (decide (0<z.im.num.sign))=.bool (!c):=by
 have h0:z.im.num≠0:=fun e=>of_decide_eq_false ha (Rat.num_eq_zero.1 e)
 cases c with
 | true =>
  have:=of_decide_eq_true hc
  rw [Int.sign_eq_neg_one_of_neg this]
  rfl
 | false =>
  have:=of_decide_eq_false hc
  rw [Int.sign_eq_one_of_pos (by omega)]
  rfl
noncomputable def tgE1:List (Ev Tryz.prog):=[(sGM (gpX z hz) (r:=true) rfl).e,(sFText hz.1 rfl).e,(sFText hz.2 rfl).e,eStrEq (textQ z.im) tc0 (textQ_dec ha)]
noncomputable def sGText:Spec Tryz.prog :=
 ⟨17,Tryz.call17,[gS z],[],.tup [.c (.b (.v (.string (textG z)))),nI' 0],[],fun β w hh=>by
  have s1:=textQ_small hz.1
  have s2:=textQ_small hz.2
  unfold textG
  cases ha:decide (z.im=0) with
  | true=>exact spec_auto (args:=[gS z]) (obs:=[]) (evs:=tgE1 hz ha) (Ns:=[]) (m:=400) Tryz.func17 hmA (fun β=>by kernel_rfl) (by kernel_rfl) β w hh
  | false=>cases hb:decide (z.re=0) with
   | true=>exact spec_auto (args:=[gS z]) (obs:=[]) (evs:=tgE1 hz ha++[eStrEq (textQ z.re) tc0 (textQ_dec hb),eCat (textQ z.im) tcI (tx_a s2 (j:=1) (by decide))]) (Ns:=[]) (m:=400) Tryz.func17 hmA (fun β=>by kernel_rfl) (by kernel_rfl) β w hh
   | false=>cases hc:decide (z.im.num<0) with
    | true=>exact spec_auto (args:=[gS z]) (obs:=[]) (evs:=tgE1 hz ha++[eStrEq (textQ z.re) tc0 (textQ_dec hb),.eqv 36 (.bool (decide (z.im.num<0))) (.bool true) (tg_lt hc),eCat (textQ z.re) (textQ z.im) (tx_a s1 s2),eCat (textQ z.re++textQ z.im) tcI (tx_a (tx_b s1 s2) (j:=1) (by decide))]) (Ns:=[]) (m:=400) Tryz.func17 hmA (fun β=>by kernel_rfl) (by kernel_rfl) β w hh
    | false=>exact spec_auto (args:=[gS z]) (obs:=[]) (evs:=tgE1 hz ha++[eStrEq (textQ z.re) tc0 (textQ_dec hb),.eqv 36 (.bool (decide (z.im.num<0))) (.bool false) (tg_lt hc),eCat (textQ z.re) tcP (tx_a s1 (j:=1) (by decide)),eCat (textQ z.re++tcP) (textQ z.im) (tx_a (tx_b s1 (j:=1) (by decide)) s2),eCat (textQ z.re++tcP++textQ z.im) tcI (tx_a (tx_b (tx_b s1 (j:=1) (by decide)) s2) (j:=1) (by decide))]) (Ns:=[]) (m:=400) Tryz.func17 hmA (fun β=>by kernel_rfl) (by kernel_rfl) β w hh,by kernel_rfl⟩
noncomputable def tgE2:List (Ev Tryz.prog):=[(sR3Text hz.2).e,eCat (textQ z.im) tcI (tx_a (textQ_small hz.2) (j:=1) (by decide)),(sR4Real z ha).e]
noncomputable def sR4Text:Spec Tryz.prog :=
 ⟨31,Tryz.call31,[gS z],[],txS (textG z),[],fun β w hh=>by
  have s1:=textQ_small hz.1
  have s2:=textQ_small hz.2
  have s2i:(textQ z.im++tcI).size≤400002:=tx_b s2 (j:=1) (by decide)
  unfold textG
  cases ha:decide (z.im=0) with
  | true=>exact spec_auto (args:=[gS z]) (obs:=[]) (evs:=tgE2 hz ha++[(sR3Text hz.1).e]) (Ns:=[]) (m:=400) Tryz.func31 hmA (fun β=>by kernel_rfl) (by kernel_rfl) β w hh
  | false=>cases hb:decide (z.re=0) with
   | true=>exact spec_auto (args:=[gS z]) (obs:=[]) (evs:=tgE2 hz ha++[(sR3Sign (x:=z.re) rfl).e,.eqv 18 (.bool (z.re.num.sign==0)) (.bool true) (sign_lit hb)]) (Ns:=[]) (m:=400) Tryz.func31 hmA (fun β=>by kernel_rfl) (by kernel_rfl) β w hh
   | false=>cases hc:decide (z.im.num<0) with
    | true =>
     rw [show textGb z false false true=textQ z.re++(textQ z.im++tcI) by show textQ z.re++textQ z.im++tcI=_; rw [ByteArray.append_assoc]]
     exact spec_auto (args:=[gS z]) (obs:=[]) (evs:=tgE2 hz ha++[(sR3Sign (x:=z.re) rfl).e,.eqv 18 (.bool (z.re.num.sign==0)) (.bool false) (sign_lit hb),(sR3Sign (x:=z.im) rfl).e,.eqv 24 (.bool (decide (0<z.im.num.sign))) (.bool false) (tg_gt ha hc),(sR3Text hz.1).e,eCat (textQ z.re) (textQ z.im++tcI) (tx_a s1 s2i)]) (Ns:=[]) (m:=400) Tryz.func31 hmA (fun β=>by kernel_rfl) (by kernel_rfl) β w hh
    | false =>
     rw [show textGb z false false false=textQ z.re++tcP++(textQ z.im++tcI) by show textQ z.re++tcP++textQ z.im++tcI=_; rw [ByteArray.append_assoc]]
     exact spec_auto (args:=[gS z]) (obs:=[]) (evs:=tgE2 hz ha++[(sR3Sign (x:=z.re) rfl).e,.eqv 18 (.bool (z.re.num.sign==0)) (.bool false) (sign_lit hb),(sR3Sign (x:=z.im) rfl).e,.eqv 24 (.bool (decide (0<z.im.num.sign))) (.bool true) (tg_gt ha hc),(sR3Text hz.1).e,eCat (textQ z.re) tcP (tx_a s1 (j:=1) (by decide)),eCat (textQ z.re++tcP) (textQ z.im++tcI) (tx_a (tx_b s1 (j:=1) (by decide)) s2i)]) (Ns:=[]) (m:=400) Tryz.func31 hmA (fun β=>by kernel_rfl) (by kernel_rfl) β w hh,by kernel_rfl⟩
end
end Go.Proofs.YthkpghhoffihmaaGreatDoor.Y
end
section
namespace Go.Proofs.YthkpghhoffihmaaGreatDoor
open Go
theorem cutS_ok (xs:List Nat) (h8:B8 xs) (hl:xs.length≤1000000) (w:World) :
  Calls Tryz.prog 95 #[.string (strN xs),.string ⟨#[105]⟩] w fun e w'=>e=.returned (.tuple #[.string (strN (if xs.getLast?=some 105 then xs.dropLast else xs)),.bool (decide (xs.getLast?=some 105))])∧w'=w:=by
 refine (Any.strings_CutSuffix (ρ:=cutSRen) cutSLays (strN xs) ⟨#[105]⟩ w (by rw [strN_size]; omega)).mono fun e w' ⟨he,hw⟩=>⟨?_,hw⟩
 have hb:Lib.hasSuffix (strN xs).data.toList [105]=decide (xs.getLast?=some 105):=by
  rw [strN_data]
  unfold Lib.hasSuffix List.isSuffixOf
  rcases List.eq_nil_or_concat xs with rfl | ⟨r,x,rfl⟩
  · rfl
  · rw [List.concat_eq_append,List.map_append,List.reverse_append]
    have hx:x<256:=h8 x (by simp)
    simp only [List.map_cons,List.map_nil,List.reverse_cons,List.reverse_nil,List.nil_append,List.singleton_append,List.isPrefixOf,List.getLast?_append,List.getLast?_singleton]
    rw [Bool.and_true,Bool.eq_iff_iff,beq_iff_eq,decide_eq_true_iff]
    constructor
    · intro h
      have:=(u8_inj (by decide:105<256) hx).1 h
      simp [this]
    · intro h
      have:x=105:=by simpa using h
      rw [this]
      rfl
 have ht:(⟨(Lib.trimSuffix (strN xs).data.toList [105]).toArray⟩:ByteArray)=strN (if xs.getLast?=some 105 then xs.dropLast else xs):=by
  refine strN_eqL ?_
  show Lib.trimSuffix (strN xs).data.toList [105]=_
  unfold Lib.trimSuffix
  rw [hb]
  by_cases h:xs.getLast?=some 105
  · rw [if_pos (decide_eq_true h),if_pos h,strN_data,List.length_map,List.dropLast_eq_take,List.map_take]
    rfl
  · rw [if_neg (by rw [decide_eq_true_iff]; exact h),if_neg h,strN_data]
 rw [he]
 show Ending.returned (.tuple #[.string ⟨(Lib.trimSuffix (strN xs).data.toList [105]).toArray⟩,.bool (Lib.hasSuffix (strN xs).data.toList [105])])=_
 rw [hb,ht]
theorem B8_tg (re im:Rat):B8 (tgL re im):=by
 have h1:=B8_tq re
 have h2:=B8_tq im
 have h3:B8 [105]:=fun x hx=>by obtain rfl:=List.mem_singleton.1 hx; decide
 unfold tgL
 split
 · exact h1
 · split
   · exact h2.app h3
   · split
     · exact (h1.app h2).app h3
     · refine (h1.app (fun x hx=>?_)).app h3
       rcases List.mem_cons.1 hx with rfl | hx
       · decide
       · exact h2 x hx
end Go.Proofs.YthkpghhoffihmaaGreatDoor
namespace Go.Proofs.YthkpghhoffihmaaGreatDoor.Y
open Go Go.RowKit
set_option maxRecDepth 100000
theorem textG_tg (z:GQ):textG z=strN (tgL z.re z.im):=by
 unfold textG textGb tgL
 by_cases h1:z.im=0
 · rw [decide_eq_true h1,if_pos h1]
   exact textQ_tq _
 · rw [decide_eq_false h1,if_neg h1]
   by_cases h2:z.re=0
   · rw [decide_eq_true h2,if_pos h2]
     show textQ z.im++strN [105]=_
     rw [textQ_tq,strN_app]
   · rw [decide_eq_false h2,if_neg h2]
     have hiff:z.im.num<0↔z.im<0:=by
      rw [← Rat.not_le,← Rat.num_nonneg]
      omega
     by_cases h3:z.im<0
     · rw [decide_eq_true (hiff.2 h3),if_pos h3]
       show textQ z.re++textQ z.im++strN [105]=_
       rw [textQ_tq,textQ_tq,strN_app,strN_app]
     · rw [decide_eq_false (fun h=>h3 (hiff.1 h)),if_neg h3]
       show textQ z.re++strN [43]++textQ z.im++strN [105]=_
       rw [textQ_tq,textQ_tq,strN_app,strN_app,strN_app]
       congr 1
       simp
def sFRdE {q:List Nat} {x:Rat} (hx:Fit x) (hp:tqL x=q):Spec Tryz.prog :=
 ⟨22,Tryz.call22,[stV q],[],.tup [.a (fC x),nI' 0],[],fun β w hh=>by
  subst hp
  exact (sFReadY hx).ok β w hh,by kernel_rfl⟩
def sCutY (b:List Nat) (h8:B8 (b++[105])) (hl:(b++[105]).length≤1000000):Spec Tryz.prog :=
 ⟨95,Tryz.call95,[stV (b++[105]),.one (.c (.b (.v (.string ⟨#[105]⟩))))],[],.tup [.c (.b (.v (.string (strN b)))),.c (.b (.v (.bool true)))],[],fun β w _=>(cutS_ok _ h8 hl w).mono fun e w' ⟨he,hw⟩=>⟨[],(fun _ h=>by cases h),by
  rw [if_pos (by simp),decide_eq_true (by simp),List.dropLast_concat] at he
  rw [he]
  rfl,trivial,by rw [hw]; exact Below.refl _ _⟩,by kernel_rfl⟩
def sCutN (xs:List Nat) (h8:B8 xs) (hl:xs.length≤1000000) (h:xs.getLast?≠some 105):Spec Tryz.prog :=
 ⟨95,Tryz.call95,[stV xs,.one (.c (.b (.v (.string ⟨#[105]⟩))))],[],.tup [.c (.b (.v (.string (strN xs)))),.c (.b (.v (.bool false)))],[],fun β w _=>(cutS_ok _ h8 hl w).mono fun e w' ⟨he,hw⟩=>⟨[],(fun _ h=>by cases h),by
  rw [if_neg h,decide_eq_false h] at he
  rw [he]
  rfl,trivial,by rw [hw]; exact Below.refl _ _⟩,by kernel_rfl⟩
abbrev gz0:List Lf:=[.b (.v (.bool false)),.b (.v (.string ⟨#[]⟩)),.b (.v (.bool false)),.b (.v (.string ⟨#[]⟩)),.b (.v (.bool false)),.b (.v (.string ⟨#[]⟩)),.b (.v (.bool false)),.b (.v (.string ⟨#[]⟩))]
abbrev GAT:TypeId:=27
abbrev grNo:SV:=.tup [.a gz0,nI' 140]
abbrev grOk (z:GQ):SV:=.tup [.a (gC z),nI' 0]
noncomputable abbrev grF:Func:=Tryz.f16
noncomputable abbrev grN:Nat:=sizeS grF [stV []]
abbrev grSl (xs b:List Nat) (a:Int):List (Nat × SV):=[(0,stV xs),(2,.one (.c (.b (.p 1 0)))),(3,rtI 0),(4,stV [48]),(5,stV b),(6,stV b),(8,rtI a)]
noncomputable abbrev grc (xs b:List Nat) (a:Int) (ev:List (Ev Tryz.prog)):Cf Tryz.prog:=mkC Tryz.prog grN 0 (grSl xs b a) [.dead,.box gz0 GAT] ev
noncomputable abbrev grH (β0:Env) (w:World) (res:SV) (C:Cf Tryz.prog):Prop:=HdOk Tryz.prog 0 grN w.heap.size w β0 (bodyPost Tryz.prog grF (Said Tryz.prog grF 0 res [] β0 w)) C (lpAt grF 0)
abbrev grNs:List (Nat × Nat):=[(12,9),(14,8)]
def grIx {b:List Nat} (h8:B8 b) {a x:Nat} (h0:0<a) (ha:a<b.length) (hx:b.getD a 0=x):List (Ev Tryz.prog):=[.eqv 32 (.bool (decide (0<(a:Int)))) (.bool true) (lt_lit (decide_eq_true (by omega))),eStI h8 ha hx]
def grEnd {a:Int} (h:a≤0):List (Ev Tryz.prog):=[.eqv 32 (.bool (decide (0<a))) (.bool false) (lt_lit (decide_eq_false (by omega)))]
def grPl {b:List Nat} (h8:B8 b) {a x:Nat} (h0:0<a) (ha:a<b.length) (hl:b.length≤1000000) (hx:b.getD a 0=x) (hp:((x:Int)==43)=true):List (Ev Tryz.prog):=grIx h8 h0 ha hx++[.eqv 39 (.bool ((x:Int)==43)) (.bool true) (eq_lit hp),eStT b (k:=a) (by omega),.eqv 45 (.int .i64 (IntKind.i64.wrap ((a:Int)+1))) (.int .i64 ((a+1:Nat):Int)) (wi64 (by omega) (by omega)),eStD b (k:=a+1) (by omega)]
def grMi {b:List Nat} (h8:B8 b) {a x:Nat} (h0:0<a) (ha:a<b.length) (hx:b.getD a 0=x) (hp:((x:Int)==43)=false) (hm:((x:Int)==45)=true):List (Ev Tryz.prog):=grIx h8 h0 ha hx++[.eqv 39 (.bool ((x:Int)==43)) (.bool false) (eq_lit hp),.eqv 48 (.bool ((x:Int)==45)) (.bool true) (eq_lit hm),eStT b (k:=a) (by omega),eStD b (k:=a) (by omega)]
theorem gr_step (β0:Env) (w:World) (res:SV) {xs b:List Nat} (h8:B8 b) {a x:Nat} (ha:a+1<b.length) (hl:b.length≤1000000) (hx:b.getD (a+1) 0=x) (hp:((x:Int)==43)=false) (hm:((x:Int)==45)=false) (h:grH β0 w res (grc xs b a [])) :
  grH β0 w res (grc xs b ((a+1:Nat):Int) (grIx h8 (by omega) ha hx++[.eqv 39 (.bool ((x:Int)==43)) (.bool false) (eq_lit hp),.eqv 48 (.bool ((x:Int)==45)) (.bool false) (eq_lit hm),.eqv 34 (.int .i64 (IntKind.i64.wrap (((a+1:Nat):Int)-1))) (.int .i64 (a:Int)) (wi64 (by omega) (by omega)),.cut])):=piece_ok (Ns:=grNs) (m:=400) [] [0,1] hmA (by kernel_rfl) (fun β=>ok_of_maps (by kernel_rfl)) h
section
variable {re im:List Nat}
noncomputable def grYY {xs:List Nat} {z:GQ} (hz:FitG z) (h1:tqL z.re=re) (h2:tqL z.im=im) {r:Bool} (he:decide (textG z=strN xs)=r):List (Ev Tryz.prog):=[(sFRdE hz.1 h1).e,(sFRdE hz.2 h2).e,(sGText hz).e,eStrNe (textG z) (strN xs) he]
def grYN {x:Rat} (hx:Fit x) (h1:tqL x=re) (h8:B8 im) (hl:im.length<4294967281) (h2:∀ y,Fit y→tqL y≠im):List (Ev Tryz.prog):=[(sFRdE hx h1).e,(sFReadN h8 hl h2).e]
def grNY {y:Rat} (h8:B8 re) (hl:re.length<4294967281) (h1:∀ y,Fit y→tqL y≠re) (hy:Fit y) (h2:tqL y=im):List (Ev Tryz.prog):=[(sFReadN h8 hl h1).e,(sFRdE hy h2).e]
def grNN (h8:B8 re) (hl:re.length<4294967281) (h1:∀ y,Fit y→tqL y≠re) (k8:B8 im) (kl:im.length<4294967281) (h2:∀ y,Fit y→tqL y≠im):List (Ev Tryz.prog):=[(sFReadN h8 hl h1).e,(sFReadN k8 kl h2).e]
end
theorem gr_E_YYt (β0:Env) (w:World) {xs b:List Nat} {a:Int} (h:a≤0) {z:GQ} (hz:FitG z) (h1:tqL z.re=[48]) (h2:tqL z.im=b) (he:decide (textG z=strN xs)=true):grH β0 w (grOk z) (grc xs b a (grEnd h++grYY hz h1 h2 he)):=last_ok (Ns:=grNs) (m:=400) hmA (fun β=>ok_of_maps (by kernel_rfl))
theorem gr_E_YYf (β0:Env) (w:World) {xs b:List Nat} {a:Int} (h:a≤0) {z:GQ} (hz:FitG z) (h1:tqL z.re=[48]) (h2:tqL z.im=b) (he:decide (textG z=strN xs)=false):grH β0 w (grNo) (grc xs b a (grEnd h++grYY hz h1 h2 he)):=last_ok (Ns:=grNs) (m:=400) hmA (fun β=>ok_of_maps (by kernel_rfl))
theorem gr_E_YN (β0:Env) (w:World) {xs b:List Nat} {a:Int} (h:a≤0) {x:Rat} (hx:Fit x) (h1:tqL x=[48]) (k8:B8 (b)) (kl:(b).length<4294967281) (h2:∀ y,Fit y→tqL y≠b):grH β0 w (grNo) (grc xs b a (grEnd h++grYN hx h1 k8 kl h2)):=last_ok (Ns:=grNs) (m:=400) hmA (fun β=>ok_of_maps (by kernel_rfl))
theorem gr_E_NY (β0:Env) (w:World) {xs b:List Nat} {a:Int} (h:a≤0) {y:Rat} (j8:B8 ([48])) (jl:([48]).length<4294967281) (h1:∀ y,Fit y→tqL y≠[48]) (hy:Fit y) (h2:tqL y=b):grH β0 w (grNo) (grc xs b a (grEnd h++grNY j8 jl h1 hy h2)):=last_ok (Ns:=grNs) (m:=400) hmA (fun β=>ok_of_maps (by kernel_rfl))
theorem gr_E_NN (β0:Env) (w:World) {xs b:List Nat} {a:Int} (h:a≤0) (j8:B8 ([48])) (jl:([48]).length<4294967281) (h1:∀ y,Fit y→tqL y≠[48]) (k8:B8 (b)) (kl:(b).length<4294967281) (h2:∀ y,Fit y→tqL y≠b):grH β0 w (grNo) (grc xs b a (grEnd h++grNN j8 jl h1 k8 kl h2)):=last_ok (Ns:=grNs) (m:=400) hmA (fun β=>ok_of_maps (by kernel_rfl))
theorem gr_P_YYt (β0:Env) (w:World) {xs b:List Nat} (h8:B8 b) {a c:Nat} (h0:0<a) (ha:a<b.length) (hl:b.length≤1000000) (hc:b.getD a 0=c) (hp:((c:Int)==43)=true) {z:GQ} (hz:FitG z) (h1:tqL z.re=b.take a) (h2:tqL z.im=b.drop (a+1)) (he:decide (textG z=strN xs)=true):grH β0 w (grOk z) (grc xs b (a:Int) (grPl h8 h0 ha hl hc hp++grYY hz h1 h2 he)):=last_ok (Ns:=grNs) (m:=400) hmA (fun β=>ok_of_maps (by kernel_rfl))
theorem gr_P_YYf (β0:Env) (w:World) {xs b:List Nat} (h8:B8 b) {a c:Nat} (h0:0<a) (ha:a<b.length) (hl:b.length≤1000000) (hc:b.getD a 0=c) (hp:((c:Int)==43)=true) {z:GQ} (hz:FitG z) (h1:tqL z.re=b.take a) (h2:tqL z.im=b.drop (a+1)) (he:decide (textG z=strN xs)=false):grH β0 w (grNo) (grc xs b (a:Int) (grPl h8 h0 ha hl hc hp++grYY hz h1 h2 he)):=last_ok (Ns:=grNs) (m:=400) hmA (fun β=>ok_of_maps (by kernel_rfl))
theorem gr_P_YN (β0:Env) (w:World) {xs b:List Nat} (h8:B8 b) {a c:Nat} (h0:0<a) (ha:a<b.length) (hl:b.length≤1000000) (hc:b.getD a 0=c) (hp:((c:Int)==43)=true) {x:Rat} (hx:Fit x) (h1:tqL x=b.take a) (k8:B8 (b.drop (a+1))) (kl:(b.drop (a+1)).length<4294967281) (h2:∀ y,Fit y→tqL y≠b.drop (a+1)):grH β0 w (grNo) (grc xs b (a:Int) (grPl h8 h0 ha hl hc hp++grYN hx h1 k8 kl h2)):=last_ok (Ns:=grNs) (m:=400) hmA (fun β=>ok_of_maps (by kernel_rfl))
theorem gr_P_NY (β0:Env) (w:World) {xs b:List Nat} (h8:B8 b) {a c:Nat} (h0:0<a) (ha:a<b.length) (hl:b.length≤1000000) (hc:b.getD a 0=c) (hp:((c:Int)==43)=true) {y:Rat} (j8:B8 (b.take a)) (jl:(b.take a).length<4294967281) (h1:∀ y,Fit y→tqL y≠b.take a) (hy:Fit y) (h2:tqL y=b.drop (a+1)):grH β0 w (grNo) (grc xs b (a:Int) (grPl h8 h0 ha hl hc hp++grNY j8 jl h1 hy h2)):=last_ok (Ns:=grNs) (m:=400) hmA (fun β=>ok_of_maps (by kernel_rfl))
theorem gr_P_NN (β0:Env) (w:World) {xs b:List Nat} (h8:B8 b) {a c:Nat} (h0:0<a) (ha:a<b.length) (hl:b.length≤1000000) (hc:b.getD a 0=c) (hp:((c:Int)==43)=true) (j8:B8 (b.take a)) (jl:(b.take a).length<4294967281) (h1:∀ y,Fit y→tqL y≠b.take a) (k8:B8 (b.drop (a+1))) (kl:(b.drop (a+1)).length<4294967281) (h2:∀ y,Fit y→tqL y≠b.drop (a+1)):grH β0 w (grNo) (grc xs b (a:Int) (grPl h8 h0 ha hl hc hp++grNN j8 jl h1 k8 kl h2)):=last_ok (Ns:=grNs) (m:=400) hmA (fun β=>ok_of_maps (by kernel_rfl))
theorem gr_M_YYt (β0:Env) (w:World) {xs b:List Nat} (h8:B8 b) {a c:Nat} (h0:0<a) (ha:a<b.length) (hc:b.getD a 0=c) (hp:((c:Int)==43)=false) (hm:((c:Int)==45)=true) {z:GQ} (hz:FitG z) (h1:tqL z.re=b.take a) (h2:tqL z.im=b.drop a) (he:decide (textG z=strN xs)=true):grH β0 w (grOk z) (grc xs b (a:Int) (grMi h8 h0 ha hc hp hm++grYY hz h1 h2 he)):=last_ok (Ns:=grNs) (m:=400) hmA (fun β=>ok_of_maps (by kernel_rfl))
theorem gr_M_YYf (β0:Env) (w:World) {xs b:List Nat} (h8:B8 b) {a c:Nat} (h0:0<a) (ha:a<b.length) (hc:b.getD a 0=c) (hp:((c:Int)==43)=false) (hm:((c:Int)==45)=true) {z:GQ} (hz:FitG z) (h1:tqL z.re=b.take a) (h2:tqL z.im=b.drop a) (he:decide (textG z=strN xs)=false):grH β0 w (grNo) (grc xs b (a:Int) (grMi h8 h0 ha hc hp hm++grYY hz h1 h2 he)):=last_ok (Ns:=grNs) (m:=400) hmA (fun β=>ok_of_maps (by kernel_rfl))
theorem gr_M_YN (β0:Env) (w:World) {xs b:List Nat} (h8:B8 b) {a c:Nat} (h0:0<a) (ha:a<b.length) (hc:b.getD a 0=c) (hp:((c:Int)==43)=false) (hm:((c:Int)==45)=true) {x:Rat} (hx:Fit x) (h1:tqL x=b.take a) (k8:B8 (b.drop a)) (kl:(b.drop a).length<4294967281) (h2:∀ y,Fit y→tqL y≠b.drop a):grH β0 w (grNo) (grc xs b (a:Int) (grMi h8 h0 ha hc hp hm++grYN hx h1 k8 kl h2)):=last_ok (Ns:=grNs) (m:=400) hmA (fun β=>ok_of_maps (by kernel_rfl))
theorem gr_M_NY (β0:Env) (w:World) {xs b:List Nat} (h8:B8 b) {a c:Nat} (h0:0<a) (ha:a<b.length) (hc:b.getD a 0=c) (hp:((c:Int)==43)=false) (hm:((c:Int)==45)=true) {y:Rat} (j8:B8 (b.take a)) (jl:(b.take a).length<4294967281) (h1:∀ y,Fit y→tqL y≠b.take a) (hy:Fit y) (h2:tqL y=b.drop a):grH β0 w (grNo) (grc xs b (a:Int) (grMi h8 h0 ha hc hp hm++grNY j8 jl h1 hy h2)):=last_ok (Ns:=grNs) (m:=400) hmA (fun β=>ok_of_maps (by kernel_rfl))
theorem gr_M_NN (β0:Env) (w:World) {xs b:List Nat} (h8:B8 b) {a c:Nat} (h0:0<a) (ha:a<b.length) (hc:b.getD a 0=c) (hp:((c:Int)==43)=false) (hm:((c:Int)==45)=true) (j8:B8 (b.take a)) (jl:(b.take a).length<4294967281) (h1:∀ y,Fit y→tqL y≠b.take a) (k8:B8 (b.drop a)) (kl:(b.drop a).length<4294967281) (h2:∀ y,Fit y→tqL y≠b.drop a):grH β0 w (grNo) (grc xs b (a:Int) (grMi h8 h0 ha hc hp hm++grNN j8 jl h1 k8 kl h2)):=last_ok (Ns:=grNs) (m:=400) hmA (fun β=>ok_of_maps (by kernel_rfl))
def grS {xs:List Nat} {M:Nat} (hM:xs.length=M) (hl:M≤10240):List (Ev Tryz.prog):=[.eqv 17 (.int .i64 (((strN xs).size:Nat):Int)) (.int .i64 (M:Int)) (stz_lit hM),.eqv 18 (.bool (decide (10240<(M:Int)))) (.bool false) (lt_lit (decide_eq_false (by omega)))]
section
variable {xs:List Nat} {M:Nat} (h8:B8 xs) (hM:xs.length=M) (hl:M≤10240) (hi:xs.getLast?≠some 105)
noncomputable def sGrYYt {z:GQ} (hz:FitG z) (h1:tqL z.re=xs) (h2:tqL z.im=[48]) (he:decide (textG z=strN xs)=true):Spec Tryz.prog :=
 Spec.auto Tryz.call16 [stV xs] [] (grOk z) [] (grS hM hl++[(sCutN xs h8 (by omega) hi).e]++grYY hz h1 h2 he) grNs 400 Tryz.func16 hmA (by kernel_rfl) (fun β=>by kernel_rfl)
noncomputable def sGrYYf {z:GQ} (hz:FitG z) (h1:tqL z.re=xs) (h2:tqL z.im=[48]) (he:decide (textG z=strN xs)=false):Spec Tryz.prog :=
 Spec.auto Tryz.call16 [stV xs] [] (grNo) [] (grS hM hl++[(sCutN xs h8 (by omega) hi).e]++grYY hz h1 h2 he) grNs 400 Tryz.func16 hmA (by kernel_rfl) (fun β=>by kernel_rfl)
noncomputable def sGrYN {x:Rat} (hx:Fit x) (h1:tqL x=xs) (k8:B8 ([48])) (kl:([48]).length<4294967281) (h2:∀ y,Fit y→tqL y≠[48]):Spec Tryz.prog :=
 Spec.auto Tryz.call16 [stV xs] [] (grNo) [] (grS hM hl++[(sCutN xs h8 (by omega) hi).e]++grYN hx h1 k8 kl h2) grNs 400 Tryz.func16 hmA (by kernel_rfl) (fun β=>by kernel_rfl)
noncomputable def sGrNY {y:Rat} (j8:B8 (xs)) (jl:(xs).length<4294967281) (h1:∀ y,Fit y→tqL y≠xs) (hy:Fit y) (h2:tqL y=[48]):Spec Tryz.prog :=
 Spec.auto Tryz.call16 [stV xs] [] (grNo) [] (grS hM hl++[(sCutN xs h8 (by omega) hi).e]++grNY j8 jl h1 hy h2) grNs 400 Tryz.func16 hmA (by kernel_rfl) (fun β=>by kernel_rfl)
noncomputable def sGrNN (j8:B8 (xs)) (jl:(xs).length<4294967281) (h1:∀ y,Fit y→tqL y≠xs) (k8:B8 ([48])) (kl:([48]).length<4294967281) (h2:∀ y,Fit y→tqL y≠[48]):Spec Tryz.prog :=
 Spec.auto Tryz.call16 [stV xs] [] (grNo) [] (grS hM hl++[(sCutN xs h8 (by omega) hi).e]++grNN j8 jl h1 k8 kl h2) grNs 400 Tryz.func16 hmA (by kernel_rfl) (fun β=>by kernel_rfl)
end
theorem gr_start {b:List Nat} {n:Nat} (h8:B8 (b++[105])) (hM:(b++[105]).length=n+1) (hl:n+1≤10240) (hn:b.length=n) (res:SV) (β:Env) (w:World) (h:grH β w res (grc (b++[105]) b ((n:Int)-1) [])) :
  Calls Tryz.prog 16 (([stV (b++[105])]:List SV).map (SV.den β)).toArray w (Said Tryz.prog grF 0 res [] β w) :=
 sx_cut (P:=Tryz.prog) [stV (b++[105])] [] (grS hM hl++[(sCutY b h8 (by omega)).e,.eqv 29 (.int .i64 (((strN b).size:Nat):Int)) (.int .i64 (n:Int)) (stz_lit hn),.eqv 30 (.int .i64 (IntKind.i64.wrap ((n:Int)-1))) (.int .i64 ((n:Int)-1)) (by rw [show IntKind.i64.wrap ((n:Int)-1)=(n:Int)-1 by rw [IntKind.wrap_i64]; omega]),.cut]) [] grNs 400 res [] Tryz.func16 hmA (u:=0) (sl:=grSl (b++[105]) b ((n:Int)-1)) (ob:=[.dead,.box gz0 GAT]) (σ:=[0,0]) (p':=lpAt grF 0) (by kernel_rfl) (fun β=>ok_of_maps (by kernel_rfl)) (by kernel_rfl) (by kernel_rfl) β w (fun k o ho=>by simp at ho) h
end Go.Proofs.YthkpghhoffihmaaGreatDoor.Y
end
section
namespace Go.Proofs.YthkpghhoffihmaaGreatDoor.Y
open Go Go.RowKit
set_option maxRecDepth 100000
noncomputable abbrev r3F:Func:=Tryz.f23
noncomputable abbrev r3N:Nat:=sizeS r3F [stV []]
abbrev FRT:TypeId:=25
abbrev fr0L:List Lf:=[.b (.v (.bool false)),.b (.v (.string ⟨#[]⟩)),.b (.v (.bool false)),.b (.v (.string ⟨#[]⟩))]
abbrev r3Sl (xs:List Nat) (a i:Nat):List (Nat × SV):=[(0,stV xs),(2,.one (.c (.b (.p 1 0)))),(3,rtI 0),(4,rtI (a:Int)),(5,rtI (i:Int))]
noncomputable abbrev r3c (xs:List Nat) (a i:Nat) (ev:List (Ev Tryz.prog)):Cf Tryz.prog:=mkC Tryz.prog r3N 0 (r3Sl xs a i) [.dead,.box fr0L FRT] ev
noncomputable abbrev r3H (β0:Env) (w:World) (res:SV) (C:Cf Tryz.prog):Prop:=HdOk Tryz.prog 0 r3N w.heap.size w β0 (bodyPost Tryz.prog r3F (Said Tryz.prog r3F 0 res [] β0 w)) C (lpAt r3F 0)
def sR3Int0 {d:Nat} (hd:d=1):Spec Tryz.prog:=(sR3Int 0 (by decide)).conv (.one (.a [.b (.v (.bool false)),.b (.v (.string (mag 0))),.b (.v (.bool false)),.b (.v (.string (mag d)))])) (by
 show SV.one (.a (fC (Rat.divInt 0 1)))=_
 rw [fC_int,hd]
 rfl)
def r3D {p:List Nat} (h8:B8 p) (hl:p.length≤100000) (h:Rd p) {d:Nat} (hv:rdN p=(d:Int)):Spec Tryz.prog:=(sRReadY h8 hl h hv).conv (.tup [.a [.b (.v (.bool false)),.b (.v (.string (mag d)))],.c (.b (.v (.int .i64 0)))]) (by
 show rdOk (d:Int)=_
 unfold rdOk
 rw [show decide ((d:Int)<0)=false from decide_eq_false (by omega),Int.natAbs_natCast])
def r3Go {xs:List Nat} {M i:Nat} (h8:B8 xs) (hM:xs.length=M) (hi:i<M) {x:Nat} (hx:xs.getD i 0=x) {b:Bool} (hb:((x:Int)==47)=b):List (Ev Tryz.prog) :=
 [.eqv 19 (.int .i64 (((strN xs).size:Nat):Int)) (.int .i64 (M:Int)) (stz_lit hM),.eqv 20 (.bool (decide ((i:Int)<(M:Int)))) (.bool true) (lt_lit (decide_eq_true (by omega))),.eqv 24 (.int .i64 (((strN xs).size:Nat):Int)) (.int .i64 (M:Int)) (stz_lit hM),.eqv 25 (.bool ((M:Int)==(M:Int))) (.bool true) (eq_lit (beq_self_eq_true _)),eStI h8 (by omega) hx,.eqv 32 (.bool ((x:Int)==47)) (.bool b) (eq_lit hb)]
def r3Up {i:Nat} (hi:i≤6000):Ev Tryz.prog:=.eqv 28 (.int .i64 (IntKind.i64.wrap ((i:Int)+1))) (.int .i64 ((i+1:Nat):Int)) (wi64 (by omega) (by omega))
def r3Out {xs:List Nat} {M a i:Nat} (hM:xs.length=M) (hi:i<M) (ha:a<M):List (Ev Tryz.prog) :=
 [.eqv 19 (.int .i64 (((strN xs).size:Nat):Int)) (.int .i64 (M:Int)) (stz_lit hM),.eqv 20 (.bool (decide ((i:Int)<(M:Int)))) (.bool true) (lt_lit (decide_eq_true (by omega))),.eqv 24 (.int .i64 (((strN xs).size:Nat):Int)) (.int .i64 (M:Int)) (stz_lit hM),.eqv 25 (.bool ((a:Int)==(M:Int))) (.bool false) (eq_lit (beq_eq_false_iff_ne.2 (by omega)))]
def r3End {xs:List Nat} {M i:Nat} (hM:xs.length=M) (hi:i=M):List (Ev Tryz.prog) :=
 [.eqv 19 (.int .i64 (((strN xs).size:Nat):Int)) (.int .i64 (M:Int)) (stz_lit hM),.eqv 20 (.bool (decide ((i:Int)<(M:Int)))) (.bool false) (lt_lit (decide_eq_false (by omega)))]
def r3A {xs:List Nat} {M a:Nat} (hM:xs.length=M) (ha:a≤M) {d:Nat} (hd:d=1) (S:Ev Tryz.prog):List (Ev Tryz.prog):=[(sR3Int0 hd).e,eStT xs (k:=a) (by omega),S]
def r3L {xs:List Nat} {M a:Nat} (hM:xs.length=M) {b:Bool} (hb:decide ((a:Int)<(M:Int))=b):List (Ev Tryz.prog):=[.eqv 46 (.int .i64 (((strN xs).size:Nat):Int)) (.int .i64 (M:Int)) (stz_lit hM),.eqv 47 (.bool (decide ((a:Int)<(M:Int)))) (.bool b) (lt_lit hb)]
def r3B {xs:List Nat} {M a:Nat} (hM:xs.length=M) (ha:a<M) (h6:M≤6000) (S:Ev Tryz.prog):List (Ev Tryz.prog):=r3L (a:=a) hM (decide_eq_true (by omega))++[.eqv 51 (.int .i64 (IntKind.i64.wrap ((a:Int)+1))) (.int .i64 ((a+1:Nat):Int)) (wi64 (by omega) (by omega)),eStD xs (k:=a+1) (by omega),S]
section
variable (β0:Env) (w:World) (res:SV) {xs:List Nat} {M i x:Nat} (h8:B8 xs) (hM:xs.length=M) (h6:M≤6000)
theorem r3_step (hi:i<M) (hx:xs.getD i 0=x) (hb:((x:Int)==47)=false) (h:r3H β0 w res (r3c xs M (i+1) [])):r3H β0 w res (r3c xs M i (r3Go h8 hM hi hx hb++[r3Up (i:=i) (by omega),.cut])):=piece_ok (Ns:=[]) (m:=300) [] [0,1] hmA (by kernel_rfl) (fun β=>ok_of_maps (by kernel_rfl)) h
theorem r3_hit (hi:i<M) (hx:xs.getD i 0=x) (hb:((x:Int)==47)=true) (h:r3H β0 w res (r3c xs i (i+1) [])):r3H β0 w res (r3c xs M i (r3Go h8 hM hi hx hb++[r3Up (i:=i) (by omega),.cut])):=piece_ok (Ns:=[]) (m:=300) [] [0,1] hmA (by kernel_rfl) (fun β=>ok_of_maps (by kernel_rfl)) h
section
variable (l1:(xs.take M).length≤100000)
theorem r3_a1 (hi:i=M) (hn:¬ Rd (xs.take M)):r3H β0 w frNo (r3c xs M i (r3End hM hi++r3A hM (Nat.le_refl M) (d:=1) rfl (sRReadN (h8.take M) l1 hn).e++r3L (a:=M) hM (b:=false) (decide_eq_false (by omega)))):=last_ok (Ns:=[]) (m:=300) hmA (fun β=>ok_of_maps (by kernel_rfl))
theorem r3_a2 (hi:i=M) (hR:Rd (xs.take M)) {v:Int} (hv:rdN (xs.take M)=v) (hn:¬ IsFrac (rawV (decide (v<0)) false (mag v.natAbs) (mag 1))):r3H β0 w frNo (r3c xs M i (r3End hM hi++r3A hM (Nat.le_refl M) (d:=1) rfl (sRReadY (h8.take M) l1 hR hv).e++r3L (a:=M) hM (b:=false) (decide_eq_false (by omega))++[(sR3May (decide (v<0)) false (mag v.natAbs) (mag 1) false (iff_false_of hn)).e])):=last_ok (Ns:=[]) (m:=300) hmA (fun β=>ok_of_maps (by kernel_rfl))
theorem r3_a3 (hi:i=M) (hR:Rd (xs.take M)) {y:Rat} (hy:Fit y) (hd:y.den=1) (hv:rdN (xs.take M)=y.num) (he:decide (textQ y=strN xs)=true):r3H β0 w (.tup [.a (fC y),nI' 0]) (r3c xs M i (r3End hM hi++r3A hM (Nat.le_refl M) hd (sRReadY (h8.take M) l1 hR hv).e++r3L (a:=M) hM (b:=false) (decide_eq_false (by omega))++[(sR3May (decide (y.num<0)) false (mag y.num.natAbs) (mag y.den) true (iff_true_of (fitF y hy))).e,(sR3Text hy).e,eStrNe (textQ y) (strN xs) he])):=last_ok (Ns:=[]) (m:=300) hmA (fun β=>ok_of_maps (by kernel_rfl))
end
section
variable {a:Nat} (ha:a<M) (l1:(xs.take a).length≤100000) (l2:(xs.drop (a+1)).length≤100000)
theorem r3_b1 (hi:i<M) {v:Int} (h1:Rd (xs.take a)) (hv:rdN (xs.take a)=v) (h2:¬ Rd (xs.drop (a+1))):r3H β0 w frNo (r3c xs a i (r3Out hM hi ha++r3A hM (Nat.le_of_lt ha) (d:=1) rfl (sRReadY (h8.take a) l1 h1 hv).e++r3B hM ha h6 (sRReadN (h8.drop (a+1)) l2 h2).e)):=last_ok (Ns:=[]) (m:=300) hmA (fun β=>ok_of_maps (by kernel_rfl))
theorem r3_b2 (hi:i<M) (h1:¬ Rd (xs.take a)) (h2:¬ Rd (xs.drop (a+1))):r3H β0 w frNo (r3c xs a i (r3Out hM hi ha++r3A hM (Nat.le_of_lt ha) (d:=1) rfl (sRReadN (h8.take a) l1 h1).e++r3B hM ha h6 (sRReadN (h8.drop (a+1)) l2 h2).e)):=last_ok (Ns:=[]) (m:=300) hmA (fun β=>ok_of_maps (by kernel_rfl))
theorem r3_b1e (hi:i=M) {v:Int} (h1:Rd (xs.take a)) (hv:rdN (xs.take a)=v) (h2:¬ Rd (xs.drop (a+1))):r3H β0 w frNo (r3c xs a i (r3End hM hi++r3A hM (Nat.le_of_lt ha) (d:=1) rfl (sRReadY (h8.take a) l1 h1 hv).e++r3B hM ha h6 (sRReadN (h8.drop (a+1)) l2 h2).e)):=last_ok (Ns:=[]) (m:=300) hmA (fun β=>ok_of_maps (by kernel_rfl))
theorem r3_b2e (hi:i=M) (h1:¬ Rd (xs.take a)) (h2:¬ Rd (xs.drop (a+1))):r3H β0 w frNo (r3c xs a i (r3End hM hi++r3A hM (Nat.le_of_lt ha) (d:=1) rfl (sRReadN (h8.take a) l1 h1).e++r3B hM ha h6 (sRReadN (h8.drop (a+1)) l2 h2).e)):=last_ok (Ns:=[]) (m:=300) hmA (fun β=>ok_of_maps (by kernel_rfl))
theorem r3_b3 (hi:i<M) {u:Int} (h1:¬ Rd (xs.take a)) (h2:Rd (xs.drop (a+1))) (hu:rdN (xs.drop (a+1))=u):r3H β0 w frNo (r3c xs a i (r3Out hM hi ha++r3A hM (Nat.le_of_lt ha) (d:=1) rfl (sRReadN (h8.take a) l1 h1).e++r3B hM ha h6 (sRReadY (h8.drop (a+1)) l2 h2 hu).e)):=last_ok (Ns:=[]) (m:=300) hmA (fun β=>ok_of_maps (by kernel_rfl))
theorem r3_b4 (hi:i<M) {v u:Int} (h1:Rd (xs.take a)) (hv:rdN (xs.take a)=v) (h2:Rd (xs.drop (a+1))) (hu:rdN (xs.drop (a+1))=u) (hn:¬ IsFrac (rawV (decide (v<0)) (decide (u<0)) (mag v.natAbs) (mag u.natAbs))):r3H β0 w frNo (r3c xs a i (r3Out hM hi ha++r3A hM (Nat.le_of_lt ha) (d:=1) rfl (sRReadY (h8.take a) l1 h1 hv).e++r3B hM ha h6 (sRReadY (h8.drop (a+1)) l2 h2 hu).e++[(sR3May (decide (v<0)) (decide (u<0)) (mag v.natAbs) (mag u.natAbs) false (iff_false_of hn)).e])):=last_ok (Ns:=[]) (m:=300) hmA (fun β=>ok_of_maps (by kernel_rfl))
section
variable {y:Rat} (hy:Fit y) (h1:Rd (xs.take a)) (hv:rdN (xs.take a)=y.num) (h2:Rd (xs.drop (a+1))) (hu:rdN (xs.drop (a+1))=(y.den:Int))
theorem r3_b5 (hi:i<M) (he:decide (textQ y=strN xs)=false):r3H β0 w frNo (r3c xs a i (r3Out hM hi ha++r3A hM (Nat.le_of_lt ha) (d:=1) rfl (sRReadY (h8.take a) l1 h1 hv).e++r3B hM ha h6 (r3D (h8.drop (a+1)) l2 h2 hu).e++[(sR3May (decide (y.num<0)) false (mag y.num.natAbs) (mag y.den) true (iff_true_of (fitF y hy))).e,(sR3Text hy).e,eStrNe (textQ y) (strN xs) he])):=last_ok (Ns:=[]) (m:=300) hmA (fun β=>ok_of_maps (by kernel_rfl))
theorem r3_b6 (hi:i<M) (he:decide (textQ y=strN xs)=true):r3H β0 w (.tup [.a (fC y),nI' 0]) (r3c xs a i (r3Out hM hi ha++r3A hM (Nat.le_of_lt ha) (d:=1) rfl (sRReadY (h8.take a) l1 h1 hv).e++r3B hM ha h6 (r3D (h8.drop (a+1)) l2 h2 hu).e++[(sR3May (decide (y.num<0)) false (mag y.num.natAbs) (mag y.den) true (iff_true_of (fitF y hy))).e,(sR3Text hy).e,eStrNe (textQ y) (strN xs) he])):=last_ok (Ns:=[]) (m:=300) hmA (fun β=>ok_of_maps (by kernel_rfl))
end
end
end
def sR3ReadL {xs:List Nat} {M:Nat} (hM:xs.length=M) (h6:6000<M):Spec Tryz.prog :=
 Spec.auto Tryz.call23 [stV xs] [] frNo [] [.eqv 12 (.int .i64 (((strN xs).size:Nat):Int)) (.int .i64 (M:Int)) (stz_lit hM),.eqv 13 (.bool (decide (6000<(M:Int)))) (.bool true) (lt_lit (decide_eq_true (by omega)))] [] 300 Tryz.func23 hmA (by kernel_rfl) (fun β=>by kernel_rfl)
theorem r3_start {xs:List Nat} {M:Nat} (hM:xs.length=M) (h6:M≤6000) (res:SV) (β:Env) (w:World) (h:r3H β w res (r3c xs M 0 [])) :
  Calls Tryz.prog 23 (([stV xs]:List SV).map (SV.den β)).toArray w (Said Tryz.prog r3F 0 res [] β w) :=
 sx_cut (P:=Tryz.prog) [stV xs] [] [.eqv 12 (.int .i64 (((strN xs).size:Nat):Int)) (.int .i64 (M:Int)) (stz_lit hM),.eqv 13 (.bool (decide (6000<(M:Int)))) (.bool false) (lt_lit (decide_eq_false (by omega))),.eqv 16 (.int .i64 (((strN xs).size:Nat):Int)) (.int .i64 (M:Int)) (stz_lit hM),.cut] [] [] 300 res [] Tryz.func23 hmA (u:=0) (sl:=r3Sl xs M 0) (ob:=[.dead,.box fr0L FRT]) (σ:=[0,0]) (p':=lpAt r3F 0) (by kernel_rfl) (fun β=>ok_of_maps (by kernel_rfl)) (by kernel_rfl) (by kernel_rfl) β w (fun k o ho=>by simp at ho) h
theorem cut_at_i {xs:List Nat} {i:Nat} (hi:i<xs.length) (hx:xs.getD i 0=47) (hb:∀ j,j<i→xs.getD j 0≠47):cutA xs=xs.take i∧cutB xs=some (xs.drop (i+1)):=by
 have e:xs=xs.take i++47::xs.drop (i+1):=by
  conv=>lhs; rw [← List.take_append_drop i xs]
  rw [List.drop_eq_getElem_cons hi]
  congr 2
  rw [← hx,getD_in hi]
 have hno:47 ∉ xs.take i:=fun h=>by
  obtain ⟨j,hj,e2⟩:=List.getElem_of_mem h
  rw [List.length_take] at hj
  rw [List.getElem_take] at e2
  exact hb j (by omega) (by rw [getD_in (by omega)]; exact e2)
 have:=cut_at (xs.take i) (xs.drop (i+1)) hno
 rw [← e] at this
 exact this
theorem cut_none {xs:List Nat} (hb:∀ j,j<xs.length→xs.getD j 0≠47):cutA xs=xs∧cutB xs=none:=cutA_all fun h=>by
 obtain ⟨j,hj,e2⟩:=List.getElem_of_mem h
 exact hb j hj (by rw [getD_in hj]; exact e2)
section
variable {β0:Env} {w:World} {res:SV} {xs:List Nat} {M:Nat} (h8:B8 xs) (hM:xs.length=M) (h6:M≤6000) (hY:∀ y,Fit y→tqL y=xs→res=.tup [.a (fC y),nI' 0]) (hN:(∀ y,Fit y→tqL y≠xs)→res=frNo)
include h8 hM h6 hY hN
theorem r3_hits {i:Nat} (hi:i<M) (hx:xs.getD i 0=47) (hb:∀ j,j<i→xs.getD j 0≠47):r3H β0 w res (r3c xs i (i+1) []):=by
 obtain ⟨hA,hB⟩:=cut_at_i (by omega) hx hb
 have l1:(xs.take i).length≤100000:=by rw [List.length_take]; omega
 have l2:(xs.drop (i+1)).length≤100000:=by rw [List.length_drop]; omega
 have tq1:∀ y,tqL y=xs→Rd (xs.take i)∧rdN (xs.take i)=y.num∧y.den≠1∧Rd (xs.drop (i+1))∧rdN (xs.drop (i+1))=(y.den:Int):=fun y e=>by
  obtain ⟨k1,k2,k3⟩:=tq_read y
  rw [e,hA] at k1 k2
  rw [e,hB] at k3
  rcases k3 with ⟨_,k3⟩ | ⟨k3,r,k4,k5,k6⟩
  · cases k3
  · obtain rfl:=Option.some.inj k4
    exact ⟨k1,k2,k3,k5,k6⟩
 by_cases hend:i+1=M
 · have hd:xs.drop (i+1)=[]:=List.drop_eq_nil_of_le (by omega)
   have h2:¬ Rd (xs.drop (i+1)):=fun h=>by
    rw [hd] at h
    exact ((rd_ref []).1 h).1 rfl
   rw [hN fun y hy e=>h2 (tq1 y e).2.2.2.1]
   by_cases h1:Rd (xs.take i)
   · exact hd_ev (r3_b1e β0 w h8 hM h6 hi l1 l2 hend h1 rfl h2)
   · exact hd_ev (r3_b2e β0 w h8 hM h6 hi l1 l2 hend h1 h2)
 have hlt:i+1<M:=by omega
 by_cases h2:Rd (xs.drop (i+1))
 rotate_left
 · rw [hN fun y hy e=>h2 (tq1 y e).2.2.2.1]
   by_cases h1:Rd (xs.take i)
   · exact hd_ev (r3_b1 β0 w h8 hM h6 hi l1 l2 hlt h1 rfl h2)
   · exact hd_ev (r3_b2 β0 w h8 hM h6 hi l1 l2 hlt h1 h2)
 by_cases h1:Rd (xs.take i)
 rotate_left
 · rw [hN fun y hy e=>h1 (tq1 y e).1]
   exact hd_ev (r3_b3 β0 w h8 hM h6 hi l1 l2 hlt h1 h2 rfl)
 by_cases hf:IsFrac (rawV (decide (rdN (xs.take i)<0)) (decide (rdN (xs.drop (i+1))<0)) (mag (rdN (xs.take i)).natAbs) (mag (rdN (xs.drop (i+1))).natAbs))
 · obtain ⟨y,hy,hv⟩:=hf
   obtain ⟨k1,k2⟩:=raw_num hv
   cases he:decide (tqL y=xs) with
   | true =>
    rw [hY y hy (of_decide_eq_true he)]
    exact hd_ev (r3_b6 β0 w h8 hM h6 hi l1 l2 hy h1 k1 h2 k2 hlt (tq_dec h8 he))
   | false =>
    rw [hN fun z hz e=>?_]
    · exact hd_ev (r3_b5 β0 w h8 hM h6 hi l1 l2 hy h1 k1 h2 k2 hlt (tq_dec h8 he))
    · obtain ⟨_,j2,_,_,j5⟩:=tq1 z e
      have:y=z:=Rat.ext (by rw [← k1,j2]) (by omega)
      subst this
      exact of_decide_eq_false he e
 · rw [hN fun y hy e=>?_]
   · exact hd_ev (r3_b4 β0 w h8 hM h6 hi l1 l2 hlt h1 rfl h2 rfl hf)
   · obtain ⟨_,j2,_,_,j5⟩:=tq1 y e
     refine hf ⟨y,hy,?_⟩
     rw [j2,j5,show decide ((y.den:Int)<0)=false from decide_eq_false (by omega),Int.natAbs_natCast]
     rfl
theorem r3_ends (hb:∀ j,j<M→xs.getD j 0≠47):r3H β0 w res (r3c xs M M []):=by
 obtain ⟨hA,hB⟩:=cut_none (xs:=xs) (by rw [hM]; exact hb)
 have ht:xs.take M=xs:=List.take_of_length_le (by omega)
 have l1:(xs.take M).length≤100000:=by rw [List.length_take]; omega
 have tq1:∀ y,tqL y=xs→Rd (xs.take M)∧rdN (xs.take M)=y.num∧y.den=1:=fun y e=>by
  obtain ⟨k1,k2,k3⟩:=tq_read y
  rw [e,hA] at k1 k2
  rw [e,hB] at k3
  rw [ht]
  rcases k3 with ⟨k3,_⟩ | ⟨_,r,k4,_⟩
  · exact ⟨k1,k2,k3⟩
  · cases k4
 by_cases h1:Rd (xs.take M)
 rotate_left
 · rw [hN fun y hy e=>h1 (tq1 y e).1]
   exact hd_ev (r3_a1 β0 w h8 hM l1 rfl h1)
 by_cases hf:IsFrac (rawV (decide (rdN (xs.take M)<0)) false (mag (rdN (xs.take M)).natAbs) (mag 1))
 · obtain ⟨y,hy,hv⟩:=hf
   have hv':(Value.agg #[.bool (decide (rdN (xs.take M)<0)),.string (mag (rdN (xs.take M)).natAbs),.bool (decide ((1:Int)<0)),.string (mag (1:Int).natAbs)])=fracV y:=hv
   obtain ⟨k1,k2⟩:=raw_num hv'
   have hd:y.den=1:=by omega
   have e:tqL y=xs:=by
    unfold tqL
    rw [if_pos hd,← k1,h1.txt,ht]
   rw [hY y hy e]
   exact hd_ev (r3_a3 β0 w h8 hM l1 rfl h1 hy hd k1 (tq_dec h8 (decide_eq_true e)))
 · rw [hN fun y hy e=>?_]
   · exact hd_ev (r3_a2 β0 w h8 hM l1 rfl h1 rfl hf)
   · obtain ⟨_,j2,j3⟩:=tq1 y e
     refine hf ⟨y,hy,?_⟩
     rw [j2]
     unfold fracV rawV
     rw [j3]
theorem r3_join:∀ f i,M-i=f→i≤M→(∀ j,j<i→xs.getD j 0≠47)→r3H β0 w res (r3c xs M i []):=by
 intro f
 induction f with
 | zero =>
  intro i hf hi hb
  obtain rfl:i=M:=by omega
  exact r3_ends h8 hM h6 hY hN hb
 | succ f ih =>
  intro i hf hi hb
  obtain ⟨x,hx⟩:∃ x,xs.getD i 0=x:=⟨_,rfl⟩
  cases hq:((x:Int)==47) with
  | true =>
   have e:x=47:=by
    have:=beq_iff_eq.1 hq
    omega
   exact hd_ev (r3_hit β0 w res h8 hM h6 (by omega) hx hq (r3_hits h8 hM h6 hY hN (by omega) (by rw [hx,e]) hb))
  | false =>
   have e:x≠47:=fun e=>by
    rw [e] at hq
    exact absurd hq (by decide)
   refine hd_ev (r3_step β0 w res h8 hM h6 (by omega) hx hq (ih (i+1) (by omega) (by omega) fun j hj=>?_))
   by_cases ej:j=i
   · rw [ej,hx]
     exact e
   · exact hb j (by omega)
end
theorem r3_specOf {res:SV} {β:Env} {w:World} {e:Ending} {w':World} (hr:∃ (a c:Bool × ByteArray) (k:Int),res=.tup [.a [.b (.v (.bool a.1)),.b (.v (.string a.2)),.b (.v (.bool c.1)),.b (.v (.string c.2))],.c (.b (.v (.int .i64 k)))]) (h:Said Tryz.prog r3F 0 res [] β w e w'):∃ xs:List Pl,freshS β w 0 xs∧e=.returned (res.den (extE β 0 xs))∧newHold w' [] xs∧Below w.heap.size w w':=by
 obtain ⟨a,c,k,rfl⟩:=hr
 obtain ⟨β',q,obj,_,rfl,_,_,_,g⟩:=h
 exact ⟨[],(fun _ h=>by cases h),rfl,trivial,g.bel⟩
theorem r3read_all {xs:List Nat} (h8:B8 xs) {res:SV} (hY:∀ y,Fit y→tqL y=xs→xs.length≤6000→res=.tup [.a (fC y),nI' 0]) (hN:((∀ y,Fit y→tqL y≠xs)∨6000<xs.length)→res=frNo) (β:Env) (w:World) :
  Calls Tryz.prog 23 (([stV xs]:List SV).map (SV.den β)).toArray w fun e w'=>∃ ys:List Pl,freshS β w 0 ys∧e=.returned (res.den (extE β 0 ys))∧newHold w' [] ys∧Below w.heap.size w w':=by
 by_cases hl:6000<xs.length
 · rw [hN (.inr hl)]
   exact (sR3ReadL rfl hl).ok β w (hh0 β w)
 · have hres:∃ (a c:Bool × ByteArray) (k:Int),res=.tup [.a [.b (.v (.bool a.1)),.b (.v (.string a.2)),.b (.v (.bool c.1)),.b (.v (.string c.2))],.c (.b (.v (.int .i64 k)))]:=by
    by_cases hR:∃ y,Fit y∧tqL y=xs
    · obtain ⟨y,h1,h2⟩:=hR
      exact ⟨(_,_),(_,_),_,hY y h1 h2 (by omega)⟩
    · exact ⟨(_,_),(_,_),_,hN (.inl fun y h1 h2=>hR ⟨y,h1,h2⟩)⟩
   exact (r3_start rfl (by omega) res β w (r3_join h8 rfl (by omega) (fun y h1 h2=>hY y h1 h2 (by omega)) (fun h=>hN (.inl h)) _ 0 rfl (by omega) (fun j hj=>absurd hj (Nat.not_lt_zero j)))).mono fun e w' h=>r3_specOf hres h
def sR3ReadY {x:Rat} (hx:Fit x) (hl:(tqL x).length≤6000):Spec Tryz.prog :=
 ⟨23,Tryz.call23,[stV (tqL x)],[],.tup [.a (fC x),nI' 0],[],fun β w _=>r3read_all (B8_tq x) (fun y _ e _=>by rw [tq_inj e]) (fun h=>h.elim (fun h=>absurd rfl (h x hx)) (fun h=>absurd h (by omega))) β w,by kernel_rfl⟩
def sR3ReadN {xs:List Nat} (h8:B8 xs) (h:(∀ y,Fit y→tqL y≠xs)∨6000<xs.length):Spec Tryz.prog :=
 ⟨23,Tryz.call23,[stV xs],[],frNo,[],fun β w _=>r3read_all h8 (fun y h1 h2 h3=>h.elim (fun h=>absurd h2 (h y h1)) (fun h=>absurd h (by omega))) (fun _=>rfl) β w,by kernel_rfl⟩
end Go.Proofs.YthkpghhoffihmaaGreatDoor.Y
end
section
namespace Go.Proofs.YthkpghhoffihmaaGreatDoor
open Go
theorem dd_len10:∀ (k n:Nat),n<10^k→(dd n).length≤k
 | 0,n,h=>by
  have:n=0:=by simpa using h
  rw [this,dd_zero]
  exact Nat.le_refl _
 | k+1,n,h=>by
  rcases Nat.eq_zero_or_pos n with h0 | h0
  · rw [h0,dd_zero]
    exact Nat.zero_le _
  · rw [dd_pos n h0,List.length_cons]
    have:=dd_len10 k (n/10) (Nat.div_lt_of_lt_mul (by rw [Nat.pow_succ,Nat.mul_comm] at h; exact h))
    omega
theorem pow_2467:(256:Nat)^1024≤10^2467:=by decide +kernel
theorem txt_len {n:Int} (h:(mag n.natAbs).size≤1024):(txt n).length≤2468:=by
 have h1:=dd_len10 2467 n.natAbs (Nat.lt_of_lt_of_le (mag_size_le.1 h) pow_2467)
 unfold txt
 split
 · decide
 · rw [List.length_reverse,List.length_append]
   split
   · simp only [List.length_cons,List.length_nil]
     omega
   · simp only [List.length_nil]
     omega
theorem tq_len {x:Rat} (hx:Fit x):(tqL x).length≤4937:=by
 have h1:=txt_len hx.1
 have h2:=txt_len (n:=(x.den:Int)) (by rw [Int.natAbs_natCast]; exact hx.2)
 unfold tqL
 split
 · omega
 · rw [List.length_append,List.length_cons]
   omega
end Go.Proofs.YthkpghhoffihmaaGreatDoor
end
