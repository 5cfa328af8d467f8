/- RefC, RefG, Arh, Frm, RefH. -/
import Derived.BigQuiet
import Derived.Deep.QuietTactic
import Derived.Test.YtimfgjcidigbiaaGreatPk8
set_option linter.unnecessarySimpa false
set_option linter.unusedVariables false
set_option linter.unusedSimpArgs false
section
namespace Go.Proofs.YtimfgjcidigbiaaGreat
section
open Go.RowKit
theorem dig_len_bytes (n : Nat) : (dig n).length = ((led n).length + 3) / 4:=by
  refine Nat.le_antisymm (dig_len_le _ _ ?_) ?_
  · have h:=led_lt n
    rw [p256] at h
    rw [p32]
    exact Nat.lt_of_lt_of_le h (Nat.pow_le_pow_right (by decide) (by omega))
  · rcases Nat.eq_zero_or_pos n with h0 | h0
    · subst h0; rw [led_zero]; exact Nat.zero_le _
    · have h1:=led_len_pos n h0
      have h2:=dig_lt n
      rw [p256] at h1
      rw [p32] at h2
      have:=(Nat.pow_lt_pow_iff_right (by decide : 1 < 2)).1 (Nat.lt_of_le_of_lt h1 h2)
      omega
theorem full_dig {ls : List Nat} {n : Nat} (hw : Wf ls) (hv : val ls = n) (hl : ls.length = (dig n).length) : ls = dig n:=by
  have h:=dig_of ls n hw hv
  have h2:=trim_eq_take ls
  rw [h,← hl,List.take_of_length_le (Nat.le_refl _)] at h2
  exact h2.symm
theorem str_at {s : ByteArray} {n : Nat} (hs : s = mag n) (m k : Nat) (hm : m = s.size) (hk : k < m) (h : m - 1 - k < s.size) : (s[m - 1 - k]'h).toNat = (led n).getD k 0:=by
  have e : leS s = led n:=by rw [hs,leS_mag]
  have h1:=leS_getD s k (by omega)
  rw [e] at h1
  rw [h1]
  subst hm
  rfl
set_option maxHeartbeats 1600000 in
set_option maxRecDepth 100000 in
theorem words_any {w : World} (s : ByteArray) (n : Nat) (hs : s = mag n) (hm : s.size ≤ 4294967296) :
    Calls Tryz.prog 287 #[.string s] w fun e w'=>∃ A c,e = .returned (.slice A (dig n).length c) ∧ Words w' (.slice A (dig n).length c) (dig n) ∧ Below w.heap.size w w':=by
  obtain ⟨m,hms⟩ : ∃ m,m = s.size:=⟨_,rfl⟩
  have HN : Hid ((led n).length = m):=by rw [hms,hs,Hid,mag_size]
  have hmi : (s.size : Int) = (m : Int):=by rw [hms]
  have hmb : m ≤ 4294967296:=by omega
  have HS:=Lib.hid hs
  have HM:=Lib.hid hms
  clear hs hms
  go_enter Tryz.func287,Tryz.ntmps287
  go_wp2_with (at_make; refine wpList_make_words rfl _ _ rfl _ _ _ _ ((m + 3) / 4) ((m + 3) / 4) rfl rfl (by omega) (by omega) (by omega) (by omega) ?_)
  intro w1 hbuf hb1 hz1
  have HZ1:=Lib.hid hz1
  clear hz1
  go_wp2
  go_loopw [4] (fun i wr=>∃ (k : Nat) (ls : List Nat),k ≤ m ∧ i = .int .i64 (k : Int) ∧ Hid (ls.length = (m + 3) / 4) ∧ Hid (val ls = bval ((led n).take k)) ∧ Buf wr w.heap.size ls ∧ Below w.heap.size w wr) (fun i _=>m - (intOf i).toNat)
  case atStart=>exact ⟨0,List.replicate ((m + 3) / 4) 0,by omega,rfl,by simp [Hid],by rw [Hid,val_zeros]; rfl,hbuf,hb1⟩
  case round =>
    obtain ⟨k,ls,hk,rfl,HL,HVL,hbuf',hb'⟩:=hrel
    have hsz:=hb'.size
    have hblt:=hbuf'.lt
    clear hbuf hb1 HZ1
    by_cases hk0 : k < m
    · obtain ⟨q,hq⟩ : ∃ q,q = k / 4:=⟨_,rfl⟩
      obtain ⟨r,hr⟩ : ∃ r,r = k % 4:=⟨_,rfl⟩
      obtain ⟨sh,hs⟩ : ∃ sh,sh = k % 4 * 8:=⟨_,rfl⟩
      obtain ⟨x,hx⟩ : ∃ x,x = (led n).getD k 0:=⟨_,rfl⟩
      obtain ⟨a,ha⟩ : ∃ a,a = ls.getD q 0:=⟨_,rfl⟩
      obtain ⟨k1,k2,k3,k4,k5⟩:=byte_into ls (led n) k x q sh hbuf'.1 (by rw [HL.out]; omega) HVL.out (B8_led n) (by rw [HN.out]; exact hk0) hx.symm hq hs
      have hidx : m - 1 - k < s.size:=by omega
      have hch : (s[m - 1 - k]'hidx).toNat = x:=by rw [hx]; exact str_at HS.out m k HM.out hk0 hidx
      have hqi : (k : Int) / 4 = (q : Int):=by omega
      have hri : (k : Int) % 4 = (r : Int):=by omega
      have hsi : 8 * (r : Int) = (sh : Int):=by omega
      have hs24 : sh ≤ 24:=by omega
      have hc2:=hbuf'.cell q (by rw [HL.out]; omega)
      rw [← ha] at hc2 k2 k3 k4 k5
      have hf:=hbuf'.frozen q
      have HB:=Lib.hid (hbuf'.set q (a + x * 2 ^ sh) _ k4 rfl)
      obtain ⟨t,ht⟩ : ∃ t,t = x * 2 ^ sh:=⟨_,rfl⟩
      have hti : (x : Int) * 2 ^ sh = (t : Int):=by rw [ht,Int.natCast_mul,Int.natCast_pow]; rfl
      rw [← ht] at k3 k4 k5 HB
      rw [Int.natCast_add] at HB
      have hmk2 : ((m : Int) - 1 - (k : Int)) = ((m - 1 - k : Nat) : Int):=by omega
      have HK5:=Lib.hid k5
      have hql : q < (m + 3) / 4:=by omega
      clear ha hx ht hq hr hs k2 k3 k5 hbuf'
      go_wp2
      go_region
      go_wp2
      go_roundw
      case rel =>
        refine ⟨k + 1,ls.set q (a + t),by omega,by go_num,by rw [Hid,List.length_set]; exact HL.out,HK5.out,HB.out,Below.drew (hb'.setCell (Nat.le_refl _) _)⟩
      case measure=>simp [intOf]; omega
    · obtain rfl : k = m:=by omega
      have hv:=HVL.out
      rw [List.take_of_length_le (by rw [HN.out]; exact Nat.le_refl _),bval_led] at hv
      have hd : ls = dig n:=full_dig hbuf'.1 hv (by rw [HL.out,dig_len_bytes,HN.out])
      have hln : (dig n).length = (k + 3) / 4:=by rw [← hd]; exact HL.out
      have hw:=hbuf'.words (cap:=(k + 3) / 4) (by rw [HL.out]; omega) (by rw [HL.out]; exact Nat.le_refl _)
      rw [hd] at hw
      have HW:=Lib.hid hw
      have HLN:=Lib.hid hln
      clear hbuf' hw hv hd hln
      go_wp2
      go_ret
      exact ⟨some ⟨w.heap.size,0,none⟩,(k + 3) / 4,by rw [HLN.out]; rfl,HW.out,hb'⟩
set_option maxHeartbeats 800000 in
set_option maxRecDepth 100000 in
theorem runder_cells (xs ys : List Nat) (b o b' o' n ca cb : Nat) (r : Int) (w : World) (hx : xs.length = n) (hy : ys.length = n) (hb : n ≤ 17179869184) (h0 : 0 < n) (hwx : Wf xs) (hwy : Wf ys) (hr : r = cmpN (val xs) (val ys))
    (hc : ∀ i,i < n → w.cell? ⟨b,o + i,none⟩ = some (.int .u32 (xs.getD i 0 : Nat))) (hd : ∀ i,i < n → w.cell? ⟨b',o' + i,none⟩ = some (.int .u32 (ys.getD i 0 : Nat))) :
    Calls Tryz.prog 286 #[.slice (some ⟨b,o,none⟩) n ca,.slice (some ⟨b',o',none⟩) n cb] w fun e w'=>e = .returned (.int .i64 r) ∧ Dr w w':=by
  have HX:=Lib.hid hx
  have HY:=Lib.hid hy
  have HR:=Lib.hid hr
  clear hx hy hr
  go_enter Tryz.func286,Tryz.ntmps286
  go_wp2
  go_loopw [5] (fun i wr=>∃ k : Nat,k ≤ n ∧ i = .int .i64 ((k : Int) - 1) ∧ (∀ j,k ≤ j → j < n → xs.getD j 0 = ys.getD j 0) ∧ Dr w wr) (fun i _=>(intOf i + 1).toNat)
  case atStart=>exact ⟨n,Nat.le_refl _,rfl,fun j h1 h2=>by omega,Dr.refl _⟩
  case round =>
    obtain ⟨k,hk,rfl,hs,d,rfl⟩:=hrel
    have HS:=Lib.hid hs
    clear hs
    by_cases hk0 : 0 < k
    · obtain ⟨k,rfl⟩ : ∃ j,k = j + 1:=⟨k - 1,by omega⟩
      have e1 : ((k + 1 : Nat) : Int) - 1 = (k : Int):=by omega
      rw [e1]
      clear e1
      have hk1 : (0 : Int) ≤ (k : Int):=by omega
      have hk2 : (k : Int) < (n : Int):=by omega
      have hcell:=hc k (by omega)
      have hcell':=hd k (by omega)
      go_wp2
      go_quiet (fail)
      go_wp2
      · have h1 : (xs[k]?.getD 0) < (ys[k]?.getD 0):=by assumption
        go_ret
        refine ⟨ret_i ?_,by repeat (first | exact ⟨_,rfl⟩ | refine Dr.n ?_ _)⟩
        have h2:=val_lt_of xs ys k hwx (by rw [HX.out,HY.out]) (by rw [HX.out]; omega) (by simpa using h1) (fun j h3 h4=>HS.out j (by omega) (by rw [HX.out] at h4; exact h4))
        rw [HR.out,cmpN,if_pos h2]
      · go_quiet (fail)
        go_wp2
        · have h1 : (ys[k]?.getD 0) < (xs[k]?.getD 0):=by assumption
          go_ret
          refine ⟨ret_i ?_,by repeat (first | exact ⟨_,rfl⟩ | refine Dr.n ?_ _)⟩
          have h2:=val_lt_of ys xs k hwy (by rw [HX.out,HY.out]) (by rw [HY.out]; omega) (by simpa using h1) (fun j h3 h4=>(HS.out j (by omega) (by rw [HY.out] at h4; exact h4)).symm)
          rw [HR.out,cmpN,if_neg (by omega),if_pos h2]
        · have h1 : (ys[k]?.getD 0) ≤ (xs[k]?.getD 0):=Nat.le_of_not_lt (by assumption)
          have h2 : (xs[k]?.getD 0) ≤ (ys[k]?.getD 0):=Nat.le_of_not_lt (by assumption)
          go_roundw
          case rel =>
            refine ⟨k,by omega,rfl,fun j h3 h4=>?_,by repeat (first | exact ⟨_,rfl⟩ | refine Dr.n ?_ _)⟩
            rcases Nat.eq_or_lt_of_le h3 with rfl | h5
            · simpa using Nat.le_antisymm h2 h1
            · exact HS.out j (by omega) h4
          case measure=>simp [intOf]
    · obtain rfl : k = 0:=by omega
      go_wp2
      go_ret
      refine ⟨ret_i ?_,_,rfl⟩
      have : xs = ys:=val_eq_of_same xs ys (by rw [HX.out,HY.out]) (fun i hi=>HS.out i (by omega) (by rw [HX.out] at hi; exact hi))
      rw [HR.out,this]
      simp [cmpN]
set_option maxHeartbeats 800000 in
set_option maxRecDepth 100000 in
theorem runder_any {w : World} {A B : Option Addr} {la ca lb cb n m : Nat} (hx : Words w (.slice A la ca) (dig n)) (hy : Words w (.slice B lb cb) (dig m)) :
    Calls Tryz.prog 286 #[.slice A la ca,.slice B lb cb] w fun e w'=>e = .returned (.int .i64 (cmpN n m)) ∧ Dr w w':=by
  have hla:=hx.len.1
  have hlb:=hy.len.1
  have hsz:=hx.2.1
  have hsz2:=hy.2.1
  rcases Nat.lt_trichotomy la lb with h | h | h
  · have hc : cmpN n m = -1:=by rw [cmpN,if_pos (dig_len_lt n m (by omega))]
    rw [hc]
    rw [← hla] at hsz
    rw [← hlb] at hsz2
    clear hx hy hc hla hlb
    go_enter Tryz.func286,Tryz.ntmps286
    go_wp2
    go_ret
    exact ⟨rfl,Dr.refl _⟩
  · subst h
    by_cases h0 : la = 0
    · subst h0
      have e1:=(dig_nil_iff n).1 (List.eq_nil_of_length_eq_zero hla.symm)
      have e2:=(dig_nil_iff m).1 (List.eq_nil_of_length_eq_zero hlb.symm)
      have hc : cmpN n m = 0:=by rw [e1,e2]; rfl
      rw [hc]
      clear hx hy hc hla hlb hsz hsz2 e1 e2
      go_enter Tryz.func286,Tryz.ntmps286
      go_wp2
      refine wp_loop_rounds 1 ?_
      rw [rounds_succ]
      go_wp2
      go_ret
      exact ⟨rfl,Dr.refl _⟩
    · obtain ⟨b,o,rfl,hc⟩:=hx.open_ (by omega)
      obtain ⟨b',o',rfl,hd⟩:=hy.open_ (by omega)
      exact runder_cells (dig n) (dig m) b o b' o' la ca cb _ w hla.symm hlb.symm (by omega) (by omega) (Wf_dig n) (Wf_dig m) (by rw [val_dig,val_dig]) hc hd
  · have hc : cmpN n m = 1:=by have:=dig_len_lt m n (by omega); rw [cmpN,if_neg (by omega),if_pos this]
    rw [hc]
    rw [← hla] at hsz
    rw [← hlb] at hsz2
    clear hx hy hc hla hlb
    go_enter Tryz.func286,Tryz.ntmps286
    go_wp2
    go_ret
    exact ⟨rfl,Dr.refl _⟩
theorem at_any {w : World} {A : Option Addr} {n cap : Nat} {xs : List Nat} (h : Words w (.slice A n cap) xs) (i : Nat) (hi : i ≤ 4611686018427387904) :
    Calls Tryz.prog 329 #[.slice A n cap,.int .i64 (i : Int)] w fun e w'=>e = .returned (.int .u64 ((xs.getD i 0 : Nat) : Int)) ∧ w = w':=by
  have hl:=h.len.1
  have hb:=h.2.1
  have HX:=Lib.hid h
  have HL:=Lib.hid hl
  have hn : n ≤ 17179869184:=by omega
  obtain ⟨x,hx⟩ : ∃ x,x = xs.getD i 0:=⟨_,rfl⟩
  have hx32 : x < 4294967296:=by rw [hx]; exact h.1.getD i
  by_cases hlt : i < n
  · obtain ⟨b,o,rfl,hall⟩:=h.open_ (by omega)
    have hc:=hall i (by omega)
    rw [← hx] at hc ⊢
    clear hall h hx hl hb
    go_enter Tryz.func329,Tryz.ntmps329
    go_wp2
    go_ret
    exact ⟨rfl,rfl⟩
  · have hx0 : x = 0:=by rw [hx]; exact getD_out (by omega)
    rw [← hx,hx0]
    clear h hx hl hb hx0
    go_enter Tryz.func329,Tryz.ntmps329
    go_wp2
    go_ret
    exact ⟨rfl,rfl⟩
set_option maxHeartbeats 800000 in
theorem small_any {A : Option Addr} {la ca : Nat} {xs : List Nat} {w : World} (hx : Words w (.slice A la ca) xs) (h1 : la ≤ 17179869184) (d : Nat) (hd0 : 0 < d) (hd : d < 4294967296) :
    Calls Tryz.prog 332 #[.slice A la ca,.int .u64 (d : Int)] w fun e w'=>∃ v,e = .returned (.tuple #[v,.int .u64 ((val xs % d : Nat) : Int)]) ∧ Words w' v (dig (val xs / d)) ∧ Below w.heap.size w w':=by
  have hla:=Lib.hid hx.len.1
  have HA:=Lib.hid hx
  have hwx:=Lib.hid hx.1
  clear hx
  have hd1 : (1 : Int) ≤ (d : Int):=by omega
  go_enter Tryz.func332,Tryz.ntmps332
  go_wp2_with (at_make; refine wpList_make_words rfl _ _ rfl _ _ _ _ la la rfl rfl rfl rfl (by omega) (by omega) ?_)
  intro w1 hbuf hb1 hz1
  have HZ:=Lib.hid hz1
  clear hz1
  go_wp2
  go_loopw [7,8] (fun c i wr=>∃ (k r : Nat) (qs : List Nat),k ≤ la ∧ r < d ∧ c = .int .u64 (r : Int) ∧ i = .int .i64 ((k : Int) - 1) ∧ Hid (qs.length = la - k) ∧ Hid (val qs * d + r = val (xs.drop k)) ∧ Buf wr w.heap.size (List.replicate k 0 ++ qs) ∧ Below w.heap.size w wr) (fun _ i _=>(intOf i + 1).toNat)
  case atStart=>exact ⟨la,0,[],by omega,hd0,rfl,rfl,by simp [Hid],by rw [Hid,List.drop_of_length_le (by rw [hla.out]; exact Nat.le_refl _)]; simp [val],by simpa using hbuf,hb1⟩
  case round =>
    obtain ⟨k,r,qs,hk,hr,rfl,rfl,HK,HV,hbuf',hb'⟩:=hrel
    have hlt:=hb'.size
    have hblt:=hbuf'.lt
    clear hbuf hb1 HZ
    by_cases hk0 : 0 < k
    · obtain ⟨k,rfl⟩ : ∃ j,k = j + 1:=⟨k - 1,by omega⟩
      have e1 : ((k + 1 : Nat) : Int) - 1 = (k : Int):=by omega
      rw [e1]
      clear e1
      have hX:=(HA.out.below hb')
      obtain ⟨b,o,rfl,hall⟩:=hX.open_ (by omega)
      obtain ⟨x,hx⟩ : ∃ x,x = xs.getD k 0:=⟨_,rfl⟩
      have hcx : wr.cell? ⟨b,o + k,none⟩ = some (.int .u32 (x : Int)):=by rw [hx]; exact hall k (by omega)
      have hxl : x < 4294967296:=by rw [hx]; exact hwx.out.getD k
      have hst:=hbuf'.cell k (by rw [List.length_append,HK.out,List.length_replicate]; omega)
      have hfz:=hbuf'.frozen k
      have HBUF:=Lib.hid hbuf'
      obtain ⟨t,ht⟩ : ∃ t,t = r * 4294967296 + x:=⟨_,rfl⟩
      have hti : (r : Int) * 4294967296 + (x : Int) = (t : Int):=by omega
      have hrb : (r : Int) * 4294967296 ≤ 18446744069414584320:=by omega
      have htb : t ≤ 18446744073709551615:=by omega
      obtain ⟨q,hqd⟩ : ∃ q,q = t / d:=⟨_,rfl⟩
      obtain ⟨r',hrd⟩ : ∃ r',r' = t % d:=⟨_,rfl⟩
      have hq : ((t : Int) / (d : Int)) = (q : Int):=by rw [hqd]; rfl
      have hq2 : ((t : Int) % (d : Int)) = (r' : Int):=by rw [hrd]; rfl
      have hqb : q ≤ 4294967295:=by have:=short_word r d x hr hxl; rw [← ht,← hqd] at this; omega
      have hrb : r' < d:=by rw [hrd]; exact Nat.mod_lt _ hd0
      have HQ:=Lib.hid hqd
      have HR:=Lib.hid hrd
      have HT:=Lib.hid ht
      have HXX:=Lib.hid hx
      have hk1 : (0 : Int) ≤ (k : Int):=by omega
      clear hX hall hbuf' ht hqd hrd hx
      go_wp2
      go_roundw
      case rel =>
        refine ⟨k,r',q :: qs,by omega,hrb,by rw [hq2],rfl,?_,by rw [HQ.out,HR.out]; exact short_val xs qs k r d t (by have:=hla.out; omega) HV.out (by rw [HT.out,HXX.out]),?_,hb'.setCell (Nat.le_refl _) _⟩
        · rw [Hid,List.length_cons,HK.out]; omega
        · have:=HBUF.out.set k q _ (by omega) rfl
          rw [set_zero_append] at this
          exact this
      case measure=>simp [intOf]
    · obtain rfl : k = 0:=by omega
      rw [List.replicate_zero,List.nil_append] at hbuf'
      have hw:=hbuf'.words (cap:=la) (by rw [HK.out]; omega) (by rw [HK.out]; omega)
      rw [HK.out,Nat.sub_zero] at hw
      have HW:=Lib.hid hw
      have hend:=Lib.hid (short_end xs qs r d hr (by have:=HV.out; rwa [List.drop_zero] at this))
      clear hbuf' hw
      go_wp2_with (go_at_call 301; refine (rcut_any HW.out).mono ?_; rintro e w2 ⟨rfl,rfl⟩)
      go_ret2
      refine ⟨.slice (some ⟨w.heap.size,0,none⟩) (trim qs).length la,?_,?_,hb'⟩
      · rw [← hend.out.2]; rfl
      · rw [← dig_of qs _ HW.out.1 hend.out.1]
        exact HW.out.trim_
end
section
open Go.RowKit
set_option maxHeartbeats 1600000 in
set_option maxRecDepth 100000 in
theorem rmore_any {A B : Option Addr} {la ca lb cb : Nat} {xs ys : List Nat} {w : World} (hx : Words w (.slice A la ca) xs) (hy : Words w (.slice B lb cb) ys) (h1 : la ≤ 8589934592) (h2 : lb ≤ 8589934592) :
    Calls Tryz.prog 290 #[.slice A la ca,.slice B lb cb] w fun e w'=>∃ v,e = .returned v ∧ Words w' v (dig (val xs + val ys)) ∧ Below w.heap.size w w':=by
  have hla:=Lib.hid hx.len.1
  have hlb:=Lib.hid hy.len.1
  have HA:=Lib.hid hx
  have HB:=Lib.hid hy
  have hwx:=Lib.hid hx.1
  have hwy:=Lib.hid hy.1
  obtain ⟨n,hn⟩ : ∃ n,n = max la lb + 1:=⟨_,rfl⟩
  have hnb : n ≤ 8589934593:=by omega
  rcases Nat.lt_or_ge la lb with hcase | hcase
  · have hni : (lb : Int) + 1 = (n : Int):=by omega
    have HN:=Lib.hid hn
    clear hx hy hn
    go_enter Tryz.func290,Tryz.ntmps290
    go_wp2_with (at_make; refine wpList_make_words rfl _ _ rfl _ _ _ _ n n rfl rfl (by first | rfl | omega) (by first | rfl | omega) (Nat.le_refl _) (by omega) ?_)
    intro w1 hbuf hb1 hz1
    have HZ:=Lib.hid hz1
    clear hz1
    go_wp2
    go_loopw [7,8] (fun c i wr=>∃ (k d : Nat) (zs : List Nat),k ≤ n ∧ d ≤ 1 ∧ c = .int .u64 (d : Int) ∧ i = .int .i64 (k : Int) ∧ Hid (zs.length = k) ∧ Hid (val zs + 4294967296 ^ k * d = val (xs.take k) + val (ys.take k)) ∧ Buf wr w.heap.size (zs ++ List.replicate (n - k) 0) ∧ Below w.heap.size w wr) (fun _ i _=>n - (intOf i).toNat)
    case atStart=>exact ⟨0,0,[],by omega,by omega,rfl,rfl,rfl,by simp [Hid,val],by simpa using hbuf,hb1⟩
    case round =>
      obtain ⟨k,d,zs,hk,hd,rfl,rfl,HK,HV,hbuf',hb'⟩:=hrel
      have hlt:=hb'.size
      have hblt:=hbuf'.lt
      clear hbuf hb1 HZ
      by_cases hk1 : k < n
      · obtain ⟨x,hx⟩ : ∃ x,x = xs.getD k 0:=⟨_,rfl⟩
        obtain ⟨y,hy⟩ : ∃ y,y = ys.getD k 0:=⟨_,rfl⟩
        have hx32 : x < 4294967296:=by rw [hx]; exact hwx.out.getD k
        have hy32 : y < 4294967296:=by rw [hy]; exact hwy.out.getD k
        have HX:=Lib.hid hx
        have HY:=Lib.hid hy
        have hst:=hbuf'.cell k (by rw [List.length_append,HK.out,List.length_replicate]; omega)
        have hfz:=hbuf'.frozen k
        have HBUF:=Lib.hid hbuf'
        have HBB:=Lib.hid hb'
        clear hx hy hbuf' hb'
        go_wp2_with fail
        refine (at_any (HA.out.below HBB.out) k (by omega)).mono ?_
        rintro e w2 ⟨rfl,rfl⟩
        rw [← HX.out]
        go_wp2_with fail
        refine (at_any (HB.out.below HBB.out) k (by omega)).mono ?_
        rintro e w3 ⟨rfl,rfl⟩
        rw [← HY.out]
        go_wp2
        go_roundw
        case rel =>
          refine ⟨k + 1,(d + x + y) / 4294967296,zs ++ [(d + x + y) % 4294967296],by omega,by omega,by go_num,by go_num,?_,?_,?_,HBB.out.setCell (Nat.le_refl _) _⟩
          · rw [Hid,List.length_append,HK.out]; rfl
          · exact more_val _ _ _ _ _ _ HK.out HV.out (by rw [HX.out,HY.out])
          · have:=HBUF.out.push HK.out (by omega) ((d + x + y) % 4294967296) _ (by omega) (by go_num)
            rw [show n - k - 1 = n - (k + 1) from by omega] at this
            exact this
        case measure=>simp [intOf]; omega
      · obtain rfl : k = n:=by omega
        rw [Nat.sub_self,List.replicate_zero,List.append_nil] at hbuf'
        have hv : val zs = val xs + val ys:=by
          have e1:=HV.out
          rw [val_take_all xs k (by rw [← hla.out]; have:=HN.out; omega),val_take_all ys k (by rw [← hlb.out]; have:=HN.out; omega)] at e1
          have e2:=val_lt xs hwx.out
          have e3:=val_lt ys hwy.out
          have e4 : 4294967296 ^ xs.length ≤ 4294967296 ^ (k - 1):=Nat.pow_le_pow_right (by decide) (by rw [← hla.out]; have:=HN.out; omega)
          have e5 : 4294967296 ^ ys.length ≤ 4294967296 ^ (k - 1):=Nat.pow_le_pow_right (by decide) (by rw [← hlb.out]; have:=HN.out; omega)
          have e6 : 4294967296 ^ k = 4294967296 ^ (k - 1) * 4294967296:=by rw [← Nat.pow_succ]; congr 1; have:=HN.out; omega
          rcases (by omega : d = 0 ∨ d = 1) with rfl | rfl
          · omega
          · omega
        have hw:=hbuf'.words (cap:=k) (by rw [HK.out]; omega) (by rw [HK.out]; exact Nat.le_refl _)
        have hdd:=dig_of zs _ hbuf'.1 hv
        rw [HK.out] at hw
        have HW:=Lib.hid hw
        have HD:=Lib.hid hdd
        clear hbuf' hw hv hdd
        go_wp2_with fail
        refine (rcut_any HW.out).mono ?_
        rintro e w2 ⟨rfl,rfl⟩
        go_wp2
        go_ret
        refine ⟨_,rfl,?_,hb'⟩
        rw [← HD.out]
        exact HW.out.trim_
  · have hni : (la : Int) + 1 = (n : Int):=by omega
    have HN:=Lib.hid hn
    clear hx hy hn
    go_enter Tryz.func290,Tryz.ntmps290
    go_wp2_with (at_make; refine wpList_make_words rfl _ _ rfl _ _ _ _ n n rfl rfl (by first | rfl | omega) (by first | rfl | omega) (Nat.le_refl _) (by omega) ?_)
    intro w1 hbuf hb1 hz1
    have HZ:=Lib.hid hz1
    clear hz1
    go_wp2
    go_loopw [7,8] (fun c i wr=>∃ (k d : Nat) (zs : List Nat),k ≤ n ∧ d ≤ 1 ∧ c = .int .u64 (d : Int) ∧ i = .int .i64 (k : Int) ∧ Hid (zs.length = k) ∧ Hid (val zs + 4294967296 ^ k * d = val (xs.take k) + val (ys.take k)) ∧ Buf wr w.heap.size (zs ++ List.replicate (n - k) 0) ∧ Below w.heap.size w wr) (fun _ i _=>n - (intOf i).toNat)
    case atStart=>exact ⟨0,0,[],by omega,by omega,rfl,rfl,rfl,by simp [Hid,val],by simpa using hbuf,hb1⟩
    case round =>
      obtain ⟨k,d,zs,hk,hd,rfl,rfl,HK,HV,hbuf',hb'⟩:=hrel
      have hlt:=hb'.size
      have hblt:=hbuf'.lt
      clear hbuf hb1 HZ
      by_cases hk1 : k < n
      · obtain ⟨x,hx⟩ : ∃ x,x = xs.getD k 0:=⟨_,rfl⟩
        obtain ⟨y,hy⟩ : ∃ y,y = ys.getD k 0:=⟨_,rfl⟩
        have hx32 : x < 4294967296:=by rw [hx]; exact hwx.out.getD k
        have hy32 : y < 4294967296:=by rw [hy]; exact hwy.out.getD k
        have HX:=Lib.hid hx
        have HY:=Lib.hid hy
        have hst:=hbuf'.cell k (by rw [List.length_append,HK.out,List.length_replicate]; omega)
        have hfz:=hbuf'.frozen k
        have HBUF:=Lib.hid hbuf'
        have HBB:=Lib.hid hb'
        clear hx hy hbuf' hb'
        go_wp2_with fail
        refine (at_any (HA.out.below HBB.out) k (by omega)).mono ?_
        rintro e w2 ⟨rfl,rfl⟩
        rw [← HX.out]
        go_wp2_with fail
        refine (at_any (HB.out.below HBB.out) k (by omega)).mono ?_
        rintro e w3 ⟨rfl,rfl⟩
        rw [← HY.out]
        go_wp2
        go_roundw
        case rel =>
          refine ⟨k + 1,(d + x + y) / 4294967296,zs ++ [(d + x + y) % 4294967296],by omega,by omega,by go_num,by go_num,?_,?_,?_,HBB.out.setCell (Nat.le_refl _) _⟩
          · rw [Hid,List.length_append,HK.out]; rfl
          · exact more_val _ _ _ _ _ _ HK.out HV.out (by rw [HX.out,HY.out])
          · have:=HBUF.out.push HK.out (by omega) ((d + x + y) % 4294967296) _ (by omega) (by go_num)
            rw [show n - k - 1 = n - (k + 1) from by omega] at this
            exact this
        case measure=>simp [intOf]; omega
      · obtain rfl : k = n:=by omega
        rw [Nat.sub_self,List.replicate_zero,List.append_nil] at hbuf'
        have hv : val zs = val xs + val ys:=by
          have e1:=HV.out
          rw [val_take_all xs k (by rw [← hla.out]; have:=HN.out; omega),val_take_all ys k (by rw [← hlb.out]; have:=HN.out; omega)] at e1
          have e2:=val_lt xs hwx.out
          have e3:=val_lt ys hwy.out
          have e4 : 4294967296 ^ xs.length ≤ 4294967296 ^ (k - 1):=Nat.pow_le_pow_right (by decide) (by rw [← hla.out]; have:=HN.out; omega)
          have e5 : 4294967296 ^ ys.length ≤ 4294967296 ^ (k - 1):=Nat.pow_le_pow_right (by decide) (by rw [← hlb.out]; have:=HN.out; omega)
          have e6 : 4294967296 ^ k = 4294967296 ^ (k - 1) * 4294967296:=by rw [← Nat.pow_succ]; congr 1; have:=HN.out; omega
          rcases (by omega : d = 0 ∨ d = 1) with rfl | rfl
          · omega
          · omega
        have hw:=hbuf'.words (cap:=k) (by rw [HK.out]; omega) (by rw [HK.out]; exact Nat.le_refl _)
        have hdd:=dig_of zs _ hbuf'.1 hv
        rw [HK.out] at hw
        have HW:=Lib.hid hw
        have HD:=Lib.hid hdd
        clear hbuf' hw hv hdd
        go_wp2_with fail
        refine (rcut_any HW.out).mono ?_
        rintro e w2 ⟨rfl,rfl⟩
        go_wp2
        go_ret
        refine ⟨_,rfl,?_,hb'⟩
        rw [← HD.out]
        exact HW.out.trim_
set_option maxHeartbeats 1600000 in
set_option maxRecDepth 100000 in
theorem rless_any {A B : Option Addr} {la ca lb cb : Nat} {xs ys : List Nat} {w : World} (hx : Words w (.slice A la ca) xs) (hy : Words w (.slice B lb cb) ys) (h1 : la ≤ 8589934592) (hle : val ys ≤ val xs) (hlen : lb ≤ la) :
    Calls Tryz.prog 292 #[.slice A la ca,.slice B lb cb] w fun e w'=>∃ v,e = .returned v ∧ Words w' v (dig (val xs - val ys)) ∧ Below w.heap.size w w':=by
  have hla:=Lib.hid hx.len.1
  have hlb:=Lib.hid hy.len.1
  have HA:=Lib.hid hx
  have HB:=Lib.hid hy
  have hwx:=Lib.hid hx.1
  have hwy:=Lib.hid hy.1
  have HL:=Lib.hid hle
  clear hx hy hle
  go_enter Tryz.func292,Tryz.ntmps292
  go_wp2_with (at_make; refine wpList_make_words rfl _ _ rfl _ _ _ _ la la rfl rfl rfl rfl (Nat.le_refl _) (by omega) ?_)
  intro w1 hbuf hb1 hz1
  have HZ:=Lib.hid hz1
  clear hz1
  go_wp2
  go_loopw [6,7] (fun c i wr=>∃ (k d : Nat) (zs : List Nat),k ≤ la ∧ d ≤ 1 ∧ c = .int .u64 (d : Int) ∧ i = .int .i64 (k : Int) ∧ Hid (zs.length = k) ∧ Hid (val zs + val (ys.take k) = val (xs.take k) + 4294967296 ^ k * d) ∧ Buf wr w.heap.size (zs ++ List.replicate (la - k) 0) ∧ Below w.heap.size w wr) (fun _ i _=>la - (intOf i).toNat)
  case atStart=>exact ⟨0,0,[],by omega,by omega,rfl,rfl,rfl,by simp [Hid,val],by simpa using hbuf,hb1⟩
  case round =>
    obtain ⟨k,d,zs,hk,hd,rfl,rfl,HK,HV,hbuf',hb'⟩:=hrel
    have hlt:=hb'.size
    have hblt:=hbuf'.lt
    clear hbuf hb1 HZ
    by_cases hk1 : k < la
    · obtain ⟨x,hx⟩ : ∃ x,x = xs.getD k 0:=⟨_,rfl⟩
      obtain ⟨y,hy⟩ : ∃ y,y = ys.getD k 0:=⟨_,rfl⟩
      have hx32 : x < 4294967296:=by rw [hx]; exact hwx.out.getD k
      have hy32 : y < 4294967296:=by rw [hy]; exact hwy.out.getD k
      obtain ⟨X,hX⟩ : ∃ X,X = 4294967296 + x - y - d:=⟨_,rfl⟩
      have hXi : 4294967296 + (x : Int) - (y : Int) - (d : Int) = (X : Int):=by omega
      have hXb : X ≤ 8589934591:=by omega
      have HXX:=Lib.hid hX
      have HX:=Lib.hid hx
      have HY:=Lib.hid hy
      have hst:=hbuf'.cell k (by rw [List.length_append,HK.out,List.length_replicate]; omega)
      have hfz:=hbuf'.frozen k
      have HBUF:=Lib.hid hbuf'
      have HBB:=Lib.hid hb'
      clear hx hy hbuf' hb' hX
      go_wp2_with fail
      refine (at_any (HA.out.below HBB.out) k (by omega)).mono ?_
      rintro e w2 ⟨rfl,rfl⟩
      rw [← HX.out]
      go_wp2_with fail
      refine (at_any (HB.out.below HBB.out) k (by omega)).mono ?_
      rintro e w3 ⟨rfl,rfl⟩
      rw [← HY.out]
      go_wp2
      go_roundw
      case rel =>
        refine ⟨k + 1,1 - X / 4294967296,zs ++ [X % 4294967296],by omega,by omega,by go_num,by go_num,?_,?_,?_,HBB.out.setCell (Nat.le_refl _) _⟩
        · rw [Hid,List.length_append,HK.out]; rfl
        · exact less_val _ _ _ _ _ _ _ HK.out HV.out (by rw [← HX.out,← HY.out]; have:=HXX.out; omega)
        · have:=HBUF.out.push HK.out (by omega) (X % 4294967296) _ (by omega) (by go_num)
          rw [show la - k - 1 = la - (k + 1) from by omega] at this
          exact this
      case measure=>simp [intOf]; omega
    · obtain rfl : k = la:=by omega
      rw [Nat.sub_self,List.replicate_zero,List.append_nil] at hbuf'
      have hv:=less_end xs ys zs k d hbuf'.1 HK.out (by
        have h1:=HV.out
        rw [val_take_all ys _ (by rw [← hlb.out]; omega),val_take_all xs _ (by rw [hla.out]; exact Nat.le_refl _)] at h1
        exact h1) HL.out hd
      have hw:=hbuf'.words (cap:=k) (by rw [HK.out]; omega) (by rw [HK.out]; exact Nat.le_refl _)
      have hdd:=dig_of zs _ hbuf'.1 hv
      rw [HK.out] at hw
      have HW:=Lib.hid hw
      have HD:=Lib.hid hdd
      clear hbuf' hw hv hdd
      go_wp2_with fail
      refine (rcut_any HW.out).mono ?_
      rintro e w2 ⟨rfl,rfl⟩
      go_wp2
      go_ret
      refine ⟨_,rfl,?_,hb'⟩
      rw [← HD.out]
      exact HW.out.trim_
theorem bits_top (m l t j : Nat) (hl : (dig m).length = l + 1) (ht : (dig m).getD l 0 = t) (h1 : t < 2 ^ j) (h2 : 0 < j → 2 ^ (j - 1) ≤ t) (hj : 0 < j) : Bits m (32 * l + j):=by
  have hm:=dig_lt m
  rw [hl] at hm
  rw [dig_getD] at ht
  rw [Nat.pow_succ] at hm
  have h3 : m / 4294967296 ^ l < 4294967296:=Nat.div_lt_of_lt_mul hm
  rw [Nat.mod_eq_of_lt h3] at ht
  have hP : 0 < 4294967296 ^ l:=Nat.pow_pos (by decide)
  have e1 : 2 ^ (32 * l + j) = 4294967296 ^ l * 2 ^ j:=by rw [p32,← Nat.pow_add]
  have e2 : 2 ^ (32 * l + j - 1) = 4294967296 ^ l * 2 ^ (j - 1):=by
    rw [p32,← Nat.pow_add]
    congr 1
    omega
  refine ⟨?_,fun _=>?_⟩
  · rw [e1]
    subst ht
    rw [Nat.mul_comm]
    exact (Nat.div_lt_iff_lt_mul hP).1 h1
  · rw [e2]
    subst ht
    rw [Nat.mul_comm]
    exact (Nat.le_div_iff_mul_le hP).1 (h2 hj)
set_option maxRecDepth 100000 in
theorem rbits_any {w : World} {A : Option Addr} {n cap m : Nat} (h : Words w (.slice A n cap) (dig m)) :
    Calls Tryz.prog 289 #[.slice A n cap] w fun e w'=>∃ L : Nat,e = .returned (.int .i64 (L : Int)) ∧ Bits m L ∧ L ≤ 32 * n ∧ Below w.heap.size w w':=by
  have hl:=h.len.1
  have hb:=h.2.1
  have hn : n ≤ 17179869184:=by omega
  rcases Nat.eq_zero_or_pos n with hz | hz
  · subst hz
    have hm : m = 0:=(dig_nil_iff _).1 (List.eq_nil_of_length_eq_zero hl.symm)
    have HM:=Lib.hid hm
    clear hm hl hb h
    go_enter Tryz.func289,Tryz.ntmps289
    go_wp2
    go_ret
    exact ⟨0,rfl,by rw [HM.out]; exact ⟨by decide,fun h=>absurd h (by decide)⟩,by omega,Below.refl _ _⟩
  · obtain ⟨l,rfl⟩ : ∃ l,n = l + 1:=⟨n - 1,by omega⟩
    have ht0 : (dig m).getD l 0 ≠ 0:=by
      have:=dig_top m (fun e=>by rw [e] at hl; simp at hl)
      rwa [← hl] at this
    obtain ⟨b,o,rfl,hall⟩:=h.open_ (by omega)
    obtain ⟨t,ht⟩ : ∃ t,t = (dig m).getD l 0:=⟨_,rfl⟩
    have hc : w.cell? ⟨b,o + l,none⟩ = some (.int .u32 (t : Int)):=by rw [ht]; exact hall l (by omega)
    have ht32 : t < 4294967296:=by rw [ht]; exact (Wf_dig _).getD _
    have htp : 0 < t:=by omega
    have HF:=Lib.hid (fun j h1 h2 hj=>bits_top m l t j hl.symm ht.symm h1 h2 hj)
    have hll : ((l + 1 : Nat) : Int) - 1 = (l : Int):=by omega
    clear hl hb h ht0 hall ht
    go_enter Tryz.func289,Tryz.ntmps289
    go_wp2
    go_loopw [3,4] (fun i c wr=>∃ j T : Nat,j ≤ 32 ∧ i = .int .i64 ((32 * l + j : Nat) : Int) ∧ c = .int .u32 (T : Int) ∧ T < 4294967296 ∧ Hid (T = t / 2 ^ j) ∧ Hid (0 < j → 2 ^ (j - 1) ≤ t) ∧ Below w.heap.size w wr) (fun _ c _=>(intOf c).toNat)
    case atStart=>exact ⟨0,t,by omega,by go_num,rfl,ht32,by simp [Hid],fun h=>absurd h (by decide),by first | exact Below.refl _ _ | exact Below.drewN_ (Below.refl _ _) _⟩
    case round =>
      obtain ⟨j,T,hj,rfl,rfl,hT,HTT,HJ,hbb⟩:=hrel
      by_cases hT0 : 0 < T
      · have hj32 : j < 32:=by
          rcases Nat.lt_or_ge j 32 with h | h
          · exact h
          · exfalso
            have h1:=HTT.out
            have h2 : 2 ^ 32 ≤ 2 ^ j:=Nat.pow_le_pow_right (by decide) h
            rw [Nat.div_eq_of_lt (by omega)] at h1
            omega
        have HJ2 : Hid (2 ^ j ≤ t):=by
          have h1:=HTT.out
          rcases Nat.lt_or_ge t (2 ^ j) with h | h
          · rw [Nat.div_eq_of_lt h] at h1; omega
          · exact h
        go_wp2
        go_roundw
        case rel =>
          refine ⟨j + 1,T / 2,by omega,by go_num,by go_num,by omega,?_,fun _=>HJ2.out,hbb⟩
          rw [Hid,HTT.out,Nat.pow_succ,Nat.div_div_eq_div_mul]
        case measure=>simp [intOf]; omega
      · obtain rfl : T = 0:=by omega
        have hlt : t < 2 ^ j:=by
          have h1:=HTT.out
          rcases Nat.lt_or_ge t (2 ^ j) with h | h
          · exact h
          · have:=Nat.div_pos h (Nat.two_pow_pos j)
            omega
        have hj0 : 0 < j:=by
          rcases Nat.eq_zero_or_pos j with h | h
          · subst h; simp at hlt; omega
          · exact h
        have HG:=Lib.hid (HF.out j hlt HJ.out hj0)
        clear hc hlt
        go_wp2
        go_ret
        exact ⟨32 * l + j,rfl,HG.out,by omega,hbb⟩
end
section
open Go.RowKit
set_option maxHeartbeats 1600000 in
set_option maxRecDepth 100000 in
theorem up_any {A : Option Addr} {la ca : Nat} {xs : List Nat} {w : World} (hx : Words w (.slice A la ca) xs) (h1 : la ≤ 8589934592) (n : Nat) (hn : n ≤ 137438953472) :
    Calls Tryz.prog 291 #[.slice A la ca,.int .i64 (n : Int)] w fun e w'=>∃ v,e = .returned v ∧ Words w' v (dig (val xs * 2 ^ n)) ∧ Below w.heap.size w w':=by
  have hla:=Lib.hid hx.len.1
  have HA:=Lib.hid hx
  have hwx:=Lib.hid hx.1
  rcases Nat.eq_zero_or_pos la with hz | hz
  · subst hz
    have hxs : xs = []:=List.eq_nil_of_length_eq_zero hla.out.symm
    have HE : Hid (dig (val xs * 2 ^ n) = []):=by rw [hxs]; simp [Hid,val,dig_zero]
    clear hx hxs
    go_enter Tryz.func291,Tryz.ntmps291
    go_wp2
    go_ret
    exact ⟨_,rfl,by rw [HE.out]; exact Words.nil _,Below.refl _ _⟩
  have hla0 : ((la : Int) == 0) = false:=by rw [beq_eq_false_iff_ne]; omega
  clear hx
  obtain ⟨s,hs⟩ : ∃ s,s = n % 32:=⟨_,rfl⟩
  have hs32 : s < 32:=by omega
  have hsi : (n : Int) % 32 = (s : Int):=by omega
  have HS:=Lib.hid hs
  clear hs
  go_enter Tryz.func291,Tryz.ntmps291
  go_wp2_with (at_make; refine wpList_make_words rfl _ _ rfl _ _ _ _ (n / 32) (n / 32 + la + 1) rfl rfl (by omega) (by omega) (by omega) (by omega) ?_)
  intro w1 hbuf hb1 hz1
  have HROW:=Lib.hid (Row.of_buf (n:=n / 32) hbuf (Nat.le_refl _) (by omega) (by omega))
  have HZ:=Lib.hid hz1
  clear hz1 hbuf
  go_wp2
  go_loopw [5,6,7] (fun v c i wr=>∃ (k d : Nat) (ys : List Nat),k ≤ la ∧ Hid (d < 2 ^ s) ∧ c = .int .u64 (d : Int) ∧ i = .int .i64 (k : Int) ∧ Hid (ys.length = k) ∧ Hid (val ys + 4294967296 ^ k * d = val (xs.take k) * 2 ^ s) ∧ Hid (Row wr w.heap.size v (List.replicate (n / 32) 0 ++ ys)) ∧ Below w.heap.size w wr) (fun _ _ i _=>la - (intOf i).toNat)
  case atStart=>exact ⟨0,0,[],by omega,Nat.two_pow_pos _,rfl,rfl,rfl,by simp [Hid,val],by simpa [Hid] using HROW.out,hb1⟩
  case round =>
    obtain ⟨k,d,ys,hk,HD,rfl,rfl,HK,HV,hrow',hb'⟩:=hrel
    have hlt:=hb'.size
    clear HROW hb1 HZ
    by_cases hk1 : k < la
    · have hX:=(HA.out.below hb')
      obtain ⟨b,o,rfl,hall⟩:=hX.open_ (by omega)
      obtain ⟨x,hx⟩ : ∃ x,x = xs.getD k 0:=⟨_,rfl⟩
      have hcx : wr.cell? ⟨b,o + k,none⟩ = some (.int .u32 (x : Int)):=by rw [hx]; exact hall k hk1
      have hxl : x < 4294967296:=by rw [hx]; exact hwx.out.getD k
      obtain ⟨m,hm⟩ : ∃ m,m = x * 2 ^ s:=⟨_,rfl⟩
      have hmi : (x : Int) * 2 ^ s = (m : Int):=by rw [hm,Int.natCast_mul,Int.natCast_pow]; rfl
      have hmb:=mul_two_pow_lt x s hxl (by omega)
      rw [← hm] at hmb
      have hsp : 2 ^ s ≤ 2 ^ 32:=Nat.pow_le_pow_right (by omega) (by omega)
      have hp:=Nat.two_pow_pos s
      have hd1:=HD.out
      have hm1 : m ≤ 18446744073709551615:=by omega
      have hd2 : d ≤ 4294967296:=by omega
      have hsum : d + m ≤ 18446744073709551615:=by omega
      have HM:=Lib.hid hm
      have HXX:=Lib.hid hx
      clear hX hall hm hmb hsp hp hd1 hx
      go_wp2_with (at_builtin; refine wpList_append_word rfl (.tmp 36) (.tmp 40) rfl w.heap.size _ (List.replicate (n / 32) 0 ++ ys) rfl (hrow'.out.alloc _) ⟨wr.heap.size,0,none⟩ 1 ((d + m) % 4294967296) _ rfl (cell_new0 _ _ _) ?_ (by omega) ?_ ?_ ?_)
      · omega
      · simp only [List.length_append,List.length_replicate,HK.out]; omega
      · simp; omega
      · intro v' w' hrow2 hb2
        have HR2:=Lib.hid hrow2
        have hb3 : Below w.heap.size w w':=(hb'.alloc (by omega) _).trans hb2
        clear hrow2 hb2 hb'
        go_wp2
        go_roundw
        case rel =>
          refine ⟨k + 1,(d + m) / 4294967296,ys ++ [(d + m) % 4294967296],by omega,?_,by go_num,by go_num,?_,?_,HR2.out,hb3⟩
          · rw [Hid,HM.out]; exact left_carry _ s d hxl (by omega) HD.out
          · rw [Hid,List.length_append,HK.out]; rfl
          · exact left_val xs ys k d s _ HK.out HV.out (by rw [HM.out,HXX.out])
        case measure=>simp [intOf]; omega
    · obtain rfl : k = la:=by omega
      have hsp : 2 ^ s ≤ 2 ^ 32:=Nat.pow_le_pow_right (by omega) (by omega)
      have hd1 : d < 4294967296:=by have:=HD.out; omega
      clear hsp
      go_wp2_with (at_builtin; refine wpList_append_word rfl (.tmp 44) (.tmp 47) rfl w.heap.size _ (List.replicate (n / 32) 0 ++ ys) rfl (hrow'.out.alloc _) ⟨wr.heap.size,0,none⟩ 1 d _ rfl (cell_new0 _ _ _) ?_ hd1 ?_ ?_ ?_)
      · omega
      · simp only [List.length_append,List.length_replicate,HK.out]; omega
      · simp; omega
      · intro v' w' hrow2 hb2
        have hb3 : Below w.heap.size w w':=(hb'.alloc (by omega) _).trans hb2
        have hw:=hrow2.words (by simp only [List.length_append,List.length_replicate,HK.out,List.length_cons,List.length_nil]; omega)
        have HW:=Lib.hid hw
        obtain ⟨A',L',cap',rfl⟩:=hw.form
        clear hrow2 hb2 hb' hw
        go_wp2_with (go_at_call 301; refine (rcut_any HW.out).mono ?_; rintro e w2 ⟨rfl,rfl⟩)
        go_ret
        refine ⟨_,rfl,?_,hb3⟩
        have h2:=HW.out.trim_
        have h3 : trim (List.replicate (n / 32) 0 ++ (ys ++ [d])) = dig (val xs * 2 ^ n):=by
          refine dig_of _ _ HW.out.1 (left_end xs ys n d ?_)
          have:=HV.out
          rw [val_take_all xs _ (by rw [hla.out]; exact Nat.le_refl _),HS.out] at this
          rw [HK.out]; exact this
        rw [← h3]
        exact h2
set_option maxHeartbeats 1600000 in
set_option maxRecDepth 100000 in
theorem rproduct_any {A B : Option Addr} {la ca lb cb : Nat} {xs ys : List Nat} {w : World} (hx : Words w (.slice A la ca) xs) (hy : Words w (.slice B lb cb) ys) (h1 : la ≤ 8589934592) (h2 : lb ≤ 8589934592) :
    Calls Tryz.prog 288 #[.slice A la ca,.slice B lb cb] w fun e w'=>∃ v,e = .returned v ∧ Words w' v (dig (val xs * val ys)) ∧ Below w.heap.size w w':=by
  have hla:=Lib.hid hx.len.1
  have hlb:=Lib.hid hy.len.1
  have HA:=Lib.hid hx
  have HB:=Lib.hid hy
  have hwx:=Lib.hid hx.1
  have hwy:=Lib.hid hy.1
  clear hx hy
  go_enter Tryz.func288,Tryz.ntmps288
  go_wp2_with (at_make; refine wpList_make_words rfl _ _ rfl _ _ _ _ (la + lb) (la + lb) rfl rfl (by omega) (by omega) (Nat.le_refl _) (by omega) ?_)
  intro w1 hbuf hb1 hz1
  have HZ:=Lib.hid hz1
  clear hz1
  go_wp2
  go_loopw [6] (fun i wr=>∃ (k : Nat) (os : List Nat),k ≤ la ∧ i = .int .i64 (k : Int) ∧ Hid (os.length = la + lb) ∧ Hid (val os = val (xs.take k) * val ys) ∧ Hid (∀ j,k + lb ≤ j → os.getD j 0 = 0) ∧ Buf wr w.heap.size os ∧ Below w.heap.size w wr) (fun i _=>la - (intOf i).toNat)
  case atStart=>exact ⟨0,List.replicate (la + lb) 0,by omega,rfl,by simp [Hid],by simp [Hid,val,val_zeros],fun j _=>by simp [List.getD,List.getElem?_replicate]; split <;> rfl,hbuf,hb1⟩
  case round =>
    obtain ⟨i,os,hi,rfl,HK,HV,H0,hbuf',hb'⟩:=hrel
    obtain ⟨wo,rfl⟩ : ∃ wo : World,wo = wr:=⟨_,rfl⟩
    clear hbuf hb1 HZ
    by_cases hk1 : i < la
    · have hX:=(HA.out.below hb')
      obtain ⟨b,o,rfl,hall⟩:=hX.open_ (by omega)
      obtain ⟨x,hx⟩ : ∃ x,x = xs.getD i 0:=⟨_,rfl⟩
      have hcx : wo.cell? ⟨b,o + i,none⟩ = some (.int .u32 (x : Int)):=by rw [hx]; exact hall i hk1
      have hxl : x < 4294967296:=by rw [hx]; exact hwx.out.getD i
      have HXX:=Lib.hid hx
      have HBUF:=Lib.hid hbuf'
      clear hX hall hbuf' hx
      go_wp2
      go_loopw [7,9] (fun c j wr=>∃ (k d : Nat) (os' : List Nat),k ≤ lb ∧ d < 4294967296 ∧ c = .int .u64 (d : Int) ∧ j = .int .i64 (k : Int) ∧ Hid (os'.length = la + lb) ∧ Hid (val os' + 4294967296 ^ (i + k) * d = val os + 4294967296 ^ i * (x * val (ys.take k))) ∧ Hid (∀ j,i + lb ≤ j → os'.getD j 0 = 0) ∧ Buf wr w.heap.size os' ∧ Below w.heap.size w wr) (fun _ j _=>lb - (intOf j).toNat)
      case atStart=>exact ⟨0,0,os,by omega,by omega,rfl,rfl,HK,by simp [Hid,val],H0,HBUF.out,hb'⟩
      case round =>
        obtain ⟨k,d,os',hk,hd,rfl,rfl,HK',HV',H0',hbuf2,hb2⟩:=hrel
        have hlt:=hb2.size
        have hblt:=hbuf2.lt
        clear hb' hcx
        by_cases hk2 : k < lb
        · have hY:=(HB.out.below hb2)
          obtain ⟨b2,o2,rfl,hall⟩:=hY.open_ (by omega)
          obtain ⟨y,hy⟩ : ∃ y,y = ys.getD k 0:=⟨_,rfl⟩
          have hcy : wr.cell? ⟨b2,o2 + k,none⟩ = some (.int .u32 (y : Int)):=by rw [hy]; exact hall k hk2
          have hyl : y < 4294967296:=by rw [hy]; exact hwy.out.getD k
          obtain ⟨z,hz⟩ : ∃ z,z = os'.getD (i + k) 0:=⟨_,rfl⟩
          have hst : wr.cell? ⟨w.heap.size,i + k,none⟩ = some (.int .u32 (z : Int)):=by rw [hz]; exact hbuf2.cell (i + k) (by rw [HK'.out]; omega)
          have hfz:=hbuf2.frozen (i + k)
          have hol : z < 4294967296:=by rw [hz]; exact hbuf2.1.getD (i + k)
          obtain ⟨m,hm⟩ : ∃ m,m = x * y:=⟨_,rfl⟩
          have hmb : m ≤ 18446744065119617025:=by rw [hm]; exact mul_word _ _ hxl hyl
          have hmi : (x : Int) * (y : Int) = (m : Int):=by rw [hm]; exact (Int.natCast_mul _ _).symm
          have HM:=Lib.hid hm
          have HY:=Lib.hid hy
          have HZZ:=Lib.hid hz
          have HBUF2:=Lib.hid hbuf2
          obtain ⟨t,ht⟩ : ∃ t,t = d + m + z:=⟨_,rfl⟩
          have hti : (d : Int) + (m : Int) + (z : Int) = (t : Int):=by omega
          have htb : t ≤ 18446744073709551615:=by omega
          have HT:=Lib.hid ht
          clear hY hall hbuf2 hm HBUF hy hz ht
          go_wp2
          go_region
          go_wp2
          go_roundw
          case rel =>
            refine ⟨k + 1,t / 4294967296,os'.set (i + k) (t % 4294967296),by omega,by omega,by go_num,by go_num,?_,?_,?_,?_,Below.setCell (Below.drew hb2) (Nat.le_refl _) _⟩
            · rw [Hid,List.length_set]; exact HK'.out
            · exact prod_val os os' ys i k d x _ (by rw [HK'.out]; omega) HV'.out (by rw [HT.out,HM.out,HY.out,HZZ.out]; omega)
            · intro j hj
              rw [getD_set,if_neg (by omega)]
              exact H0'.out j hj
            · exact (HBUF2.out.drewN 1).set (i + k) _ _ (by omega) (by go_num)
          case measure=>simp [intOf]; omega
        · obtain rfl : k = lb:=by omega
          have hst:=hbuf2.cell (i + k) (by rw [HK'.out]; omega)
          have hfz:=hbuf2.frozen (i + k)
          have HBUF2:=Lib.hid hbuf2
          clear hbuf2 HBUF
          go_wp2
          go_roundw
          case rel =>
            refine ⟨i + 1,os'.set (i + k) d,by omega,by go_num,?_,?_,?_,HBUF2.out.set (i + k) d _ hd (by go_num),hb2.setCell (Nat.le_refl _) _⟩
            · rw [Hid,List.length_set]; exact HK'.out
            · have h1:=HV'.out
              rw [val_take_all ys k (by rw [hlb.out]; exact Nat.le_refl _),HXX.out] at h1
              have hl:=hlb.out
              have h2:=H0'.out (i + k) (Nat.le_refl _)
              rw [hl] at h1 h2 ⊢
              exact prod_end os os' xs ys i d (by rw [HK'.out]; omega) h2 HV.out h1
            · intro j hj
              rw [getD_set]
              split
              · omega
              · exact H0'.out j (by omega)
          case measure=>simp [intOf]; omega
    · obtain rfl : i = la:=by omega
      have hv : val os = val xs * val ys:=by
        have h1:=HV.out
        rwa [val_take_all xs _ (by rw [hla.out]; exact Nat.le_refl _)] at h1
      have hw:=hbuf'.words (cap:=i + lb) (by rw [HK.out]; omega) (by rw [HK.out]; exact Nat.le_refl _)
      have hdd:=dig_of os _ hbuf'.1 hv
      rw [HK.out] at hw
      have HW:=Lib.hid hw
      have HD:=Lib.hid hdd
      clear hw hbuf' hv hdd
      go_wp2_with fail
      refine (rcut_any HW.out).mono ?_
      rintro e w2 ⟨rfl,rfl⟩
      go_wp2
      go_ret
      refine ⟨_,rfl,?_,hb'⟩
      rw [← HD.out]
      exact HW.out.trim_
end
section
open Go.RowKit
theorem at_val {w : World} {A : Option Addr} {n cap : Nat} {xs : List Nat} (h : Words w (.slice A n cap) xs) (i x : Nat) (hi : i ≤ 4611686018427387904) (hx : xs.getD i 0 = x) (k : Nat) :
    Calls Tryz.prog 329 #[.slice A n cap,.int .i64 (i : Int)] (w.drewN k) fun e w'=>e = .returned (.int .u64 (x : Int)) ∧ w' = w.drewN k :=
  (at_any (h.below (Below.drewN_ (Below.refl _ _) k)) i hi).mono fun e w' h=>⟨by rw [h.1,hx],h.2.symm⟩
theorem Row.on_ {w w' : World} {base : Nat} {v : Value} {zs : List Nat} (h : Row w base v zs) (k : Below w.heap.size w w') : Row w' base v zs:=by
  obtain ⟨h0,h1,h2⟩:=h
  refine ⟨h0,h1,?_⟩
  rcases h2 with h2 | ⟨g,cap,cur,e,hg,hh,hc⟩
  · exact .inl h2
  · exact .inr ⟨g,cap,cur,e,hg,by rw [k.block g (heap_some_lt hh)]; exact hh,hc⟩
set_option maxHeartbeats 1600000 in
set_option maxRecDepth 100000 in
theorem down_any {A : Option Addr} {la ca : Nat} {xs : List Nat} {w : World} (hx : Words w (.slice A la ca) xs) (h1 : la ≤ 17179869184) (n : Nat) (hn : n ≤ 1099511627776) :
    Calls Tryz.prog 334 #[.slice A la ca,.int .i64 (n : Int)] w fun e w'=>∃ v,e = .returned v ∧ Words w' v (dig (val xs / 2 ^ n)) ∧ Below w.heap.size w w':=by
  have hla:=Lib.hid hx.len.1
  have HA:=Lib.hid hx
  have hwx:=Lib.hid hx.1
  obtain ⟨s,hs⟩ : ∃ s,s = n % 32:=⟨_,rfl⟩
  have hs32 : s < 32:=by omega
  have hsi : (n : Int) % 32 = (s : Int):=by omega
  obtain ⟨q,hq⟩ : ∃ q,q = n / 32:=⟨_,rfl⟩
  have hqi : (n : Int) / 32 = (q : Int):=by omega
  have hqb : q ≤ 34359738368:=by omega
  obtain ⟨ys,hys⟩ : ∃ ys,ys = xs.drop q:=⟨_,rfl⟩
  have hwy : Hid (Wf ys):=by rw [hys]; exact hx.1.drop q
  have hly : Hid (ys.length = la - q):=by rw [hys,Hid,List.length_drop,hla.out]
  have HYX : Hid (∀ k,xs.getD (q + k) 0 = ys.getD k 0):=by
    intro k
    rw [hys]
    simp [List.getD]
  have HV : Hid (val ys / 2 ^ s = val xs / 2 ^ n):=by
    rcases Nat.lt_or_ge q la with h | h
    · have:=shr_words xs n hx.1 (by rw [← hla.out]; omega)
      rw [Hid,hys,hs,hq]; exact this
    · have h2:=shr_none xs n hx.1 (by rw [← hla.out]; omega)
      rw [Hid,h2,hys,List.drop_of_length_le (by rw [← hla.out]; exact h)]
      simp [val]
  clear hx hs hq hys
  go_enter Tryz.func334,Tryz.ntmps334
  go_wp2
  go_loopw [5,6] (fun v i wr=>∃ (k : Nat),k ≤ la - q ∧ i = .int .i64 ((q + k : Nat) : Int) ∧ Hid (Row wr w.heap.size v ((shrL s ys).take k)) ∧ Below w.heap.size w wr) (fun _ i _=>la - (intOf i).toNat)
  case atStart=>exact ⟨0,by omega,by go_num,Row.nil _ _,Below.refl _ _⟩
  case round =>
    obtain ⟨k,hk,rfl,hrow,hb'⟩:=hrel
    have hlt:=hb'.size
    have hkl : Hid (((shrL s ys).take k).length = k):=by rw [Hid,List.length_take,shrL_length,hly.out]; omega
    by_cases hk1 : q + k < la
    · have hX:=(HA.out.below hb')
      obtain ⟨b,o,rfl,hall⟩:=hX.open_ (by omega)
      obtain ⟨x,hx⟩ : ∃ x,x = xs.getD (q + k) 0:=⟨_,rfl⟩
      obtain ⟨x2,hx2⟩ : ∃ x,x = xs.getD (q + k + 1) 0:=⟨_,rfl⟩
      have hcx : wr.cell? ⟨b,o + (q + k),none⟩ = some (.int .u32 (x : Int)):=by rw [hx]; exact hall (q + k) hk1
      have hx32 : x < 4294967296:=by rw [hx]; exact hwx.out.getD _
      have hx232 : x2 < 4294967296:=by rw [hx2]; exact hwx.out.getD _
      obtain ⟨t,ht⟩ : ∃ t,t = x2 * 4294967296 + x:=⟨_,rfl⟩
      have hti : (x2 : Int) * 4294967296 + (x : Int) = (t : Int):=by omega
      have hxb : (x2 : Int) * 4294967296 ≤ 18446744069414584320:=by omega
      have htb : t ≤ 18446744073709551615:=by omega
      obtain ⟨u,hu⟩ : ∃ u,u = t / 2 ^ s:=⟨_,rfl⟩
      have hui : (t : Int) / 2 ^ s = (u : Int):=by rw [hu,Int.natCast_ediv,Int.natCast_pow]; rfl
      have hub : u ≤ 18446744073709551615:=by rw [hu]; exact Nat.le_trans (Nat.div_le_self _ _) htb
      have HU:=Lib.hid hu
      have HT:=Lib.hid ht
      have HXX:=Lib.hid hx
      have HX2:=Lib.hid hx2
      have HXW:=Lib.hid hX
      have hki : ((q + k : Nat) : Int) + 1 = ((q + k + 1 : Nat) : Int):=by omega
      clear hX hall hx hx2 ht hu
      go_wp2
      go_quiet ((go_at_call 329; exact Calls.quiet_of_same (at_val HXW.out (q + k + 1) x2 (by omega) HX2.out.symm _)))
      go_wp2_with (at_builtin; refine wpList_append_word rfl (.tmp 30) (.tmp 34) rfl w.heap.size _ ((shrL s ys).take k) rfl ((Row.on_ hrow.out (Below.drewN_ (Below.refl _ _) _)).alloc _) ⟨_,0,none⟩ 1 (u % 4294967296) _ rfl (cell_new0 _ _ _) ?_ (by omega) ?_ ?_ ?_)
      · omega
      · rw [hkl.out]; omega
      · simp; omega
      · intro v' w' hrow2 hb2
        have HR2:=Lib.hid hrow2
        have hb3 : Below w.heap.size w w':=((Below.drewN_ hb' _).alloc (by simpa using hlt) _).trans hb2
        clear hrow2 hb2 hb'
        go_wp2
        go_roundw
        case rel =>
          refine ⟨k + 1,by omega,by go_num,?_,hb3⟩
          have h:=HR2.out
          have e : ((shrL s ys).take k) ++ [u % 4294967296] = (shrL s ys).take (k + 1):=by
            rw [shrL_take s ys k (by rw [hly.out]; omega)]
            have e2 : (ys.getD k 0 + 4294967296 * ys.getD (k + 1) 0) / 2 ^ s = u:=by
              rw [HU.out,HT.out,← HYX.out k,← HYX.out (k + 1),← HXX.out,← Nat.add_assoc,← HX2.out,Nat.add_comm,Nat.mul_comm]
            rw [e2]
          rw [e] at h
          exact h
        case measure=>simp [intOf]; omega
    · have hke : k = la - q:=by omega
      have hw:=hrow.out.words (by rw [hkl.out]; omega)
      rw [List.take_of_length_le (by rw [shrL_length,hly.out]; omega)] at hw
      have HW:=Lib.hid hw
      obtain ⟨A',L',cap',rfl⟩:=hw.form
      clear hw hke
      go_wp2_with fail
      refine (rcut_any HW.out).mono ?_
      rintro e w2 ⟨rfl,rfl⟩
      go_wp2
      go_ret
      refine ⟨_,rfl,?_,hb'⟩
      rw [← HV.out,← val_shrL s ys hwy.out hs32,← dig_of _ _ (Wf_shrL s ys) rfl]
      exact HW.out.trim_
theorem Buf.window {w : World} {g j m L c : Nat} {us : List Nat} (h : Buf w g us) (hl : us.length = L) (hL : L ≤ 17179869184) (hj : j + m ≤ L) (hm : 0 < m) (hc : m ≤ c) : Words w (.slice (some ⟨g,j,none⟩) m c) ((us.drop j).take m):=by
  obtain ⟨hw,cs,h1,h2,h3⟩:=h
  have hlen : ((us.drop j).take m).length = m:=by rw [List.length_take,List.length_drop]; omega
  refine ⟨(hw.drop j).take m,by rw [hlen]; omega,_,c,by rw [hlen],by rw [hlen]; exact hc,fun _=>⟨g,j,cs,_,rfl,h1,fun i hi=>?_⟩⟩
  rw [hlen] at hi
  rw [h3 (j + i) (by omega)]
  congr 3
  simp [List.getD,List.getElem?_take,hi]
theorem cmpN_le {n m : Nat} : cmpN n m ≤ 0 ↔ n ≤ m:=by
  unfold cmpN
  split
  · omega
  · split <;> omega
set_option maxHeartbeats 1600000 in
set_option maxRecDepth 100000 in
theorem fits_any {w : World} {Av : Option Addr} {n cv gu L j q V : Nat} {us : List Nat} (hv : Words w (.slice Av n cv) (dig V)) (hu : Buf w gu us) (hl : us.length = L) (hL : L ≤ 8589934592) (hj : j + n + 1 ≤ L) (hn : n ≤ 4294967296) (hq : q < 4294967296) (r : Bool) (hr : decide (q * V ≤ val ((us.drop j).take (n + 1))) = r) :
    Calls Tryz.prog 333 #[.slice (some ⟨gu,0,none⟩) L L,.slice Av n cv,.int .i64 (j : Int),.int .u64 (q : Int)] w fun e w'=>e = .returned (.bool r) ∧ Below w.heap.size w w':=by
  have HV:=Lib.hid hv
  have HU:=Lib.hid hu
  have HL:=Lib.hid hl
  obtain ⟨mid,hmid⟩ : ∃ mid,mid = (us.drop j).take (n + 1):=⟨_,rfl⟩
  rw [← hmid] at hr
  have HR:=Lib.hid hr
  have HMID:=Lib.hid hmid
  have hwq:=words_one w q _ hq rfl
  have HWQ:=Lib.hid hwq
  have HB:=Lib.hid (below_new w (.cells #[.int .u32 (q : Int)] 300))
  have HV1:=Lib.hid (hv.below HB.out)
  clear hv hu hl hr hmid hwq
  go_enter Tryz.func333,Tryz.ntmps333
  go_wp2_with fail
  refine (rproduct_any HWQ.out HV1.out (by decide) (by omega)).mono ?_
  rintro e w2 ⟨v,rfl,h1,hb⟩
  obtain ⟨Ax,nx,cx,rfl⟩:=h1.form
  have HX:=Lib.hid h1
  have HB2:=Lib.hid (HB.out.trans (hb.mono HB.out.size))
  clear h1 hb
  have hwin : ∀ c,n + 1 ≤ c → Words w2 (.slice (some ⟨gu,j,none⟩) (n + 1) c) mid:=fun c hc=>by rw [HMID.out]; exact ((HU.out.on HB2.out).window HL.out (by omega) (by omega) (by omega) hc)
  have HWIN:=Lib.hid hwin
  clear hwin
  go_wp2_with fail
  rw [show j + n + 1 - j = n + 1 by omega]
  refine (rcut_any (HWIN.out (L - j) (by omega))).mono ?_
  rintro e w3 ⟨rfl,rfl⟩
  have hmw:=HWIN.out (L - j) (by omega)
  have hd : trim mid = dig (val mid):=(dig_val mid hmw.1).symm
  have hcw:=(HWIN.out (L - j) (by omega)).trim_
  rw [hd] at hcw ⊢
  have HCW:=Lib.hid hcw
  clear hd hcw hmw
  go_wp2_with fail
  refine (runder_any HX.out HCW.out).mono ?_
  rintro e w4 ⟨rfl,hdr⟩
  have HB4:=Lib.hid (HB2.out.trans (hdr.below _))
  have hcv : val [q] * val (dig V) = q * V:=by rw [val_dig]; simp [val]
  rw [hcv]
  have hkk : decide (cmpN (q * V) (val mid) ≤ 0) = r:=by rw [← HR.out]; exact decide_eq_decide.2 cmpN_le
  have HKK:=Lib.hid hkk
  clear hdr hcv hkk
  go_wp2
  go_ret
  refine ⟨?_,HB4.out⟩
  rw [← HKK.out]
  rfl
end
end Go.Proofs.YtimfgjcidigbiaaGreat
end
section
namespace Go.Proofs.YtimfgjcidigbiaaGreat
open Go.RowKit
theorem Div.first2 (us0 : List Nat) (A V k la n : Nat) (hA : A < 4294967296 ^ la) (hu : val us0 = A * 2 ^ k) (hl : us0.length = la + 2) (hn : 0 < n) (hnl : n ≤ la) (hk : k ≤ 31) (hV : 4294967296 ^ (n - 1) * 2147483648 ≤ V) :
    Div us0 us0 (List.replicate (la + 2 - n) 0) V (la + 2 - n) (la + 2) n:=by
  refine ⟨hl,by simp,rfl,?_,by rw [List.drop_of_length_le (by simp)]; simp [val]⟩
  have h1:=val_take_drop us0 (la + 2 - n) (by omega)
  have h2 : 4294967296 ^ (la + 2 - n) * val (us0.drop (la + 2 - n)) < 4294967296 ^ (la + 1):=by
    have h3 : A * 2 ^ k < 4294967296 ^ la * 2 ^ 32:=by
      have h4 : 2 ^ k ≤ 2 ^ 32:=Nat.pow_le_pow_right (by decide) (by omega)
      exact Nat.mul_lt_mul_of_lt_of_le hA h4 (Nat.two_pow_pos _)
    rw [show (2 : Nat) ^ 32 = 4294967296 from rfl,← Nat.pow_succ] at h3
    omega
  have h5 : 4294967296 ^ (la + 1) = 4294967296 ^ (la + 2 - n) * 4294967296 ^ (n - 1):=by rw [← Nat.pow_add]; congr 1; omega
  rw [h5] at h2
  have h6:=Nat.lt_of_mul_lt_mul_left h2
  have h7 : 4294967296 ^ (n - 1) * 1 ≤ 4294967296 ^ (n - 1) * 2147483648:=Nat.mul_le_mul_left _ (by decide)
  omega
theorem Div.last2 {us0 us qs : List Nat} {b k L n a : Nat} (d : Div us0 us qs (b * 2 ^ k) 0 L n) (hu : val us0 = a * 2 ^ k) : val qs = a / b ∧ val us / 2 ^ k = a % b:=by
  have h1:=d.eq
  have h2:=d.rest
  simp only [List.drop_zero] at h1 h2
  rw [hu,← Nat.mul_assoc] at h1
  have hb : 0 < b:=by
    rcases Nat.eq_zero_or_pos b with h | h
    · subst h; simp at h2
    · exact h
  have hP:=Nat.two_pow_pos k
  obtain ⟨r,hr⟩ : ∃ r,val us = r * 2 ^ k:=by
    refine ⟨a - val qs * b,?_⟩
    rw [Nat.sub_mul]
    omega
  rw [hr] at h1 h2 ⊢
  have h3 : r < b:=Nat.lt_of_mul_lt_mul_right h2
  have h4 : val qs * b + r = a:=by
    rw [← Nat.add_mul] at h1
    exact Nat.eq_of_mul_eq_mul_right hP h1
  rw [Nat.mul_div_cancel _ hP]
  have h5 : a = b * val qs + r:=by rw [Nat.mul_comm]; exact h4.symm
  rw [h5,Nat.mul_add_div hb,Nat.div_eq_of_lt h3,Nat.mul_add_mod,Nat.mod_eq_of_lt h3]
  exact ⟨by omega,rfl⟩
theorem guess_first {U V top v1 P : Nat} (h1 : U < (top + 1) * P) (h2 : v1 * P ≤ V) (h3 : 0 < v1) (hV : 0 < V) (hU : U < 4294967296 * V) : U < (min (top / v1) 4294967295 + 1) * V:=by
  have h4:=knu_le U V top v1 P h1 h2 h3 hV
  rcases Nat.le_total (top / v1) 4294967295 with h | h
  · rw [Nat.min_eq_left h]; exact h4
  · rw [Nat.min_eq_right h]; exact hU
theorem take_end {ms : List Nat} {m q V U c : Nat} (hw : Wf ms) (hl : ms.length = m) (hv : val ms + q * V = U + 4294967296 ^ m * c) (hle : q * V ≤ U) (hlt : U < (q + 1) * V) : val ms + q * V = U ∧ val ms < V:=by
  have h1:=val_lt ms hw
  rw [hl] at h1
  rcases Nat.eq_zero_or_pos c with h | h
  · subst h
    rw [Nat.add_mul] at hlt
    omega
  · exfalso
    have : 4294967296 ^ m * 1 ≤ 4294967296 ^ m * c:=Nat.mul_le_mul_left _ h
    omega
set_option maxRecDepth 100000 in
theorem divided_small {A B : Option Addr} {la ca lb cb a b : Nat} {w : World} (hx : Words w (.slice A la ca) (dig a)) (hy : Words w (.slice B lb cb) (dig b)) (hlt : a < b) :
    Calls Tryz.prog 297 #[.slice A la ca,.slice B lb cb] w (DivPost w a b):=by
  have HX:=Lib.hid hx
  have HY:=Lib.hid hy
  have HL:=Lib.hid hlt
  clear hx hy hlt
  go_enter Tryz.func297,Tryz.ntmps297
  go_wp2_with (go_at_call 286; refine (runder_any HX.out HY.out).mono ?_; rw [cmpN_lt HL.out]; rintro e w' ⟨rfl,k,rfl⟩)
  go_ret2
  refine ⟨.slice none 0 0,.slice A la ca,rfl,?_,?_,Below.drewN_ (Below.refl _ _) k⟩
  · rw [Nat.div_eq_of_lt HL.out,dig_zero]; exact Words.nil _
  · rw [Nat.mod_eq_of_lt HL.out]; exact HX.out.below (Below.drewN_ (Below.refl _ _) k)
theorem norm_bits {b n t k Lb : Nat} (h : Bits b Lb) (hn : (dig b).length = n) (h0 : 0 < n) (ht : (dig b).getD (n - 1) 0 = t) (hk : k = 32 * n - Lb) : k ≤ 31 ∧ 2147483648 ≤ t * 2 ^ k ∧ t * 2 ^ k < 4294967296:=by
  obtain ⟨m,rfl⟩ : ∃ m,n = m + 1:=⟨n - 1,by omega⟩
  rw [Nat.add_sub_cancel,dig_getD] at ht
  have hm:=dig_lt b
  rw [hn,Nat.pow_succ] at hm
  have h3 : b / 4294967296 ^ m < 4294967296:=Nat.div_lt_of_lt_mul hm
  rw [Nat.mod_eq_of_lt h3] at ht
  have hbp : 0 < b:=by
    rcases Nat.eq_zero_or_pos b with e | e
    · rw [e,dig_zero] at hn; simp at hn
    · exact e
  have hlow:=dig_len_ge b hbp
  rw [hn,Nat.add_sub_cancel] at hlow
  have hP : 0 < 4294967296 ^ m:=Nat.pow_pos (by decide)
  have hL1 : Lb ≤ 32 * (m + 1):=h.le (by rw [← p32,Nat.pow_succ]; exact hm)
  have hL2 : 32 * m < Lb:=by
    have h4:=h.1
    rw [p32] at hlow
    exact (Nat.pow_lt_pow_iff_right (by decide : 1 < 2)).1 (Nat.lt_of_le_of_lt hlow h4)
  obtain ⟨e,he⟩ : ∃ e,Lb = 32 * m + e:=⟨Lb - 32 * m,by omega⟩
  have hk2 : k + e = 32:=by omega
  have h5 : t < 2 ^ e:=by
    have h4:=h.1
    rw [he,Nat.pow_add,← p32] at h4
    rw [← ht]
    exact Nat.div_lt_of_lt_mul h4
  have h6 : 2 ^ (e - 1) ≤ t:=by
    have h4:=h.2 (by omega)
    rw [he,show 32 * m + e - 1 = 32 * m + (e - 1) by omega,Nat.pow_add,← p32] at h4
    rw [← ht]
    rw [Nat.mul_comm] at h4
    exact (Nat.le_div_iff_mul_le hP).2 h4
  have hK:=Nat.two_pow_pos k
  have e1 : 2 ^ e * 2 ^ k = 4294967296:=by rw [← Nat.pow_add,show e + k = 32 by omega]
  have e2 : 2 ^ (e - 1) * 2 ^ k = 2147483648:=by rw [← Nat.pow_add,show e - 1 + k = 31 by omega]
  refine ⟨by omega,?_,?_⟩
  · rw [← e2]; exact Nat.mul_le_mul_right _ h6
  · rw [← e1]; exact Nat.mul_lt_mul_of_pos_right h5 hK
theorem small_dig {A : Option Addr} {la ca a : Nat} {w : World} (hx : Words w (.slice A la ca) (dig a)) (d : Nat) (hd0 : 0 < d) (hd : d < 4294967296) :
    Calls Tryz.prog 332 #[.slice A la ca,.int .u64 (d : Int)] w fun e w'=>∃ v r,e = .returned (.tuple #[v,.int .u64 ((r : Nat) : Int)]) ∧ Hid (r = a % d) ∧ r < d ∧ Words w' v (dig (a / d)) ∧ Below w.heap.size w w':=by
  refine (small_any hx (by rw [hx.len.1]; exact hx.2.1) d hd0 hd).mono fun e w' ⟨v,h1,h2,h3⟩=>?_
  rw [val_dig] at h1 h2
  exact ⟨v,_,h1,rfl,Nat.mod_lt _ hd0,h2,h3⟩
set_option maxRecDepth 100000 in
theorem divided_word {A B : Option Addr} {la ca cb a b : Nat} {w : World} (hx : Words w (.slice A la ca) (dig a)) (hy : Words w (.slice B 1 cb) (dig b)) (hge : b ≤ a) :
    Calls Tryz.prog 297 #[.slice A la ca,.slice B 1 cb] w (DivPost w a b):=by
  have hl:=hy.len.1
  have hb0 : 0 < b:=by
    rcases Nat.eq_zero_or_pos b with h | h
    · rw [h,dig_zero] at hl; simp at hl
    · exact h
  have hbd : (dig b).getD 0 0 = b:=by
    have h1:=val_dig b
    match hd : dig b,hl with
    | [x],_=>rw [hd] at h1; simp [val] at h1; simpa using h1
  have hblt : b < 4294967296:=by have:=dig_lt b; rw [← hl] at this; omega
  obtain ⟨bb,o,rfl,hc⟩:=hy.open_ (by omega)
  have hc : w.cell? ⟨bb,o,none⟩ = some (.int .u32 (b : Int)):=by have:=hc 0 (by omega); rw [hbd] at this; exact this
  have hsz:=hx.2.1
  rw [← hx.len.1] at hsz
  have HX:=Lib.hid hx
  have HY:=Lib.hid hy
  have HC:=Lib.hid (cmpN_ge hge)
  obtain ⟨r,hr⟩ : ∃ r,r = cmpN a b:=⟨_,rfl⟩
  have HR:=Lib.hid hr
  have hr0 : 0 ≤ r:=by rw [hr]; exact HC.out
  have hb1 : 0 < b:=hb0
  clear hx hy hge hl hbd hr HC
  go_enter Tryz.func297,Tryz.ntmps297
  go_wp2_with (first
    | (go_at_call 286; refine (runder_any HX.out HY.out).mono ?_; rw [← HR.out]; rintro e w' ⟨rfl,k,rfl⟩)
    | (go_at_call 332; refine (small_dig (HX.out.below (Below.drewN_ (Below.refl _ _) _)) b hb1 hblt).mono ?_; rintro e w' ⟨v,r2,rfl,hr2,hr2b,hv,hbel⟩))
  have hrl : r2 < 4294967296:=by omega
  have HV:=Lib.hid hv
  have HB:=Lib.hid hbel
  clear hv hbel
  go_wp2_with (go_at_call 301; refine (rcut_any (words_one _ r2 _ hrl rfl)).mono ?_; rintro e w2 ⟨rfl,rfl⟩)
  go_ret2
  refine ⟨v,.slice (some ⟨w'.heap.size,0,none⟩) (trim [r2]).length 1,rfl,HV.out.below ((Below.refl _ _).alloc (Nat.le_refl _) _),?_,(((Below.drewN_ (Below.refl _ _) _).trans (HB.out.mono (by simp))).alloc (by have:=HB.out.size; simpa using this) _)⟩
  have h1:=(words_one w' r2 _ hrl rfl).trim_
  rw [← hr2.out,← dig_of [r2] r2 (Wf.cons hrl Wf.nil) (by simp [val])]
  exact h1
set_option maxHeartbeats 6400000 in
set_option maxRecDepth 100000 in
theorem divided_long {A B : Option Addr} {la ca lb cb a b : Nat} {w : World} (hx : Words w (.slice A la ca) (dig a)) (hy : Words w (.slice B lb cb) (dig b)) (hge : b ≤ a) (hl2 : 2 ≤ lb) (hla : la ≤ 4294967296) :
    Calls Tryz.prog 297 #[.slice A la ca,.slice B lb cb] w (DivPost w a b):=by
  have hla0:=hx.len.1
  have hlb:=hy.len.1
  have hlab : lb ≤ la:=by rw [hla0,hlb]; exact dig_len_mono _ _ hge
  obtain ⟨t,ht⟩ : ∃ t,t = (dig b).getD (lb - 1) 0:=⟨_,rfl⟩
  have ht32 : t < 4294967296:=by rw [ht]; exact (Wf_dig b).getD _
  have HX:=Lib.hid hx
  have HY:=Lib.hid hy
  have HLB:=Lib.hid hlb
  have HLA:=Lib.hid hla0
  have HT:=Lib.hid ht
  obtain ⟨r,hr⟩ : ∃ r,r = cmpN a b:=⟨_,rfl⟩
  have hr0 : 0 ≤ r:=by rw [hr]; exact cmpN_ge hge
  have HR:=Lib.hid hr
  have HGE:=Lib.hid hge
  have hlb1 : ((lb : Int) == 1) = false:=by rw [beq_eq_false_iff_ne]; omega
  clear hx hy hge hlb hla0 ht hr
  go_enter Tryz.func297,Tryz.ntmps297
  go_wp2_with (go_at_call 286; refine (runder_any HX.out HY.out).mono ?_; rw [← HR.out]; rintro e w' ⟨rfl,kk,rfl⟩)
  have HXd:=Lib.hid (HX.out.below (Below.drewN_ (Below.refl _ _) kk))
  have HYd:=Lib.hid (HY.out.below (Below.drewN_ (Below.refl _ _) kk))
  go_wp2_with fail
  refine (rbits_any HYd.out).mono ?_
  rintro e w0 ⟨Lb,rfl,hbits,hLb,hb0⟩
  obtain ⟨k,hk'⟩ : ∃ k,k = 32 * lb - Lb:=⟨_,rfl⟩
  have hki : 32 * (lb : Int) - (Lb : Int) = (k : Int):=by omega
  have hN : k ≤ 31 ∧ 2147483648 ≤ t * 2 ^ k ∧ t * 2 ^ k < 4294967296:=norm_bits hbits HLB.out.symm (by omega) HT.out.symm hk'
  have hk : k ≤ 31:=hN.1
  have HN:=Lib.hid (norm_top b lb t k HLB.out.symm (by omega) HT.out.symm hN.2.1 hN.2.2 hk)
  have HB0:=Lib.hid hb0
  clear hbits hk' hN hb0
  have HX0:=Lib.hid (HXd.out.below HB0.out)
  have HY0:=Lib.hid (HYd.out.below HB0.out)
  go_wp2_with fail
  refine (up_any HY0.out (by omega) k (by omega)).mono ?_
  rintro e w1 ⟨vv,rfl,hvv,hb1⟩
  rw [val_dig] at hvv
  obtain ⟨Av,nv,cv,rfl⟩:=hvv.form
  have hnv : nv = lb:=by rw [hvv.len.1]; exact HN.out.1
  subst hnv
  have HVV:=Lib.hid hvv
  have HB1:=Lib.hid hb1
  clear hvv hb1
  go_wp2_with (at_make; refine wpList_make_words rfl _ _ rfl _ _ _ _ (la + 2) (la + 2) rfl rfl (by omega) (by omega) (Nat.le_refl _) (by omega) ?_)
  intro w2 hbuf hb2 hz2
  have HBU:=Lib.hid hbuf
  have HB2:=Lib.hid hb2
  clear hz2 hbuf hb2
  go_wp2_with fail
  refine (up_any ((HX0.out.below HB1.out).below HB2.out) (by omega) k (by omega)).mono ?_
  rintro e w3 ⟨va,rfl,hva,hb3⟩
  rw [val_dig] at hva
  obtain ⟨Aa,na,ca',rfl⟩:=hva.form
  have hna : na ≤ la + 2:=by
    rw [hva.len.1]
    refine Nat.le_trans (dig_len_le _ (la + 1) ?_) (by omega)
    have h1:=dig_lt a
    rw [← HLA.out] at h1
    have h2 : 2 ^ k ≤ 2 ^ 32:=Nat.pow_le_pow_right (by omega) (by omega)
    rw [Nat.pow_succ]
    exact Nat.mul_lt_mul_of_lt_of_le h1 h2 (by omega)
  obtain ⟨gu,hgu⟩ : ∃ gu,gu = w1.heap.size:=⟨_,rfl⟩
  rw [← hgu] at HBU
  rw [← hgu]
  have HBU3:=Lib.hid (HBU.out.on hb3)
  have HVA:=Lib.hid hva
  have HB3:=Lib.hid hb3
  have HGU:=Lib.hid hgu
  clear hva hb3 hgu
  go_wp2_with (with_reducible refine wpList_copy_words rfl (.tmp 55) (.tmp 58) rfl gu (la + 2) (la + 2) _ rfl HBU3.out (by simp) Aa na ca' _ rfl HVA.out hna gu w3 (Below.refl _ _) (Nat.le_refl _) ?_)
  intro w4 hbu4 hb4
  obtain ⟨us0,hus⟩ : ∃ us0,us0 = dig (a * 2 ^ k) ++ List.replicate (la + 2 - na) 0:=⟨_,rfl⟩
  rw [← hus] at hbu4
  have hus0 : val us0 = a * 2 ^ k:=by rw [hus,val_append,val_zeros,val_dig,Nat.mul_zero,Nat.add_zero]
  have hul0 : us0.length = la + 2:=by rw [hus,List.length_append,List.length_replicate,← HVA.out.len.1]; omega
  have HUS:=Lib.hid hus0
  have HUL:=Lib.hid hul0
  have HBU4:=Lib.hid hbu4
  have HB4:=Lib.hid hb4
  clear hus hbu4 hb4 hus0 hul0
  go_wp2_with (at_make; refine wpList_make_words rfl _ _ rfl _ _ _ _ (la + 2 - nv) (la + 2 - nv) rfl rfl (by omega) (by omega) (Nat.le_refl _) (by omega) ?_)
  intro w5 hbq hb5 hz5
  obtain ⟨gq,hgq⟩ : ∃ gq,gq = w4.heap.size:=⟨_,rfl⟩
  rw [← hgq] at hbq
  rw [← hgq]
  have HGQ:=Lib.hid hgq
  have HBQ:=Lib.hid hbq
  have HB5:=Lib.hid hb5
  clear hgq hz5 hbq hb5
  have hb45 : Below w.heap.size w w5:=by
    have s0:=HB0.out.size
    have s1:=HB1.out.size
    have s2:=HB2.out.size
    have s3:=HB3.out.size
    have s4:=HB4.out.size
    have e0 : (w.drewN kk).heap.size = w.heap.size:=rfl
    rw [e0] at s0
    refine (((((Below.drewN_ (Below.refl _ _) kk).trans HB0.out).trans (HB1.out.mono (by omega))).trans (HB2.out.mono (by omega))).trans (HB3.out.mono (by omega))).trans ((HB4.out.mono ?_).trans (HB5.out.mono (by omega)))
    rw [HGU.out]; omega
  have hguq : gu < gq:=by rw [HGQ.out]; exact HBU4.out.lt
  have hBgu : w.heap.size ≤ gu:=by
    rw [HGU.out]
    have s0:=HB0.out.size
    have s1:=HB1.out.size
    have e0 : (w.drewN kk).heap.size = w.heap.size:=rfl
    rw [e0] at s0
    omega
  have HNE : Hid (∀ b o,Av = some ⟨b,o,none⟩ → b < gu):=by
    intro b o hA; rw [HGU.out]; exact HVV.out.lt (by omega) b o hA
  have HVV5 : Hid (Words w5 (.slice Av nv cv) (dig (b * 2 ^ k))):=(((HVV.out.below HB2.out).below HB3.out).under HB4.out HNE.out).below HB5.out
  have HBU5:=Lib.hid (HBU4.out.on HB5.out)
  have HN1:=Lib.hid HN.out.1
  have HN2:=Lib.hid HN.out.2.1
  obtain ⟨V,hV⟩ : ∃ V,V = b * 2 ^ k:=⟨_,rfl⟩
  have hD:=Div.first2 us0 a (b * 2 ^ k) k la nv (by have:=dig_lt a; rw [← HLA.out] at this; exact this) HUS.out HUL.out (by omega) hlab hk HN.out.2.2
  have HVlt : Hid (b * 2 ^ k < 4294967296 ^ nv):=by
    have:=dig_lt (b * 2 ^ k)
    rw [HN1.out] at this
    exact this
  rw [← hV] at HVV5 HN1 HN2 hD HVlt
  have HD:=Lib.hid hD
  have HVE:=Lib.hid hV
  have HBv:=Lib.hid hb45
  have hwsz:=HBv.out.size
  have HVP : Hid (0 < V):=by
    have h1:=HN1.out
    rcases Nat.eq_zero_or_pos V with h | h
    · rw [h,dig_zero] at h1; simp at h1; omega
    · exact h
  clear hD hV hb45 HX HY HXd HYd HX0 HY0 HVV HBU HBU3 HBU4 HVA HB0 HB1 HB2 HB3 HB4 HB5 HN HT HR
  go_wp2
  go_loopw [13] (fun i wr=>∃ (j : Nat) (us qs : List Nat),j ≤ la + 2 - nv ∧ i = .int .i64 ((j : Int) - 1) ∧ Hid (Div us0 us qs V j (la + 2) nv) ∧ Hid (Buf wr gu us) ∧ Hid (Buf wr gq qs) ∧ Hid (Words wr (.slice Av nv cv) (dig V)) ∧ Hid (Below w.heap.size w wr)) (fun i _=>(intOf i + 1).toNat)
  case atStart=>exact ⟨la + 2 - nv,us0,List.replicate (la + 2 - nv) 0,by omega,by go_num,HD,HBU5,HBQ,HVV5,HBv⟩
  case round =>
    obtain ⟨j,us,qs,hj,rfl,hd,hbu,hbq,hvw,hbel⟩:=hrel
    clear HD HBU5 HBQ HVV5 HBv
    by_cases hj0 : 0 < j
    · obtain ⟨j,rfl⟩ : ∃ j',j = j' + 1:=⟨j - 1,by omega⟩
      have e1 : ((j + 1 : Nat) : Int) - 1 = (j : Int):=by omega
      rw [e1]
      clear e1
      have hlu:=Lib.hid hd.out.lu
      have hlq:=Lib.hid hd.out.lq
      have hwu:=Lib.hid hbu.out.1
      have HW:=Lib.hid (hd.out.window hwu.out HVlt.out (by omega))
      obtain ⟨mid,hmid⟩ : ∃ mid,mid = (us.drop j).take (nv + 1):=⟨_,rfl⟩
      obtain ⟨x0,hx0⟩ : ∃ x,x = us.getD (j + nv) 0:=⟨_,rfl⟩
      obtain ⟨x1,hx1⟩ : ∃ x,x = us.getD (j + nv - 1) 0:=⟨_,rfl⟩
      obtain ⟨v1,hv1⟩ : ∃ x,x = (dig V).getD (nv - 1) 0:=⟨_,rfl⟩
      obtain ⟨bv,ov,rfl,hcv⟩:=hvw.out.open_ (by omega)
      have c0:=hbu.out.cell (j + nv) (by rw [hlu.out]; omega)
      have c1:=hbu.out.cell (j + nv - 1) (by rw [hlu.out]; omega)
      rw [← hx0] at c0
      rw [← hx1] at c1
      have c3 : wr.cell? ⟨bv,ov + (nv - 1),none⟩ = some (.int .u32 (v1 : Int)):=by rw [hv1]; exact hcv (nv - 1) (by omega)
      have b0 : x0 < 4294967296:=by rw [hx0]; exact hwu.out.getD _
      have b1 : x1 < 4294967296:=by rw [hx1]; exact hwu.out.getD _
      have b3 : v1 < 4294967296:=by rw [hv1]; exact (Wf_dig V).getD _
      have b3' : 2147483648 ≤ v1:=by rw [hv1]; exact HN2.out
      obtain ⟨top,htop⟩ : ∃ top,top = x0 * 4294967296 + x1:=⟨_,rfl⟩
      have hti : (x0 : Int) * 4294967296 + (x1 : Int) = (top : Int):=by omega
      have hxb : (x0 : Int) * 4294967296 ≤ 18446744069414584320:=by omega
      have htb : top ≤ 18446744073709551615:=by omega
      obtain ⟨q0,hq0⟩ : ∃ q0,q0 = min (top / v1) 4294967295:=⟨_,rfl⟩
      obtain ⟨tq,htq⟩ : ∃ tq,tq = top / v1:=⟨_,rfl⟩
      have htqi : (top : Int) / (v1 : Int) = (tq : Int):=by rw [htq]; rfl
      have htqb : tq ≤ 18446744073709551615:=by rw [htq]; exact Nat.le_trans (Nat.div_le_self _ _) htb
      have HG0 : Hid (val mid < (q0 + 1) * V):=by
        rw [Hid,hq0,hmid]
        have hw5:=HW.out.2.2.1
        refine guess_first (P:=4294967296 ^ (nv - 1)) ?_ ?_ (by omega) HVP.out HW.out.2.2.2.2.2
        · have h1:=val_take_succ ((us.drop j).take (nv + 1)) nv (by omega)
          have h2:=val_take_succ ((us.drop j).take (nv + 1)) (nv - 1) (by omega)
          rw [show nv - 1 + 1 = nv by omega] at h2
          rw [val_take_all _ _ (by omega)] at h1
          have h3:=val_lt (((us.drop j).take (nv + 1)).take (nv - 1)) (((hwu.out.drop j).take _).take _)
          rw [List.length_take,Nat.min_eq_left (by omega)] at h3
          have e4 : ((us.drop j).take (nv + 1)).getD nv 0 = x0:=by rw [hx0]; simp [List.getD,List.getElem?_take]
          have e5 : ((us.drop j).take (nv + 1)).getD (nv - 1) 0 = x1:=by rw [hx1,show j + nv - 1 = j + (nv - 1) by omega]; simp [List.getD,List.getElem?_take,show nv - 1 < nv + 1 by omega]
          rw [e4] at h1
          rw [e5] at h2
          have e6 : 4294967296 ^ nv = 4294967296 ^ (nv - 1) * 4294967296:=by rw [← Nat.pow_succ]; congr 1; omega
          rw [h1,h2,htop,e6]
          generalize 4294967296 ^ (nv - 1) = P at *
          generalize val (((us.drop j).take (nv + 1)).take (nv - 1)) = lo at *
          have e7 : (x0 * 4294967296 + x1 + 1) * P = P * x1 + P * 4294967296 * x0 + P:=by
            rw [Nat.add_mul,Nat.add_mul,Nat.one_mul,Nat.mul_comm x1,Nat.mul_comm (x0 * 4294967296),Nat.mul_comm x0,← Nat.mul_assoc]
            omega
          omega
        · have h1:=val_take_succ (dig V) (nv - 1) (by have:=HN1.out; omega)
          rw [show nv - 1 + 1 = nv by omega,val_take_all _ _ (by have:=HN1.out; omega),val_dig,← hv1] at h1
          rw [Nat.mul_comm]
          omega
      have hcase : (4294967295 < tq ∧ q0 = 4294967295) ∨ (tq ≤ 4294967295 ∧ q0 = tq):=by
        rw [hq0,← htq]
        omega
      have HTOP:=Lib.hid htop
      have HMID:=Lib.hid hmid
      have i1 : (0 : Int) ≤ (j : Int) + (nv : Int):=by omega
      have i2 : (j : Int) + (nv : Int) < (la : Int) + 2:=by omega
      have i3 : (0 : Int) ≤ (j : Int) + (nv : Int) - 1:=by omega
      have i4 : (j : Int) + (nv : Int) - 1 < (la : Int) + 2:=by omega
      have i5 : (0 : Int) ≤ (nv : Int) - 1:=by omega
      have hv11 : (1 : Int) ≤ (v1 : Int):=by omega
      clear hcv hx0 hx1 hv1 htop hq0 htq hmid
      obtain ⟨wo,rfl⟩ : ∃ wo : World,wo = wr:=⟨_,rfl⟩
      have hnvb : nv ≤ 4294967296:=by omega
      have hlab2 : j + nv + 1 ≤ la + 2:=by omega
      have hlab3 : la + 2 ≤ 8589934592:=by omega
      rcases hcase with ⟨hcs,rfl⟩ | ⟨hcs,rfl⟩
      all_goals
        first
          | have hci : (4294967295 : Int) < (tq : Int):=by omega
          | have hci : (q0 : Int) ≤ 4294967295:=by omega
        go_wp2
        go_quiet (fail)
        go_wp2
        clear c0 c1 c3 hti hxb htqi hci i1 i2 i3 i4 i5 hv11
        go_loopw [15] (fun qv wr=>∃ (q : Nat),q < 4294967296 ∧ qv = .int .u64 (q : Int) ∧ Hid (val mid < (q + 1) * V) ∧ Hid (Below wo.heap.size wo wr)) (fun qv _=>(intOf qv).toNat)
        case atStart=>exact ⟨_,by first | exact Nat.lt_succ_of_le hcs | decide | omega,by first | rfl | go_num,HG0,Below.drewN_ (Below.refl _ _) _⟩
        case round =>
          obtain ⟨q,hqb,rfl,hqv,hbo⟩:=hrel
          by_cases hf : q * V ≤ val mid
          · go_wp2_with fail
            refine (fits_any (hvw.out.below hbo.out) (hbu.out.on hbo.out) hlu.out hlab3 hlab2 hnvb hqb true (by rw [← HMID.out]; simpa using hf)).mono ?_
            rintro e w6 ⟨rfl,hb6⟩
            have HB6:=Lib.hid (hbo.out.trans (hb6.mono hbo.out.size))
            have HBQ6:=Lib.hid (hbq.out.on HB6.out)
            have HBU6:=Lib.hid (hbu.out.on HB6.out)
            have HVW6:=Lib.hid (hvw.out.below HB6.out)
            have HBEL6:=Lib.hid (hbel.out.trans (HB6.out.mono hbel.out.size))
            have hst:=HBQ6.out.cell j (by rw [hlq.out]; omega)
            have hfz:=HBQ6.out.frozen j
            have hgq6:=HBQ6.out.lt
            have HQF:=Lib.hid hf
            have hjq : j < la + 2 - nv:=by omega
            clear hb6 hf hst hfz
            have hst : w6.cell? ⟨gq,j,none⟩ = some (.int .u32 (qs.getD j 0 : Nat)):=HBQ6.out.cell j (by rw [hlq.out]; omega)
            have hfz:=HBQ6.out.frozen j
            have hset:=HBQ6.out.set j q (q : Int) hqb rfl
            have honly : Only gq w6 (w6.setCell ⟨gq,j,none⟩ (.int .u32 (q : Int))):=(Only.refl gq w6).set j _
            have HBQ7:=Lib.hid hset
            have HBU7:=Lib.hid (HBU6.out.only honly (by omega))
            have HVW7:=Lib.hid (Only.words HVW6.out honly (fun b o hA=>by have:=HNE.out b o hA; omega))
            have HBEL7:=Lib.hid (HBEL6.out.setCell (show w.heap.size ≤ gq by omega) (p:=⟨gq,j,none⟩) (.int .u32 (q : Int)))
            have hgq7 : gq < (w6.setCell ⟨gq,j,none⟩ (.int .u32 (q : Int))).heap.size:=hset.lt
            have hgu7:=HBU7.out.lt
            clear hset honly HBQ6 HBU6 HVW6 HBEL6 HB6
            go_wp2
            generalize w6.setCell ⟨gq,j,none⟩ (.int .u32 (q : Int)) = w7 at HBQ7 HBU7 HVW7 HBEL7 hgq7 hgu7 ⊢
            clear hst hfz hbo hbu hbq hvw hbel
            obtain ⟨pre,hpre⟩ : ∃ pre,pre = us.take j:=⟨_,rfl⟩
            obtain ⟨post,hpost⟩ : ∃ post,post = us.drop (j + nv + 1):=⟨_,rfl⟩
            have HPL : Hid (pre.length = j):=by rw [hpre]; exact HW.out.2.1
            have HML : Hid (mid.length = nv + 1):=by rw [HMID.out]; exact HW.out.2.2.1
            have HUW : Hid (us = pre ++ (mid ++ post)):=by rw [hpre,hpost,HMID.out]; exact HW.out.1
            have HPRE:=Lib.hid hpre
            have HPOST:=Lib.hid hpost
            clear hpre hpost
            go_loopw [16,17,18] (fun bv' cv' iv wr=>∃ (k c b : Nat) (ms : List Nat),k ≤ nv + 1 ∧ c < 4294967296 ∧ b ≤ 1 ∧ bv' = .int .u64 (b : Int) ∧ cv' = .int .u64 (c : Int) ∧ iv = .int .i64 (k : Int) ∧ Hid (ms.length = k) ∧ Hid (val ms + q * val ((dig V).take k) = val (mid.take k) + 4294967296 ^ k * (b + c)) ∧ Hid (Buf wr gu (pre ++ ((ms ++ mid.drop k) ++ post))) ∧ Hid (Only gu w7 wr)) (fun _ _ iv _=>nv + 1 - (intOf iv).toNat)
            case atStart =>
              refine ⟨0,0,0,[],by omega,by omega,by omega,rfl,rfl,rfl,rfl,by simp [Hid,val],?_,Only.refl _ _⟩
              rw [List.nil_append,List.drop_zero,Hid,← HUW.out]
              exact HBU7.out
            case round =>
              obtain ⟨k,c,b',ms,hk,hc,hb',rfl,rfl,rfl,HK,HE,hbuf,ho⟩:=hrel
              by_cases hk1 : k < nv + 1
              · have hvw8:=Only.words HVW7.out ho.out (fun b o hA=>by have:=HNE.out b o hA; omega)
                obtain ⟨x,hx⟩ : ∃ x,x = mid.getD k 0:=⟨_,rfl⟩
                obtain ⟨y,hy⟩ : ∃ y,y = (dig V).getD k 0:=⟨_,rfl⟩
                have hx32 : x < 4294967296:=by rw [hx,HMID.out]; exact ((hwu.out.drop j).take _).getD k
                have hy32 : y < 4294967296:=by rw [hy]; exact (Wf_dig V).getD k
                have hcell:=hbuf.out.cell (j + k) (by rw [mid_len pre ms mid post k HK.out (by rw [HML.out]; omega),HPL.out,HML.out]; omega)
                have hfz:=hbuf.out.frozen (j + k)
                have hg:=mid_get pre ms mid post k HK.out (by rw [HML.out]; omega)
                rw [HPL.out] at hg
                rw [hg,← hx] at hcell
                clear hg
                obtain ⟨m,hm⟩ : ∃ m,m = q * y:=⟨_,rfl⟩
                have hmi : (q : Int) * (y : Int) = (m : Int):=by rw [hm]; exact (Int.natCast_mul _ _).symm
                have hcar:=step_carry q y c hqb hy32 hc
                rw [← hm] at hcar
                obtain ⟨hc1,hc2⟩:=hcar
                obtain ⟨t,ht⟩ : ∃ t,t = c + m:=⟨_,rfl⟩
                have hti : (c : Int) + (m : Int) = (t : Int):=by omega
                rw [← ht] at hc1 hc2
                obtain ⟨lo,hlo⟩ : ∃ lo,lo = t % 4294967296:=⟨_,rfl⟩
                have hloi : (t : Int) % 4294967296 = (lo : Int):=by omega
                have hlob : lo < 4294967296:=by omega
                obtain ⟨X,hX⟩ : ∃ X,X = 4294967296 + x - lo - b':=⟨_,rfl⟩
                have hXi : 4294967296 + (x : Int) - (lo : Int) - (b' : Int) = (X : Int):=by omega
                have hXb : X ≤ 8589934591:=by omega
                have HXX:=Lib.hid hX
                have HX:=Lib.hid hx
                have HY:=Lib.hid hy
                have HM:=Lib.hid hm
                have HT:=Lib.hid ht
                have HLO:=Lib.hid hlo
                have HV8:=Lib.hid hvw8
                have hszz:=hbuf.out.lt
                have hki : (k : Int) + (j : Int) = ((j + k : Nat) : Int):=by omega
                clear hvw8 hx hy hm ht hlo hX
                go_wp2_with fail
                refine (at_any HV8.out k (by omega)).mono ?_
                rintro e w8 ⟨rfl,rfl⟩
                rw [← HY.out]
                go_wp2
                go_roundw
                case rel =>
                  refine ⟨k + 1,t / 4294967296,1 - X / 4294967296,ms ++ [X % 4294967296],by omega,hc2,by omega,by go_num,by go_num,by go_num,?_,?_,?_,ho.out.set _ _⟩
                  · rw [Hid,List.length_append,HK.out]; rfl
                  · exact step_val mid (dig V) ms k q c b' (X % 4294967296) (1 - X / 4294967296) t HK.out HE.out (by rw [HT.out,HM.out,HY.out]) (by rw [← HLO.out,← HX.out]; have:=HXX.out; omega)
                  · have h:=hbuf.out.set (j + k) (X % 4294967296) ((X : Int) % 4294967296) (by omega) (by omega)
                    have h2:=mid_set pre ms mid post k (X % 4294967296) HK.out (by rw [HML.out]; omega)
                    rw [HPL.out] at h2
                    rw [h2] at h
                    first | exact h | (rw [Nat.add_comm k j]; exact h)
                case measure=>simp [intOf]; omega
              · obtain rfl : k = nv + 1:=by omega
                have hfin:=take_end (U:=val mid) hbuf.out.1.right.left.left HK.out (by
                  have h:=HE.out
                  rwa [val_take_all (dig V) (nv + 1) (by have:=HN1.out; omega),val_dig,val_take_all mid (nv + 1) (by rw [HML.out]; exact Nat.le_refl _)] at h) HQF.out hqv.out
                have hnx:=Lib.hid (hd.out.next (q:=q) (ms:=ms) hwu.out HVlt.out (by omega) HUL.out (by rw [HK.out,← HMID.out,HML.out]) (by rw [← HMID.out]; exact hfin.1) hfin.2)
                have hbuf2:=hbuf.out
                rw [List.drop_of_length_le (show mid.length ≤ nv + 1 by rw [HML.out]; exact Nat.le_refl _),List.append_nil,HPRE.out,HPOST.out] at hbuf2
                have HBUF2:=Lib.hid hbuf2
                have HBQ9:=Lib.hid (HBQ7.out.only ho.out (by omega))
                have HVW9:=Lib.hid (Only.words HVW7.out ho.out (fun b o hA=>by have:=HNE.out b o hA; omega))
                have HBEL9:=Lib.hid (HBEL7.out.trans (ho.out.below hBgu HBEL7.out.size))
                clear hfin hbuf2
                go_wp2
                go_roundw
                case rel=>exact ⟨j,_,_,by omega,by go_num,hnx,HBUF2,HBQ9,HVW9,HBEL9⟩
                case measure=>simp [intOf]
          · have hq1 : 1 ≤ q:=by
              rcases Nat.eq_zero_or_pos q with h | h
              · subst h; simp at hf
              · exact h
            have HQF:=Lib.hid (Nat.not_le.1 hf)
            go_wp2_with fail
            refine (fits_any (hvw.out.below hbo.out) (hbu.out.on hbo.out) hlu.out hlab3 hlab2 hnvb hqb false (by rw [← HMID.out]; simpa using hf)).mono ?_
            rintro e w6 ⟨rfl,hb6⟩
            have HB6:=Lib.hid (hbo.out.trans (hb6.mono hbo.out.size))
            clear hb6 hf
            go_wp2
            go_roundw
            case rel=>exact ⟨q - 1,by omega,by go_num,by rw [Hid,Nat.sub_add_cancel hq1]; exact HQF.out,HB6⟩
            case measure=>simp [intOf]; omega
    · obtain rfl : j = 0:=by omega
      have HLAST:=Lib.hid (Div.last2 (b:=b) (k:=k) (L:=la + 2) (n:=nv) (us0:=us0) (us:=us) (qs:=qs) (by rw [← HVE.out]; exact hd.out) HUS.out)
      have hlu:=Lib.hid hd.out.lu
      have hlq:=Lib.hid hd.out.lq
      have hbw:=hbu.out.words (cap:=la + 2) (by rw [hlu.out]; omega) (by rw [hlu.out]; exact Nat.le_refl _)
      have hqw:=hbq.out.words (cap:=la + 2 - nv) (by rw [hlq.out]; omega) (by rw [hlq.out]; exact Nat.le_refl _)
      rw [hlq.out] at hqw
      rw [hlu.out] at hbw
      have HBW:=Lib.hid hbw
      have HQW:=Lib.hid hqw
      clear hbw hqw
      go_wp2_with fail
      refine (rcut_any HQW.out).mono ?_
      rintro e w7 ⟨rfl,rfl⟩
      go_wp2_with fail
      refine (rcut_any HBW.out).mono ?_
      rintro e w8 ⟨rfl,rfl⟩
      have HBT:=Lib.hid HBW.out.trim_
      have hbtl : (trim us).length ≤ 17179869184:=HBT.out.2.1
      go_wp2_with fail
      refine (down_any HBT.out hbtl k (by omega)).mono ?_
      rintro e w9 ⟨vr,rfl,hvr,hb9⟩
      have HVR:=Lib.hid hvr
      have HB9:=Lib.hid hb9
      clear hvr hb9
      go_wp2
      go_ret2
      refine ⟨.slice (some ⟨gq,0,none⟩) (trim qs).length (la + 2 - nv),vr,rfl,?_,?_,hbel.out.trans (HB9.out.mono hbel.out.size)⟩
      · rw [← dig_of qs _ HQW.out.1 HLAST.out.1]
        exact HQW.out.trim_.below HB9.out
      · have:=HVR.out
        rw [val_trim,HLAST.out.2] at this
        exact this
theorem divided_any {A B : Option Addr} {la ca lb cb a b : Nat} {w : World} (hx : Words w (.slice A la ca) (dig a)) (hy : Words w (.slice B lb cb) (dig b)) (hb : 0 < b) (hla : la ≤ 4294967296) :
    Calls Tryz.prog 297 #[.slice A la ca,.slice B lb cb] w (DivPost w a b):=by
  rcases Nat.lt_or_ge a b with h | h
  · exact divided_small hx hy h
  · have hl:=hy.len.1
    have hp : 0 < (dig b).length:=by rw [dig_pos b hb]; simp
    rcases (by omega : lb = 1 ∨ 2 ≤ lb) with h1 | h1
    · subst h1
      exact divided_word hx hy h
    · exact divided_long hx hy h h1 hla
end Go.Proofs.YtimfgjcidigbiaaGreat
end
section
namespace Go.Proofs.YtimfgjcidigbiaaGreat
open Go.RowKit
structure FracParts (b : Bool) (s : ByteArray) (c : Bool) (t : ByteArray) (x : Rat) : Prop where
  hs : s.size ≤ 4294967296
  ht : t.size ≤ 4294967296
  h0 : numOf c t ≠ 0
  k1 : Okn (numOf b s)
  k2 : Okn (numOf c t)
  eq : x = Rat.divInt (numOf b s) (numOf c t)
  fit : Fit x
  val : (Value.agg #[.bool b,.string s,.bool c,.string t]) = fracV x
theorem parts_of {b c : Bool} {s t : ByteArray} (h : IsFrac (.agg #[.bool b,.string s,.bool c,.string t])) : ∃ x,FracParts b s c t x:=by
  obtain ⟨h1,h2,h3,h4,h5,h6⟩:=isFrac_parts h
  have z1 : (mag (numOf b s).natAbs).size ≤ 16384:=by rw [(numOf_ok h1).2.1]; exact Nat.le_trans h3 (by decide)
  have z2 : (mag (numOf c t).natAbs).size ≤ 16384:=by rw [(numOf_ok h2).2.1]; exact Nat.le_trans h4 (by decide)
  have hf : Fit (Rat.divInt (numOf b s) (numOf c t)):=by
    obtain ⟨_,e2,_,e4⟩:=agg4 h6
    exact ⟨by rw [← e2]; exact h3,by rw [← e4]; exact h4⟩
  exact ⟨_,Nat.le_trans h3 (by decide),Nat.le_trans h4 (by decide),by omega,okn_size z1,okn_size z2,rfl,hf,h6⟩
theorem rat_frac {w : World} {b c : Bool} {s t : ByteArray} {x : Rat} (h : FracParts b s c t x) :
    Calls Tryz.prog 306 #[.agg #[.bool b,.string s,.bool c,.string t]] w fun e w'=>∃ g,e = .returned (.pointer (some ⟨g,0,none⟩)) ∧ w.heap.size ≤ g ∧ RatAt w' g 0 x ∧ Below w.heap.size w w':=by
  rw [h.eq]
  exact rat_any b c s t h.hs h.ht h.h0 h.k1 h.k2
theorem BoxAt.new_at {w : World} {n : Nat} (cs : Array Value) (t : TypeId) (hn : n = w.heap.size) : BoxAt (w.alloc (.cells cs t)) n cs t:=hn ▸ BoxAt.new w cs t
theorem BoxAt.put4 {w : World} {g : Nat} {a0 a1 a2 a3 : Value} {T : TypeId} (h : BoxAt w g #[a0,a1,a2,a3] T) (v0 v1 v2 v3 : Value) :
    BoxAt ((((w.setCell ⟨g,0,none⟩ v0).setCell ⟨g,1,none⟩ v1).setCell ⟨g,2,none⟩ v2).setCell ⟨g,3,none⟩ v3) g #[v0,v1,v2,v3] T:=(((h.set 0 v0).set 1 v1).set 2 v2).set 3 v3
theorem below_put4 {w0 w : World} {g B : Nat} (h : Below B w0 w) (hg : B ≤ g) (v0 v1 v2 v3 : Value) : Below B w0 ((((w.setCell ⟨g,0,none⟩ v0).setCell ⟨g,1,none⟩ v1).setCell ⟨g,2,none⟩ v2).setCell ⟨g,3,none⟩ v3) :=
  (((h.setCell hg _).setCell hg _).setCell hg _).setCell hg _
instance (q : Rat) : Decidable (Fit q):=inferInstanceAs (Decidable (_ ∧ _))
def ansK (q : Rat) : Int:=if Fit q then 0 else 4
end Go.Proofs.YtimfgjcidigbiaaGreat
end
section
namespace Go.Proofs.YtimfgjcidigbiaaGreat
open Go.RowKit
theorem below_alloc_ {w0 w : World} (h : Below w0.heap.size w0 w) (o : Obj) : Below w0.heap.size w0 (w.alloc o):=h.trans ((below_new w o).mono h.size)
theorem below_put2 {w0 w : World} {g B : Nat} (h : Below B w0 w) (hg : B ≤ g) (v0 v1 : Value) : Below B w0 ((w.setCell ⟨g,0,none⟩ v0).setCell ⟨g,1,none⟩ v1) :=
  (h.setCell hg _).setCell hg _
theorem yielded_of {ops : Array Oper} {t : Array Value} {j d : Nat} {b : Bool} {o : Oper} (ho : ops[j]? = some o) (hd : o.dst = some d) (h : t.getD d undef = .bool b) : yielded ops t j = some b:=by
  have h1 : t[d]? = some (.bool b):=by
    rw [Array.getD_eq_getD_getElem?] at h
    cases ht : t[d]? with
    | none=>rw [ht] at h; simp [undef] at h
    | some x=>rw [ht] at h; exact congrArg some h
  unfold yielded
  rw [ho,Option.bind_some,hd,Option.bind_some,h1]
def Frames (w : World) (l : List (Nat × Array Value × TypeId)) : Prop:=∀ x ∈ l,BoxAt w x.1 x.2.1 x.2.2
theorem Frames.nil (w : World) : Frames w []:=fun _ h=>nomatch h
theorem Frames.on {w w' : World} {l : List (Nat × Array Value × TypeId)} (h : Frames w l) (k : Below w.heap.size w w') : Frames w' l:=fun x hx=>(h x hx).on k
theorem Frames.push {w : World} {l : List (Nat × Array Value × TypeId)} (h : Frames w l) (n : Nat) (cs : Array Value) (t : TypeId) (hn : n = w.heap.size) : Frames (w.alloc (.cells cs t)) ((n,cs,t) :: l):=by
  intro x hx
  rcases List.mem_cons.1 hx with rfl | hx
  · exact BoxAt.new_at cs t hn
  · exact (h x hx).on (below_new w _)
theorem Frames.get {w : World} {l : List (Nat × Array Value × TypeId)} (h : Frames w l) (i : Nat) {x : Nat × Array Value × TypeId} (hx : l[i]? = some x) : BoxAt w x.1 x.2.1 x.2.2:=h x (List.mem_of_getElem? hx)
end Go.Proofs.YtimfgjcidigbiaaGreat
end
section
namespace Go.Proofs.YtimfgjcidigbiaaGreat
open Go.RowKit
theorem str_empty {s : ByteArray} {n : Nat} (h : s = mag n) : s.size = 0 ↔ n = 0:=by
  rw [h,mag_size]
  exact List.length_eq_zero_iff.trans (led_nil_iff n)
theorem rsign_any {w : World} (p : Bool) (s : ByteArray) (n : Int) (hp : p = decide (n < 0)) (hs : s = mag n.natAbs) :
    Calls Tryz.prog 160 #[.agg #[.bool p,.string s]] w fun e w'=>e = .returned (.int .i64 n.sign) ∧ Below w.heap.size w w':=by
  have HB:=Lib.hid (below_new w (.cells #[.bool p,.string s] 23))
  have HP:=Lib.hid hp
  have HE:=Lib.hid (str_empty hs)
  clear hp hs
  by_cases h0 : s.size = 0
  · obtain rfl:=empty_data h0
    have HN : Hid (n = 0):=by have:=HE.out.1 h0; unfold Hid; omega
    clear h0
    go_enter Tryz.func160,Tryz.ntmps160
    go_wp2
    go_ret
    exact ⟨by rw [HN.out]; rfl,HB.out⟩
  · obtain ⟨hE,hE2⟩:=toList_some h0
    have HN : Hid (n ≠ 0):=fun e=>h0 (HE.out.2 (by rw [e]; rfl))
    clear h0
    cases p
    · go_enter Tryz.func160,Tryz.ntmps160
      go_wp2
      go_ret
      refine ⟨?_,HB.out⟩
      have h1 : ¬ n < 0:=of_decide_eq_false HP.out.symm
      have h2:=HN.out
      rw [Int.sign_eq_one_of_pos (by omega)]
      rfl
    · go_enter Tryz.func160,Tryz.ntmps160
      go_wp2
      go_ret
      refine ⟨?_,HB.out⟩
      have h1 : n < 0:=of_decide_eq_true HP.out.symm
      rw [Int.sign_eq_neg_one_of_neg h1]
      rfl
def FormedB (p : Bool) (s : ByteArray) : Prop:=s.size = 0 ∧ p = false ∨ s.size ≠ 0 ∧ head s ≠ 0
set_option maxRecDepth 100000 in
theorem rformed_any {w : World} (p : Bool) (s : ByteArray) (r : Bool) (hr : r = true ↔ FormedB p s) :
    Calls Tryz.prog 246 #[.agg #[.bool p,.string s]] w fun e w'=>e = .returned (.bool r) ∧ Below w.heap.size w w':=by
  have HB:=Lib.hid (below_new w (.cells #[.bool p,.string s] 23))
  have HR:=Lib.hid hr
  clear hr
  by_cases h0 : s.size = 0
  · obtain rfl:=empty_data h0
    have HQ : Hid (r = !p):=by
      have h1:=HR.out
      unfold FormedB at h1
      cases p <;> cases r <;> simp_all [Hid]
    clear h0
    go_enter Tryz.func246,Tryz.ntmps246
    go_wp2
    go_ret
    exact ⟨by rw [HQ.out]; rfl,HB.out⟩
  · obtain ⟨hE,hE2⟩:=toList_some h0
    have hp : 0 < s.size:=by omega
    obtain ⟨t,ht⟩ : ∃ t,t = head s:=⟨_,rfl⟩
    have ht2 : s[0].toNat = t:=by rw [ht]; exact head_eq hp
    have HQ : Hid (r = true ↔ t ≠ 0):=by
      have h1:=HR.out
      unfold FormedB at h1
      rw [← ht] at h1
      exact ⟨fun h=>(h1.1 h).elim (fun k=>absurd k.1 h0) (fun k=>k.2),fun h=>h1.2 (.inr ⟨h0,h⟩)⟩
    clear ht
    by_cases hz : t = 0
    · subst hz
      go_enter Tryz.func246,Tryz.ntmps246
      go_wp2
      go_ret
      refine ⟨?_,HB.out⟩
      cases r
      · rfl
      · exact absurd rfl (HQ.out.1 rfl)
    · have hz1 : ((t : Int) == 0) = false:=by rw [beq_eq_false_iff_ne]; omega
      have hz2 : ((t : Int) != 0) = true:=by rw [bne_iff_ne]; omega
      go_enter Tryz.func246,Tryz.ntmps246
      go_wp2
      go_ret
      refine ⟨?_,HB.out⟩
      rw [HQ.out.2 hz]
      rfl
theorem rneg_any {w : World} (p : Bool) (s : ByteArray) (n : Int) (hp : p = decide (n < 0)) (hs : s = mag n.natAbs) :
    Calls Tryz.prog 235 #[.agg #[.bool p,.string s]] w fun e w'=>∃ q t,e = .returned (.agg #[.bool q,.string t]) ∧ Hid (q = decide (-n < 0)) ∧ Hid (t = mag (-n).natAbs) ∧ Below w.heap.size w w':=by
  have h1:=below_new w (.cells #[.bool p,.string s] 23)
  have h2:=below_new (w.alloc (.cells #[.bool p,.string s] 23)) (.cells #[.bool false,.string ⟨#[]⟩] 23)
  have HB:=Lib.hid (h1.trans (h2.mono h1.size))
  have HC:=Lib.hid (BoxAt.new_at (w:=w.alloc (.cells #[.bool p,.string s] 23)) (n:=w.heap.size + 1) #[.bool false,.string ⟨#[]⟩] 23 (size_alloc w _).symm)
  obtain ⟨q,hq⟩ : ∃ q,q = decide (-n < 0):=⟨_,rfl⟩
  have HQ:=Lib.hid hq
  have HT : Hid (s = mag (-n).natAbs):=by rw [Hid,Int.natAbs_neg]; exact hs
  have HE:=Lib.hid (str_empty hs)
  have hp0:=HC.out.cell 0 _ rfl
  have hp1:=HC.out.cell 1 _ rfl
  have hf:=HC.out.frozen
  have HP:=Lib.hid hp
  clear hp hs h1 h2 hq
  by_cases h0 : s.size = 0
  · obtain rfl:=empty_data h0
    have hn : n = 0:=by have:=HE.out.1 h0; omega
    have hpf : p = false:=by rw [HP.out,hn]; rfl
    have hqf : q = false:=by rw [HQ.out,hn]; rfl
    subst hpf
    subst hqf
    clear h0 hn
    go_enter Tryz.func235,Tryz.ntmps235
    go_wp2
    have hk:=(HC.out.set 0 (.bool false)).set 1 (.string ⟨#[]⟩)
    have k0:=hk.cell 0 _ rfl
    have k1:=hk.cell 1 _ rfl
    exact bodyPost_ret (v:=.agg #[.bool false,.string ⟨#[]⟩]) (by simp [results,Tryz.results235,go_sem,k0,k1]) rfl ⟨_,_,rfl,HQ,HT,by first | exact HB.out | exact below_alloc_ (below_new w _) _⟩
  · obtain ⟨hE,hE2⟩:=toList_some h0
    have hn : n ≠ 0:=fun e=>h0 (HE.out.2 (by rw [e]; rfl))
    have hpq : p = !q:=by
      rw [HP.out,HQ.out]
      by_cases h1 : n < 0
      · rw [decide_eq_true h1,decide_eq_false (by omega)]; rfl
      · rw [decide_eq_false h1,decide_eq_true (by omega)]; rfl
    subst hpq
    clear h0 hn
    cases q
    all_goals
      go_enter Tryz.func235,Tryz.ntmps235
      go_wp2
    · have hk:=(HC.out.set 0 (.bool false)).set 1 (.string s)
      have k0:=hk.cell 0 _ rfl
      have k1:=hk.cell 1 _ rfl
      exact bodyPost_ret (v:=.agg #[.bool false,.string s]) (by simp [results,Tryz.results235,go_sem,k0,k1]) rfl ⟨_,_,rfl,HQ,HT,by first | exact HB.out | exact below_alloc_ (below_new w _) _⟩
    · have hk:=(HC.out.set 0 (.bool true)).set 1 (.string s)
      have k0:=hk.cell 0 _ rfl
      have k1:=hk.cell 1 _ rfl
      exact bodyPost_ret (v:=.agg #[.bool true,.string s]) (by simp [results,Tryz.results235,go_sem,k0,k1]) rfl ⟨_,_,rfl,HQ,HT,by first | exact HB.out | exact below_alloc_ (below_new w _) _⟩
end Go.Proofs.YtimfgjcidigbiaaGreat
end
