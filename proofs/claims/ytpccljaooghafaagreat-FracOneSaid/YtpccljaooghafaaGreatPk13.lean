/- Known, LawA, LawF, F1M, F1A, SyC, RRt, RRu. -/
import Derived.Test.YtpccljaooghafaaGreatPk12
set_option linter.unnecessarySimpa false
set_option linter.unusedVariables false
set_option linter.unusedSimpArgs false
section
namespace Go.Proofs.YtpccljaooghafaaGreat
open Go.RowKit
theorem ans_fit {q : Rat} {v : Value} {k : Int} (h : Ans q v k) (hf : Fit q) : v = fracV q ∧ k = 0:=by
  rcases h with ⟨_,h1,h2⟩ | ⟨h1,_⟩
  · exact ⟨h1,h2⟩
  · exact absurd hf h1
theorem fit_of {n : Int} {d : Nat} {q : Rat} (h1 : q.num = n) (h2 : q.den = d) (h3 : n.natAbs < 256) (h4 : d < 256) : Fit q:=by
  refine ⟨?_,?_⟩
  · rw [h1]; exact Nat.le_trans (mag_size_le.2 (show n.natAbs < 256 ^ 1 by omega)) (by decide)
  · rw [h2]; exact Nat.le_trans (mag_size_le.2 (show d < 256 ^ 1 by omega)) (by decide)
theorem half_num : (Rat.divInt 1 2).num = 1:=by rfl
theorem half_den : (Rat.divInt 1 2).den = 2:=by rfl
theorem third_num : (Rat.divInt 2 (-6)).num = -1:=by rfl
theorem third_den : (Rat.divInt 2 (-6)).den = 3:=by rfl
theorem sixth_sum : Rat.divInt 1 2 + Rat.divInt 2 (-6) = Rat.divInt 1 6:=by
  rw [Rat.divInt_add_divInt _ _ (by decide) (by decide)]
  rfl
theorem sixth_num : (Rat.divInt 1 2 + Rat.divInt 2 (-6)).num = 1:=by rw [sixth_sum]; rfl
theorem sixth_den : (Rat.divInt 1 2 + Rat.divInt 2 (-6)).den = 6:=by rw [sixth_sum]; rfl
theorem sixth_text : textQ (Rat.divInt 1 2 + Rat.divInt 2 (-6)) = ⟨#[49,47,54]⟩:=by
  have e1 : dd 1 = [49]:=by rw [dd_pos 1 (by decide),show 1 / 10 = 0 from rfl,dd_zero]
  have e6 : dd 6 = [54]:=by rw [dd_pos 6 (by decide),show 6 / 10 = 0 from rfl,dd_zero]
  unfold textQ
  rw [sixth_num,sixth_den,if_neg (by decide)]
  unfold textN txt
  rw [if_neg (by decide),if_neg (by decide),if_neg (by decide),if_neg (by decide),show (1 : Int).natAbs = 1 from rfl,show ((6 : Nat) : Int).natAbs = 6 from rfl,e1,e6]
  rfl
theorem near_half : nearQ (Rat.divInt 1 2) = 0:=by
  have h1 : flQ (Rat.divInt 1 2 + Rat.divInt 1 2) = 1:=by
    rw [Rat.divInt_add_divInt _ _ (by decide) (by decide)]
    rfl
  have h2 : ((1 : Int) : Rat) - Rat.divInt 1 2 = Rat.divInt 1 2:=by
    rw [show ((1 : Int) : Rat) = Rat.divInt 1 1 from rfl,Rat.divInt_sub_divInt _ _ (by decide) (by decide)]
    rfl
  unfold nearQ
  rw [h1,if_pos ⟨h2,by rfl⟩]
  rfl
theorem frac_sizes {p c : Bool} {s t : ByteArray} {q : Rat} (h : (Value.agg #[.bool p,.string s,.bool c,.string t]) = fracV q) (hf : Fit q) : s.size ≤ maxLen ∧ t.size ≤ maxLen:=by
  obtain ⟨_,rfl,_,rfl⟩:=agg4 h
  exact ⟨Nat.le_trans hf.1 (by decide),Nat.le_trans hf.2 (by decide)⟩
theorem small_fit {n m : Int} {v : Value} {k : Int} (h : SmallAns n m v k) (h0 : m ≠ 0) (hf : Fit (Rat.divInt n m)) : v = fracV (Rat.divInt n m) ∧ k = 0:=by
  rcases h with ⟨h1,_⟩ | ⟨_,h1⟩
  · exact absurd h1 h0
  · exact ans_fit h1 hf
theorem bin_fit {fn : Rat → Rat → Rat} {va vb v : Value} {k : Int} {x y : Rat} (h : BinAns fn va vb v k) (ha : va = fracV x) (hb : vb = fracV y) (hx : Fit x) (hy : Fit y) : Ans (fn x y) v k:=by
  rcases h with ⟨x',y',_,_,h1,h2,h3⟩ | ⟨h1,_⟩
  · rw [ha] at h1; rw [hb] at h2
    rw [fracV_inj h1,fracV_inj h2]
    exact h3
  · rcases h1 with h1 | h1
    · exact absurd ⟨x,hx,ha⟩ h1
    · exact absurd ⟨y,hy,hb⟩ h1
theorem fit_half : Fit (Rat.divInt 1 2):=fit_of half_num half_den (by decide) (by decide)
theorem fit_third : Fit (Rat.divInt 2 (-6)):=fit_of third_num third_den (by decide) (by decide)
theorem fit_sixth : Fit (Rat.divInt 1 2 + Rat.divInt 2 (-6)):=fit_of sixth_num sixth_den (by decide) (by decide)
theorem wanted_of {ops : Array Oper} {t : Array Value} {j d : Nat} {b : Bool} {o o' : Oper} (hg : o'.guard = some (j,b)) (ho : ops[j]? = some o) (hd : o.dst = some d) (h : t.getD d undef = .bool b) : Region.wanted o' (yielded ops t) = true:=by
  unfold Region.wanted
  rw [hg]
  simp [yielded_of ho hd h]
set_option maxHeartbeats 3200000 in
set_option maxRecDepth 100000 in
theorem known_any {w0 : World} : Calls Tryz.prog 15 #[] w0 fun e w'=>e = .returned (.bool true) ∧ Below w0.heap.size w0 w':=by
  go_enter Tryz.func15,Tryz.ntmps15
  go_wp2_with fail
  refine (Small_any (n:=1) (m:=2) (by decide) (by decide)).mono ?_
  rintro e w1 ⟨v,k,rfl,ha,hb⟩
  obtain ⟨hv,rfl⟩:=small_fit ha (by decide) fit_half
  obtain ⟨p1,s1,c1,t1,hv1⟩ : ∃ p1 s1 c1 t1,v = .agg #[.bool p1,.string s1,.bool c1,.string t1]:=⟨_,_,_,_,hv⟩
  subst hv1
  have HV1:=Lib.hid hv
  have HB1:=Lib.hid hb
  clear ha hv hb
  have HX1:=Lib.hid (BoxAt.new w1 #[.bool p1,.string s1,.bool c1,.string t1] 25)
  have HB1':=Lib.hid (below_alloc_ HB1.out (.cells #[.bool p1,.string s1,.bool c1,.string t1] 25))
  go_wp2_with fail
  refine (Small_any (n:=2) (m:=-6) (by decide) (by decide)).mono ?_
  rintro e w2 ⟨v,k,rfl,ha,hb⟩
  obtain ⟨hv,rfl⟩:=small_fit ha (by decide) fit_third
  obtain ⟨p2,s2,c2,t2,hv1⟩ : ∃ p1 s1 c1 t1,v = .agg #[.bool p1,.string s1,.bool c1,.string t1]:=⟨_,_,_,_,hv⟩
  subst hv1
  have HV2:=Lib.hid hv
  have HX2:=Lib.hid ((HX1.out.on hb).on (below_new w2 (.cells #[.bool p2,.string s2,.bool c2,.string t2] 25)))
  have HB2:=Lib.hid (below_alloc_ (HB1'.out.trans (hb.mono HB1'.out.size)) (.cells #[.bool p2,.string s2,.bool c2,.string t2] 25))
  clear ha hv hb
  have hc0:=HX2.out.cell 0 (.bool p1) rfl
  have hc1:=HX2.out.cell 1 (.string s1) rfl
  have hc2:=HX2.out.cell 2 (.bool c1) rfl
  have hc3:=HX2.out.cell 3 (.string t1) rfl
  go_wp2_with fail
  refine (FAdd_any p1 c1 p2 c2 s1 t1 s2 t2 (frac_sizes HV1.out fit_half).1 (frac_sizes HV1.out fit_half).2 (frac_sizes HV2.out fit_third).1 (frac_sizes HV2.out fit_third).2).mono ?_
  rintro e w3 ⟨v,k,rfl,ha,hb⟩
  obtain ⟨hv,rfl⟩:=ans_fit (bin_fit ha HV1.out HV2.out fit_half fit_third) fit_sixth
  obtain ⟨p3,s3,c3,t3,hv1⟩ : ∃ p1 s1 c1 t1,v = .agg #[.bool p1,.string s1,.bool c1,.string t1]:=⟨_,_,_,_,hv⟩
  subst hv1
  have HV3:=Lib.hid hv
  have HX3:=Lib.hid ((HX2.out.on hb).on (below_new w3 (.cells #[.bool p3,.string s3,.bool c3,.string t3] 25)))
  have HB3:=Lib.hid (below_alloc_ (HB2.out.trans (hb.mono HB2.out.size)) (.cells #[.bool p3,.string s3,.bool c3,.string t3] 25))
  clear ha hv hb hc0 hc1 hc2 hc3
  go_wp2_with fail
  refine (FText_any p3 c3 s3 t3 (frac_sizes HV3.out fit_sixth).1 (frac_sizes HV3.out fit_sixth).2).mono ?_
  rintro e w4 ⟨u,k,rfl,ha,hb⟩
  have hu : u = ⟨#[49,47,54]⟩ ∧ k = 0:=by
    rcases ha with ⟨x,_,h1,h2,h3⟩ | ⟨h1,_⟩
    · have e:=fracV_inj (HV3.out.symm.trans h1)
      rw [h2,← e]
      exact ⟨sixth_text,h3⟩
    · exact absurd ⟨_,fit_sixth,HV3.out⟩ h1
  obtain ⟨rfl,rfl⟩:=hu
  have HX4:=Lib.hid (HX3.out.on hb)
  have HB4:=Lib.hid (HB3.out.trans (hb.mono HB3.out.size))
  clear ha hb
  have hc0:=HX4.out.cell 0 (.bool p1) rfl
  have hc1:=HX4.out.cell 1 (.string s1) rfl
  have hc2:=HX4.out.cell 2 (.bool c1) rfl
  have hc3:=HX4.out.cell 3 (.string t1) rfl
  go_wp2_with fail
  refine (Nearest_any p1 c1 s1 t1 (frac_sizes HV1.out fit_half).1 (frac_sizes HV1.out fit_half).2).mono ?_
  rintro e w5 ⟨v,k,rfl,ha,hb⟩
  have hv : v = .agg #[.bool false,.string ⟨#[]⟩] ∧ k = 0:=by
    rcases ha with ⟨x,_,h1,h2,h3⟩ | ⟨h1,_⟩
    · have e:=fracV_inj (HV1.out.symm.trans h1)
      rw [h2,← e,near_half]
      exact ⟨wholeV_sg0 (neg:=false),h3⟩
    · exact absurd ⟨_,fit_half,HV1.out⟩ h1
  obtain ⟨rfl,rfl⟩:=hv
  have HB5:=Lib.hid (HB4.out.trans (hb.mono HB4.out.size))
  have HX5:=Lib.hid (BoxAt.new w5 #[.bool false,.string ⟨#[]⟩] 23)
  clear ha hb hc0 hc1 hc2 hc3
  have HB6:=Lib.hid (below_alloc_ HB5.out (.cells #[.bool false,.string ⟨#[]⟩] 23))
  clear HX1 HX2 HX3 HX4 HB1 HB1' HB2 HB3 HB4 HB5 HV1 HV2 HV3
  have hc0:=HX5.out.cell 0 (.bool false) rfl
  have hc1:=HX5.out.cell 1 (.string ⟨#[]⟩) rfl
  go_wp2
  generalize hW : w5.alloc (.cells #[.bool false,.string ⟨#[]⟩] 23) = w6 at HX5 HB6 hc0 hc1 ⊢
  generalize hG : w5.heap.size = g at HX5 hc0 hc1 ⊢
  clear hW hG
  refine wp_region_acts 27 (fun w'=>Below w6.heap.size w6 w') (fun w w'=>Below w.heap.size w w') (fun i w v=>match i with
      | 0=>v = .int .i64 0
      | 1=>v = .bool true
      | 2=>v = .bool true
      | 3=>v = .int .i64 0
      | 4=>v = .bool true
      | 5=>v = .bool true
      | 6=>v = .bool true
      | 7=>v = .int .i64 0
      | 8=>v = .bool true
      | 9=>v = .bool true
      | 10=>v = .bool true
      | 11=>v = .string ⟨#[49,47,54]⟩
      | 12=>v = .bool true
      | 13=>v = .bool true
      | 14=>v = .bool true
      | 15=>v = .int .i64 0
      | 16=>v = .bool true
      | 17=>v = .bool true
      | 18=>v = .bool true
      | 19=>v = .agg #[.bool false,.string ⟨#[]⟩]
      | 20=>v = .agg #[.bool false,.string ⟨#[]⟩]
      | 21=>v = .bool true
      | 22=>v = .bool true
      | 23=>v = .bool true
      | 24=>v = .int .i64 0
      | 25=>v = .bool true
      | _=>v = .bool true) (by kernel_rfl) (by kernel_rfl) (by kernel_rfl) ((Below.refl _ _).drew) (fun _ _=>(Below.refl _ _)) ?_ ⟨?_,?_,?_,?_,?_,?_,?_,?_,?_,?_,?_,?_,?_,?_,?_,?_,?_,?_,?_,?_,?_,?_,?_,?_,?_,?_,?_,trivial⟩ ?_
  · intro i w1 w2 v hC hC2 hE hV
    match i with
    | 0=>exact hV
    | 1=>exact hV
    | 2=>exact hV
    | 3=>exact hV
    | 4=>exact hV
    | 5=>exact hV
    | 6=>exact hV
    | 7=>exact hV
    | 8=>exact hV
    | 9=>exact hV
    | 10=>exact hV
    | 11=>exact hV
    | 12=>exact hV
    | 13=>exact hV
    | 14=>exact hV
    | 15=>exact hV
    | 16=>exact hV
    | 17=>exact hV
    | 18=>exact hV
    | 19=>exact hV
    | 20=>exact hV
    | 21=>exact hV
    | 22=>exact hV
    | 23=>exact hV
    | 24=>exact hV
    | 25=>exact hV
    | _ + 26=>exact hV
  · intro a' w' hag hC hd K hK
    have e2 : a'.tmps.getD 2 undef = .int .i64 0:=hag 2 rfl
    go_step
    exact hK _ _ hC ((Below.refl _ _)) rfl
  · intro a' w' hag hC hd K hK
    have e35 : a'.tmps.getD 35 undef = .int .i64 0:=hd.1
    go_step
    exact hK _ _ hC ((Below.refl _ _)) rfl
  · intro a' w' hag hC hd K hK
    have e36 : a'.tmps.getD 36 undef = .bool true:=hd.1
    go_step
    exact hK _ _ hC ((Below.refl _ _)) rfl
  · intro a' w' hag hC hd
    refine ⟨fun _=>?_,fun hw=>absurd (wanted_of (j:=2) (d:=37) rfl rfl rfl hd.1) (by rw [hw]; decide)⟩
    intro K hK
    have e4 : a'.tmps.getD 4 undef = .int .i64 0:=hag 4 rfl
    go_step
    exact hK _ _ hC ((Below.refl _ _)) rfl
  · intro a' w' hag hC hd
    refine ⟨fun _=>?_,fun hw=>absurd (wanted_of (j:=2) (d:=37) rfl rfl rfl hd.2.1) (by rw [hw]; decide)⟩
    intro K hK
    have e38 : a'.tmps.getD 38 undef = .int .i64 0:=hd.1
    go_step
    exact hK _ _ hC ((Below.refl _ _)) rfl
  · intro a' w' hag hC hd K hK
    have e37 : a'.tmps.getD 37 undef = .bool true:=hd.1
    have e39 : a'.tmps.getD 39 undef = .bool true:=hd.2.1
    go_step
    exact hK _ _ hC ((Below.refl _ _)) rfl
  · intro a' w' hag hC hd K hK
    have e40 : a'.tmps.getD 40 undef = .bool true:=hd.1
    go_step
    exact hK _ _ hC ((Below.refl _ _)) rfl
  · intro a' w' hag hC hd
    refine ⟨fun _=>?_,fun hw=>absurd (wanted_of (j:=6) (d:=41) rfl rfl rfl hd.1) (by rw [hw]; decide)⟩
    intro K hK
    have e6 : a'.tmps.getD 6 undef = .int .i64 0:=hag 6 rfl
    go_step
    exact hK _ _ hC ((Below.refl _ _)) rfl
  · intro a' w' hag hC hd
    refine ⟨fun _=>?_,fun hw=>absurd (wanted_of (j:=6) (d:=41) rfl rfl rfl hd.2.1) (by rw [hw]; decide)⟩
    intro K hK
    have e42 : a'.tmps.getD 42 undef = .int .i64 0:=hd.1
    go_step
    exact hK _ _ hC ((Below.refl _ _)) rfl
  · intro a' w' hag hC hd K hK
    have e41 : a'.tmps.getD 41 undef = .bool true:=hd.1
    have e43 : a'.tmps.getD 43 undef = .bool true:=hd.2.1
    go_step
    exact hK _ _ hC ((Below.refl _ _)) rfl
  · intro a' w' hag hC hd K hK
    have e44 : a'.tmps.getD 44 undef = .bool true:=hd.1
    go_step
    exact hK _ _ hC ((Below.refl _ _)) rfl
  · intro a' w' hag hC hd
    refine ⟨fun _=>?_,fun hw=>absurd (wanted_of (j:=10) (d:=45) rfl rfl rfl hd.1) (by rw [hw]; decide)⟩
    intro K hK
    have e7 : a'.tmps.getD 7 undef = .string ⟨#[49,47,54]⟩:=hag 7 rfl
    go_step
    exact hK _ _ hC ((Below.refl _ _)) rfl
  · intro a' w' hag hC hd
    refine ⟨fun _=>?_,fun hw=>absurd (wanted_of (j:=10) (d:=45) rfl rfl rfl hd.2.1) (by rw [hw]; decide)⟩
    intro K hK
    have e46 : a'.tmps.getD 46 undef = .string ⟨#[49,47,54]⟩:=hd.1
    go_step
    exact hK _ _ hC ((Below.refl _ _)) rfl
  · intro a' w' hag hC hd K hK
    have e45 : a'.tmps.getD 45 undef = .bool true:=hd.1
    have e47 : a'.tmps.getD 47 undef = .bool true:=hd.2.1
    go_step
    exact hK _ _ hC ((Below.refl _ _)) rfl
  · intro a' w' hag hC hd K hK
    have e48 : a'.tmps.getD 48 undef = .bool true:=hd.1
    go_step
    exact hK _ _ hC ((Below.refl _ _)) rfl
  · intro a' w' hag hC hd
    refine ⟨fun _=>?_,fun hw=>absurd (wanted_of (j:=14) (d:=49) rfl rfl rfl hd.1) (by rw [hw]; decide)⟩
    intro K hK
    have e8 : a'.tmps.getD 8 undef = .int .i64 0:=hag 8 rfl
    go_step
    exact hK _ _ hC ((Below.refl _ _)) rfl
  · intro a' w' hag hC hd
    refine ⟨fun _=>?_,fun hw=>absurd (wanted_of (j:=14) (d:=49) rfl rfl rfl hd.2.1) (by rw [hw]; decide)⟩
    intro K hK
    have e50 : a'.tmps.getD 50 undef = .int .i64 0:=hd.1
    go_step
    exact hK _ _ hC ((Below.refl _ _)) rfl
  · intro a' w' hag hC hd K hK
    have e49 : a'.tmps.getD 49 undef = .bool true:=hd.1
    have e51 : a'.tmps.getD 51 undef = .bool true:=hd.2.1
    go_step
    exact hK _ _ hC ((Below.refl _ _)) rfl
  · intro a' w' hag hC hd K hK
    have e52 : a'.tmps.getD 52 undef = .bool true:=hd.1
    go_step
    exact hK _ _ hC ((Below.refl _ _)) rfl
  · intro a' w' hag hC hd
    refine ⟨fun _=>?_,fun hw=>absurd (wanted_of (j:=18) (d:=53) rfl rfl rfl hd.1) (by rw [hw]; decide)⟩
    intro K hK
    have e9 : a'.tmps.getD 9 undef = .pointer (some ⟨g,0,none⟩):=hag 9 rfl
    have hc0:=(BoxAt.on (w':=w') HX5.out hC).cell 0 (.bool false) rfl
    have hc1:=(BoxAt.on (w':=w') HX5.out hC).cell 1 (.string ⟨#[]⟩) rfl
    have HK:=Lib.hid (hK (.agg #[.bool false,.string ⟨#[]⟩]) _ hC (Below.refl _ _) rfl)
    clear hK hC
    go_step
    exact HK.out
  · intro a' w' hag hC hd
    refine ⟨fun _=>?_,fun hw=>absurd (wanted_of (j:=18) (d:=53) rfl rfl rfl hd.1) (by rw [hw]; decide)⟩
    intro K hK
    go_step
    refine (rof_any (n:=0) (by decide)).mono ?_
    rintro e w7 ⟨rfl,hb⟩
    exact hK _ _ (hC.trans (hb.mono hC.size)) hb (wholeV_sg0 (neg:=false))
  · intro a' w' hag hC hd
    refine ⟨fun _=>?_,fun hw=>absurd (wanted_of (j:=18) (d:=53) rfl rfl rfl hd.2.2.1) (by rw [hw]; decide)⟩
    intro K hK
    have e54 : a'.tmps.getD 54 undef = .agg #[.bool false,.string ⟨#[]⟩]:=hd.1
    have e55 : a'.tmps.getD 55 undef = .agg #[.bool false,.string ⟨#[]⟩]:=hd.2.1
    go_step
    exact hK _ _ hC ((Below.refl _ _)) rfl
  · intro a' w' hag hC hd K hK
    have e53 : a'.tmps.getD 53 undef = .bool true:=hd.1
    have e56 : a'.tmps.getD 56 undef = .bool true:=hd.2.1
    go_step
    exact hK _ _ hC ((Below.refl _ _)) rfl
  · intro a' w' hag hC hd K hK
    have e57 : a'.tmps.getD 57 undef = .bool true:=hd.1
    go_step
    exact hK _ _ hC ((Below.refl _ _)) rfl
  · intro a' w' hag hC hd
    refine ⟨fun _=>?_,fun hw=>absurd (wanted_of (j:=23) (d:=58) rfl rfl rfl hd.1) (by rw [hw]; decide)⟩
    intro K hK
    have e10 : a'.tmps.getD 10 undef = .int .i64 0:=hag 10 rfl
    go_step
    exact hK _ _ hC ((Below.refl _ _)) rfl
  · intro a' w' hag hC hd
    refine ⟨fun _=>?_,fun hw=>absurd (wanted_of (j:=23) (d:=58) rfl rfl rfl hd.2.1) (by rw [hw]; decide)⟩
    intro K hK
    have e59 : a'.tmps.getD 59 undef = .int .i64 0:=hd.1
    go_step
    exact hK _ _ hC ((Below.refl _ _)) rfl
  · intro a' w' hag hC hd K hK
    have e58 : a'.tmps.getD 58 undef = .bool true:=hd.1
    have e60 : a'.tmps.getD 60 undef = .bool true:=hd.2.1
    go_step
    exact hK _ _ hC ((Below.refl _ _)) rfl
  · intro u w' hC hall
    obtain ⟨u0,u1,u2,u3,u4,u5,u6,u7,u8,u9,u10,u11,u12,u13,u14,u15,u16,u17,u18,u19,u20,u21,u22,u23,u24,u25,u26,_⟩:=hall
    have u0 : u 0 = .int .i64 0:=u0
    have u1 : u 1 = .bool true:=u1
    have u2 : u 2 = .bool true:=u2
    have u3 : u 3 = .int .i64 0:=u3
    have u4 : u 4 = .bool true:=u4
    have u5 : u 5 = .bool true:=u5
    have u6 : u 6 = .bool true:=u6
    have u7 : u 7 = .int .i64 0:=u7
    have u8 : u 8 = .bool true:=u8
    have u9 : u 9 = .bool true:=u9
    have u10 : u 10 = .bool true:=u10
    have u11 : u 11 = .string ⟨#[49,47,54]⟩:=u11
    have u12 : u 12 = .bool true:=u12
    have u13 : u 13 = .bool true:=u13
    have u14 : u 14 = .bool true:=u14
    have u15 : u 15 = .int .i64 0:=u15
    have u16 : u 16 = .bool true:=u16
    have u17 : u 17 = .bool true:=u17
    have u18 : u 18 = .bool true:=u18
    have u19 : u 19 = .agg #[.bool false,.string ⟨#[]⟩]:=u19
    have u20 : u 20 = .agg #[.bool false,.string ⟨#[]⟩]:=u20
    have u21 : u 21 = .bool true:=u21
    have u22 : u 22 = .bool true:=u22
    have u23 : u 23 = .bool true:=u23
    have u24 : u 24 = .int .i64 0:=u24
    have u25 : u 25 = .bool true:=u25
    have u26 : u 26 = .bool true:=u26
    simp only [fillR,List.take_succ_cons,List.take_zero,Act.put,List.setIfInBounds_toArray,List.set_cons_succ,List.set_cons_zero,Nat.zero_add,Nat.reduceAdd,u0,u1,u2,u3,u4,u5,u6,u7,u8,u9,u10,u11,u12,u13,u14,u15,u16,u17,u18,u19,u20,u21,u22,u23,u24,u25,u26]
    clear u0 u1 u2 u3 u4 u5 u6 u7 u8 u9 u10 u11 u12 u13 u14 u15 u16 u17 u18 u19 u20 u21 u22 u23 u24 u25 u26
    have HB7:=Lib.hid (HB6.out.trans (hC.mono HB6.out.size))
    clear hC
    go_wp2
    go_ret
    exact ⟨rfl,HB7.out⟩
end Go.Proofs.YtpccljaooghafaaGreat
end
section
namespace Go.Proofs.YtpccljaooghafaaGreat
open Go.RowKit
def LongPost (most n : Nat) (ss ts : Nat → ByteArray) (w : World) (e : Ending) (w' : World) : Prop:=∃ r,e = .returned (.bool r) ∧ (r = true ↔ ∃ j,j < n ∧ (most < (ss j).size ∨ most < (ts j).size)) ∧ w = w'
set_option maxRecDepth 100000 in
theorem long_any {w : World} {a n cap : Nat} (most : Nat) (ss ts : Nat → ByteArray) (hm : most ≤ 1000000) (hn : n ≤ 1000000) (h1 : ∀ j,j < n → w.cell? ⟨a,j * 4 + 1,none⟩ = some (.string (ss j))) (h2 : ∀ j,j < n → w.cell? ⟨a,j * 4 + 3,none⟩ = some (.string (ts j))) :
    Calls Tryz.prog 14 #[.int .i64 (most : Int),.slice (some ⟨a,0,none⟩) n cap] w (LongPost most n ss ts w):=by
  have H1:=Lib.hid h1
  have H2:=Lib.hid h2
  clear h1 h2
  go_enter Tryz.func14,Tryz.ntmps14
  go_wp2
  go_loop [5] (fun i=>∃ k : Nat,k ≤ n ∧ i = .int .i64 (k : Int) ∧ Hid (∀ j,j < k → (ss j).size ≤ most ∧ (ts j).size ≤ most)) (fun i=>n - (intOf i).toNat)
  case atStart=>exact ⟨0,Nat.zero_le _,rfl,fun j hj=>absurd hj (Nat.not_lt_zero _)⟩
  case round =>
    obtain ⟨k,hk,rfl,HK⟩:=hrel
    by_cases hlt : k < n
    · have hc1:=H1.out k hlt
      have hc2:=H2.out k hlt
      obtain ⟨s,hs⟩ : ∃ s,s = ss k:=⟨_,rfl⟩
      obtain ⟨t,ht⟩ : ∃ t,t = ts k:=⟨_,rfl⟩
      rw [← hs] at hc1
      rw [← ht] at hc2
      have HS:=Lib.hid hs
      have HT:=Lib.hid ht
      clear hs ht
      by_cases c1 : most < s.size
      · have c1i : (most : Int) < (s.size : Int):=by omega
        go_wp2
        go_ret
        exact ⟨true,rfl,⟨fun _=>⟨k,hlt,.inl (by rw [← HS.out]; exact c1)⟩,fun _=>rfl⟩,rfl⟩
      · have c1i : (s.size : Int) ≤ (most : Int):=by omega
        by_cases c2 : most < t.size
        · have c2i : (most : Int) < (t.size : Int):=by omega
          go_wp2
          go_ret
          exact ⟨true,rfl,⟨fun _=>⟨k,hlt,.inr (by rw [← HT.out]; exact c2)⟩,fun _=>rfl⟩,rfl⟩
        · have c2i : (t.size : Int) ≤ (most : Int):=by omega
          have HK2 : Hid (∀ j,j < k + 1 → (ss j).size ≤ most ∧ (ts j).size ≤ most):=by
            intro j hj
            rcases Nat.lt_or_ge j k with h | h
            · exact HK.out j h
            · obtain rfl : j = k:=by omega
              rw [← HS.out,← HT.out]
              exact ⟨by omega,by omega⟩
          go_wp2
          go_round
          case rel=>exact ⟨k + 1,by omega,by go_num,HK2⟩
          case measure=>simp [intOf]; omega
    · obtain rfl : k = n:=by omega
      go_wp2
      go_ret
      refine ⟨false,rfl,⟨fun h=>Bool.noConfusion h,fun h=>?_⟩,rfl⟩
      obtain ⟨j,hj,h⟩:=h
      have:=HK.out j hj
      omega
end Go.Proofs.YtpccljaooghafaaGreat
end
section
namespace Go.Proofs.YtpccljaooghafaaGreat
open Go.RowKit
theorem bin_in {w0 : World} {fn : Rat → Rat → Rat} {va vb : Value} {x y : Rat} {f : Nat} {args : Array Value} (H : Calls Tryz.prog f args w0 (BinPost fn va vb w0)) (ha : va = fracV x) (hb : vb = fracV y) (hx : Fit x) (hy : Fit y) :
    Calls Tryz.prog f args w0 fun e w'=>e = .returned (.tuple #[ansV (fn x y),.int .i64 (ansK (fn x y))]) ∧ Below w0.heap.size w0 w':=by
  refine H.mono ?_
  rintro e w' ⟨v,k,rfl,h,hbl⟩
  obtain ⟨rfl,rfl⟩:=ans_eq (bin_fit h ha hb hx hy)
  exact ⟨rfl,hbl⟩
theorem bin_out {w0 : World} {fn : Rat → Rat → Rat} {va vb : Value} {f : Nat} {args : Array Value} (H : Calls Tryz.prog f args w0 (BinPost fn va vb w0)) (h : ¬ (IsFrac va ∧ IsFrac vb)) :
    Calls Tryz.prog f args w0 fun e w'=>e = .returned (.tuple #[.agg #[.bool false,.string ⟨#[]⟩,.bool false,.string ⟨#[]⟩],.int .i64 2]) ∧ Below w0.heap.size w0 w':=by
  refine H.mono ?_
  rintro e w' ⟨v,k,rfl,h2,hbl⟩
  rcases h2 with ⟨x,y,hx,hy,ha,hb,_⟩ | ⟨_,rfl,rfl⟩
  · exact absurd ⟨⟨x,hx,ha⟩,⟨y,hy,hb⟩⟩ h
  · exact ⟨rfl,hbl⟩
theorem told_w {w : World} {b c b2 c2 : Bool} {s t s2 t2 : ByteArray} {q : Rat} {k : Int} (hv : (Value.agg #[.bool b,.string s,.bool c,.string t]) = ansV q) (hk : k = ansK q) (hq : (Value.agg #[.bool b2,.string s2,.bool c2,.string t2]) = fracV q) :
    Calls Tryz.prog 19 #[.agg #[.bool b,.string s,.bool c,.string t],.int .i64 k,.agg #[.bool b2,.string s2,.bool c2,.string t2],.bool true] w fun e w'=>e = .returned (.bool true) ∧ Below w.heap.size w w':=by
  rw [hk]
  exact told_law b c b2 c2 s t s2 t2 q hv hq
theorem long1_w {w : World} {a cap : Nat} {b c : Bool} {s t : ByteArray} {T : TypeId} (most : Nat) (hm : most ≤ 1000000) (h : BoxAt w a #[.bool b,.string s,.bool c,.string t] T) (r : Bool) (hr : r = true ↔ ¬ (s.size ≤ most ∧ t.size ≤ most)) :
    Calls Tryz.prog 14 #[.int .i64 (most : Int),.slice (some ⟨a,0,none⟩) 1 cap] w fun e w'=>e = .returned (.bool r) ∧ Below w.heap.size w w':=by
  refine (long_any (n:=1) (cap:=cap) most (fun _=>s) (fun _=>t) hm (by decide) ?_ ?_).mono ?_
  · intro j hj
    obtain rfl : j = 0:=by omega
    exact h.cell 1 _ rfl
  · intro j hj
    obtain rfl : j = 0:=by omega
    exact h.cell 3 _ rfl
  · rintro e w' ⟨r',rfl,hr',rfl⟩
    refine ⟨?_,Below.refl _ _⟩
    rw [Bool.eq_iff_iff.2 (hr'.trans (Iff.trans ?_ hr.symm))]
    constructor
    · rintro ⟨j,hj,h1⟩ ⟨h2,h3⟩
      have h1 : most < s.size ∨ most < t.size:=h1
      omega
    · intro hn
      exact ⟨0,by decide,show most < s.size ∨ most < t.size by omega⟩
theorem ansW_eq (q : Rat) : Value.agg #[.bool (ansB q),.string (ansS q),.bool false,.string (ansD q)] = ansV q:=by
  unfold ansV ansB ansS ansD
  split <;> rfl
end Go.Proofs.YtpccljaooghafaaGreat
end
section
namespace Go.Proofs.YtpccljaooghafaaGreat
open Go.RowKit
theorem flQ_floor (q : Rat) : flQ q = q.floor:=by rw [flQ,Rat.floor_def]
theorem fl_le (q : Rat) : ((flQ q : Int) : Rat) ≤ q:=by rw [flQ_floor]; exact Rat.floor_le q
theorem fl_lt (q : Rat) : q < ((flQ q : Int) : Rat) + 1:=by
  have:=Rat.lt_floor_add_one q
  rw [← flQ_floor,Rat.intCast_add] at this
  exact this
theorem fl_eq {q : Rat} {n : Int} (h1 : (n : Rat) ≤ q) (h2 : q < (n : Rat) + 1) : flQ q = n:=by
  have h3:=fl_le q
  have h4:=fl_lt q
  have k1 : ((flQ q : Int) : Rat) < ((n + 1 : Int) : Rat):=by rw [Rat.intCast_add]; grind
  have k2 : ((n : Int) : Rat) < ((flQ q + 1 : Int) : Rat):=by rw [Rat.intCast_add]; grind
  rw [Rat.intCast_lt_intCast] at k1 k2
  omega
theorem hf_two : (Rat.divInt 1 2 : Rat) + Rat.divInt 1 2 = 1:=of_decide_eq_true (by kernel_rfl : decide ((Rat.divInt 1 2 : Rat) + Rat.divInt 1 2 = 1) = true)
def upQ (x : Rat) : Bool:=decide (Rat.divInt 1 2 < x - (flQ x : Rat)) || (decide (x - (flQ x : Rat) = Rat.divInt 1 2) && decide (flQ x % 2 ≠ 0))
theorem near_up (x : Rat) : nearQ x = if upQ x = true then flQ x + 1 else flQ x:=by
  obtain ⟨n,hn⟩ : ∃ n,n = flQ x:=⟨_,rfl⟩
  obtain ⟨h,hh⟩ : ∃ h : Rat,h = Rat.divInt 1 2:=⟨_,rfl⟩
  have h1:=fl_le x
  have h2:=fl_lt x
  have h3:=hf_two
  unfold nearQ upQ
  rw [← hn] at h1 h2 ⊢
  rw [← hh] at h3 ⊢
  have c1 : ((n + 1 : Int) : Rat) = (n : Rat) + 1:=by rw [Rat.intCast_add]; rfl
  rcases (by grind : x - (n : Rat) < h ∨ x - (n : Rat) = h ∨ h < x - (n : Rat)) with hc | hc | hc
  · have e : flQ (x + h) = n:=fl_eq (by grind) (by grind)
    rw [e]
    rw [if_neg (by rintro ⟨a,_⟩; grind),if_neg]
    rw [decide_eq_false (by grind : ¬ h < x - n),decide_eq_false (by grind : ¬ x - n = h)]
    simp
  · have e : flQ (x + h) = n + 1:=fl_eq (by grind) (by grind)
    rw [e,decide_eq_false (by grind : ¬ h < x - n),decide_eq_true hc]
    have k : ((n + 1 : Int) : Rat) - x = h:=by grind
    by_cases hp : n % 2 = 0
    · rw [if_pos ⟨k,by omega⟩,if_neg (by simp [hp])]
      omega
    · rw [if_neg (by rintro ⟨_,a⟩; omega),if_pos (by simp; omega)]
  · have e : flQ (x + h) = n + 1:=fl_eq (by grind) (by grind)
    rw [e,decide_eq_true hc]
    rw [if_neg (by rintro ⟨a,_⟩; grind),if_pos (by simp)]
theorem dm_pos (n m : Nat) : (n : Int) / (m : Int) = ((n / m : Nat) : Int) ∧ (n : Int) % (m : Int) = ((n % m : Nat) : Int):=⟨rfl,rfl⟩
theorem dm_neg0 (n m : Nat) (h : 0 < m) (hr : n % m = 0) : -(n : Int) / (m : Int) = -((n / m : Nat) : Int) ∧ -(n : Int) % (m : Int) = 0:=by
  refine (Int.ediv_emod_unique (by omega)).2 ⟨?_,Int.le_refl 0,by omega⟩
  have:=Nat.div_add_mod n m
  rw [hr,Nat.add_zero] at this
  rw [Int.zero_add,Int.mul_neg,← Int.natCast_mul,this]
theorem dm_neg1 (n m : Nat) (h : 0 < m) (hr : n % m ≠ 0) : -(n : Int) / (m : Int) = -((n / m : Nat) : Int) - 1 ∧ -(n : Int) % (m : Int) = (m : Int) - ((n % m : Nat) : Int):=by
  have h1:=Nat.div_add_mod n m
  have h2:=Nat.mod_lt n h
  refine (Int.ediv_emod_unique (by omega)).2 ⟨?_,by omega,by omega⟩
  have h3 : (n : Int) = (m : Int) * ((n / m : Nat) : Int) + ((n % m : Nat) : Int):=by rw [← Int.natCast_mul,← Int.natCast_add,h1]
  rw [Int.mul_sub,Int.mul_neg,Int.mul_one]
  omega
end Go.Proofs.YtpccljaooghafaaGreat
end
section
namespace Go.Proofs.YtpccljaooghafaaGreat.Y
open Go Go.RowKit
set_option maxRecDepth 100000
theorem fillI {β : Env} {i : Nat} {f : FuncId} {args : Array Value} {w : World} {n : Int} (ho : (β i).one) (h : Calls Tryz.prog f args w fun e w'=>e = .returned (.pointer (some ⟨(β i).b,0,none⟩)) ∧ IntAt w' (β i).b 0 n ∧ Touch w w' (β i).b 0 2) :
    Calls Tryz.prog f args w fun e w'=>e = .returned (.pointer (some ⟨(β i).b,0,none⟩)) ∧ (intT n).D w' (β i) ∧ Touch w w' (β i).b 0 2 :=
  h.mono fun e w' ⟨he,h1,h2⟩=>⟨he,⟨_,ho.at1,h1⟩,h2⟩
section
variable {a b : Int} (i n k j : Nat)
def eISub (ha : sz a ≤ KB) (hb : sz b ≤ KB) : Ev Tryz.prog:=.fill 149 Tryz.call149 (fun β=>#[.pointer (some ⟨(β i).b,0,none⟩),.pointer ((β k).v 0),.pointer ((β j).v 0)]) [(k,(intT a).ob),(j,(intT b).ob)] i 2 n (intT (a - b))
  (fun β w h ho hs=>by
    obtain ⟨p,hp,kp⟩:=needI (n:=a) (k:=k) h (by simp)
    obtain ⟨q,hq,kq⟩:=needI (n:=b) (k:=j) h (by simp)
    simp only [hp.1,hq.1]
    exact fillI ho (Sub_any hs kp kq (okn_sz ha) (okn_sz hb)))
def eIMul (ha : sz a ≤ KB) (hb : sz b ≤ KB) : Ev Tryz.prog:=.fill 308 Tryz.call308 (fun β=>#[.pointer (some ⟨(β i).b,0,none⟩),.pointer ((β k).v 0),.pointer ((β j).v 0)]) [(k,(intT a).ob),(j,(intT b).ob)] i 2 n (intT (a * b))
  (fun β w h ho hs=>by
    obtain ⟨p,hp,kp⟩:=needI (n:=a) (k:=k) h (by simp)
    obtain ⟨q,hq,kq⟩:=needI (n:=b) (k:=j) h (by simp)
    simp only [hp.1,hq.1]
    exact fillI ho (mul_any hs kp kq (okn_sz ha) (okn_sz hb)))
end
def fISub {a b : Int} (ha : sz a ≤ KB) (hb : sz b ≤ KB) : Ev Tryz.prog:=dyn3 fun i n k j=>eISub i n k j ha hb
def fIMul {a b : Int} (ha : sz a ≤ KB) (hb : sz b ≤ KB) : Ev Tryz.prog:=dyn3 fun i n k j=>eIMul i n k j ha hb
def nISign {n c : Int} (hc : n.sign = c) : Ev Tryz.prog:=dyn1 fun k _ =>
  .call 304 Tryz.call304 (fun β=>#[.pointer ((β k).v 0)]) [(k,(intT n).ob)] 0 (tag (.int .i64 c)) []
    (fun β w h=>by
      obtain ⟨a,ha,ka⟩:=needI (n:=n) (k:=k) h (by simp)
      simp only [ha.1]
      exact of_pure0 ((sign_any ka).mono fun e w' ⟨he,hb⟩=>⟨by rw [he,hc],by rw [← hb]; exact Below.refl _ _⟩) (fun _=>rfl))
theorem bits_same {m L K : Nat} (h : Bits m L) (k : Bits m K) : L = K:=by
  have key : ∀ {a b : Nat},Bits m a → Bits m b → a ≤ b:=fun {a b} ha hb=>by
    rcases Nat.lt_or_ge b a with hlt | hge
    · exfalso
      have h1:=ha.2 (by omega)
      have h2 : 2 ^ b ≤ 2 ^ (a - 1):=Nat.pow_le_pow_right (by decide) (by omega)
      have:=hb.1
      omega
    · exact hge
  exact Nat.le_antisymm (key h k) (key k h)
def nBitLen {n : Int} {L : Nat} (hL : Bits n.natAbs L) : Ev Tryz.prog:=dyn1 fun k _ =>
  .call 382 Tryz.call382 (fun β=>#[.pointer ((β k).v 0)]) [(k,(intT n).ob)] 0 (tag (.int .i64 (L : Int))) []
    (fun β w h=>by
      obtain ⟨a,ha,ka⟩:=needI (n:=n) (k:=k) h (by simp)
      simp only [ha.1]
      exact of_pure0 ((BitLen_any ka).mono fun e w' ⟨K,he,hK,_,hb⟩=>⟨by rw [he,bits_same hK hL],hb⟩) (fun _=>rfl))
theorem bits_of (m : Nat) (h : (mag m).size ≤ 16384) : ∃ L,Bits m L ∧ L ≤ 131072:=by
  rcases Nat.eq_zero_or_pos m with rfl | hm
  · exact ⟨0,⟨by decide,fun h=>absurd h (by decide)⟩,by decide⟩
  · refine ⟨m.log2 + 1,⟨Nat.lt_log2_self,fun _=>by rw [Nat.add_sub_cancel]; exact Nat.log2_self_le (by omega)⟩,?_⟩
    obtain ⟨K,hK⟩ : ∃ K : Nat,K = 16384:=⟨_,rfl⟩
    have h1 : m < 256 ^ K:=by
      have:=sz_le (n:=(m : Int)) (k:=K)
      unfold sz at this
      rw [Int.natAbs_natCast] at this
      exact this.1 (by rw [hK]; exact h)
    have h2 : m < 2 ^ (8 * K):=by
      have e : (256 : Nat) ^ K = 2 ^ (8 * K):=by rw [show (256 : Nat) = 2 ^ 8 from rfl,← Nat.pow_mul]
      rwa [e] at h1
    have:=(Nat.log2_lt (by omega)).2 h2
    omega
theorem sign_neg_lit (n : Int) : Value.bool (decide (n.sign < 0)) = .bool (decide (n < 0)):=by
  congr 1
  exact decide_eq_decide.2 Int.sign_neg_iff
theorem gt_no {L K : Nat} (h : L ≤ K) : Value.bool (decide ((K : Int) < (L : Int))) = .bool false:=by rw [decide_eq_false (by omega)]
def OFI (n : Int) (w : World) (g : Pl) : Prop:=∃ p,(g.v 0 = some ⟨p,0,none⟩ ∧ g.v 1 = some ⟨g.b,0,none⟩ ∧ ∀ c,g.F c ↔ c = g.b ∨ c = p) ∧ (∃ cs t fr,w.heap[g.b]? = some (.cells cs t fr) ∧ cs[0]? = some (.pointer (some ⟨p,0,none⟩))) ∧ IntAt w p 0 n
theorem ofi_stable (n : Int) : Stable (OFI n) :=
  ⟨fun w g ⟨p,⟨_,_,hF⟩,⟨cs,t,fr,h1,_⟩,k⟩ c hc=>((hF c).1 hc).elim (fun e=>e ▸ heap_lt h1) (fun e=>e ▸ k.lt),
   fun w w' g ⟨p,h,⟨cs,t,fr,h1,h2⟩,k⟩ hb=>⟨p,h,⟨cs,t,fr,by rw [hb.block g.b (heap_lt h1)]; exact h1,h2⟩,k.on hb⟩,
   fun w w' g b o m l ⟨p,h,⟨cs,t,fr,h1,h2⟩,k⟩ hs ht hne=>⟨p,h,⟨cs,t,fr,by rw [ht.block g.b (heap_lt h1) fun e=>hne ((h.2.2 b).2 (.inl e.symm))]; exact h1,h2⟩,k.touch hs ht (.inl fun e=>hne ((h.2.2 b).2 (.inr e.symm)))⟩⟩
def ofI (n : Int) : Thing:=thing (OFI n) (ofi_stable n)
abbrev WHT3 : TypeId:=23
abbrev PIT : TypeId:=313
abbrev w2C (p : Bool) (m : Nat) : List Lf:=[.b (.v (.bool p)),.b (.v (.string (mag m)))]
def sOf1 (p : Bool) (n : Int) (hp : decide (n < 0) = p) (hok : WholeOk (decide (n < 0)) (mag n.natAbs)) : CSpec Tryz.prog :=
  ⟨376,Tryz.call376,[.one (.c (.b (.s 0 0 1 1)))],w2C p n.natAbs,WHT3,.tup [.c (.b (.y 1 1 1)),.c (.b (.v (.bool true)))],[ofI n],fun β w hh=>by
    subst hp
    have hb : BoxAt w (β 0).b #[.bool (decide (n < 0)),.string (mag n.natAbs)] WHT3:=hh.2
    refine (of_one2 (cap:=1) (decide (n < 0)) (mag n.natAbs) (Nat.le_trans hok.2 (by decide)) hb).mono fun e w' ⟨h,hB⟩=>?_
    rcases h with ⟨_,h,cap,p,he,hc,hi,hg⟩ | ⟨hno,_⟩
    rotate_left
    · exact absurd hok hno
    rw [numOf_mag] at hi
    obtain ⟨cs,t,fr,h1,h2⟩ : ∃ cs t fr,w'.heap[h]? = some (.cells cs t fr) ∧ cs[0]? = some (.pointer (some ⟨p,0,none⟩)):=by
      cases hh : w'.heap[h]? with
      | none=>simp [World.cell?,hh] at hc
      | some o=>cases o <;> simp [World.cell?,hh] at hc <;> exact ⟨_,_,_,rfl,by simpa using hc⟩
    refine ⟨[⟨h,fun i=>if i = 0 then some ⟨p,0,none⟩ else some ⟨h,0,none⟩,fun _=>cap,fun c=>c = h ∨ c = p,fun _=>undef⟩],fun x hx c hc=>?_,?_,⟨⟨p,⟨rfl,rfl,fun _=>Iff.rfl⟩,⟨cs,t,fr,h1,h2⟩,hi⟩,trivial⟩,hB⟩
    · obtain rfl:=List.mem_singleton.1 hx
      rcases hc with rfl | rfl
      · exact hg.1
      · exact hg.2
    · rw [he]
      have:=extE_in (β:=β) (n:=1) (i:=0) (xs:=[⟨h,fun i=>if i = 0 then some ⟨p,0,none⟩ else some ⟨h,0,none⟩,fun _=>cap,fun c=>c = h ∨ c = p,fun _=>undef⟩]) rfl
      rw [Nat.add_zero] at this
      simp [SV.den,SC.den,Lf.den,Lf0.den,this],by kernel_rfl⟩
def rdIdxI (d t : Nat) (n : Int) (ix : Operand) (k : Nat) : Ev Tryz.prog :=
  .rd d (.indexAddr PIT (.tmp t) ix) (fun β=>[.slice ((β k).v 1) 1 ((β k).c 1),.int .i64 0]) [(k,(ofI n).ob)] 0 (.one (.c (.b (.p k 0)))) [] (fun β w h ρ op ho hx'=>by
    have h1 : OFI n w (β k):=h (k,(ofI n).ob) (by simp)
    obtain ⟨p,⟨_,hv,_⟩,_,_⟩:=h1
    have h2 : ρ (.tmp t) = .slice (some ⟨(β k).b,0,none⟩) 1 ((β k).c 1) ∧ ρ ix = .int .i64 0:=by
      rw [hv] at hx'
      simpa [Op.operands] using hx'
    refine ⟨[],w,(fun _ h=>by cases h),?_,trivial,Below.refl _ _⟩
    rw [extE_nil]
    unfold execOp
    rw [ho]
    simp only [h2.1,h2.2]
    have hi:=run_indexAt_slice (P:=Tryz.prog) w PIT ⟨(β k).b,0,none⟩ 1 ((β k).c 1) .i64 0 (by kernel_rfl)
    have hsz : (sizeOf (Tryz.prog.elem PIT)).run Tryz.prog w = .ok 1 w:=by kernel_rfl
    rw [if_pos ⟨by decide,by decide⟩,hsz,Result.andThen_ok] at hi
    simp only [Sem.run_bind,hi,Result.andThen_ok]
    rfl)
theorem load_ptr (w : World) (b p : Nat) (hc : w.cell? ⟨b,0,none⟩ = some (.pointer (some ⟨p,0,none⟩))) : (Instr.loadAt 158 (.pointer (some ⟨b,0,none⟩))).run Tryz.prog w = .ok (.pointer (some ⟨p,0,none⟩)) w:=by
  have a1:=Tryz.isAgg158
  simp [Instr.loadAt,Instr.sureAddr,loadVar,a1,hc]
def rdPtrI (d t : Nat) (n : Int) (k m : Nat) : Ev Tryz.prog :=
  .rd d (.load 158 (.tmp t)) (fun β=>[.pointer (some ⟨(β k).b,0,none⟩)]) [(k,(ofI n).ob)] m (.one (.c (.b (.z m 0)))) [intT n] (fun β w h ρ op ho hx'=>by
    have h1 : OFI n w (β k):=h (k,(ofI n).ob) (by simp)
    obtain ⟨p,⟨_,_,hF⟩,⟨cs,u,fr,hh,hc⟩,hi⟩:=h1
    have h2 : ρ (.tmp t) = .pointer (some ⟨(β k).b,0,none⟩):=by simpa [Op.operands] using hx'
    refine ⟨[newPl p],w,fun g hg c hc=>.inr ⟨(k,(ofI n).ob),by simp,rfl,?_⟩,?_,⟨⟨p,(newPl_one p).at1,hi⟩,trivial⟩,Below.refl _ _⟩
    · obtain rfl:=List.mem_singleton.1 hg
      rw [((newPl_one p).1 c).1 hc]
      exact (hF p).2 (.inr rfl)
    · rw [extE_z]
      have hcell : w.cell? ⟨(β k).b,0,none⟩ = some (.pointer (some ⟨p,0,none⟩)):=by simp [World.cell?,hh,hc]
      unfold execOp
      rw [ho]
      simp only [h2]
      simp [load_ptr w _ _ hcell,Result.andThen]
      rfl)
abbrev w00 : List Lf:=[.b (.v (.bool false)),.b (.v (.string ⟨#[]⟩))]
theorem p_lit {p b : Bool} (h : p = b) : Value.bool p = .bool b:=by rw [h]
def sWTold {n : Int} {b : Bool} (hb : decide (n < 0) = b) (hn : sz n ≤ 16384) {L : Nat} (hL : Bits n.natAbs L) (hl : L ≤ 131072) : Spec Tryz.prog :=
  Spec.auto Tryz.call391 [rV 0] [intT n] (.tup [.a (w2C b n.natAbs),nI' 0]) []
    [nBitLen hL,.eqv 6 (.bool (decide ((131072 : Int) < (L : Int)))) (.bool false) (gt_no (K:=131072) hl),nISign (n:=n) rfl,.eqv 10 (.bool (decide (n.sign < 0))) (.bool b) ((sign_neg_lit n).trans (p_lit hb)),nBytes (Nat.le_trans hn (by decide)),dStr n]
    [] 400 Tryz.func391 hmA (by kernel_rfl) (fun β=>by kernel_rfl)
abbrev rootNs : List (Nat × Nat):=[(3,2002003),(5,2002003),(8,3013014),(9,2002003)]
def sWRootN {p : Bool} {n : Int} (hp : decide (n < 0) = p) (hok : WholeOk (decide (n < 0)) (mag n.natAbs)) (h : p = true) : Spec Tryz.prog :=
  Spec.auto Tryz.call315 [.one (.a (w2C p n.natAbs))] [] (.tup [.a w00,.a w00,nI' 7]) [] [(sOf1 p n hp hok).e,.eqv 21 (.bool p) (.bool true) (p_lit h)] rootNs 800 Tryz.func315 hmA (by kernel_rfl) (fun β=>by kernel_rfl)
structure RtD (n : Int) (m R L K : Nat) : Prop where
  hn : n = (m : Int)
  h1 : R * R ≤ m
  h2 : m < (R + 1) * (R + 1)
  hm : sz n ≤ 1024
  hR : sz (R : Int) ≤ 1024
  hD : sz (n - (R : Int) * (R : Int)) ≤ 16384
  hL : Bits (R : Int).natAbs L
  hl : L ≤ 131072
  kL : Bits (n - (R : Int) * (R : Int)).natAbs K
  kl : K ≤ 131072
  hlen : (dig (5 * m)).length ≤ 4294967296
theorem RtD.neg0 {n : Int} {m R L K : Nat} (h : RtD n m R L K) : decide ((R : Int) < 0) = false ∧ decide (n - (R : Int) * (R : Int) < 0) = false:=by
  have h1:=h.h1
  have h3 : ((R * R : Nat) : Int) ≤ (m : Int):=Int.ofNat_le.2 h1
  rw [Int.natCast_mul] at h3
  have:=h.hn
  exact ⟨decide_eq_false (by omega),decide_eq_false (by omega)⟩
def sWRootY {p : Bool} {n : Int} (hp : decide (n < 0) = p) (hok : WholeOk (decide (n < 0)) (mag n.natAbs)) (h : p = false) {m R L K : Nat} (r : RtD n m R L K) : Spec Tryz.prog :=
  Spec.auto Tryz.call315 [.one (.a (w2C p n.natAbs))] [] (.tup [.a (w2C false (R : Int).natAbs),.a (w2C false (n - (R : Int) * (R : Int)).natAbs),nI' 0]) []
    [(sOf1 p n hp hok).e,.eqv 21 (.bool p) (.bool false) (p_lit h),mkI,rdIdxI 26 25 n (.const (.int .i64 0)) 4,rdPtrI 27 26 n 4 6,fSqrt r.hn r.h1 r.h2 r.hlen,(sWTold r.neg0.1 (Nat.le_trans r.hR (by decide)) r.hL r.hl).e,
      mkI,rdIdxI 37 36 n (.const (.int .i64 0)) 4,rdPtrI 38 37 n 4 9,mkI,fIMul (Nat.le_trans r.hR (by decide)) (Nat.le_trans r.hR (by decide)),fISub (Nat.le_trans r.hm (by decide)) (Nat.le_trans (sz_mul r.hR r.hR) (by decide)),(sWTold r.neg0.2 r.hD r.kL r.kl).e]
    rootNs 800 Tryz.func315 hmA (by kernel_rfl) (fun β=>by kernel_rfl)
theorem w0_eq {n : Int} {t : Bool} (h : decide (n = 0) = t) : weq false false (mag n.natAbs) ⟨#[]⟩ = t:=by
  rw [← h,Bool.eq_iff_iff,weq_iff,decide_eq_true_iff]
  constructor
  · rintro ⟨_,h⟩
    have:=mag_inj (h.trans mag_zero.symm)
    omega
  · rintro rfl
    exact ⟨rfl,mag_zero⟩
def sWSqN {p : Bool} {n : Int} (hp : decide (n < 0) = p) (hok : WholeOk (decide (n < 0)) (mag n.natAbs)) (h : p = true) : Spec Tryz.prog :=
  Spec.auto Tryz.call151 [.one (.a (w2C p n.natAbs))] [] (.tup [.a w00,.c (.b (.v (.bool false)))]) [] [(sWRootN hp hok h).e] [] 400 Tryz.func151 hmA (by kernel_rfl) (fun β=>by kernel_rfl)
def sWSq0 {p : Bool} {n : Int} (hp : decide (n < 0) = p) (hok : WholeOk (decide (n < 0)) (mag n.natAbs)) (h : p = false) {m R L K : Nat} (r : RtD n m R L K) (ht : decide (n - (R : Int) * (R : Int) = 0) = false) : Spec Tryz.prog :=
  Spec.auto Tryz.call151 [.one (.a (w2C p n.natAbs))] [] (.tup [.a w00,.c (.b (.v (.bool false)))]) [] [(sWRootY hp hok h r).e,eqEvW _ _ _ _ false (w0_eq ht)] [] 400 Tryz.func151 hmA (by kernel_rfl) (fun β=>by kernel_rfl)
def sWSq1 {p : Bool} {n : Int} (hp : decide (n < 0) = p) (hok : WholeOk (decide (n < 0)) (mag n.natAbs)) (h : p = false) {m R L K : Nat} (r : RtD n m R L K) (ht : decide (n - (R : Int) * (R : Int) = 0) = true) : Spec Tryz.prog :=
  Spec.auto Tryz.call151 [.one (.a (w2C p n.natAbs))] [] (.tup [.a (w2C false (R : Int).natAbs),.c (.b (.v (.bool true)))]) [] [(sWRootY hp hok h r).e,eqEvW _ _ _ _ true (w0_eq ht)] [] 400 Tryz.func151 hmA (by kernel_rfl) (fun β=>by kernel_rfl)
end Go.Proofs.YtpccljaooghafaaGreat.Y
end
section
namespace Go.Proofs.YtpccljaooghafaaGreat.Y
open Go Go.RowKit
inductive Stop (P : Program) where
  | ended (f : Cf P)
  | head (c : Code) (ks : List Kf) (f : Cf P)
def Stop.cf {P : Program} : Stop P → Cf P
  | .ended f=>f
  | .head _ _ f=>f
def runP (P : Program) (m0 n : Nat) (Ns : List (Nat × Nat)) : Nat → Option Code → List Kf → Cf P → Option (Stop P)
  | 0,_,_,_=>none
  | m + 1,oc,ks,f=>match oc with
    | none=>match ks with
      | []=>some (.ended f)
      | .sq c :: r=>runP P m0 n Ns m (some c) r f
      | .bl _ :: r=>runP P m0 n Ns m none r f
      | .lp c :: r=>match f.ev with
        | .cut :: ev'=>some (.head c r { f with ev:=ev' })
        | _=>runP P m0 n Ns m (some c) (.lp c :: r) f
      | .sc :: r=>runP P m0 n Ns m none r f
    | some c=>match c with
      | .skip=>runP P m0 n Ns m none ks f
      | .label _=>runP P m0 n Ns m none ks f
      | .region id ops d=>match (bif d then drawS1 P m0 n Ns id ops.toList f else seqS P m0 n ops ops.toList f) with
        | some f'=>runP P m0 n Ns m none ks f'
        | none=>none
      | .seq a b=>runP P m0 n Ns m (some a) (.sq b :: ks) f
      | .cond x a b=>match evS idE f.sl x with
        | .bool true=>runP P m0 n Ns m (some a) ks { f with cs:=(fun β=>[(.v (evS β f.sl x),.v (.bool true))]) :: f.cs }
        | .bool false=>runP P m0 n Ns m (some b) ks { f with cs:=(fun β=>[(.v (evS β f.sl x),.v (.bool false))]) :: f.cs }
        | _=>none
      | .block id c=>runP P m0 n Ns m (some c) (.bl id :: ks) f
      | .loop c=>match f.ev with
        | .cut :: ev'=>some (.head c ks { f with ev:=ev' })
        | _=>runP P m0 n Ns m (some c) (.lp c :: ks) f
      | .scope c=>runP P m0 n Ns m (some c) (.sc :: ks) f
      | .exit id=>match popTo id ks with
        | some r=>runP P m0 n Ns m none r f
        | none=>none
      | .ret=>some (.ended f)
      | _=>none
def Stop.after {P : Program} (Q : Exit → Act → World → Prop) (a : Act) (w : World) : Stop P → Prop
  | .ended _=>Q .normal a w ∧ Q .ret a w
  | .head c ks _=>Rounds P c (post P Q ks) a w
theorem Sync.ev {P : Program} {m0 n : Nat} {B0 : Bd} {w0 : World} {c : Cf P} {β : Env} {a : Act} {w : World} (h : Sync P m0 n B0 w0 c β a w) (x : List (Ev P)) : Sync P m0 n B0 w0 { c with ev:=x } β a w:=⟨h.good,h.q,h.sl,h.of,h.m0,h.defers,h.uq⟩
theorem runP_ok {P : Program} {m0 n : Nat} {Ns : List (Nat × Nat)} (hm : P.follows .mixedOrders = true) : ∀ (m : Nat) (oc : Option Code) (ks : List Kf) (f : Cf P) (s : Stop P),runP P m0 n Ns m oc ks f = some s → f.full → (∀ x ∈ f.cs,x ∈ s.cf.cs) ∧ s.cf.full ∧
    (s.cf.good → ∀ {B0 : Bd} {w0 : World} {β : Env} {a : Act} {w : World},Sync P m0 n B0 w0 f β a w → ∀ (Q : Exit → Act → World → Prop),(∀ β' a' w',(∀ k,k < B0.k → β' k = β k) → Sync P m0 n B0 w0 s.cf β' a' w' → s.after Q a' w') → toShow P Q oc ks a w):=by
  intro m
  induction m with
  | zero=>intro oc ks f f' h; simp only [runP] at h; cases h
  | succ m ih =>
    intro oc ks f f' h hf
    simp only [runP] at h
    cases oc with
    | none =>
      dsimp only at h
      cases ks with
      | nil =>
        obtain rfl:=Option.some.inj h
        exact ⟨fun _ hx=>hx,hf,fun _ B0 w0 β a w s Q hQ=>(hQ β a w (fun _ _=>rfl) s).1⟩
      | cons x r =>
        cases x with
        | sq c=>obtain ⟨i1,i2,i3⟩:=ih _ _ _ _ h hf; exact ⟨i1,i2,fun hg B0 w0 β a w s Q hQ=>i3 hg s Q hQ⟩
        | bl j =>
          obtain ⟨i1,i2,i3⟩:=ih _ _ _ _ h hf
          exact ⟨i1,i2,fun hg B0 w0 β a w s Q hQ=>i3 hg s Q hQ⟩
        | lp c =>
          dsimp only at h
          split at h
          · obtain rfl:=Option.some.inj h
            exact ⟨fun _ hx=>hx,hf,fun _ B0 w0 β a w s Q hQ=>hQ β a w (fun _ _=>rfl) (s.ev _)⟩
          · obtain ⟨i1,i2,i3⟩:=ih _ _ _ _ h hf
            exact ⟨i1,i2,fun hg B0 w0 β a w s Q hQ=>rounds_one (i3 hg s Q hQ)⟩
        | sc=>obtain ⟨i1,i2,i3⟩:=ih _ _ _ _ h hf; exact ⟨i1,i2,fun hg B0 w0 β a w s Q hQ=>i3 hg s Q hQ⟩
    | some c =>
      cases c with
      | skip=>obtain ⟨i1,i2,i3⟩:=ih _ _ _ _ h hf; exact ⟨i1,i2,fun hg B0 w0 β a w s Q hQ=>wp_skip (i3 hg s Q hQ)⟩
      | label l=>obtain ⟨i1,i2,i3⟩:=ih _ _ _ _ h hf; exact ⟨i1,i2,fun hg B0 w0 β a w s Q hQ=>wp_label (i3 hg s Q hQ)⟩
      | region rid ops d =>
        dsimp only at h
        split at h
        · rename_i f1 h1
          cases d with
          | true =>
            simp only [cond_true] at h1
            have hf1:=drawS1_full h1 hf
            obtain ⟨i1,i2,i3⟩:=ih _ _ _ _ h hf1
            obtain ⟨j1,j2⟩:=drawS1_ok hm h1 (fun k hk=>(hf.1 k).1 hk) hf.2
            refine ⟨fun x hx=>i1 x (j1 x hx),i2,fun hg B0 w0 β a w s Q hQ=>?_⟩
            have:=j2 (fun β x hx=>hg β x (i1 x hx)) s (post P Q ks) fun β' a' w' e s'=>i3 hg s' Q fun β2 a2 w2 e2 s2=>hQ β2 a2 w2 (fun k hk=>(e2 k hk).trans (e k hk)) s2
            simp only [Array.toArray_toList] at this
            exact this
          | false =>
            simp only [cond_false] at h1
            have hf1:=seqS_full h1 hf
            obtain ⟨i1,i2,i3⟩:=ih _ _ _ _ h hf1
            obtain ⟨j1,j2⟩:=seqS_ok h1
            exact ⟨fun x hx=>i1 x (j1 x hx),i2,fun hg B0 w0 β a w s Q hQ=>wp_region_list (j2 (fun β x hx=>hg β x (i1 x hx)) s (post P Q ks) fun β' a' w' e s'=>i3 hg s' Q fun β2 a2 w2 e2 s2=>hQ β2 a2 w2 (fun k hk=>(e2 k hk).trans (e k hk)) s2)⟩
        · cases h
      | seq c d=>obtain ⟨i1,i2,i3⟩:=ih _ _ _ _ h hf; exact ⟨i1,i2,fun hg B0 w0 β a w s Q hQ=>wp_seq (i3 hg s Q hQ)⟩
      | cond x c d =>
        dsimp only at h
        split at h
        · obtain ⟨i1,i2,i3⟩:=ih _ _ _ _ h hf
          refine ⟨fun y hy=>i1 y (List.mem_cons_of_mem _ hy),i2,fun hg B0 w0 β a w s Q hQ=>?_⟩
          obtain ⟨e,_⟩:=Eqs.cons_ok (hg β _ (i1 _ (List.mem_cons_self ..)))
          injection e with e
          exact wp_cond_true (by rw [s.sl.eval]; exact e) (i3 hg (s.cs _) Q hQ)
        · obtain ⟨i1,i2,i3⟩:=ih _ _ _ _ h hf
          refine ⟨fun y hy=>i1 y (List.mem_cons_of_mem _ hy),i2,fun hg B0 w0 β a w s Q hQ=>?_⟩
          obtain ⟨e,_⟩:=Eqs.cons_ok (hg β _ (i1 _ (List.mem_cons_self ..)))
          injection e with e
          exact wp_cond_false (by rw [s.sl.eval]; exact e) (i3 hg (s.cs _) Q hQ)
        · cases h
      | block j c=>obtain ⟨i1,i2,i3⟩:=ih _ _ _ _ h hf; exact ⟨i1,i2,fun hg B0 w0 β a w s Q hQ=>wp_block (i3 hg s Q hQ)⟩
      | loop c =>
        dsimp only at h
        split at h
        · obtain rfl:=Option.some.inj h
          exact ⟨fun _ hx=>hx,hf,fun _ B0 w0 β a w s Q hQ=>rounds_loop (hQ β a w (fun _ _=>rfl) (s.ev _))⟩
        · obtain ⟨i1,i2,i3⟩:=ih _ _ _ _ h hf
          exact ⟨i1,i2,fun hg B0 w0 β a w s Q hQ=>rounds_loop (rounds_one (i3 hg s Q hQ))⟩
      | rangeFunc _ _ _ _=>cases h
      | exit j =>
        dsimp only at h
        split at h
        · rename_i r hr
          obtain ⟨i1,i2,i3⟩:=ih _ _ _ _ h hf
          exact ⟨i1,i2,fun hg B0 w0 β a w s Q hQ=>wp_exit (post_exit hr (i3 hg s Q hQ))⟩
        · cases h
      | scope c=>obtain ⟨i1,i2,i3⟩:=ih _ _ _ _ h hf; exact ⟨i1,i2,fun hg B0 w0 β a w s Q hQ=>wp_scope_straight (i3 hg s Q hQ)⟩
      | goto _=>cases h
      | ret =>
        obtain rfl:=Option.some.inj h
        exact ⟨fun _ hx=>hx,hf,fun _ B0 w0 β a w s Q hQ=>wp_ret (post_ret (hQ β a w (fun _ _=>rfl) s).2 ks)⟩
      | refuse _=>cases h
def loopsOf : Nat → Code → List Kf → List (Code × List Kf)
  | 0,_,_=>[]
  | m + 1,c,ks=>match c with
    | .seq a b=>loopsOf m a (.sq b :: ks) ++ loopsOf m b ks
    | .cond _ a b=>loopsOf m a ks ++ loopsOf m b ks
    | .block id c=>loopsOf m c (.bl id :: ks)
    | .loop c=>(c,ks) :: loopsOf m c (.lp c :: ks)
    | .scope c=>loopsOf m c (.sc :: ks)
    | _=>[]
def lpAt (fn : Func) (i : Nat) : Code × List Kf:=match fn.body with
  | some c=>(loopsOf 200 c []).getD i (.skip,[])
  | none=>(.skip,[])
def Stop.pos {P : Program} : Stop P → Option (Code × List Kf)
  | .ended _=>none
  | .head c ks _=>some (c,ks)
def mkC (P : Program) (n u : Nat) (sl : List (Nat × SV)) (ob : List Ob) (ev : List (Ev P)) : Cf P :=
  ⟨sl ++ (List.range n).map fun t=>(t,.one (.c (.b (.gh u t)))),fun k=>Nat.blt k ob.length,ob,ev,[]⟩
def tEq1 (β : Env) (σ : List Nat) : Env:=fun j=>β (σ.getD j 0)
def opaqB (u t : Nat) : SV → Bool
  | .one (.c (.b (.gh k i)))=>Nat.beq k u && Nat.beq i t
  | _=>false
def layB : Ob → Bool
  | .box _ _=>true
  | .row _ _ _ _=>true
  | .ow _ _=>true
  | _=>false
def deadB : Ob → Bool
  | .dead=>true
  | _=>false
def kindB : Ob → Ob → Bool
  | .th _,.th _=>true
  | .al _ _,.th _=>true
  | .box _ _,.box _ _=>true
  | .row _ _ _ _,.row _ _ _ _=>true
  | .ow _ _,.ow _ _=>true
  | .ow _ _,.th _=>true
  | _,.dead=>true
  | _,_=>false
def wkB (m0 u : Nat) (obS obT : List Ob) (σ : List Nat) : Bool :=
  Nat.beq σ.length obT.length && Nat.ble m0 u && Nat.blt u obT.length && (List.range m0).all (fun i=>Nat.beq (σ.getD i 0) i) &&
  (List.range obT.length).all fun j=>match obT[j]? with
    | none=>false
    | some x=>(bif Nat.beq j u then deadB x else match obS[σ.getD j 0]? with
        | none=>false
        | some y=>kindB y x && x.of (fun k=>Nat.blt k obT.length && !Nat.beq k u)) &&
      (bif layB x then (!Nat.ble m0 j || Nat.ble m0 (σ.getD j 0)) && (List.range obT.length).all (fun i=>Nat.beq i j || (Nat.beq i u || ((match obT[i]? with | some y=>deadB y | none=>false) || !Nat.beq (σ.getD i 0) (σ.getD j 0)))) else true)
def wkOb (β : Env) (σ : List Nat) : Ob → Ob → Eqs
  | .box cs t,.box cs' t'=>[(.n t,.n t'),(.v (.agg (cs.map (Lf.den β)).toArray),.v (.agg (cs'.map (Lf.den (tEq1 β σ))).toArray))]
  | .row cs t n sz,.row cs' t' n' sz'=>[(.n t,.n t'),(.n n,.n n'),(.n sz,.n sz'),(.v (.agg (cs.map (Lf.den β)).toArray),.v (.agg (cs'.map (Lf.den (tEq1 β σ))).toArray))]
  | .ow D t,.ow D' t'=>[(.ob (.ow D t),.ob (.ow D' t'))]
  | .ow D _,.th t'=>[(.ob (.th D),.ob (.th t'))]
  | y,.th t=>[(.ob (y.plain (.th t)),.ob (.th t))]
  | _,_=>[]
def wkObs (β : Env) (obS : List Ob) (σ : List Nat) : List Ob → Nat → Eqs
  | [],_=>[]
  | x :: r,j=>(match obS[σ.getD j 0]? with | some y=>wkOb β σ y x | none=>(match x with | .dead=>[] | _=>Eqs.no)) ++ wkObs β obS σ r (j + 1)
def wkSl (β : Env) (u L : Nat) (σ : List Nat) (slS slT : List (Nat × SV)) : Nat → Eqs
  | 0=>[]
  | t + 1=>(bif opaqB u t (look slT t) then [] else bif (look slT t).of (fun k=>Nat.blt k L && !Nat.beq k u) then [(.v ((look slS t).den β),.v ((look slT t).den (tEq1 β σ)))] else Eqs.no) ++ wkSl β u L σ slS slT t
def pieceE (P : Program) (m0 n : Nat) (s : Option (Stop P)) (u : Nat) (sl : List (Nat × SV)) (ob : List Ob) (σ : List Nat) (β : Env) : Eqs :=
  match s with
  | some (.head _ _ f)=>(bif wkB m0 u f.ob ob σ && Nat.beq f.ev.length 0 && sl.all (fun p=>Nat.blt p.1 n) then [] else Eqs.no) ++ (wkObs β f.ob σ ob 0 ++ (wkSl β u ob.length σ f.sl (mkC P n u sl ob []).sl n ++ eqsOf β f.cs))
  | _=>Eqs.no
def lastE (P : Program) (fn : Func) (m0 n : Nat) (res : SV) (outs : List (Nat × Ob)) (s : Option (Stop P)) (β : Env) : Eqs :=
  match s with
  | some (.ended f)=>fin1 P fn m0 n res outs f β
  | _=>Eqs.no
theorem Eqs.left {a b : Eqs} (h : Eqs.ok (a ++ b)) : Eqs.ok a:=fun p hp=>h p (List.mem_append.2 (.inl hp))
theorem Eqs.right {a b : Eqs} (h : Eqs.ok (a ++ b)) : Eqs.ok b:=fun p hp=>h p (List.mem_append.2 (.inr hp))
theorem bif_ok {b : Bool} (h : Eqs.ok (bif b then [] else Eqs.no)) : b = true:=by
  cases b
  · exact (Eqs.no_ok h).elim
  · rfl
theorem look_none : ∀ {l : List (Nat × SV)} {t : Nat},(∀ p ∈ l,p.1 ≠ t) → look l t = undefS
  | [],_,_=>rfl
  | (k,x) :: r,t,h=>by
    unfold look
    rw [show Nat.beq k t = false by rw [Bool.eq_false_iff,ne_eq,Nat.beq_eq]; exact h (k,x) (List.mem_cons_self ..),cond_false]
    exact look_none fun p hp=>h p (List.mem_cons_of_mem _ hp)
theorem wkObs_ok {β : Env} {obS : List Ob} {σ : List Nat} : ∀ {obT : List Ob} {i : Nat},Eqs.ok (wkObs β obS σ obT i) → ∀ (j : Nat) (x y : Ob),obT[j]? = some x → obS[σ.getD (i + j) 0]? = some y → Eqs.ok (wkOb β σ y x)
  | [],_,_,j,x,y,h,_=>by simp at h
  | z :: r,i,h,j,x,y,hx,hy=>by
    unfold wkObs at h
    cases j with
    | zero =>
      simp only [List.getElem?_cons_zero] at hx
      obtain rfl:=Option.some.inj hx
      have:=Eqs.left h
      rw [Nat.add_zero] at hy
      rw [hy] at this
      exact this
    | succ j=>exact wkObs_ok (Eqs.right h) j x y (by simpa using hx) (by rw [show i + 1 + j = i + (j + 1) by omega]; exact hy)
theorem opaqB_eq {u t : Nat} {x : SV} (h : opaqB u t x = true) : x = .one (.c (.b (.gh u t))):=by
  unfold opaqB at h
  split at h
  · rw [Bool.and_eq_true,Nat.beq_eq,Nat.beq_eq] at h
    obtain ⟨rfl,rfl⟩:=h
    rfl
  · cases h
theorem wkSl_ok {β : Env} {u L : Nat} {σ : List Nat} {slS slT : List (Nat × SV)} : ∀ {n : Nat},Eqs.ok (wkSl β u L σ slS slT n) → ∀ t,t < n → look slT t = .one (.c (.b (.gh u t))) ∨ ((look slT t).of (fun k=>Nat.blt k L && !Nat.beq k u) = true ∧ (look slS t).den β = (look slT t).den (tEq1 β σ))
  | 0,_,t,h=>by omega
  | n + 1,h,t,ht=>by
    unfold wkSl at h
    by_cases e : t = n
    · subst e
      have h:=Eqs.left h
      cases ho : opaqB u t (look slT t) with
      | true=>exact .inl (opaqB_eq ho)
      | false =>
        rw [ho,cond_false] at h
        cases hq : (look slT t).of (fun k=>Nat.blt k L && !Nat.beq k u) with
        | true =>
          rw [hq,cond_true] at h
          obtain ⟨e,_⟩:=Eqs.cons_ok h
          injection e with e
          exact .inr ⟨rfl,e⟩
        | false=>rw [hq,cond_false] at h; exact (Eqs.no_ok h).elim
    · exact wkSl_ok (Eqs.right h) t (by omega)
theorem layB_iff {x : Ob} : layB x = true ↔ ∃ p,x.layOf = some p:=by
  cases x <;> simp [layB,Ob.layOf]
theorem kind_lay {y x : Ob} (h : kindB y x = true) (hx : layB x = true) : layB y = true:=by
  cases y <;> cases x <;> first | rfl | (cases h; done) | (cases hx; done)
theorem kind_dead {y x : Ob} (h : kindB y x = true) (hx : x ≠ .dead) : y ≠ .dead:=by
  cases y <;> cases x <;> first | (intro e; cases e; done) | (cases h; done) | exact absurd rfl hx
theorem wk_hold {β β' : Env} {w : World} {g : Pl} {σ : List Nat} {q : Nat → Bool} {y x : Ob} (hk : kindB y x = true) (he : Eqs.ok (wkOb β σ y x)) (hq : x.of q = true) (hβ : ∀ k,q k = true → tEq1 β σ k = β' k) (h : y.holds β w g) : x.holds β' w g:=by
  have thc : ∀ (y : Ob) (t : Thing),Eqs.ok [(Tm.ob (y.plain (.th t)),Tm.ob (.th t))] → y.holds β w g → (Ob.th t).holds β' w g:=fun y t he h=>by
    obtain ⟨e,_⟩:=Eqs.cons_ok he
    injection e with e
    have:=Ob.plain_holds (x:=.th t) h
    rw [e] at this
    exact this
  cases x with
  | dead=>exact trivial
  | al r D=>cases y <;> (cases hk; done)
  | pl n=>cases y <;> (cases hk; done)
  | th t =>
    cases y <;> first | (cases hk; done) | exact thc _ t he h | skip
    obtain ⟨e,_⟩:=Eqs.cons_ok he
    injection e with e
    injection e with e
    subst e
    exact h.2
  | ow D' t' =>
    cases y <;> first | (cases hk; done) | skip
    obtain ⟨e,_⟩:=Eqs.cons_ok he
    injection e with e
    injection e with e e2
    subst e e2
    exact h
  | box cs' t' =>
    cases y <;> first | (cases hk; done) | skip
    rename_i cs t
    obtain ⟨e1,he⟩:=Eqs.cons_ok he
    obtain ⟨e2,_⟩:=Eqs.cons_ok he
    injection e1 with e1
    injection e2 with e2
    injection e2 with e2
    have e2:=congrArg Array.toList e2
    dsimp only at e2
    subst e1
    have hc : cs'.map (Lf.den (tEq1 β σ)) = cs'.map (Lf.den β'):=all_congr hq (Lf.den_congr hβ)
    refine ⟨h.1,?_⟩
    rw [← hc,← e2]
    exact h.2
  | row cs' t' n' sz' =>
    cases y <;> first | (cases hk; done) | skip
    rename_i cs t n sz
    obtain ⟨e1,he⟩:=Eqs.cons_ok he
    obtain ⟨e3,he⟩:=Eqs.cons_ok he
    obtain ⟨e4,he⟩:=Eqs.cons_ok he
    obtain ⟨e2,_⟩:=Eqs.cons_ok he
    injection e1 with e1
    injection e3 with e3
    injection e4 with e4
    injection e2 with e2
    injection e2 with e2
    have e2:=congrArg Array.toList e2
    dsimp only at e2
    subst e1 e3 e4
    have hc : cs'.map (Lf.den (tEq1 β σ)) = cs'.map (Lf.den β'):=all_congr hq (Lf.den_congr hβ)
    have hl : cs'.length = cs.length:=by
      have:=congrArg List.length e2
      rw [List.length_map,List.length_map] at this
      exact this.symm
    obtain ⟨h0,cur,h1,h2,h3,h4,h5,h6⟩:=h
    refine ⟨h0,cur,h1,by rw [hl]; exact h2,h3,h4,h5,?_⟩
    rw [← hc,← e2]
    exact h6
theorem wk_sync {P : Program} {m0 n u : Nat} {N : Nat} {w0 : World} {f : Cf P} {sl : List (Nat × SV)} {ob : List Ob} {ev : List (Ev P)} {σ : List Nat} {β : Env} {a : Act} {w : World}
    (hB : wkB m0 u f.ob ob σ = true) (hn : sl.all (fun p=>Nat.blt p.1 n) = true) (hO : Eqs.ok (wkObs β f.ob σ ob 0)) (hS : Eqs.ok (wkSl β u ob.length σ f.sl (mkC P n u sl ob ev).sl n)) (h : Sync P m0 n (bd0 N m0) w0 f β a w) :
    ∃ β' : Env,(∀ k,k < m0 → β' k = β k) ∧ Sync P m0 n (bd0 N m0) w0 (mkC P n u sl ob ev) β' a w:=by
  unfold wkB at hB
  rw [Bool.and_eq_true,Bool.and_eq_true,Bool.and_eq_true,Bool.and_eq_true,Nat.beq_eq,Nat.ble_eq,Nat.blt_eq] at hB
  obtain ⟨⟨⟨⟨hlen,hmu⟩,hul⟩,hid⟩,hall⟩:=hB
  have hσ : ∀ i,i < m0 → σ.getD i 0 = i:=fun i hi=>Nat.eq_of_beq_eq_true (List.all_eq_true.1 hid i (List.mem_range.2 hi))
  obtain ⟨β',hβ⟩ : ∃ β' : Env,β' = fun j=>if j = u then ⟨0,fun _=>none,fun _=>0,fun _=>False,fun t=>a.tmps.getD t undef⟩ else β (σ.getD j 0):=⟨_,rfl⟩
  have hβu : β' u = ⟨0,fun _=>none,fun _=>0,fun _=>False,fun t=>a.tmps.getD t undef⟩:=by rw [hβ]; exact if_pos rfl
  have hβo : ∀ j,j ≠ u → β' j = β (σ.getD j 0):=fun j hj=>by rw [hβ]; exact if_neg hj
  have hβm : ∀ k,k < m0 → β' k = β k:=fun k hk=>by rw [hβo k (by omega),hσ k hk]
  have hq : ∀ k,(Nat.blt k ob.length && !Nat.beq k u) = true → tEq1 β σ k = β' k:=fun k hk=>by
    rw [Bool.and_eq_true,Bool.not_eq_true',Nat.blt_eq] at hk
    rw [hβo k (fun e=>by rw [e,Nat.beq_refl] at hk; cases hk.2)]
    rfl
  have hmono : ∀ k,(Nat.blt k ob.length && !Nat.beq k u) = true → Nat.blt k ob.length = true:=fun k hk=>by rw [Bool.and_eq_true] at hk; exact hk.1
  have hsrc : ∀ (j : Nat) (x : Ob),ob[j]? = some x → (j = u → x = .dead) ∧ (j ≠ u → ∃ y,f.ob[σ.getD j 0]? = some y ∧ kindB y x = true ∧ x.of (fun k=>Nat.blt k ob.length && !Nat.beq k u) = true) ∧ (layB x = true → (m0 ≤ j → m0 ≤ σ.getD j 0) ∧ ∀ (i : Nat) (y : Ob),ob[i]? = some y → y ≠ .dead → i ≠ j → i ≠ u → σ.getD i 0 ≠ σ.getD j 0):=by
    intro j x hx
    have hj : j < ob.length:=(List.getElem?_eq_some_iff.1 hx).1
    have hc:=List.all_eq_true.1 hall j (List.mem_range.2 hj)
    rw [hx] at hc
    dsimp only at hc
    rw [Bool.and_eq_true] at hc
    obtain ⟨hc1,hc2⟩:=hc
    refine ⟨fun e=>?_,fun e=>?_,fun hl=>?_⟩
    · rw [e,Nat.beq_refl,cond_true] at hc1
      cases x <;> first | rfl | (cases hc1; done)
    · rw [show Nat.beq j u = false by rw [Bool.eq_false_iff,ne_eq,Nat.beq_eq]; exact e,cond_false] at hc1
      split at hc1
      · cases hc1
      · rename_i y hy
        rw [Bool.and_eq_true] at hc1
        exact ⟨y,hy,hc1.1,hc1.2⟩
    · rw [hl,cond_true,Bool.and_eq_true,Bool.or_eq_true] at hc2
      refine ⟨fun hm=>?_,fun i y hy hd hij hiu e=>?_⟩
      · rcases hc2.1 with h1 | h1
        · rw [Bool.not_eq_true',Bool.eq_false_iff,ne_eq,Nat.ble_eq] at h1
          exact absurd hm h1
        · exact Nat.le_of_ble_eq_true h1
      · have hi : i < ob.length:=(List.getElem?_eq_some_iff.1 hy).1
        have h1:=List.all_eq_true.1 hc2.2 i (List.mem_range.2 hi)
        rw [hy,Bool.or_eq_true,Bool.or_eq_true,Bool.or_eq_true,Nat.beq_eq,Nat.beq_eq,e,Nat.beq_refl] at h1
        rcases h1 with h1 | h1 | h1 | h1
        · exact hij h1
        · exact hiu h1
        · refine hd ?_
          cases y <;> first | rfl | (cases h1; done)
        · cases h1
  have hex : ∀ {k : Nat} {y : Ob},f.ob[k]? = some y → f.q k = true:=fun {k y} hy=>(h.q k).2 (List.getElem?_eq_some_iff.1 hy).1
  have hob : ∀ {k : Nat},Nat.blt k ob.length = true → ∃ x,ob[k]? = some x:=fun {k} hk=>⟨_,List.getElem?_eq_getElem (by rw [Nat.blt_eq] at hk; exact hk)⟩
  have hfree : ∀ {k : Nat} {x : Ob},ob[k]? = some x → Free (fun k=>Nat.blt k ob.length) (fun k=>ob[k]?) k → layB x = true ∧ k ≠ u:=fun {k x} hx hf=>by
    rcases hf with ⟨x',e,p,hp⟩ | ⟨⟨m,e⟩,_⟩
    · dsimp only at e
      rw [hx] at e
      obtain rfl:=Option.some.inj e
      refine ⟨layB_iff.2 ⟨p,hp⟩,fun e=>?_⟩
      rw [(hsrc k x hx).1 e] at hp
      cases hp
    · dsimp only at e
      rw [hx] at e
      obtain rfl:=Option.some.inj e
      exfalso
      by_cases ek : k = u
      · have:=(hsrc k _ hx).1 ek
        cases this
      · obtain ⟨y,_,hk,_⟩:=(hsrc k _ hx).2.1 ek
        cases y <;> (cases hk; done)
  have hlayS : ∀ {k : Nat} {x : Ob},ob[k]? = some x → layB x = true → k ≠ u → f.q (σ.getD k 0) = true ∧ Free f.q (fun k=>f.ob[k]?) (σ.getD k 0):=fun {k x} hx hl hku=>by
    obtain ⟨y,hy,hk,_⟩:=(hsrc k x hx).2.1 hku
    obtain ⟨p,hp⟩:=layB_iff.1 (kind_lay hk hl)
    exact ⟨hex hy,Free.lay hy hp⟩
  refine ⟨β',hβm,⟨⟨h.good.bel,h.good.le,?_,?_,?_,?_,?_,?_,?_,?_,?_⟩,fun k=>by dsimp only [mkC]; rw [Nat.blt_eq],⟨h.sl.1,fun t=>?_⟩,fun t=>?_,?_,h.defers,?_⟩⟩
  ·
    intro k o hk hko
    dsimp only [mkC] at hk hko ⊢
    by_cases e : k = u
    · rw [(hsrc k o hko).1 e]
      exact ⟨trivial,rfl⟩
    · obtain ⟨y,hy,hkd,hof⟩:=(hsrc k o hko).2.1 e
      have hh:=(h.good.hold _ y (hex hy) hy).1
      refine ⟨?_,Ob.of_mono hmono _ hof⟩
      rw [hβo k e]
      refine wk_hold hkd (wkObs_ok hO k o y hko ?_) hof hq hh
      rw [Nat.zero_add]
      exact hy
  ·
    intro k hk c hc
    dsimp only [mkC] at hk
    by_cases e : k = u
    · rw [e,hβu] at hc; exact hc.elim
    · rw [hβo k e] at hc
      obtain ⟨x,hx⟩:=hob hk
      obtain ⟨y,hy,_⟩:=(hsrc k x hx).2.1 e
      exact h.good.lt _ (hex hy) c hc
  ·
    intro k j hk hj hne hm hf hd
    dsimp only [mkC] at hk hj hf hd
    obtain ⟨x,hx⟩:=hob hk
    obtain ⟨z,hz⟩:=hob hj
    obtain ⟨hl,hku⟩:=hfree hx hf
    by_cases e : j = u
    · rw [e,hβu]; exact fun hc=>hc.elim
    · obtain ⟨hs1,hs2⟩:=hlayS hx hl hku
      obtain ⟨hm2,hdis⟩:=(hsrc k x hx).2.2 hl
      obtain ⟨y,hy,hkd,_⟩:=(hsrc j z hz).2.1 e
      have hzd : z ≠ .dead:=fun e=>hd (by rw [hz,e])
      rw [hβo k hku,hβo j e]
      exact h.good.ne _ _ hs1 (hex hy) (hdis j z hz hzd hne e) (hm2 hm) hs2 (fun e=>kind_dead hkd hzd (Option.some.inj (hy.symm.trans e)))
  ·
    intro k x hk hm hx hmi
    dsimp only [mkC] at hk hx
    obtain ⟨hl,hku⟩ : layB x = true ∧ k ≠ u:=by
      refine ⟨?_,fun e=>by rw [(hsrc k x hx).1 e] at hmi; cases hmi⟩
      cases x <;> first | (cases hmi; done) | exact layB_iff.2 ⟨_,rfl⟩ | skip
      exfalso
      by_cases ek : k = u
      · have:=(hsrc k _ hx).1 ek
        cases this
      · obtain ⟨y,_,hk,_⟩:=(hsrc k _ hx).2.1 ek
        cases y <;> (cases hk; done)
    obtain ⟨hs1,hs2⟩:=hlayS hx hl hku
    rw [hβo k hku]
    exact h.good.low _ hs1 (((hsrc k x hx).2.2 hl).1 hm) hs2
  ·
    intro k hk hm c hc
    dsimp only [mkC] at hk
    by_cases e : k = u
    · rw [e,hβu] at hc; exact hc.elim
    · rw [hβo k e] at hc
      obtain ⟨x,hx⟩:=hob hk
      obtain ⟨y,hy,_⟩:=(hsrc k x hx).2.1 e
      by_cases hs : m0 ≤ σ.getD k 0
      · exact (h.good.fr _ (hex hy) hs c hc).imp id fun ⟨i,i1,i2⟩=>⟨i,i1,by rw [hβm i i1]; exact i2⟩
      · exact .inr ⟨σ.getD k 0,by omega,by rw [hβm _ (by omega)]; exact hc⟩
  · intro i hi
    dsimp only [mkC]
    rw [Nat.blt_eq]
    omega
  · intro k r D hk ho
    dsimp only [mkC] at ho
    exfalso
    by_cases e : k = u
    · have:=(hsrc k _ ho).1 e
      cases this
    · obtain ⟨y,_,hkd,_⟩:=(hsrc k _ ho).2.1 e
      cases y <;> (cases hkd; done)
  · intro k r D hk ho
    dsimp only [mkC] at ho
    exfalso
    by_cases e : k = u
    · have:=(hsrc k _ ho).1 e
      cases this
    · obtain ⟨y,_,hkd,_⟩:=(hsrc k _ ho).2.1 e
      cases y <;> (cases hkd; done)
  · intro k i hk hi hlt hm hd hp
    dsimp only [mkC] at hp
    obtain ⟨M,hp⟩:=hp
    exfalso
    by_cases e : i = u
    · have:=(hsrc i _ hp).1 e
      cases this
    · obtain ⟨y,_,hkd,_⟩:=(hsrc i _ hp).2.1 e
      cases y <;> (cases hkd; done)
  ·
    by_cases ht : t < n
    · rcases wkSl_ok hS t ht with e | ⟨e1,e2⟩
      · rw [e]
        show _ = (β' u).u t
        rw [hβu]
      · rw [h.sl.2 t,e2]
        exact SV.den_congr hq _ e1
    · have hl : look (mkC P n u sl ob ev).sl t = undefS:=look_none fun p hp=>by
        rcases List.mem_append.1 hp with hp | hp
        · have:=List.all_eq_true.1 hn p hp
          rw [Nat.blt_eq] at this
          omega
        · obtain ⟨t',ht',rfl⟩:=List.mem_map.1 hp
          have:=List.mem_range.1 ht'
          dsimp only
          omega
      rw [hl]
      show a.tmps.getD t undef = undef
      rw [Array.getD_eq_getD_getElem?,Array.getElem?_eq_none (by rw [h.sl.1]; omega)]
      rfl
  · by_cases ht : t < n
    · rcases wkSl_ok hS t ht with e | ⟨e1,e2⟩
      · rw [e]
        show Nat.blt u ob.length = true
        rw [Nat.blt_eq]; exact hul
      · exact SV.of_mono hmono _ e1
    · have hl : look (mkC P n u sl ob ev).sl t = undefS:=look_none fun p hp=>by
        rcases List.mem_append.1 hp with hp | hp
        · have:=List.all_eq_true.1 hn p hp
          rw [Nat.blt_eq] at this
          omega
        · obtain ⟨t',ht',rfl⟩:=List.mem_map.1 hp
          have:=List.mem_range.1 ht'
          dsimp only
          omega
      rw [hl]; rfl
  · show m0 ≤ ob.length ∧ m0 ≤ ob.length
    omega
  · intro k j i D D' h1 h2
    exfalso
    by_cases e : k = u
    · have:=(hsrc k _ h1).1 e
      cases this
    · obtain ⟨y,_,hkd,_⟩:=(hsrc k _ h1).2.1 e
      cases y <;> (cases hkd; done)
def HdOk (P : Program) (m0 n : Nat) (N : Nat) (w0 : World) (β0 : Env) (Q : Exit → Act → World → Prop) (C : Cf P) (p : Code × List Kf) : Prop :=
  ∀ (β : Env) (a : Act) (w : World),(∀ k,k < m0 → β k = β0 k) → Sync P m0 n (bd0 N m0) w0 C β a w → Rounds P p.1 (post P Q p.2) a w
theorem pieceE_parts {P : Program} {m0 n : Nat} {c : Code} {ks : List Kf} {f : Cf P} {u : Nat} {sl : List (Nat × SV)} {ob : List Ob} {σ : List Nat} (ev : List (Ev P)) (he : ∀ β,Eqs.ok (pieceE P m0 n (some (.head c ks f)) u sl ob σ β)) :
    f.good ∧ ∀ {N : Nat} {w0 : World} {β : Env} {a : Act} {w : World},Sync P m0 n (bd0 N m0) w0 f β a w → ∃ β' : Env,(∀ k,k < m0 → β' k = β k) ∧ Sync P m0 n (bd0 N m0) w0 (mkC P n u sl ob ev) β' a w:=by
  refine ⟨fun β x hx=>eqsOf_ok (Eqs.right (Eqs.right (Eqs.right (he β)))) x hx,fun {N w0 β a w} hs=>?_⟩
  have h:=he β
  have h1:=bif_ok (Eqs.left h)
  rw [Bool.and_eq_true,Bool.and_eq_true] at h1
  exact wk_sync h1.1.1 h1.2 (Eqs.left (Eqs.right h)) (Eqs.left (Eqs.right (Eqs.right h))) hs
theorem piece_ok {P : Program} {m0 n : Nat} {N : Nat} {w0 : World} {β0 : Env} {Q : Exit → Act → World → Prop} {Ns : List (Nat × Nat)} {m : Nat} {C : Cf P} {p p' : Code × List Kf} {u : Nat} {sl : List (Nat × SV)} {ob : List Ob} (ev : List (Ev P)) (σ : List Nat) (hm : P.follows .mixedOrders = true)
    (hp : (runP P m0 n Ns m (some p.1) (.lp p.1 :: p.2) C).bind Stop.pos = some p') (he : ∀ β,Eqs.ok (pieceE P m0 n (runP P m0 n Ns m (some p.1) (.lp p.1 :: p.2) C) u sl ob σ β))
    (hH : HdOk P m0 n N w0 β0 Q (mkC P n u sl ob ev) p') : HdOk P m0 n N w0 β0 Q C p:=by
  intro β a w hβ hs
  cases hr : runP P m0 n Ns m (some p.1) (.lp p.1 :: p.2) C with
  | none=>rw [hr] at hp; cases hp
  | some s =>
    rw [hr] at hp he
    cases s with
    | ended f=>cases hp
    | head c ks f =>
      obtain rfl : (c,ks) = p':=Option.some.inj hp
      obtain ⟨hg,hw⟩:=pieceE_parts ev he
      obtain ⟨_,_,r3⟩:=runP_ok hm _ _ _ _ _ hr ⟨hs.q,hs.uq⟩
      refine rounds_one (r3 hg hs Q fun β' a' w' e s'=>?_)
      obtain ⟨β'',e2,s2⟩:=hw s'
      exact hH β'' a' w' (fun k hk=>(e2 k hk).trans ((e k hk).trans (hβ k hk))) s2
def Said (P : Program) (fn : Func) (m0 : Nat) (res : SV) (outs : List (Nat × Ob)) (β : Env) (w : World) (e : Ending) (w' : World) : Prop :=
  ∃ (β' : Env) (q : Nat → Bool) (obj : Nat → Option Ob),(∀ k,k < m0 → β' k = β k) ∧ e = .returned (res.den β') ∧ res.of q = true ∧ (∀ p ∈ outs,∀ c,(β' p.1).F c → w.heap.size ≤ c ∨ ∃ i,i < m0 ∧ (β i).F c) ∧ holdsAll β' w' outs ∧ Fin w w'
theorem fin1_parts {P : Program} {fn : Func} {m0 n : Nat} {res : SV} {outs : List (Nat × Ob)} {f : Cf P} (h : ∀ β,Eqs.ok (fin1 P fn m0 n res outs f β)) : f.good ∧ ∀ {β0 : Env} {w : World} {β' : Env} {a' : Act} {w' : World},(∀ k,k < m0 → β' k = β0 k) → Sync P m0 n (bd0 w.heap.size m0) w f β' a' w' →
    bodyPost P fn (Said P fn m0 res outs β0 w) .normal a' w' ∧ bodyPost P fn (Said P fn m0 res outs β0 w) .ret a' w':=by
  have fin : ∃ r : R1 Value,run1 P m0 false (results fn (tmpsS idE f.sl n)) f.q f.ob [] = some r ∧ res.of f.q = true ∧ r.ob.length = f.ob.length ∧
      ∀ β,Eqs.ok (chk P β (results fn (tmpsS β f.sl n)) r.tr.reverse (fun u=>[(.v u,.v (res.den β))]) ++ (needEqs f.q f.ob outs ++ eqsOf β f.cs)):=by
    cases hx : run1 P m0 false (results fn (tmpsS idE f.sl n)) f.q f.ob [] with
    | none=>have:=h idE; unfold fin1 at this; rw [hx] at this; exact (Eqs.no_ok this).elim
    | some r =>
      obtain ⟨ra,rq,rob,rtr⟩:=r
      cases hc : (res.of f.q && Nat.beq rob.length f.ob.length && Nat.beq f.ev.length 0) with
      | false=>have:=h idE; unfold fin1 at this; rw [hx] at this; dsimp only at this; rw [hc] at this; exact (Eqs.no_ok this).elim
      | true =>
        have h3:=hc
        simp only [Bool.and_eq_true,Nat.beq_eq] at hc
        refine ⟨_,rfl,hc.1.1,hc.1.2,fun β=>?_⟩
        have:=h β
        unfold fin1 at this
        rw [hx] at this
        dsimp only at this
        rw [h3] at this
        exact this
  obtain ⟨r,f1,f2,f3,f4⟩:=fin
  refine ⟨fun β x hx=>eqsOf_ok (fun p hp=>f4 β p (List.mem_append.2 (.inr (List.mem_append.2 (.inr hp))))) x hx,?_⟩
  intro β0 w β' a' w' e s
  obtain ⟨h5,_,_,tr,h8,h9⟩:=run1_ok _ _ _ _ _ f1 (fun k hk=>(s.q k).1 hk)
  obtain ⟨k1,obj',k2,k3,k4⟩:=h9 _ _ _ _ _ _ s.good (fun k hk=>⟨hk,rfl⟩) (fun k a b=>by omega) s.m0.1
  have h6:=f4 β'
  rw [h8,List.append_nil,List.reverse_reverse] at h6
  have h7 : Eqs.ok (chk P β' (results fn (tmpsS β' f.sl n)) tr (fun u=>[(.v u,.v (res.den β'))])):=fun p hp=>h6 p (List.mem_append.2 (.inl hp))
  obtain ⟨v,hv,hv2⟩:=chk_run _ _ _ h7 k1
  obtain ⟨e1,_⟩:=Eqs.cons_ok hv2
  injection e1 with e1
  subst e1
  rw [f3,rangeQ_self] at k4
  have hend : trEnd β' w' tr = w':=by
    obtain ⟨tr2,x1,x2⟩:=run1_still _ _ _ _ _ f1 (fun k hk=>(s.q k).1 hk) f3
    rw [h8,List.append_nil,List.append_nil] at x1
    rw [List.reverse_inj.1 x1]
    exact x2 β' w'
  rw [hend] at hv k4
  rw [← tmps_eq s.sl] at hv
  have hout : ∀ p : Nat × Ob,f.q p.1 = true → ∀ c,(β' p.1).F c → w.heap.size ≤ c ∨ ∃ i,i < m0 ∧ (β0 i).F c:=fun p hp c hc=>by
    by_cases h0 : m0 ≤ p.1
    · exact (s.good.fr p.1 hp h0 c hc).imp (fun a=>a.elim id False.elim) fun ⟨i,i1,i2⟩=>⟨i,i1,by rw [← e i i1]; exact i2⟩
    · exact .inr ⟨p.1,by omega,by rw [← e p.1 (by omega)]; exact hc⟩
  have hneed : Eqs.ok (needEqs f.q f.ob outs):=fun p hp=>f4 β' p (List.mem_append.2 (.inr (List.mem_append.2 (.inl hp))))
  have hres : bodyPost P fn (Said P fn m0 res outs β0 w) .normal a' w':=⟨s.defers,_,hv,β',f.q,obj',e,rfl,f2,fun p hp c hc=>hout p (needs_q _ hneed p hp) c hc,needs_hold s.good (fun k hk=>⟨hk,rfl⟩) _ hneed,⟨k4.bel.below⟩⟩
  exact ⟨hres,hres⟩
theorem last_ok {P : Program} {fn : Func} {m0 n : Nat} {w : World} {β0 : Env} {res : SV} {outs : List (Nat × Ob)} {Ns : List (Nat × Nat)} {m : Nat} {C : Cf P} {p : Code × List Kf} (hm : P.follows .mixedOrders = true)
    (he : ∀ β,Eqs.ok (lastE P fn m0 n res outs (runP P m0 n Ns m (some p.1) (.lp p.1 :: p.2) C) β)) : HdOk P m0 n w.heap.size w β0 (bodyPost P fn (Said P fn m0 res outs β0 w)) C p:=by
  intro β a w1 hβ hs
  cases hr : runP P m0 n Ns m (some p.1) (.lp p.1 :: p.2) C with
  | none=>have:=he idE; rw [hr] at this; exact (Eqs.no_ok this).elim
  | some s =>
    rw [hr] at he
    cases s with
    | head c ks f=>exact (Eqs.no_ok (he idE)).elim
    | ended f =>
      obtain ⟨hg,hw⟩:=fin1_parts he
      obtain ⟨_,_,r3⟩:=runP_ok hm _ _ _ _ _ hr ⟨hs.q,hs.uq⟩
      exact rounds_one (r3 hg hs _ fun β' a' w' e s'=>hw (fun k hk=>(e k hk).trans (hβ k hk)) s')
def startP (P : Program) (fn : Func) (args : List SV) (obs : List Ob) (evs : List (Ev P)) (Ns : List (Nat × Nat)) (m : Nat) : Option (Stop P):=match fn.body with
  | some c=>runP P obs.length (sizeS fn args) Ns m (some c) [] ⟨startS args 0,fun k=>Nat.blt k obs.length,obs,evs,[]⟩
  | none=>none
theorem sx_cut {P : Program} {f : FuncId} {fn : Func} (args : List SV) (obs : List Ob) (evs ev : List (Ev P)) (Ns : List (Nat × Nat)) (m : Nat) (res : SV) (outs : List (Nat × Ob)) (hf : P.funcs[f]? = some fn) (hm : P.follows .mixedOrders = true) {u : Nat} {sl : List (Nat × SV)} {ob : List Ob} {σ : List Nat} {p' : Code × List Kf}
    (hp : (startP P fn args obs evs Ns m).bind Stop.pos = some p') (he : ∀ β,Eqs.ok (pieceE P obs.length (sizeS fn args) (startP P fn args obs evs Ns m) u sl ob σ β))
    (hargs : args.all (SV.of fun k=>Nat.blt k obs.length) = true) (hobs : obs.all (fun x=>x.of (fun k=>Nat.blt k obs.length) && x.own) = true) (β : Env) (w : World) (hh : ∀ (k : Nat) (o : Ob),obs[k]? = some o → o.holds β w (β k))
    (hH : HdOk P obs.length (sizeS fn args) w.heap.size w β (bodyPost P fn (Said P fn obs.length res outs β w)) (mkC P (sizeS fn args) u sl ob ev) p') :
    Calls P f (args.map (SV.den β)).toArray w (Said P fn obs.length res outs β w):=by
  have hnal : ∀ (k r : Nat) (D : Thing),obs[k]? ≠ some (.al r D):=fun k r D ho=>by
    have:=List.all_eq_true.1 hobs _ (List.mem_of_getElem? ho)
    simp [Ob.own] at this
  have huq : UniqAl obs:=fun k j i D _ h1 _=>absurd h1 (hnal k i D)
  have hlt : ∀ k,k < obs.length → ∀ c,(β k).F c → c < w.heap.size:=fun k hk c hc=>by
    have h:=hh k _ (List.getElem?_eq_getElem hk)
    cases hx : obs[k] with
    | box cs t=>rw [hx] at h; rw [(h.1.1 c).1 hc]; exact heap_lt h.2
    | th D=>rw [hx] at h; exact D.st.lt _ _ h c hc
    | al r D=>rw [hx] at h; exact D.st.lt _ _ h c hc
    | pl n=>rw [hx] at h; rw [(h.1.1 c).1 hc]; exact h.2.lt
    | row cs t n sz=>rw [hx] at h; rw [(h.1.1 c).1 hc]; exact heap_lt h.2.choose_spec.1
    | ow D t=>rw [hx] at h; exact D.st.lt _ _ h.2 c hc
    | dead =>
      have:=List.all_eq_true.1 hobs _ (List.mem_of_getElem? (List.getElem?_eq_getElem hk))
      rw [hx] at this
      simp [Ob.own] at this
  cases hb : fn.body with
  | none=>unfold startP at hp; rw [hb] at hp; cases hp
  | some c =>
    have hst : startP P fn args obs evs Ns m = runP P obs.length (sizeS fn args) Ns m (some c) [] ⟨startS args 0,fun k=>Nat.blt k obs.length,obs,evs,[]⟩:=by unfold startP; rw [hb]
    rw [hst] at hp he
    cases hr : runP P obs.length (sizeS fn args) Ns m (some c) [] ⟨startS args 0,fun k=>Nat.blt k obs.length,obs,evs,[]⟩ with
    | none=>rw [hr] at hp; cases hp
    | some s =>
      rw [hr] at hp he
      cases s with
      | ended f=>cases hp
      | head c1 ks1 f1 =>
        obtain rfl : (c1,ks1) = p':=Option.some.inj hp
        obtain ⟨hg,hw⟩:=pieceE_parts ev he
        obtain ⟨_,_,r3⟩:=runP_ok hm _ _ _ _ _ hr ⟨fun k=>by dsimp only; rw [Nat.blt_eq],huq⟩
        refine calls_of_wp hf hb (r3 hg (B0:=bd0 w.heap.size obs.length) (w0:=w) (β:=β) ⟨⟨Keep.refl _ _,Nat.le_refl _,fun k o hk ho=>⟨hh k o ho,(Bool.and_eq_true _ _ ▸ List.all_eq_true.1 hobs o (List.mem_of_getElem? ho)).1⟩,fun k hk=>hlt k (by simpa [Nat.blt_eq] using hk),fun k j hk _ _ hm=>?_,fun k _ hk hm=>?_,fun k hk hm=>?_,fun i hi=>by rw [Nat.blt_eq]; exact hi,fun k r D _ ho=>?_,fun k r D _ ho=>absurd ho (hnal k r D),fun k i _ hi _ hm=>by rw [Nat.blt_eq] at hi; omega⟩,fun k=>by dsimp only; rw [Nat.blt_eq],⟨?_,fun t=>?_⟩,fun t=>?_,⟨Nat.le_refl _,Nat.le_refl _⟩,rfl,huq⟩ _ fun β' a' w' e s=>?_)
        · rw [Nat.blt_eq] at hk; omega
        · rw [Nat.blt_eq] at hk; omega
        · rw [Nat.blt_eq] at hk; omega
        · exact absurd ho (hnal k r D)
        · simp [sizeS]
        · rw [look_start,if_pos (Nat.zero_le _),Nat.sub_zero]
          simp only [Array.getD_eq_getD_getElem?,Array.getElem?_append,List.size_toArray,List.length_map,List.getElem?_toArray,List.getElem?_map]
          split
          · rename_i hlt2
            rw [List.getElem?_eq_getElem hlt2]
            rfl
          · rename_i hge
            rw [List.getElem?_eq_none (by omega)]
            simp [Array.getElem?_replicate]
            split <;> rfl
        · dsimp only
          rw [look_start,if_pos (Nat.zero_le _),Nat.sub_zero]
          cases hx : args[t]? with
          | none=>rfl
          | some x=>exact List.all_eq_true.1 hargs x (List.mem_of_getElem? hx)
        · obtain ⟨β'',e2,s2⟩:=hw s
          exact hH β'' a' w' (fun k hk=>(e2 k hk).trans (e k hk)) s2
end Go.Proofs.YtpccljaooghafaaGreat.Y
end
section
namespace Go.Proofs.YtpccljaooghafaaGreat.Y
open Go Go.RowKit
set_option maxRecDepth 100000
abbrev dgL (n : Nat) : Nat:=(dig n).length
def WD (n : Nat) (w : World) (g : Pl) : Prop:=Words w (.slice (g.v 0) (dgL n) (g.c 0)) (dig n) ∧ ∀ c,¬ g.F c
theorem wd_stable (n : Nat) : Stable (WD n) :=
  ⟨fun w g h c hc=>absurd hc (h.2 c),fun w w' g h hb=>⟨h.1.below hb,h.2⟩,fun w w' g b o k m h hs ht _=>⟨h.1.touch hs ht,h.2⟩⟩
def wdT (n : Nat) : Thing:=thing (WD n) (wd_stable n)
abbrev wdPl (A : Option Addr) (c : Nat) : Pl:=⟨0,fun _=>A,fun _=>c,fun _=>False,fun _=>undef⟩
abbrev wdS (k n : Nat) : SV:=.one (.c (.b (.y k 0 (dgL n))))
theorem wd_of {w : World} {v : Value} {n : Nat} (h : Words w v (dig n)) : ∃ A c,v = .slice A (dgL n) c ∧ WD n w (wdPl A c):=by
  obtain ⟨A,c,rfl,_⟩:=h.shape
  exact ⟨A,c,rfl,h,fun _ h=>h⟩
theorem wd_fresh {β : Env} {w : World} {n : Nat} {A : Option Addr} {c : Nat} : freshS β w n [wdPl A c]:=fun x hx c hc=>by
  obtain rfl:=List.mem_singleton.1 hx
  exact hc.elim
def sRWords (n : Nat) (hm : (mag n).size ≤ 4294967296) : Spec Tryz.prog :=
  ⟨301,Tryz.call301,[.one (.c (.b (.v (.string (mag n)))))],[],wdS 0 n,[wdT n],fun β w _=>(words_any (mag n) n rfl hm).mono fun e w' ⟨A,c,he,h,hb⟩=>⟨[wdPl A c],wd_fresh,by rw [he]; rfl,⟨⟨h,fun _ h=>h⟩,trivial⟩,hb⟩,by kernel_rfl⟩
theorem bits_uniq {m L K : Nat} (h : Bits m L) (k : Bits m K) : L = K:=by
  have key : ∀ {a b : Nat},Bits m a → Bits m b → a ≤ b:=fun {a b} ha hb=>by
    rcases Nat.lt_or_ge b a with hlt | hge
    · exfalso
      have h1:=ha.2 (by omega)
      have h2 : 2 ^ b ≤ 2 ^ (a - 1):=Nat.pow_le_pow_right (by decide) (by omega)
      have:=hb.1
      omega
    · exact hge
  exact Nat.le_antisymm (key h k) (key k h)
def sRBits {n L : Nat} (hL : Bits n L) : Spec Tryz.prog :=
  ⟨319,Tryz.call319,[wdS 0 n],[wdT n],.one (.c (.b (.v (.int .i64 (L : Int))))),[],fun β w hh=>by
    have h0 : WD n w (β 0):=hh 0 _ rfl
    refine (rbits_any h0.1).mono fun e w' ⟨K,he,hK,_,hb⟩=>⟨[],(fun _ h=>by cases h),?_,trivial,hb⟩
    obtain rfl:=bits_uniq hK hL
    rw [he]
    rfl,by kernel_rfl⟩
section
variable {x y : Nat} (hx : dgL x ≤ 8589934592) (hy : dgL y ≤ 8589934592)
def sRMore : Spec Tryz.prog :=
  ⟨320,Tryz.call320,[wdS 0 x,wdS 1 y],[wdT x,wdT y],wdS 2 (x + y),[wdT (x + y)],fun β w hh=>by
    have h0 : WD x w (β 0):=hh 0 _ rfl
    have h1 : WD y w (β 1):=hh 1 _ rfl
    refine (rmore_any h0.1 h1.1 hx hy).mono fun e w' ⟨v,he,hv,hb⟩=>?_
    rw [val_dig,val_dig] at hv
    obtain ⟨A,c,rfl,h2⟩:=wd_of hv
    exact ⟨[wdPl A c],wd_fresh,by rw [he]; rfl,⟨h2,trivial⟩,hb⟩,by kernel_rfl⟩
abbrev nilW : SV:=.one (.c (.b (.v (.slice none 0 0))))
def sRMore0 : Spec Tryz.prog :=
  ⟨320,Tryz.call320,[nilW,wdS 0 y],[wdT y],wdS 1 y,[wdT y],fun β w hh=>by
    have h1 : WD y w (β 0):=hh 0 _ rfl
    refine (rmore_any (Words.nil w) h1.1 (by decide) hy).mono fun e w' ⟨v,he,hv,hb⟩=>?_
    rw [val_dig,show val [] = 0 from rfl,Nat.zero_add] at hv
    obtain ⟨A,c,rfl,h2⟩:=wd_of hv
    exact ⟨[wdPl A c],wd_fresh,by rw [he]; rfl,⟨h2,trivial⟩,hb⟩,by kernel_rfl⟩
def sRProd : Spec Tryz.prog :=
  ⟨302,Tryz.call302,[wdS 0 x,wdS 0 x],[wdT x],wdS 1 (x * x),[wdT (x * x)],fun β w hh=>by
    have h0 : WD x w (β 0):=hh 0 _ rfl
    refine (rproduct_any h0.1 h0.1 hx hx).mono fun e w' ⟨v,he,hv,hb⟩=>?_
    rw [val_dig] at hv
    obtain ⟨A,c,rfl,h2⟩:=wd_of hv
    exact ⟨[wdPl A c],wd_fresh,by rw [he]; rfl,⟨h2,trivial⟩,hb⟩,by kernel_rfl⟩
def sRUnder (x y : Nat) : Spec Tryz.prog :=
  ⟨300,Tryz.call300,[wdS 0 x,wdS 1 y],[wdT x,wdT y],.one (.c (.b (.v (.int .i64 (cmpN x y))))),[],fun β w hh=>by
    have h0 : WD x w (β 0):=hh 0 _ rfl
    have h1 : WD y w (β 1):=hh 1 _ rfl
    exact (runder_any h0.1 h1.1).mono fun e w' ⟨he,hd⟩=>⟨[],(fun _ h=>by cases h),by rw [he]; rfl,trivial,hd.below _⟩,by kernel_rfl⟩
def sRLess (hle : y ≤ x) : Spec Tryz.prog :=
  ⟨322,Tryz.call322,[wdS 0 x,wdS 1 y],[wdT x,wdT y],wdS 2 (x - y),[wdT (x - y)],fun β w hh=>by
    have h0 : WD x w (β 0):=hh 0 _ rfl
    have h1 : WD y w (β 1):=hh 1 _ rfl
    refine (rless_any h0.1 h1.1 hx (by rw [val_dig,val_dig]; exact hle) (dig_len_mono _ _ hle)).mono fun e w' ⟨v,he,hv,hb⟩=>?_
    rw [val_dig,val_dig] at hv
    obtain ⟨A,c,rfl,h2⟩:=wd_of hv
    exact ⟨[wdPl A c],wd_fresh,by rw [he]; rfl,⟨h2,trivial⟩,hb⟩,by kernel_rfl⟩
end
abbrev whS (m : Nat) : SV:=.one (.a [.b (.v (.bool false)),.b (.v (.string (mag m)))])
theorem whole_nat (m : Nat) : wholeV (m : Int) = .agg #[.bool false,.string (mag m)]:=by
  unfold wholeV
  rw [decide_eq_false (by omega : ¬ ((m : Int) < 0)),Int.natAbs_natCast]
def sRMade {x : Nat} (hx : dgL x ≤ 4294967296) : Spec Tryz.prog :=
  ⟨291,Tryz.call291,[.one (.c (.b (.v (.bool false)))),wdS 0 x],[wdT x],whS x,[],fun β w hh=>by
    have h0 : WD x w (β 0):=hh 0 _ rfl
    refine (made_any false h0.1 hx).mono fun e w' ⟨he,hb⟩=>⟨[],(fun _ h=>by cases h),?_,trivial,hb⟩
    rw [he,val_dig,show sg false x = (x : Int) from rfl,whole_nat]
    rfl,by kernel_rfl⟩
def sRUp1 (k : Nat) (hk : k ≤ 137438953472) : CSpec Tryz.prog :=
  ⟨321,Tryz.call321,[.one (.c (.b (.s 0 0 1 1))),.one (.c (.b (.v (.int .i64 (k : Int)))))],[.b (.v (.int .u32 1))],310,wdS 1 (2 ^ k),[wdT (2 ^ k)],fun β w hh=>by
    have hw : Words w (.slice (some ⟨(β 0).b,0,none⟩) 1 1) [1]:=⟨by intro x hx; obtain rfl:=List.mem_singleton.1 hx; decide,by decide,some ⟨(β 0).b,0,none⟩,1,rfl,Nat.le_refl _,fun _=>⟨(β 0).b,0,_,_,rfl,hh.2,fun i hi=>by
      obtain rfl : i = 0:=by simp only [List.length_singleton] at hi; omega
      rfl⟩⟩
    refine (up_any hw (by decide) k hk).mono fun e w' ⟨v,he,hv,hb⟩=>?_
    rw [show val [1] * 2 ^ k = 2 ^ k by rw [show val [1] = 1 from rfl,Nat.one_mul]] at hv
    obtain ⟨A,c,rfl,h2⟩:=wd_of hv
    refine ⟨[wdPl A c],fun x hx c hc=>?_,by rw [he]; rfl,⟨h2,trivial⟩,hb⟩
    obtain rfl:=List.mem_singleton.1 hx
    exact hc.elim,by kernel_rfl⟩
end Go.Proofs.YtpccljaooghafaaGreat.Y
end
section
namespace Go.Proofs.YtpccljaooghafaaGreat.Y
open Go Go.RowKit
set_option maxRecDepth 100000
noncomputable abbrev rtF : Func:=Tryz.f157
noncomputable abbrev rtN : Nat:=sizeS rtF [whS 0]
abbrev WHT : TypeId:=23
abbrev wh0 : List Lf:=[.b (.v (.bool false)),.b (.v (.string ⟨#[]⟩))]
abbrev rtI (i : Int) : SV:=.one (.c (.b (.v (.int .i64 i))))
abbrev rtSl (n : Nat) (root : SV) (i : Int) : List (Nat × SV):=[(2,.one (.c (.b (.p 1 0)))),(3,.one (.c (.b (.p 2 0)))),(4,wdS 3 n),(5,root),(6,rtI i)]
abbrev rtOb (n : Nat) (l : List Ob) : List Ob:=[.dead,.box wh0 WHT,.box wh0 WHT,(wdT n).ob] ++ l
noncomputable abbrev rtc0 (n : Nat) (i : Int) (ev : List (Ev Tryz.prog)) : Cf Tryz.prog:=mkC Tryz.prog rtN 0 (rtSl n nilW i) (rtOb n []) ev
noncomputable abbrev rtc1 (n r : Nat) (i : Int) (ev : List (Ev Tryz.prog)) : Cf Tryz.prog:=mkC Tryz.prog rtN 0 (rtSl n (wdS 4 r) i) (rtOb n [(wdT r).ob]) ev
abbrev rtRes (r m : Nat) : SV:=.tup [.a [.b (.v (.bool false)),.b (.v (.string (mag r)))],.a [.b (.v (.bool false)),.b (.v (.string (mag m)))]]
abbrev rtH (β0 : Env) (w : World) (r m : Nat) (C : Cf Tryz.prog) : Prop:=HdOk Tryz.prog 0 rtN w.heap.size w β0 (bodyPost Tryz.prog rtF (Said Tryz.prog rtF 0 (rtRes r m) [] β0 w)) C (lpAt rtF 0)
section
variable (β0 : Env) (w : World) (R M : Nat)
theorem rt_geq {i : Int} (h : 0 ≤ i) : Value.bool (decide (0 ≤ i)) = .bool true:=by rw [decide_eq_true h]
theorem rt_leq {a : Int} {t : Bool} (h : decide (a ≤ 0) = t) : Value.bool (decide (a ≤ 0)) = .bool t:=by rw [h]
noncomputable def rootE (n k x : Nat) (hk : k ≤ 137438953472) (more : Ev Tryz.prog) (hx : dgL x ≤ 8589934592) {t : Bool} (ht : decide (cmpN (x * x) n ≤ 0) = t) (j : Int) (hj : IntKind.i64.wrap ((k : Int) - 1) = j) : List (Ev Tryz.prog) :=
  [.eqv 15 (.bool (decide (0 ≤ (k : Int)))) (.bool true) (rt_geq (Int.natCast_nonneg k)),(sRUp1 k hk).e,more,(sRProd hx).e,(sRUnder (x * x) n).e,.eqv 28 (.bool (decide (cmpN (x * x) n ≤ 0))) (.bool t) (rt_leq ht),.eqv 17 (.int .i64 (IntKind.i64.wrap ((k : Int) - 1))) (.int .i64 j) (by rw [hj]),.cut]
variable {n k : Nat} (hk : k ≤ 137438953472) {j : Int} (hj : IntKind.i64.wrap ((k : Int) - 1) = j)
theorem rt0_yes (h2 : dgL (2 ^ k) ≤ 8589934592) (ht : decide (cmpN (2 ^ k * 2 ^ k) n ≤ 0) = true) (h : rtH β0 w R M (rtc1 n (2 ^ k) j [])) :
    rtH β0 w R M (rtc0 n k (rootE n k (2 ^ k) hk (sRMore0 h2).e h2 ht j hj)):=piece_ok (Ns:=[]) (m:=300) [] [0,1,2,3,6] hmA (by kernel_rfl) (fun β=>ok_of_maps (by kernel_rfl)) h
theorem rt0_no (h2 : dgL (2 ^ k) ≤ 8589934592) (ht : decide (cmpN (2 ^ k * 2 ^ k) n ≤ 0) = false) (h : rtH β0 w R M (rtc0 n j [])) :
    rtH β0 w R M (rtc0 n k (rootE n k (2 ^ k) hk (sRMore0 h2).e h2 ht j hj)):=piece_ok (Ns:=[]) (m:=300) [] [0,1,2,3] hmA (by kernel_rfl) (fun β=>ok_of_maps (by kernel_rfl)) h
variable {r : Nat}
theorem rt1_yes (h1 : dgL r ≤ 8589934592) (h2 : dgL (2 ^ k) ≤ 8589934592) (h3 : dgL (r + 2 ^ k) ≤ 8589934592) (ht : decide (cmpN ((r + 2 ^ k) * (r + 2 ^ k)) n ≤ 0) = true) (h : rtH β0 w R M (rtc1 n (r + 2 ^ k) j [])) :
    rtH β0 w R M (rtc1 n r k (rootE n k (r + 2 ^ k) hk (sRMore h1 h2).e h3 ht j hj)):=piece_ok (Ns:=[]) (m:=300) [] [0,1,2,3,7] hmA (by kernel_rfl) (fun β=>ok_of_maps (by kernel_rfl)) h
theorem rt1_no (h1 : dgL r ≤ 8589934592) (h2 : dgL (2 ^ k) ≤ 8589934592) (h3 : dgL (r + 2 ^ k) ≤ 8589934592) (ht : decide (cmpN ((r + 2 ^ k) * (r + 2 ^ k)) n ≤ 0) = false) (h : rtH β0 w R M (rtc1 n r j [])) :
    rtH β0 w R M (rtc1 n r k (rootE n k (r + 2 ^ k) hk (sRMore h1 h2).e h3 ht j hj)):=piece_ok (Ns:=[]) (m:=300) [] [0,1,2,3,4] hmA (by kernel_rfl) (fun β=>ok_of_maps (by kernel_rfl)) h
theorem rt_end (h1 : dgL r ≤ 4294967296) (hn : dgL n ≤ 8589934592) (hle : r * r ≤ n) (hm : dgL (n - r * r) ≤ 4294967296) :
    rtH β0 w r (n - r * r) (rtc1 n r (-1) [(sRMade h1).e,(sRProd (x:=r) (Nat.le_trans h1 (by decide))).e,(sRLess (x:=n) (y:=r * r) hn hle).e,(sRMade hm).e]):=last_ok (Ns:=[]) (m:=300) hmA (fun β=>ok_of_maps (by kernel_rfl))
end
theorem hd_ev {P : Program} {m0 n B0 : Nat} {w0 : World} {β0 : Env} {Q : Exit → Act → World → Prop} {u : Nat} {sl : List (Nat × SV)} {ob : List Ob} {ev ev' : List (Ev P)} {p : Code × List Kf} (h : HdOk P m0 n B0 w0 β0 Q (mkC P n u sl ob ev) p) : HdOk P m0 n B0 w0 β0 Q (mkC P n u sl ob ev') p :=
  fun β a w hβ hs=>h β a w hβ (hs.ev ev)
theorem sqrt_uniq {n r s : Nat} (h1 : r * r ≤ n) (h2 : n < (r + 1) * (r + 1)) (k1 : s * s ≤ n) (k2 : n < (s + 1) * (s + 1)) : r = s:=by
  rcases Nat.lt_trichotomy r s with h | h | h
  · have:=Nat.mul_le_mul (Nat.succ_le_of_lt h) (Nat.succ_le_of_lt h)
    simp only [Nat.succ_eq_add_one] at this
    omega
  · exact h
  · have:=Nat.mul_le_mul (Nat.succ_le_of_lt h) (Nat.succ_le_of_lt h)
    simp only [Nat.succ_eq_add_one] at this
    omega
theorem big_len {n m : Nat} (h : m ≤ 3 * n + 1) : dgL m ≤ dgL n + 1:=by
  apply dig_len_le
  have h1:=dig_lt n
  rw [Nat.pow_succ]
  generalize (4294967296 : Nat) ^ dgL n = z at h1
  omega
theorem cmp_dec {a n : Nat} {t : Bool} (h : decide (a ≤ n) = t) : decide (cmpN a n ≤ 0) = t:=by
  rw [← h]
  exact decide_eq_decide.2 cmpN_le
section
variable {β0 : Env} {w : World} {n R : Nat} (hd : dgL n ≤ 4294967290) (hR1 : R * R ≤ n) (hR2 : n < (R + 1) * (R + 1))
include hd hR1 hR2 in
theorem rt_done {r : Nat} (h1 : r * r ≤ n) (h2 : n < (r + 1) * (r + 1)) : rtH β0 w R (n - R * R) (rtc1 n r (-1) []):=by
  obtain rfl:=sqrt_uniq h1 h2 hR1 hR2
  have hr : r ≤ n:=Nat.le_trans (Nat.le_mul_self r) h1
  exact hd_ev (rt_end β0 w (Nat.le_trans (dig_len_mono _ _ hr) (Nat.le_trans hd (by decide))) (Nat.le_trans hd (by decide)) h1 (Nat.le_trans (dig_len_mono _ _ (Nat.sub_le _ _)) (Nat.le_trans hd (by decide))))
theorem wrap_pred (k : Nat) (hk : k ≤ 137438953472) : IntKind.i64.wrap (((k + 1 : Nat) : Int) - 1) = (k : Int):=by
  rw [IntKind.wrap_i64]
  omega
include hd hR1 hR2 in
theorem rt_loop : ∀ k : Nat,k ≤ 137438953472 → 2 ^ k ≤ 2 * n + 1 →
    (1 ≤ n → n < 2 ^ (k + 1) * 2 ^ (k + 1) → rtH β0 w R (n - R * R) (rtc0 n k [])) ∧ ∀ r,r * r ≤ n → n < (r + 2 ^ (k + 1)) * (r + 2 ^ (k + 1)) → rtH β0 w R (n - R * R) (rtc1 n r k [])
  | 0,hk,hp=>by
    have l2 : dgL (2 ^ 0) ≤ 8589934592:=Nat.le_trans (big_len (n:=n) (by omega)) (Nat.le_trans (Nat.add_le_add_right hd 1) (by decide))
    refine ⟨fun hn h=>?_,fun r hr h=>?_⟩
    · refine hd_ev (rt0_yes β0 w R (n - R * R) (k:=0) (j:=-1) hk (by decide) l2 (cmp_dec (decide_eq_true (by show 1 * 1 ≤ n; omega))) ?_)
      exact rt_done hd hR1 hR2 (by show 1 * 1 ≤ n; omega) h
    · have hrn : r ≤ n:=Nat.le_trans (Nat.le_mul_self r) hr
      have l1 : dgL r ≤ 8589934592:=Nat.le_trans (dig_len_mono _ _ hrn) (Nat.le_trans hd (by decide))
      have l3 : dgL (r + 2 ^ 0) ≤ 8589934592:=Nat.le_trans (big_len (n:=n) (by omega)) (Nat.le_trans (Nat.add_le_add_right hd 1) (by decide))
      cases ht : decide ((r + 2 ^ 0) * (r + 2 ^ 0) ≤ n) with
      | true=>exact hd_ev (rt1_yes β0 w R (n - R * R) (k:=0) (j:=-1) hk (by decide) l1 l2 l3 (cmp_dec ht) (rt_done hd hR1 hR2 (of_decide_eq_true ht) h))
      | false=>exact hd_ev (rt1_no β0 w R (n - R * R) (k:=0) (j:=-1) hk (by decide) l1 l2 l3 (cmp_dec ht) (rt_done hd hR1 hR2 hr (Nat.lt_of_not_le (of_decide_eq_false ht))))
  | k + 1,hk,hp=>by
    have hp' : 2 ^ k ≤ 2 * n + 1:=Nat.le_trans (Nat.pow_le_pow_right (by decide) (Nat.le_succ k)) hp
    obtain ⟨ih0,ih1⟩:=rt_loop k (by omega) hp'
    have l2 : dgL (2 ^ (k + 1)) ≤ 8589934592:=Nat.le_trans (big_len (n:=n) (by omega)) (Nat.le_trans (Nat.add_le_add_right hd 1) (by decide))
    have hj:=wrap_pred k (by omega)
    have e2 : 2 ^ (k + 1 + 1) = 2 ^ (k + 1) + 2 ^ (k + 1):=by rw [Nat.pow_succ 2 (k + 1)]; omega
    refine ⟨fun hn h=>?_,fun r hr h=>?_⟩
    · cases ht : decide (2 ^ (k + 1) * 2 ^ (k + 1) ≤ n) with
      | true=>exact hd_ev (rt0_yes β0 w R (n - R * R) hk hj l2 (cmp_dec ht) (ih1 _ (of_decide_eq_true ht) (by rw [e2] at h; exact h)))
      | false=>exact hd_ev (rt0_no β0 w R (n - R * R) hk hj l2 (cmp_dec ht) (ih0 hn (Nat.lt_of_not_le (of_decide_eq_false ht))))
    · have hrn : r ≤ n:=Nat.le_trans (Nat.le_mul_self r) hr
      have l1 : dgL r ≤ 8589934592:=Nat.le_trans (dig_len_mono _ _ hrn) (Nat.le_trans hd (by decide))
      have l3 : dgL (r + 2 ^ (k + 1)) ≤ 8589934592:=Nat.le_trans (big_len (n:=n) (by omega)) (Nat.le_trans (Nat.add_le_add_right hd 1) (by decide))
      cases ht : decide ((r + 2 ^ (k + 1)) * (r + 2 ^ (k + 1)) ≤ n) with
      | true=>exact hd_ev (rt1_yes β0 w R (n - R * R) hk hj l1 l2 l3 (cmp_dec ht) (ih1 _ (of_decide_eq_true ht) (by rw [e2,← Nat.add_assoc] at h; exact h)))
      | false=>exact hd_ev (rt1_no β0 w R (n - R * R) hk hj l1 l2 l3 (cmp_dec ht) (ih1 _ hr (Nat.lt_of_not_le (of_decide_eq_false ht))))
end
theorem bits_ex {n : Nat} (hn : 1 ≤ n) : ∃ L,Bits n L:=⟨n.log2 + 1,Nat.lt_log2_self,fun _=>Nat.log2_self_le (by omega)⟩
theorem bits_len {n L : Nat} (h : Bits n L) : L ≤ 32 * dgL n:=by
  show L ≤ 32 * (dig n).length
  rcases Nat.eq_zero_or_pos L with rfl | hp
  · exact Nat.zero_le _
  · have h1:=h.2 hp
    have h2:=dig_lt n
    rw [show (4294967296 : Nat) = 2 ^ 32 by decide,← Nat.pow_mul] at h2
    have h3:=(Nat.pow_lt_pow_iff_right (by decide : 1 < 2)).1 (Nat.lt_of_le_of_lt h1 h2)
    omega
theorem wrap_half (L : Nat) (h : L ≤ 4611686018427387904) : IntKind.i64.wrap (Int.tdiv (L : Int) 2) = ((L / 2 : Nat) : Int):=by
  have : Int.tdiv (L : Int) 2 = ((L / 2 : Nat) : Int):=by
    rw [Int.tdiv_eq_ediv_of_nonneg (Int.natCast_nonneg L)]
    rfl
  rw [this,IntKind.wrap_i64]
  omega
noncomputable def rtStart {n L : Nat} (hm : (mag n).size ≤ 4294967296) (hL : Bits n L) (hb : L ≤ 4611686018427387904) : List (Ev Tryz.prog) :=
  [(sRWords n hm).e,(sRBits hL).e,.eqv 13 (.int .i64 (IntKind.i64.wrap (Int.tdiv (L : Int) 2))) (.int .i64 ((L / 2 : Nat) : Int)) (by rw [wrap_half L hb]),.cut]
theorem rroot_ok {n R : Nat} (hn : 1 ≤ n) (hm : (mag n).size ≤ 4294967296) (hd : dgL n ≤ 4294967290) (hR1 : R * R ≤ n) (hR2 : n < (R + 1) * (R + 1)) (β : Env) (w : World) :
    Calls Tryz.prog 157 (([whS n] : List SV).map (SV.den β)).toArray w (Said Tryz.prog rtF 0 (rtRes R (n - R * R)) [] β w):=by
  obtain ⟨L,hL⟩:=bits_ex hn
  have hl : L ≤ 137438953472:=Nat.le_trans (bits_len hL) (Nat.le_trans (Nat.mul_le_mul_left 32 hd) (by decide))
  have hb : L ≤ 4611686018427387904:=by omega
  have hp : 2 ^ (L / 2) ≤ 2 * n + 1:=by
    rcases Nat.eq_zero_or_pos L with rfl | hp
    · show 1 ≤ 2 * n + 1
      omega
    · have h1:=hL.2 hp
      have h2 : 2 ^ (L / 2) ≤ 2 ^ L:=Nat.pow_le_pow_right (by decide) (Nat.div_le_self _ _)
      have h3 : 2 ^ L = 2 * 2 ^ (L - 1):=by
        rw [← Nat.pow_succ']
        congr 1
        omega
      omega
  have hq : n < 2 ^ (L / 2 + 1) * 2 ^ (L / 2 + 1):=by
    rw [← Nat.pow_add]
    exact Nat.lt_of_lt_of_le hL.1 (Nat.pow_le_pow_right (by decide) (by omega))
  exact sx_cut (P:=Tryz.prog) [whS n] [] (rtStart hm hL hb) [] [] 300 (rtRes R (n - R * R)) [] Tryz.func157 hmA (u:=0) (sl:=rtSl n nilW ((L / 2 : Nat) : Int)) (ob:=rtOb n []) (σ:=[0,1,2,3]) (p':=lpAt rtF 0) (by kernel_rfl) (fun β=>ok_of_maps (by kernel_rfl)) (by kernel_rfl) (by kernel_rfl) β w (fun k o ho=>by simp at ho)
    ((rt_loop hd hR1 hR2 (L / 2) (by omega) hp).1 hn hq)
noncomputable def sRRoot {n R : Nat} (hn : 1 ≤ n) (hm : (mag n).size ≤ 4294967296) (hd : dgL n ≤ 4294967290) (hR1 : R * R ≤ n) (hR2 : n < (R + 1) * (R + 1)) : Spec Tryz.prog :=
  ⟨157,Tryz.call157,[whS n],[],rtRes R (n - R * R),[],fun β w _=>(rroot_ok hn hm hd hR1 hR2 β w).mono fun e w' h=>by
    obtain ⟨β',q,obj,_,rfl,_,_,_,g⟩:=h
    exact ⟨[],(fun _ h=>by cases h),rfl,trivial,g.bel⟩,by kernel_rfl⟩
end Go.Proofs.YtpccljaooghafaaGreat.Y
end
