/- Fra, RefB, EvB, EqA, Rs3, ExM, EyB, EyC, EyD, EyE. -/
import Derived.Test.YtbepimnlleilfaaGreatJk9
set_option linter.unnecessarySimpa false
set_option linter.unusedVariables false
set_option linter.unusedSimpArgs false
section
namespace Go.Proofs.YtbepimnlleilfaaGreat
open Go.RowKit
structure Fr (w0 w:World) (l:List (Nat × Array Value × TypeId)):Prop where
 below:Below w0.heap.size w0 w
 boxes:Frames w l
 dist:l.Pairwise (fun x y=>x.1≠y.1)
 low:∀ x∈l,w0.heap.size≤x.1
theorem agg2 {a b c d:Value} (h:Value.agg #[a,b]=.agg #[c,d]):a=c∧b=d:=by
 injection h with h
 have h:=congrArg Array.toList h
 simpa using h
theorem whole_cells {p:Bool} {s:ByteArray} {n:Int} (h:(Value.agg #[.bool p,.string s])=wholeV n):p=decide (n<0)∧s=mag n.natAbs:=by
 obtain ⟨h1,h2⟩:=agg2 h
 exact ⟨Value.bool.inj h1,Value.string.inj h2⟩
theorem sz_of {p:Bool} {s:ByteArray} {n:Int} (h:(Value.agg #[.bool p,.string s])=wholeV n) {k:Nat} (b:sz n≤k):s.size≤k:=by
 rw [(whole_cells h).2]; exact b
theorem formed_num {p:Bool} {s:ByteArray} (h:FormedB p s):decide (numOf p s<0)=p∧mag (numOf p s).natAbs=s:=by
 have hp:Plain1 s:=by
  rcases h with h1 | h1
  · exact .inl h1.1
  · exact .inr h1.2
 have h1:=mag_num hp
 have h2:s.size≠0→num s≠0:=by
  intro k e
  rw [e,mag_zero] at h1
  rw [← h1] at k
  exact k rfl
 have h3:(numOf p s).natAbs=num s:=by unfold numOf sg; cases p<;>simp
 refine ⟨?_,by rw [h3,h1]⟩
 rcases h with h4 | h4
 · have:num s=0:=by have:=num_lt s; rw [h4.1] at this; omega
   rw [h4.2]
   unfold numOf sg
   simp [this]
 · have:=h2 h4.1
   unfold numOf sg
   cases p
   · simp
   · simp; omega
theorem isFrac_doc {b c:Bool} {s t:ByteArray}:IsFrac (.agg #[.bool b,.string s,.bool c,.string t]) ↔
  (s.size≤1024∧t.size≤1024)∧FormedB b s∧FormedB c t∧0<numOf c t∧Nat.gcd (numOf b s).natAbs (numOf c t).natAbs=1:=by
 constructor
 · intro h
   obtain ⟨h1,h2,h3,h4,h5,h6⟩:=isFrac_parts h
   refine ⟨⟨h3,h4⟩,h1.1,h2.1,h5,?_⟩
   obtain ⟨q,hf,hv⟩:=h
   obtain ⟨rfl,rfl,rfl,rfl⟩:=agg4 hv
   have n2:=numOf_mag (q.den:Int)
   rw [show decide ((q.den:Int)<0)=false by simp,Int.natAbs_natCast] at n2
   rw [numOf_mag,n2,Int.natAbs_natCast]
   exact q.reduced
 · rintro ⟨⟨h1,h2⟩,h3,h4,h5,h6⟩
   obtain ⟨e1,e2⟩:=formed_num h3
   obtain ⟨e3,e4⟩:=formed_num h4
   refine isFrac_of h1 h2 (q:=Rat.divInt (numOf b s) (numOf c t)) ?_
   obtain ⟨_,_,_,d4,d5⟩:=divInt_parts (numOf b s) (numOf c t) (by omega) 1 (by rw [if_neg (by omega),h6]; rfl)
   rw [Int.ediv_one] at d4 d5
   rw [fracV,d4,e1,e2]
   have hc:c=false:=by rw [← e3]; exact decide_eq_false (by omega)
   have hd:(Rat.divInt (numOf b s) (numOf c t)).den=(numOf c t).natAbs:=by omega
   rw [hd,e4,hc]
theorem rtimes_w {w0:World} {p q:Bool} {s t:ByteArray} {n m:Int} (h:(Value.agg #[.bool p,.string s])=wholeV n) (k:(Value.agg #[.bool q,.string t])=wholeV m) (h1:sz n≤1000000000) (h2:sz m≤1000000000) :
  Calls Tryz.prog 136 #[.agg #[.bool p,.string s],.agg #[.bool q,.string t]] w0 fun e w'=>e=.returned (wholeV (n*m))∧Below w0.heap.size w0 w':=by
 refine (rtimes_any p q s t n m (whole_cells h).1 (whole_cells k).1 (whole_cells h).2 (whole_cells k).2 (sz_of h h1) (sz_of k h2)).mono ?_
 rintro e w' ⟨a,u,rfl,ha,hu,hb⟩
 exact ⟨by rw [ha.out,hu.out]; rfl,hb⟩
theorem rplus_w {w0:World} {p q:Bool} {s t:ByteArray} {n m:Int} (h:(Value.agg #[.bool p,.string s])=wholeV n) (k:(Value.agg #[.bool q,.string t])=wholeV m) (h1:sz n≤1000000000) (h2:sz m≤1000000000) :
  Calls Tryz.prog 275 #[.agg #[.bool p,.string s],.agg #[.bool q,.string t]] w0 fun e w'=>e=.returned (wholeV (n+m))∧Below w0.heap.size w0 w':=by
 refine (rplus_any p q s t n m (whole_cells h).1 (whole_cells k).1 (whole_cells h).2 (whole_cells k).2 (sz_of h h1) (sz_of k h2)).mono ?_
 rintro e w' ⟨a,u,rfl,ha,hu,hb⟩
 exact ⟨by rw [ha.out,hu.out]; rfl,hb⟩
theorem rsign_w {w:World} {p:Bool} {s:ByteArray} {n:Int} (h:(Value.agg #[.bool p,.string s])=wholeV n) :
  Calls Tryz.prog 255 #[.agg #[.bool p,.string s]] w fun e w'=>e=.returned (.int .i64 n.sign)∧Below w.heap.size w w':=rsign_any p s n (whole_cells h).1 (whole_cells h).2
theorem r3of_w {w0:World} {p q:Bool} {s t:ByteArray} {n m:Int} (h:(Value.agg #[.bool p,.string s])=wholeV n) (k:(Value.agg #[.bool q,.string t])=wholeV m) (h1:sz n≤1000000000) (h2:sz m≤1000000000) (hm:m≠0) :
  Calls Tryz.prog 258 #[.agg #[.bool p,.string s],.agg #[.bool q,.string t]] w0 fun e w'=>e=.returned (fracV (Rat.divInt n m))∧Below w0.heap.size w0 w' :=
 r3of_any p q s t n m (whole_cells h).1 (whole_cells k).1 (whole_cells h).2 (whole_cells k).2 (sz_of h h1) (sz_of k h2) hm
set_option maxRecDepth 100000 in
theorem rof_any {w:World} {n:Int} (hr : -9223372036854775808≤n∧n≤9223372036854775807) :
  Calls Tryz.prog 108 #[.int .i64 n] w fun e w'=>e=.returned (wholeV n)∧Below w.heap.size w w':=by
 have HR:=Lib.hid hr
 have HB:=Lib.hid (below_new w (.cells #[.bool false,.string ⟨#[]⟩] 23))
 have HC:=Lib.hid (BoxAt.new w #[.bool false,.string ⟨#[]⟩] 23)
 obtain ⟨k,hk⟩:∃ k,k=n.natAbs:=⟨_,rfl⟩
 have hkb:k≤9223372036854775808:=by omega
 obtain ⟨x,hx⟩:∃ x,x=k % 4294967296:=⟨_,rfl⟩
 obtain ⟨y,hy⟩:∃ y,y=k/4294967296:=⟨_,rfl⟩
 have hx32:x<4294967296:=by omega
 have hy32:y<4294967296:=by omega
 have hxi:(k:Int) % 4294967296=(x:Int):=by omega
 have hyi:(k:Int)/4294967296=(y:Int):=by omega
 have HS:Hid (sg (decide (n<0)) (val [x,y])=n):=by
  have:val [x,y]=k:=by simp [val]; omega
  rw [Hid,this,hk,sg_of]
 have HWW:=Lib.hid (words_two (w.alloc (.cells #[.bool false,.string ⟨#[]⟩] 23)) x y _ _ hx32 hy32 rfl rfl)
 have HBW:=Lib.hid (below_new (w.alloc (.cells #[.bool false,.string ⟨#[]⟩] 23)) (.cells #[.int .u32 (x:Int),.int .u32 (y:Int)] 299))
 have HC1:=Lib.hid (HC.out.on HBW.out)
 have HB1:=Lib.hid (HB.out.trans (HBW.out.mono HB.out.size))
 rw [size_alloc] at HWW
 by_cases h:n<0
 all_goals
  have hw1:IntKind.u64.wrap n=if n<0 then 18446744073709551616+n else n:=by simp [IntKind.wrap,IntKind.bits,IntKind.signed]; omega
 · rw [if_pos h] at hw1
   have hw2:IntKind.u64.wrap (-(18446744073709551616+n)) = -n:=by simp [IntKind.wrap,IntKind.bits,IntKind.signed]; omega
   have hnk : -n=(k:Int):=by omega
   rw [hnk] at hw2
   have hd:decide (n<0)=true:=by simpa using h
   rw [hd] at HS
   clear hr hk hnk hx hy
   go_enter Tryz.func108,Tryz.ntmps108
   go_wp2_with fail
   refine (made_any true HWW.out (by decide)).mono ?_
   rintro e w1 ⟨rfl,hb⟩
   rw [HS.out]
   obtain ⟨p,s,hps⟩:∃ p s,wholeV n=.agg #[.bool p,.string s]:=⟨_,_,rfl⟩
   have HPS:=Lib.hid hps
   rw [hps]
   have HC2:=Lib.hid (HC1.out.on hb)
   have HB2:=Lib.hid (HB1.out.trans (hb.mono HB1.out.size))
   have hp0:=HC2.out.cell 0 _ rfl
   have hp1:=HC2.out.cell 1 _ rfl
   have hf:=HC2.out.frozen
   clear hps hb
   go_wp2
   have hk:=(HC2.out.set 0 (.bool p)).set 1 (.string s)
   have k0:=hk.cell 0 _ rfl
   have k1:=hk.cell 1 _ rfl
   exact bodyPost_ret (v:=.agg #[.bool p,.string s]) (by simp [results,Tryz.results108,go_sem,k0,k1]) rfl ⟨by rw [HPS.out],(HB2.out.setCell (Nat.le_refl _) _).setCell (Nat.le_refl _) _⟩
 · rw [if_neg h] at hw1
   have hnk:n=(k:Int):=by omega
   have hd:decide (n<0)=false:=by simpa using h
   rw [hd] at HS
   have hw3:IntKind.u64.wrap n=(k:Int):=by rw [hw1]; exact hnk
   have HNK:=Lib.hid hnk
   clear hr hk hx hy hw1 hnk
   go_enter Tryz.func108,Tryz.ntmps108
   go_wp2_with fail
   refine (made_any false HWW.out (by decide)).mono ?_
   rintro e w1 ⟨rfl,hb⟩
   rw [HS.out]
   obtain ⟨p,s,hps⟩:∃ p s,wholeV n=.agg #[.bool p,.string s]:=⟨_,_,rfl⟩
   have HPS:=Lib.hid hps
   rw [hps]
   have HC2:=Lib.hid (HC1.out.on hb)
   have HB2:=Lib.hid (HB1.out.trans (hb.mono HB1.out.size))
   have hp0:=HC2.out.cell 0 _ rfl
   have hp1:=HC2.out.cell 1 _ rfl
   have hf:=HC2.out.frozen
   clear hps hb
   go_wp2
   have hk:=(HC2.out.set 0 (.bool p)).set 1 (.string s)
   have k0:=hk.cell 0 _ rfl
   have k1:=hk.cell 1 _ rfl
   exact bodyPost_ret (v:=.agg #[.bool p,.string s]) (by simp [results,Tryz.results108,go_sem,k0,k1]) rfl ⟨by rw [HPS.out],(HB2.out.setCell (Nat.le_refl _) _).setCell (Nat.le_refl _) _⟩
end Go.Proofs.YtbepimnlleilfaaGreat
end
section
namespace Go.Proofs.YtbepimnlleilfaaGreat
open Go.Proofs.YtbepimnlleilfaaGreat.Y
open Go Go.RowKit
set_option maxRecDepth 100000
theorem ieq_self (a:Int):Value.bool (a==a)=.bool true:=by simp
def ansB (q:Rat):Bool:=if Fit q then decide (q.num<0) else false
def ansS (q:Rat):ByteArray:=if Fit q then mag q.num.natAbs else ⟨#[]⟩
def ansD (q:Rat):ByteArray:=if Fit q then mag q.den else ⟨#[]⟩
def rawV (b c:Bool) (s t:ByteArray):Value:=.agg #[.bool b,.string s,.bool c,.string t]
theorem fitF (x:Rat) (h:Fit x):IsFrac (rawV (decide (x.num<0)) false (mag x.num.natAbs) (mag x.den)):=⟨x,h,rfl⟩
theorem eq_false_of {r:Bool} {P:Prop} (h:r=true↔P) (k:¬ P):r=false:=by
 cases r
 · rfl
 · exact absurd (h.1 rfl) k
theorem iff_false_of {P:Prop} (k:¬ P):false=true↔P:=⟨fun h=>Bool.noConfusion h,fun h=>absurd h k⟩
theorem iff_true_of {P:Prop} (k:P):true=true↔P:=⟨fun _=>k,fun _=>rfl⟩
def fC (x:Rat):List Lf:=[.b (.v (.bool (decide (x.num<0)))),.b (.v (.string (mag x.num.natAbs))),.b (.v (.bool false)),.b (.v (.string (mag x.den)))]
section
variable {n m:Int}
theorem rneg_w {w:World} {p:Bool} {s:ByteArray} {n:Int} (h:(Value.agg #[.bool p,.string s])=wholeV n) :
  Calls Tryz.prog 281 #[.agg #[.bool p,.string s]] w fun e w'=>e=.returned (wholeV (-n))∧Below w.heap.size w w':=by
 refine (rneg_any p s n (whole_cells h).1 (whole_cells h).2).mono ?_
 rintro e w' ⟨a,u,rfl,ha,hu,hb⟩
 exact ⟨by rw [ha.out,hu.out]; rfl,hb⟩
theorem rgcd_w {w0:World} {p q:Bool} {s t:ByteArray} {n m:Int} (h:(Value.agg #[.bool p,.string s])=wholeV n) (k:(Value.agg #[.bool q,.string t])=wholeV m) (h1:sz n≤1000000000) (h2:sz m≤1000000000) :
  Calls Tryz.prog 256 #[.agg #[.bool p,.string s],.agg #[.bool q,.string t]] w0 fun e w'=>e=.returned (wholeV ((Nat.gcd n.natAbs m.natAbs:Nat):Int))∧Below w0.heap.size w0 w':=by
 refine (rgcd_any p q s t n.natAbs m.natAbs (whole_cells h).2 (whole_cells k).2 (sz_of h h1) (sz_of k h2)).mono ?_
 rintro e w' ⟨g,rfl,hg,hb⟩
 refine ⟨?_,hb⟩
 unfold wholeV
 rw [hg.out,Int.natAbs_natCast,show decide (((Nat.gcd n.natAbs m.natAbs:Nat):Int)<0)=false from decide_eq_false (by omega)]
def eWTimes (hn:sz n≤1000000000) (hm:sz m≤1000000000):Ev Tryz.prog:=.ret 136 Tryz.call136 #[wholeV n,wholeV m] (wholeV (n*m)) (fun w=>rtimes_w rfl rfl hn hm)
def eWPlus (hn:sz n≤1000000000) (hm:sz m≤1000000000):Ev Tryz.prog:=.ret 275 Tryz.call275 #[wholeV n,wholeV m] (wholeV (n+m)) (fun w=>rplus_w rfl rfl hn hm)
def eWNeg (n:Int):Ev Tryz.prog:=.ret 281 Tryz.call281 #[wholeV n] (wholeV (-n)) (fun w=>rneg_w rfl)
def eWSign {k:Int} (hk:n.sign=k):Ev Tryz.prog:=.ret 255 Tryz.call255 #[wholeV n] (.int .i64 k) (fun w=>by rw [← hk]; exact rsign_w rfl)
def eWGcd (hn:sz n≤1000000000) (hm:sz m≤1000000000):Ev Tryz.prog:=.ret 256 Tryz.call256 #[wholeV n,wholeV m] (wholeV ((Nat.gcd n.natAbs m.natAbs:Nat):Int)) (fun w=>rgcd_w rfl rfl hn hm)
def eWOf (n:Int) (hr : -9223372036854775808≤n∧n≤9223372036854775807):Ev Tryz.prog:=.ret 108 Tryz.call108 #[.int .i64 n] (wholeV n) (fun w=>rof_any hr)
def eWFormed (p:Bool) (s:ByteArray) (r:Bool) (hr:r=true↔FormedB p s):Ev Tryz.prog:=.ret 254 Tryz.call254 #[.agg #[.bool p,.string s]] (.bool r) (fun w=>rformed_any p s r hr)
def eFOf (hn:sz n≤1000000000) (hm:sz m≤1000000000) (h0:m≠0):Ev Tryz.prog:=.ret 258 Tryz.call258 #[wholeV n,wholeV m] (fracV (Rat.divInt n m)) (fun w=>r3of_w rfl rfl hn hm h0)
end
theorem run_eqF_cons {P : Program} {w : World} {d : Nat} {xs ys : Array Value} {f : Field} {fs : List Field} {a b : Value} {r : Bool} (hn : decide (f.name = "_") = false) (ha : (part f.type xs f.offset).run P w = .ok a w) (hb : (part f.type ys f.offset).run P w = .ok b w)
  (hr:(Op.equalIn d f.type a b).run P w=.ok r w) {s:Bool} (hs:(Op.eqFields d xs ys fs).run P w=.ok s w):(Op.eqFields d xs ys (f::fs)).run P w=.ok (r&&s) w:=by
 unfold Op.eqFields
 rw [if_pos (of_decide_eq_false hn)]
 simp only [Sem.run_bind,ha,hb,hr,Result.andThen_ok]
 cases r
 · rfl
 · simpa using hs
theorem eqW {w:World} (d:Nat) (b b':Bool) (s s':ByteArray):(Op.equalIn (d+2) 23 (.agg #[.bool b,.string s]) (.agg #[.bool b',.string s'])).run Tryz.prog w=.ok ((b==b')&&((s.toList==s'.toList)&&true)) w:=by
 rw [run_equalIn_agg _ _ _ _ _ (by kernel_rfl) (by kernel_rfl)]
 refine run_eqF_cons (a:=.bool b) (b:=.bool b') (by kernel_rfl) (by kernel_rfl) (by kernel_rfl) (run_equalIn_bool' _ _ _ _ _ (by kernel_rfl)) ?_
 refine run_eqF_cons (a:=.string s) (b:=.string s') (by kernel_rfl) (by kernel_rfl) (by kernel_rfl) (run_equalIn_string _ _ _ _ _ (by kernel_rfl)) ?_
 kernel_rfl
def weq (b b':Bool) (s s':ByteArray):Bool:=(b==b')&&((s.toList==s'.toList)&&true)
def feq (b b':Bool) (s s':ByteArray) (c c':Bool) (t t':ByteArray):Bool:=weq b b' s s'&&(weq c c' t t'&&true)
theorem eqF {w:World} (d:Nat) (b b' c c':Bool) (s s' t t':ByteArray):(Op.equalIn (d+3) 25 (.agg #[.bool b,.string s,.bool c,.string t]) (.agg #[.bool b',.string s',.bool c',.string t'])).run Tryz.prog w=.ok (feq b b' s s' c c' t t') w:=by
 rw [run_equalIn_agg _ _ _ _ _ (by kernel_rfl) (by kernel_rfl)]
 refine run_eqF_cons (a:=.agg #[.bool b,.string s]) (b:=.agg #[.bool b',.string s']) (by kernel_rfl) (by kernel_rfl) (by kernel_rfl) (eqW d _ _ _ _) ?_
 refine run_eqF_cons (a:=.agg #[.bool c,.string t]) (b:=.agg #[.bool c',.string t']) (by kernel_rfl) (by kernel_rfl) (by kernel_rfl) (eqW d _ _ _ _) ?_
 kernel_rfl
structure R4 where
 b:Bool
 s:ByteArray
 c:Bool
 t:ByteArray
def R4.V (x:R4):List Value:=[.bool x.b,.string x.s,.bool x.c,.string x.t]
def R4.eq (x y:R4):Bool:=feq x.b y.b x.s y.s x.c y.c x.t y.t
theorem weq_iff {b b':Bool} {s s':ByteArray}:weq b b' s s'=true↔b=b'∧s=s':=by
 unfold weq
 rw [Bool.and_true,Bool.and_eq_true,beq_iff_eq,beq_iff_eq,toList_inj]
theorem R4.eq_iff {x y:R4}:x.eq y=true↔x=y:=by
 unfold R4.eq feq
 rw [Bool.and_true,Bool.and_eq_true,weq_iff,weq_iff]
 obtain ⟨b,s,c,t⟩:=x
 obtain ⟨b',s',c',t'⟩:=y
 constructor
 · rintro ⟨⟨rfl,rfl⟩,rfl,rfl⟩; rfl
 · intro h; injection h with h1 h2 h3 h4; exact ⟨⟨h1,h2⟩,h3,h4⟩
theorem eqG {w:World} (d:Nat) (x y x' y':R4):(Op.equalIn (d+4) 46 (.agg #[.bool x.b,.string x.s,.bool x.c,.string x.t,.bool y.b,.string y.s,.bool y.c,.string y.t]) (.agg #[.bool x'.b,.string x'.s,.bool x'.c,.string x'.t,.bool y'.b,.string y'.s,.bool y'.c,.string y'.t])).run Tryz.prog w=.ok (x.eq x'&&(y.eq y'&&true)) w:=by
 rw [run_equalIn_agg _ _ _ _ _ (by kernel_rfl) (by kernel_rfl)]
 refine run_eqF_cons (a:=.agg #[.bool x.b,.string x.s,.bool x.c,.string x.t]) (b:=.agg #[.bool x'.b,.string x'.s,.bool x'.c,.string x'.t]) (by kernel_rfl) (by kernel_rfl) (by kernel_rfl) (eqF d _ _ _ _ _ _ _ _) ?_
 refine run_eqF_cons (a:=.agg #[.bool y.b,.string y.s,.bool y.c,.string y.t]) (b:=.agg #[.bool y'.b,.string y'.s,.bool y'.c,.string y'.t]) (by kernel_rfl) (by kernel_rfl) (by kernel_rfl) (eqF d _ _ _ _ _ _ _ _) ?_
 kernel_rfl
theorem eqP {w:World} (d:Nat) (i i':Bool) (x y x' y':R4):(Op.equalIn (d+5) 61 (.agg #[.bool i,.bool x.b,.string x.s,.bool x.c,.string x.t,.bool y.b,.string y.s,.bool y.c,.string y.t]) (.agg #[.bool i',.bool x'.b,.string x'.s,.bool x'.c,.string x'.t,.bool y'.b,.string y'.s,.bool y'.c,.string y'.t])).run Tryz.prog w=.ok ((i==i')&&((x.eq x'&&(y.eq y'&&true))&&true)) w:=by
 rw [run_equalIn_agg _ _ _ _ _ (by kernel_rfl) (by kernel_rfl)]
 refine run_eqF_cons (a:=.bool i) (b:=.bool i') (by kernel_rfl) (by kernel_rfl) (by kernel_rfl) (run_equalIn_bool' _ _ _ _ _ (by kernel_rfl)) ?_
 refine run_eqF_cons (a:=.agg #[.bool x.b,.string x.s,.bool x.c,.string x.t,.bool y.b,.string y.s,.bool y.c,.string y.t]) (b:=.agg #[.bool x'.b,.string x'.s,.bool x'.c,.string x'.t,.bool y'.b,.string y'.s,.bool y'.c,.string y'.t]) (by kernel_rfl) (by kernel_rfl) (by kernel_rfl) (eqG d _ _ _ _) ?_
 kernel_rfl
theorem exec_eql {w:World} {t u:TypeId} {xs ys:Array Value} {r:Bool} (hg:Tryz.prog.eqGuardType Tryz.prog.depth t=false) (h:(Op.equalIn 10000 t (.agg xs) (.agg ys)).run Tryz.prog w=.ok r w) (x y:Operand) (ρ:Operand→Value) (o:Oper) (ho:o.op=.binOp .eql t x y u) (hx:ρ x=.agg xs) (hy:ρ y=.agg ys):(execOp ρ o).run Tryz.prog w=.ok (.value (.bool r)) w:=by
 unfold execOp
 rw [ho]
 simp only [hx,hy,Sem.run_bind,run_eqGuard_agg w _ _ _ _ _ _ hg,run_eql_struct,h,Result.andThen_ok]
 rfl
theorem exec_neq {w:World} {t u:TypeId} {xs ys:Array Value} {r:Bool} (hg:Tryz.prog.eqGuardType Tryz.prog.depth t=false) (h:(Op.equalIn 10000 t (.agg xs) (.agg ys)).run Tryz.prog w=.ok r w) (x y:Operand) (ρ:Operand→Value) (o:Oper) (ho:o.op=.binOp .neq t x y u) (hx:ρ x=.agg xs) (hy:ρ y=.agg ys):(execOp ρ o).run Tryz.prog w=.ok (.value (.bool (!r))) w:=by
 unfold execOp
 rw [ho]
 simp only [hx,hy,Sem.run_bind,run_eqGuard_agg w _ _ _ _ _ _ hg,run_neq_struct,h,Result.andThen_ok]
 rfl
def eqEv (t:TypeId) (xs ys:Array Value) (r:Bool) (hg:Tryz.prog.eqGuardType Tryz.prog.depth t=false) (h:∀ w,(Op.equalIn 10000 t (.agg xs) (.agg ys)).run Tryz.prog w=.ok r w):Ev Tryz.prog :=
 .dyn (fun o _ _=>match o.op with
  | .binOp .eql t' _ _ _=>Nat.beq t' t
  | .binOp .neq t' _ _ _=>Nat.beq t' t
  | _=>false) fun o _ _=>match o.op with
  | .binOp .eql _ a b u=>.gen (o.dst.getD 0) (.binOp .eql t a b u) [.agg xs,.agg ys] (.bool r) (fun ρ o w ho hx=>by
    simp only [Op.operands,List.map_cons,List.map_nil,List.cons.injEq] at hx
    exact exec_eql hg (h w) a b ρ o ho hx.1 hx.2.1)
  | .binOp .neq _ a b u=>.gen (o.dst.getD 0) (.binOp .neq t a b u) [.agg xs,.agg ys] (.bool (!r)) (fun ρ o w ho hx=>by
    simp only [Op.operands,List.map_cons,List.map_nil,List.cons.injEq] at hx
    exact exec_neq hg (h w) a b ρ o ho hx.1 hx.2.1)
  | _=>.eqv 0 undef undef rfl
def eqEvP (i i':Bool) (x y x' y':R4) (r:Bool) (h:((i==i')&&((x.eq x'&&(y.eq y'&&true))&&true))=r):Ev Tryz.prog :=
 eqEv 61 #[.bool i,.bool x.b,.string x.s,.bool x.c,.string x.t,.bool y.b,.string y.s,.bool y.c,.string y.t] #[.bool i',.bool x'.b,.string x'.s,.bool x'.c,.string x'.t,.bool y'.b,.string y'.s,.bool y'.c,.string y'.t] r (by kernel_rfl) (fun w=>by rw [← h]; exact eqP 9995 i i' x y x' y')
def eqEvW (b b':Bool) (s s':ByteArray) (r:Bool) (h:weq b b' s s'=r):Ev Tryz.prog :=
 eqEv 23 #[.bool b,.string s] #[.bool b',.string s'] r (by kernel_rfl) (fun w=>by rw [← h]; exact eqW 9998 ..)
def eqEvG (x y x' y':R4) (r:Bool) (h:(x.eq x'&&(y.eq y'&&true))=r):Ev Tryz.prog :=
 eqEv 46 #[.bool x.b,.string x.s,.bool x.c,.string x.t,.bool y.b,.string y.s,.bool y.c,.string y.t] #[.bool x'.b,.string x'.s,.bool x'.c,.string x'.t,.bool y'.b,.string y'.s,.bool y'.c,.string y'.t] r (by kernel_rfl) (fun w=>by rw [← h]; exact eqG 9996 ..)
def Y.Spec.conv {P:Program} (S:Y.Spec P) (res:SV) (h:S.res=res):Y.Spec P:=⟨S.f,S.en,S.args,S.obs,res,S.news,fun β w hh=>h▸S.ok β w hh,h▸S.closed⟩
abbrev K3:Nat:=100000000
theorem fres {x y:Rat} (h:x=y):SV.one (.a (fC x))=.one (.a (fC y)):=by rw [h]
section
variable {x y:Rat}
def sR3Plus (hx:Sz K3 x) (hy:Sz K3 y):Y.Spec Tryz.prog :=
 (Y.Spec.auto Tryz.call132 [.one (.a (fC x)),.one (.a (fC y))] [] (.one (.a (fC (Rat.divInt (x.num*y.den+y.num*x.den) (x.den*y.den))))) []
  [eWTimes (Nat.le_trans hx.1 (by decide)) (Nat.le_trans hy.2 (by decide)),eWTimes (Nat.le_trans hy.1 (by decide)) (Nat.le_trans hx.2 (by decide)),
   eWPlus (Nat.le_trans (sz_mul hx.1 hy.2) (by decide)) (Nat.le_trans (sz_mul hy.1 hx.2) (by decide)),eWTimes (Nat.le_trans hx.2 (by decide)) (Nat.le_trans hy.2 (by decide)),
   eFOf (Nat.le_trans (sz_add (sz_mul hx.1 hy.2) (sz_mul hy.1 hx.2)) (by decide)) (Nat.le_trans (sz_mul hx.2 hy.2) (by decide)) (Int.mul_ne_zero (den_ne x) (den_ne y))]
  [(3,9)] 400 Tryz.func132 hmA (by kernel_rfl) (fun β=>by kernel_rfl)).conv (.one (.a (fC (x+y)))) (fres (divInt_Add x y))
def sR3Neg (x:Rat):Y.Spec Tryz.prog :=
 Y.Spec.auto Tryz.call138 [.one (.a (fC x))] [] (.one (.a (fC (-x)))) [] [eWNeg x.num] [(1,6)] 400 Tryz.func138 hmA (by kernel_rfl) (fun β=>by kernel_rfl)
def sR3Minus (hx:Sz K3 x) (hy:Sz K3 y):Y.Spec Tryz.prog :=
 (Y.Spec.auto Tryz.call112 [.one (.a (fC x)),.one (.a (fC y))] [] (.one (.a (fC (x + -y)))) []
  [(sR3Neg y).e,(sR3Plus hx hy.neg).e] [(1,4)] 400 Tryz.func112 hmA (by kernel_rfl) (fun β=>by kernel_rfl)).conv (.one (.a (fC (x-y)))) (fres (Rat.sub_eq_add_neg x y).symm)
def sR3Times (hx:Sz K3 x) (hy:Sz K3 y):Y.Spec Tryz.prog :=
 (Y.Spec.auto Tryz.call180 [.one (.a (fC x)),.one (.a (fC y))] [] (.one (.a (fC (Rat.divInt (x.num*y.num) ((x.den:Int)*y.den))))) []
  [eWTimes (Nat.le_trans hx.1 (by decide)) (Nat.le_trans hy.1 (by decide)),eWTimes (Nat.le_trans hx.2 (by decide)) (Nat.le_trans hy.2 (by decide)),
   eFOf (Nat.le_trans (sz_mul hx.1 hy.1) (by decide)) (Nat.le_trans (sz_mul hx.2 hy.2) (by decide)) (Int.mul_ne_zero (den_ne x) (den_ne y))]
  [(1,11)] 400 Tryz.func180 hmA (by kernel_rfl) (fun β=>by kernel_rfl)).conv (.one (.a (fC (x*y)))) (fres (divInt_mul x y))
def sR3Over (hx:Sz K3 x) (hy:Sz K3 y) (h0:y≠0):Y.Spec Tryz.prog :=
 (Y.Spec.auto Tryz.call115 [.one (.a (fC x)),.one (.a (fC y))] [] (.one (.a (fC (Rat.divInt (x.num*(y.den:Int)) ((x.den:Int)*y.num))))) []
  [eWTimes (Nat.le_trans hx.1 (by decide)) (Nat.le_trans hy.2 (by decide)),eWTimes (Nat.le_trans hx.2 (by decide)) (Nat.le_trans hy.1 (by decide)),
   eFOf (Nat.le_trans (sz_mul hx.1 hy.2) (by decide)) (Nat.le_trans (sz_mul hx.2 hy.1) (by decide)) (Int.mul_ne_zero (den_ne x) fun e=>h0 (Rat.num_eq_zero.1 e))]
  [(1,11)] 400 Tryz.func115 hmA (by kernel_rfl) (fun β=>by kernel_rfl)).conv (.one (.a (fC (x/y)))) (fres (divInt_quo x y))
def sR3Sign {k:Int} (hk:x.num.sign=k):Y.Spec Tryz.prog :=
 Y.Spec.auto Tryz.call114 [.one (.a (fC x))] [] (.one (.c (.b (.v (.int .i64 k))))) [] [eWSign hk] [] 400 Tryz.func114 hmA (by kernel_rfl) (fun β=>by kernel_rfl)
end
theorem divInt_one (n:Int):(Rat.divInt n 1).num=n∧(Rat.divInt n 1).den=1:=by
 obtain ⟨_,_,_,h4,h5⟩:=divInt_parts n 1 (by decide) 1 (by rw [if_neg (by decide),show (1:Int).natAbs=1 from rfl,Nat.gcd_one_right]; rfl)
 rw [Int.ediv_one] at h4 h5
 exact ⟨h4,by omega⟩
theorem fC_int (n:Int):fC (Rat.divInt n 1)=[.b (.v (.bool (decide (n<0)))),.b (.v (.string (mag n.natAbs))),.b (.v (.bool false)),.b (.v (.string (mag 1)))]:=by
 unfold fC
 rw [(divInt_one n).1,(divInt_one n).2]
def sR3Int (n:Int) (hr : -9223372036854775808≤n∧n≤9223372036854775807):Y.Spec Tryz.prog :=
 Y.Spec.conv (Y.Spec.auto Tryz.call116 [.one (.c (.b (.v (.int .i64 n))))] [] (.one (.a [.b (.v (.bool (decide (n<0)))),.b (.v (.string (mag n.natAbs))),.b (.v (.bool false)),.b (.v (.string (mag 1)))])) []
  [eWOf n hr,eWOf 1 (by decide)] [] 400 Tryz.func116 hmA (by kernel_rfl) (fun β=>by kernel_rfl)) (.one (.a (fC (Rat.divInt n 1)))) (congrArg (fun l=>SV.one (.a l)) (fC_int n).symm)
def eFFits (b c:Bool) (s t:ByteArray) (r:Bool) (hr:r=true↔s.size≤1024∧t.size≤1024):Ev Tryz.prog:=.ret 109 Tryz.call109 #[rawV b c s t] (.bool r) (fun w=>(r3fits_any b c s t).mono fun e w' ⟨r',he,hr',hb⟩=>⟨by rw [he,Bool.eq_iff_iff.2 (hr'.trans hr.symm)],hb⟩)
def eFFit {x:Rat} {r:Bool} (hr:r=true↔Fit x):Ev Tryz.prog:=eFFits (decide (x.num<0)) false (mag x.num.natAbs) (mag x.den) r hr
def FracFormed (b c:Bool) (s t:ByteArray):Prop:=FormedB b s∧FormedB c t∧0<numOf c t∧Nat.gcd (numOf b s).natAbs (numOf c t).natAbs=1
theorem formed_cells {p:Bool} {s:ByteArray} (h:FormedB p s) {k:Nat} (hk:s.size≤k):∃ n:Int,p=decide (n<0)∧s=mag n.natAbs∧sz n≤k∧numOf p s=n:=by
 obtain ⟨h1,h2⟩:=formed_num h
 refine ⟨numOf p s,h1.symm,h2.symm,?_,rfl⟩
 unfold sz
 rw [h2]
 exact hk
theorem sign_pos {n:Int} {r:Bool} (h:decide (0<n)=r):Value.bool (decide (n.sign≤0))=.bool (!r):=by
 rw [← h]
 by_cases k:0<n
 · rw [decide_eq_true k,Int.sign_eq_one_of_pos k]; rfl
 · have:n.sign≤0:=by
    rcases Int.lt_trichotomy n 0 with a | a | a
    · rw [Int.sign_eq_neg_one_of_neg a]; decide
    · rw [a]; decide
    · exact absurd a k
   rw [decide_eq_false k,decide_eq_true this]; rfl
theorem formed_ok (b c:Bool) (s t:ByteArray) (h1:s.size≤1000000000) (h2:t.size≤1000000000) (r:Bool) (hr:r=true↔FracFormed b c s t) (β:Env) (w:World) (hh:∀ (k:Nat) (t:Thing),([]:List Thing)[k]?=some t→t.D w (β k)) :
  Calls Tryz.prog 110 (([SV.one (.a [.b (.v (.bool b)),.b (.v (.string s)),.b (.v (.bool c)),.b (.v (.string t))])]:List SV).map (SV.den β)).toArray w fun e w'=>∃ xs:List Pl,freshS β w ([]:List Thing).length xs∧e=.returned ((SV.one (.c (.b (.v (.bool r))))).den (extE β ([]:List Thing).length xs))∧newHold w' [] xs∧Below w.heap.size w w':=by
 by_cases q1:FormedB b s
 rotate_left
 · obtain rfl:=eq_false_of hr fun h=>q1 h.1
   exact spec_auto (evs:=[eWFormed b s false (iff_false_of q1)]) (Ns:=[]) (m:=400) Tryz.func110 hmA (fun β=>by kernel_rfl) (by kernel_rfl) β w hh
 by_cases q2:FormedB c t
 rotate_left
 · obtain rfl:=eq_false_of hr fun h=>q2 h.2.1
   exact spec_auto (evs:=[eWFormed b s true (iff_true_of q1),eWFormed c t false (iff_false_of q2)]) (Ns:=[]) (m:=400) Tryz.func110 hmA (fun β=>by kernel_rfl) (by kernel_rfl) β w hh
 obtain ⟨n,rfl,rfl,e1,e2⟩:=formed_cells q1 h1
 obtain ⟨m,rfl,rfl,e3,e4⟩:=formed_cells q2 h2
 unfold FracFormed at hr
 rw [e2,e4] at hr
 cases q3:decide (0<m) with
 | false =>
  obtain rfl:=eq_false_of hr fun h=>of_decide_eq_false q3 h.2.2.1
  exact spec_auto (evs:=[eWFormed _ _ true (iff_true_of q1),eWFormed _ _ true (iff_true_of q2),eWSign (n:=m) rfl,.eqv 17 (.bool (decide (m.sign≤0))) (.bool true) (sign_pos q3)]) (Ns:=[]) (m:=400) Tryz.func110 hmA (fun β=>by kernel_rfl) (by kernel_rfl) β w hh
 | true =>
  have hb:((decide (((Nat.gcd n.natAbs m.natAbs:Nat):Int)<0)==decide ((1:Int)<0))&&(((mag (((Nat.gcd n.natAbs m.natAbs:Nat):Int)).natAbs).toList==(mag (1:Int).natAbs).toList)&&true))=r:=by
   rw [Bool.eq_iff_iff,hr]
   show weq _ _ _ _=true↔_
   rw [weq_iff]
   constructor
   · rintro ⟨_,h⟩
     have:=mag_inj h
     rw [Int.natAbs_natCast] at this
     exact ⟨q1,q2,of_decide_eq_true q3,this⟩
   · rintro ⟨_,_,_,h⟩
     rw [h]
     exact ⟨rfl,rfl⟩
  exact spec_auto (evs:=[eWFormed _ _ true (iff_true_of q1),eWFormed _ _ true (iff_true_of q2),eWSign (n:=m) rfl,.eqv 17 (.bool (decide (m.sign≤0))) (.bool false) (sign_pos q3),eWGcd (Nat.le_trans e1 (by decide)) (Nat.le_trans e3 (by decide)),eWOf 1 (by decide),
   eqEvW _ _ _ _ r hb]) (Ns:=[]) (m:=400) Tryz.func110 hmA (fun β=>by kernel_rfl) (by kernel_rfl) β w hh
def sR3Formed (b c:Bool) (s t:ByteArray) (h1:s.size≤1000000000) (h2:t.size≤1000000000) (r:Bool) (hr:r=true↔FracFormed b c s t):Y.Spec Tryz.prog :=
 ⟨110,Tryz.call110,[.one (.a [.b (.v (.bool b)),.b (.v (.string s)),.b (.v (.bool c)),.b (.v (.string t))])],[],.one (.c (.b (.v (.bool r)))),[],formed_ok b c s t h1 h2 r hr,by kernel_rfl⟩
theorem may3_ok (b c:Bool) (s t:ByteArray) (r:Bool) (hr:r=true↔IsFrac (rawV b c s t)) (β:Env) (w:World) (hh:∀ (k:Nat) (t:Thing),([]:List Thing)[k]?=some t→t.D w (β k)) :
  Calls Tryz.prog 16 (([SV.one (.a [.b (.v (.bool b)),.b (.v (.string s)),.b (.v (.bool c)),.b (.v (.string t))])]:List SV).map (SV.den β)).toArray w fun e w'=>∃ xs:List Pl,freshS β w ([]:List Thing).length xs∧e=.returned ((SV.one (.c (.b (.v (.bool r))))).den (extE β ([]:List Thing).length xs))∧newHold w' [] xs∧Below w.heap.size w w':=by
 unfold rawV at hr
 rw [isFrac_doc] at hr
 by_cases f1:s.size≤1024∧t.size≤1024
 · have hr2:r=true↔FracFormed b c s t:=hr.trans ⟨fun h=>h.2,fun h=>⟨f1,h⟩⟩
   cases r
   · exact spec_auto (evs:=[eFFits b c s t true (iff_true_of f1),(sR3Formed b c s t (Nat.le_trans f1.1 (by decide)) (Nat.le_trans f1.2 (by decide)) false hr2).e]) (Ns:=[]) (m:=400) Tryz.func16 hmA (fun β=>by kernel_rfl) (by kernel_rfl) β w hh
   · exact spec_auto (evs:=[eFFits b c s t true (iff_true_of f1),(sR3Formed b c s t (Nat.le_trans f1.1 (by decide)) (Nat.le_trans f1.2 (by decide)) true hr2).e]) (Ns:=[]) (m:=400) Tryz.func16 hmA (fun β=>by kernel_rfl) (by kernel_rfl) β w hh
 · obtain rfl:=eq_false_of hr fun h=>f1 h.1
   exact spec_auto (evs:=[eFFits b c s t false (iff_false_of f1)]) (Ns:=[]) (m:=400) Tryz.func16 hmA (fun β=>by kernel_rfl) (by kernel_rfl) β w hh
def sR3May (b c:Bool) (s t:ByteArray) (r:Bool) (hr:r=true↔IsFrac (rawV b c s t)):Y.Spec Tryz.prog :=
 ⟨16,Tryz.call16,[.one (.a [.b (.v (.bool b)),.b (.v (.string s)),.b (.v (.bool c)),.b (.v (.string t))])],[],.one (.c (.b (.v (.bool r)))),[],may3_ok b c s t r hr,by kernel_rfl⟩
abbrev KE:Nat:=10000000
abbrev KM:Nat:=100000000
theorem sign_zero (x:Rat):(Value.bool (x.num.sign==0))=.bool (decide (x=0)):=by
 congr 1
 rw [Bool.eq_iff_iff,beq_iff_eq,decide_eq_true_iff,Int.sign_eq_zero_iff_zero,Rat.num_eq_zero]
theorem sign_lit {x:Rat} {b:Bool} (h:decide (x=0)=b):(Value.bool (x.num.sign==0))=.bool b:=by rw [sign_zero,h]
theorem exformed_any {w:World} (p:Bool) (s:ByteArray) (r:Bool) (hr:r=true↔FormedB p s) :
  Calls Tryz.prog 355 #[.agg #[.bool p,.string s]] w fun e w'=>e=.returned (.bool r)∧Below w.heap.size w w':=by
 have HB:=Lib.hid (below_new w (.cells #[.bool p,.string s] 23))
 have HR:=Lib.hid hr
 clear hr
 by_cases h0:s.size=0
 · obtain rfl:=empty_data h0
   have HQ:Hid (r=!p):=by
    have h1:=HR.out
    unfold FormedB at h1
    cases p<;>cases r<;>simp_all [Hid]
   clear h0
   go_enter Tryz.func355,Tryz.ntmps355
   go_wp2
   go_ret
   exact ⟨by rw [HQ.out]; rfl,HB.out⟩
 · obtain ⟨hE,hE2⟩:=toList_some h0
   have hp:0<s.size:=by omega
   obtain ⟨t,ht⟩:∃ t,t=head s:=⟨_,rfl⟩
   have ht2:s[0].toNat=t:=by rw [ht]; exact head_eq hp
   have HQ:Hid (r=true↔t≠0):=by
    have h1:=HR.out
    unfold FormedB at h1
    rw [← ht] at h1
    exact ⟨fun h=>(h1.1 h).elim (fun k=>absurd k.1 h0) (fun k=>k.2),fun h=>h1.2 (.inr ⟨h0,h⟩)⟩
   clear ht
   by_cases hz:t=0
   · subst hz
     go_enter Tryz.func355,Tryz.ntmps355
     go_wp2
     go_ret
     refine ⟨?_,HB.out⟩
     cases r
     · rfl
     · exact absurd rfl (HQ.out.1 rfl)
   · have hz1:((t:Int)==0)=false:=by rw [beq_eq_false_iff_ne]; omega
     have hz2:((t:Int) != 0)=true:=by rw [bne_iff_ne]; omega
     go_enter Tryz.func355,Tryz.ntmps355
     go_wp2
     go_ret
     refine ⟨?_,HB.out⟩
     rw [HQ.out.2 hz]
     rfl
theorem exwhole_any {w:World} (b:Bool) (s:ByteArray) (hs:s.size≤4294967296) :
  Calls Tryz.prog 356 #[.agg #[.bool b,.string s]] w fun e w'=>∃ g,e=.returned (.pointer (some ⟨g,0,none⟩))∧w.heap.size≤g∧IntAt w' g 0 (numOf b s)∧Below w.heap.size w w':=by
 have hcv:=fun (w:World)=>run_bytes_of_string (P:=Tryz.prog) w 9 306 5 s Tryz.underlying9 Tryz.underlying306 Tryz.underlying5
 have HS:=Lib.hid hs
 have HB:=Lib.hid (below_new w (.cells #[.bool b,.string s] 23))
 have HX:=Lib.hid (BoxAt.new w #[.bool b,.string s] 23)
 clear hs
 go_enter Tryz.func356,Tryz.ntmps356
 go_wp2_with fail
 generalize hW2:(w.alloc (.cells #[.bool b,.string s] 23)).alloc (.cells #[.bool false,.slice none 0 0] 161)=W2
 have hi:IntAt W2 (w.heap.size+1) 0 0:=by rw [← hW2]; exact IntAt.new_at (size_alloc _ _).symm
 have hx:BoxAt W2 w.heap.size #[.bool b,.string s] 23:=by rw [← hW2]; exact HX.out.on (below_new _ _)
 have hb:Below w.heap.size w W2:=by rw [← hW2]; exact HB.out.trans ((below_new _ _).mono (by simp))
 have hsz:w.heap.size+1+1=W2.heap.size:=by rw [← hW2]; simp
 have hby:=byt_row (W:=W2) s (grownCap W2 s.size 0 5) (grownCap W2 s.size 0 5) (w.heap.size+1+1) ((bytesRow s (grownCap W2 s.size 0 5)).size,(bytesRow s (grownCap W2 s.size 0 5)).size+1) hsz
 have hbl:=below_row W2 (bytesRow s (grownCap W2 s.size 0 5)) 5 ((bytesRow s (grownCap W2 s.size 0 5)).size,(bytesRow s (grownCap W2 s.size 0 5)).size+1)
 clear hW2
 generalize grownCap W2 s.size 0 5=c at hby hbl ⊢
 generalize (W2.alloc (.cells (bytesRow s c) 5 ((bytesRow s c).size,(bytesRow s c).size+1))).drew=W3 at hby hbl ⊢
 refine (SetBytes_any (hi.on hbl).slot hby HS.out).mono ?_
 rintro e w1 ⟨rfl,h1,h2⟩
 rw [List.reverse_reverse] at h1
 have HX1:=Lib.hid (hx.on hbl)
 have HB1:=Lib.hid (hb.trans (hbl.mono hb.size))
 have HI:=Lib.hid h1
 have HT:=Lib.hid (h2.below (B:=w.heap.size+1) (Nat.le_refl _) (by have:=hbl.size; omega))
 have hc0:w1.cell? ⟨w.heap.size,0,none⟩=some (.bool b):=by rw [HT.out.cell (by simp)]; exact HX1.out.cell 0 _ rfl
 have hc1:w1.cell? ⟨w.heap.size,1,none⟩=some (.string s):=by rw [HT.out.cell (by simp)]; exact HX1.out.cell 1 _ rfl
 have HBB:=Lib.hid (HB1.out.trans (HT.out.mono (by omega)))
 clear h1 h2 hi hx hb hsz hby hbl
 cases b
 · go_wp2
   go_ret
   refine ⟨_,rfl,by omega,?_,HBB.out⟩
   have:=HI.out
   simpa [numOf,sg,num] using this
 · go_wp2_with fail
   refine (neg_any HI.out.slot HI.out).mono ?_
   rintro e w2 ⟨rfl,h1,h2⟩
   have H1:=Lib.hid h1
   have H2:=Lib.hid (HBB.out.trans (h2.below (by omega) HBB.out.size))
   clear h1 h2 hc0 hc1
   go_wp2
   go_ret
   refine ⟨_,rfl,by omega,?_,H2.out⟩
   have:=H1.out
   simpa [numOf,sg,num] using this
theorem formedB_dec (b:Bool) (s:ByteArray):∃ r:Bool,r=true↔FormedB b s:=by
 by_cases h:FormedB b s
 · exact ⟨true,by simp [h]⟩
 · exact ⟨false,by simp [h]⟩
theorem eq_empty {t:ByteArray} {r:Bool} (h:decide (t.size=0)=r):Value.bool (t.toList==(⟨#[]⟩:ByteArray).toList)=.bool r:=by
 rw [← h]
 congr 1
 rw [Bool.eq_iff_iff,beq_iff_eq,decide_eq_true_iff,toList_inj]
 exact ⟨fun h=>by rw [h]; rfl,fun h=>empty_data h⟩
theorem len_gt {t:ByteArray} {r:Bool} (h:decide (1024<t.size)=r):Value.bool (decide ((1024:Int)<(t.size:Int)))=.bool r:=by
 rw [← h]
 congr 1
 rw [Bool.eq_iff_iff,decide_eq_true_iff,decide_eq_true_iff]
 omega
theorem cmp_ne {a b:Int} {r:Bool} (h:decide (a=b)=r):Value.bool (cmpI a b != 0)=.bool (!r):=by
 rw [← h]
 congr 1
 unfold cmpI
 by_cases h1:a<b
 · rw [if_pos h1]; simp; omega
 · by_cases h2:b<a
   · rw [if_neg h1,if_pos h2]; simp; omega
   · rw [if_neg h1,if_neg h2]; simp; omega
set_option maxRecDepth 100000 in
theorem Bytes_at {w:World} {b o:Nat} {n:Int} (hx:IntAt w b o n) (hn:Okn n) :
  Calls Tryz.prog 266 #[.pointer (some ⟨b,o,none⟩)] w fun e w'=>∃ g,e=.returned (.slice (some ⟨g,0,none⟩) (led n.natAbs).length (led n.natAbs).length)∧w.heap.size≤g∧Byt w' (.slice (some ⟨g,0,none⟩) (led n.natAbs).length (led n.natAbs).length) (led n.natAbs).reverse∧Below w.heap.size w w':=by
 have HX:=Lib.hid hx
 have HO:=Lib.hid hn
 clear hx hn
 go_enter Tryz.func266,Tryz.ntmps266
 go_wp2_with fail
 refine (BitLen_any HX.out).mono ?_
 rintro e w1 ⟨L,rfl,hL,hLb,hb1⟩
 obtain ⟨N,hN⟩:∃ N,N=n.natAbs:=⟨_,rfl⟩
 have ho:=HO.out
 unfold Okn at ho
 rw [← hN] at hL ho
 obtain ⟨m,hm⟩:∃ m,m=(L+7)/8:=⟨_,rfl⟩
 have HM:Hid ((led N).length=m):=by rw [hm]; exact led_len_bits N L hL.1 hL.2
 have hmi:((L:Int)+7)/8=(m:Int):=by omega
 have hLL:=hL.le (by have:=dig_lt N; rw [p32] at this; exact this)
 have hmb:m≤17179869185:=by omega
 have HN:=Lib.hid hN
 have HB1:=Lib.hid hb1
 have HS1:Hid (w.heap.size≤w1.heap.size):=hb1.size
 clear hL hm hb1 hN hLL ho
 go_wp2_with (at_make; refine wpList_make_bytes rfl _ _ rfl _ _ _ _ m m rfl rfl (by omega) (by omega) (Nat.le_refl _) (by omega) ?_)
 intro w2 hbuf hb2 hz2
 have HB2:=Lib.hid hz2
 clear hz2
 go_wp2
 go_loopw [14] (fun i wr=>∃ (k:Nat),k≤m∧i=.int .i64 (k:Int)∧BBuf wr w1.heap.size (List.replicate (m-k) 0++(led N).reverse.drop (m-k))∧Below w1.heap.size w1 wr) (fun i _=>m-(intOf i).toNat)
 case atStart=>exact ⟨0,by omega,rfl,by rw [Nat.sub_zero,List.drop_of_length_le (by rw [List.length_reverse,HM.out]; exact Nat.le_refl _),List.append_nil]; exact hbuf,hb2⟩
 case round =>
  obtain ⟨k,hk,rfl,hbuf',hb'⟩:=hrel
  have hsz:=hb'.size
  have hblt:=hbuf'.lt
  clear hbuf hb2 HB2
  by_cases hk0:k<m
  · have hx:=HX.out.on (HB1.out.trans (hb'.mono HS1.out))
    obtain ⟨A,l,c,h0,h1,h2,hlt⟩:=hx.open_
    rw [← HN.out] at h2
    have hl:=h2.len.1
    obtain ⟨q,hq⟩:∃ q,q=k/4:=⟨_,rfl⟩
    obtain ⟨r,hr⟩:∃ r,r=k % 4:=⟨_,rfl⟩
    obtain ⟨s,hs⟩:∃ s,s=k % 4*8:=⟨_,rfl⟩
    have hql:q<l:=by
     have h3:=led_len_le N (4*l) (by have:=dig_lt N; rw [← hl,p32] at this; rw [p256]; rwa [show 8*(4*l)=32*l by omega])
     have:=HM.out
     omega
    obtain ⟨g,p,rfl,hall⟩:=h2.open_ (by omega)
    have hc:=hall q hql
    obtain ⟨x,hx'⟩:∃ x,x=N/4294967296^q % 4294967296:=⟨_,rfl⟩
    have hx32:x<4294967296:=by rw [hx']; exact Nat.mod_lt _ (by decide)
    replace hc:wr.cell? ⟨g,p+q,none⟩=some (.int .u32 (x:Int)):=by rw [hx',← dig_getD]; exact hc
    obtain ⟨y,hy⟩:∃ y,y=x/2^s:=⟨_,rfl⟩
    have hsh:(x:Int)/2^s=(y:Int):=by rw [hy,Int.natCast_ediv]; simp
    have hyb:y<4294967296:=by rw [hy]; exact Nat.lt_of_le_of_lt (Nat.div_le_self _ _) hx32
    have hbyte:y % 256=N/256^k % 256:=by rw [hy,hx',hq,hs]; exact byte_word N k
    have HBY:=Lib.hid hbyte
    have hqi:(k:Int)/4=(q:Int):=by omega
    have hri:(k:Int) % 4=(r:Int):=by omega
    have hsi:(r:Int)*8=(s:Int):=by omega
    have hs24:s≤24:=by omega
    have hmk2:((m:Int)-1-(k:Int))=((m-1-k:Nat):Int):=by omega
    have hc2:=hbuf'.cell (m-1-k) (by rw [List.length_append,List.length_replicate]; omega)
    have hf:=hbuf'.frozen (m-1-k)
    have HB:=Lib.hid (hbuf'.set (m-1-k) (y % 256) _ (Nat.mod_lt _ (by decide)) rfl)
    have HH:=Lib.hid hb'
    clear hall h0 h2 hx hl hx' hy hbyte hbuf' hb' hq hr hs
    go_wp2
    go_roundw
    case rel =>
     refine ⟨k+1,by omega,by go_num,?_,HH.out.setCell (Nat.le_refl _) _⟩
     have h:=HB.out
     have h2:=led_back N m k HM.out hk0
     rw [← HBY.out] at h2
     rw [h2] at h
     exact h
    case measure=>simp [intOf]; omega
  · obtain rfl:k=m:=by omega
    rw [Nat.sub_self,List.replicate_zero,List.nil_append,List.drop_zero] at hbuf'
    have HV:=Lib.hid (hbuf'.byt (n:=k) (cap:=k) (by rw [List.length_reverse]; exact HM.out))
    clear hbuf'
    go_wp2
    go_ret
    exact ⟨w1.heap.size,by rw [← HN.out,HM.out]; rfl,HS1.out,by rw [← HN.out,HM.out]; exact HV.out,HB1.out.trans (hb'.mono HS1.out)⟩
theorem led_gt {n:Int} {r:Bool} (h:decide (1024<sz n)=r):Value.bool (decide ((1024:Int)<((led n.natAbs).length:Int)))=.bool r:=by
 rw [← h]
 congr 1
 have:sz n=(led n.natAbs).length:=by unfold sz mag; rw [strN_size,List.length_reverse]
 rw [Bool.eq_iff_iff,decide_eq_true_iff,decide_eq_true_iff,this]
 omega
theorem sign_lt {x:Rat}:Value.bool (decide (x.num.sign<0))=.bool (decide (x.num<0)):=by
 congr 1
 rw [Bool.eq_iff_iff,decide_eq_true_iff,decide_eq_true_iff,Int.sign_neg_iff]
inductive Fp where
 | ok (x:Rat) (h:Fit x)
 | no (b c:Bool) (s t:ByteArray) (h:¬ IsFrac (rawV b c s t)) (hs:s.size≤maxLen) (ht:t.size≤maxLen)
theorem fp_all (b c:Bool) (s t:ByteArray):(∃ x,∃ _:Fit x,b=decide (x.num<0)∧s=mag x.num.natAbs∧c=false∧t=mag x.den)∨¬ IsFrac (rawV b c s t):=by
 by_cases h:IsFrac (rawV b c s t)
 · obtain ⟨x,hx,hv⟩:=h
   obtain ⟨h1,h2,h3,h4⟩:=agg4 hv
   exact .inl ⟨x,hx,h1,h2,h3,h4⟩
 · exact .inr h
def Fp.C:Fp→List Lf
 | .ok x _=>[.b (.v (.bool (decide (x.num<0)))),.b (.v (.string (mag x.num.natAbs))),.b (.v (.bool false)),.b (.v (.string (mag x.den)))]
 | .no b c s t _ _ _=>[.b (.v (.bool b)),.b (.v (.string s)),.b (.v (.bool c)),.b (.v (.string t))]
def Fp.B:Fp→Bool
 | .ok ..=>true
 | .no ..=>false
def FitG (z:GQ):Prop:=Fit z.re∧Fit z.im
open Classical in
noncomputable def gaK (z:GQ):Int:=if FitG z then 0 else 4
open Classical in
noncomputable def gaB (z:GQ):Bool:=if FitG z then decide (z.re.num<0) else false
open Classical in
noncomputable def gaS (z:GQ):ByteArray:=if FitG z then mag z.re.num.natAbs else ⟨#[]⟩
open Classical in
noncomputable def gaD (z:GQ):ByteArray:=if FitG z then mag z.re.den else ⟨#[]⟩
open Classical in
noncomputable def gaB' (z:GQ):Bool:=if FitG z then decide (z.im.num<0) else false
open Classical in
noncomputable def gaS' (z:GQ):ByteArray:=if FitG z then mag z.im.num.natAbs else ⟨#[]⟩
open Classical in
noncomputable def gaD' (z:GQ):ByteArray:=if FitG z then mag z.im.den else ⟨#[]⟩
noncomputable def gaC (z:GQ):List Lf:=[.b (.v (.bool (gaB z))),.b (.v (.string (gaS z))),.b (.v (.bool false)),.b (.v (.string (gaD z))),.b (.v (.bool (gaB' z))),.b (.v (.string (gaS' z))),.b (.v (.bool false)),.b (.v (.string (gaD' z)))]
def g0C:List Lf:=[.b (.v (.bool false)),.b (.v (.string ⟨#[]⟩)),.b (.v (.bool false)),.b (.v (.string ⟨#[]⟩)),.b (.v (.bool false)),.b (.v (.string ⟨#[]⟩)),.b (.v (.bool false)),.b (.v (.string ⟨#[]⟩))]
def gC (z:GQ):List Lf:=[.b (.v (.bool (decide (z.re.num<0)))),.b (.v (.string (mag z.re.num.natAbs))),.b (.v (.bool false)),.b (.v (.string (mag z.re.den))),.b (.v (.bool (decide (z.im.num<0)))),.b (.v (.string (mag z.im.num.natAbs))),.b (.v (.bool false)),.b (.v (.string (mag z.im.den)))]
theorem ga_fit {z:GQ} (h:FitG z):gaC z=gC z∧gaK z=0:=by
 unfold gaC gC gaB gaS gaD gaB' gaS' gaD' gaK
 constructor<;>simp only [if_pos h]
theorem ga_not {z:GQ} (h:¬ FitG z):gaC z=g0C∧gaK z=4:=by
 unfold gaC g0C gaB gaS gaD gaB' gaS' gaD' gaK
 constructor<;>simp only [if_neg h]
theorem ansK_ne {x:Rat} {r:Bool} (h:(ansK x != 0)=r):Value.bool (ansK x != 0)=.bool r:=by rw [h]
theorem ansF_fit {x:Rat} (h:Fit x):ansB x=decide (x.num<0)∧ansS x=mag x.num.natAbs∧ansD x=mag x.den∧ansK x=0:=⟨if_pos h,if_pos h,if_pos h,if_pos h⟩
inductive Pt where
 | inf
 | fin (z:GQ)
def PSz (k:Nat):Pt→Prop
 | .inf=>True
 | .fin z=>GSz k z
def byA:Pt→GQ
 | .inf=>gint 1 0
 | .fin z=>z
def byB:Pt→GQ
 | .inf=>gint 0 0
 | .fin _=>gint 1 0
theorem byA_sz {k:Nat} {p:Pt} (h:PSz k p) (hk:1≤k):GSz k (byA p):=by
 cases p
 · exact (GSz.int (by decide) (by decide)).mono hk
 · exact h
theorem byB_sz {k:Nat} {p:Pt} (hk:1≤k):GSz k (byB p):=by
 cases p
 · exact (GSz.int (by decide) (by decide)).mono hk
 · exact (GSz.int (by decide) (by decide)).mono hk
def gacross (p q:Pt):GQ:=gsub (gmul (byA p) (byB q)) (gmul (byB p) (byA q))
theorem gacross_sz {k:Nat} {p q:Pt} (hp:PSz k p) (hq:PSz k q) (hk:1≤k):GSz (k+k+(k+k)+1+(k+k+(k+k)+1)+1) (gacross p q) :=
 ((byA_sz hp hk).mul (byB_sz hk)).sub ((byB_sz hk).mul (byA_sz hq hk))
theorem sz_zero:Sz 1 (0:Rat):=⟨sz_le.2 (by decide),sz_le.2 (by decide)⟩
def g0:GQ:=⟨0,0⟩
theorem g0_sz {k:Nat} (hk:1≤k):GSz k g0:=⟨sz_zero.mono hk,sz_zero.mono hk⟩
structure MQ where
 a:GQ
 b:GQ
 c:GQ
 d:GQ
 t:Bool
structure MSz (k:Nat) (m:MQ):Prop where
 a:GSz k m.a
 b:GSz k m.b
 c:GSz k m.c
 d:GSz k m.d
theorem MSz.mono {i k:Nat} {m:MQ} (h:MSz i m) (hk:i≤k):MSz k m:=⟨h.a.mono hk,h.b.mono hk,h.c.mono hk,h.d.mono hk⟩
def mdet (m:MQ):GQ:=gsub (gmul m.a m.d) (gmul m.b m.c)
def mnormB (m:MQ) (b:Bool):MQ:=⟨gdiv m.a (bif b then m.d else m.c),gdiv m.b (bif b then m.d else m.c),gdiv m.c (bif b then m.d else m.c),gdiv m.d (bif b then m.d else m.c),m.t⟩
abbrev dsz (k:Nat):Nat:=k+k+(k+k)+1+(k+k+(k+k)+1)
theorem MSz.normB {k:Nat} {m:MQ} {b:Bool} (h:MSz k m) (h0:gzero (bif b then m.d else m.c)=false):MSz (dsz k) (mnormB m b):=by
 cases b
 · exact ⟨h.a.div h.c h0,h.b.div h.c h0,h.c.div h.c h0,h.d.div h.c h0⟩
 · exact ⟨h.a.div h.d h0,h.b.div h.d h0,h.c.div h.d h0,h.d.div h.d h0⟩
def mconj (m:MQ) (t:Bool):MQ:=⟨bif t then gconj m.a else m.a,bif t then gconj m.b else m.b,bif t then gconj m.c else m.c,bif t then gconj m.d else m.d,m.t⟩
def mundo0 (m:MQ):MQ:=⟨m.d,gneg m.b,gneg m.c,m.a,m.t⟩
theorem MSz.undo0 {k:Nat} {m:MQ} (h:MSz k m):MSz k (mundo0 m):=⟨h.d,h.b.neg,h.c.neg,h.a⟩
theorem MSz.conj {k:Nat} {m:MQ} (h:MSz k m) (t:Bool):MSz k (mconj m t):=by
 cases t
 · exact ⟨h.a,h.b,h.c,h.d⟩
 · exact ⟨h.a.conj,h.b.conj,h.c.conj,h.d.conj⟩
def mbeh (m n:MQ):MQ:=⟨gadd (gmul m.a (mconj n m.t).a) (gmul m.b (mconj n m.t).c),gadd (gmul m.a (mconj n m.t).b) (gmul m.b (mconj n m.t).d),
 gadd (gmul m.c (mconj n m.t).a) (gmul m.d (mconj n m.t).c),gadd (gmul m.c (mconj n m.t).b) (gmul m.d (mconj n m.t).d),m.t != n.t⟩
abbrev bsz (i j:Nat):Nat:=i+j+(i+j)+1+(i+j+(i+j)+1)+1
theorem MSz.beh {i j:Nat} {m n:MQ} (h:MSz i m) (k:MSz j n):MSz (bsz i j) (mbeh m n) :=
 ⟨(h.a.mul (k.conj _).a).add (h.b.mul (k.conj _).c),(h.a.mul (k.conj _).b).add (h.b.mul (k.conj _).d),(h.c.mul (k.conj _).a).add (h.d.mul (k.conj _).c),(h.c.mul (k.conj _).b).add (h.d.mul (k.conj _).d)⟩
def mchart0 (p q r:Pt):MQ:=⟨gmul (byB p) (gacross q r),gneg (gmul (byA p) (gacross q r)),gmul (byB r) (gacross q p),gneg (gmul (byA r) (gacross q p)),false⟩
abbrev KC:Nat:=100000
theorem chart0_sz {p q r:Pt} (hp:PSz KC p) (hq:PSz KC q) (hr:PSz KC r):MSz KE (mchart0 p q r) :=
 ⟨((byB_sz (k:=KC) (by decide)).mul (gacross_sz hq hr (by decide))).mono (by decide),((byA_sz hp (by decide)).mul (gacross_sz hq hr (by decide))).neg.mono (by decide),
  ((byB_sz (k:=KC) (by decide)).mul (gacross_sz hq hp (by decide))).mono (by decide),((byA_sz hr (by decide)).mul (gacross_sz hq hp (by decide))).neg.mono (by decide)⟩
theorem PSz.mono {i k:Nat} {p:Pt} (h:PSz i p) (hk:i≤k):PSz k p:=by
 cases p
 · trivial
 · exact GSz.mono h hk
theorem gaK_ne {z:GQ} {r:Bool} (h:(gaK z != 0)=r):Value.bool (gaK z != 0)=.bool r:=by rw [h]
theorem gaK_fit {z:GQ} (h:FitG z):(gaK z != 0)=false:=by rw [(ga_fit h).2]; rfl
theorem gaK_not {z:GQ} (h:¬ FitG z):(gaK z != 0)=true:=by rw [(ga_not h).2]; rfl
def FitM (m:MQ):Prop:=FitG m.a∧FitG m.b∧FitG m.c∧FitG m.d
open Classical in
noncomputable def selB (F:Prop) (b:Bool):Bool:=if F then b else false
open Classical in
noncomputable def selS (F:Prop) (s:ByteArray):ByteArray:=if F then s else ⟨#[]⟩
open Classical in
noncomputable def maK (m:MQ):Int:=if FitM m then 0 else 4
noncomputable def gsC (F:Prop) (z:GQ):List Lf:=[.b (.v (.bool (selB F (decide (z.re.num<0))))),.b (.v (.string (selS F (mag z.re.num.natAbs)))),.b (.v (.bool false)),.b (.v (.string (selS F (mag z.re.den)))),.b (.v (.bool (selB F (decide (z.im.num<0))))),.b (.v (.string (selS F (mag z.im.num.natAbs)))),.b (.v (.bool false)),.b (.v (.string (selS F (mag z.im.den))))]
theorem gsC_yes {F:Prop} (h:F) (z:GQ):gsC F z=gC z:=by
 unfold gsC gC selB selS
 simp only [if_pos h]
theorem gsC_no {F:Prop} (h:¬ F) (z:GQ):gsC F z=g0C:=by
 unfold gsC g0C selB selS
 simp only [if_neg h]
noncomputable def maC (m:MQ):List Lf:=gsC (FitM m) m.a++gsC (FitM m) m.b++gsC (FitM m) m.c++gsC (FitM m) m.d++[.b (.v (.bool (selB (FitM m) m.t)))]
theorem maC_yes {m:MQ} (h:FitM m):maC m=gaC m.a++gaC m.b++gaC m.c++gaC m.d++[.b (.v (.bool m.t))]∧maK m=0:=by
 unfold maC
 simp only [gsC_yes h,(ga_fit h.1).1,(ga_fit h.2.1).1,(ga_fit h.2.2.1).1,(ga_fit h.2.2.2).1]
 exact ⟨by rw [show selB (FitM m) m.t=m.t from if_pos h],if_pos h⟩
theorem maC_no {m:MQ} (h:¬ FitM m):maC m=g0C++g0C++g0C++g0C++[.b (.v (.bool false))]∧maK m=4:=by
 unfold maC
 simp only [gsC_no h]
 exact ⟨by rw [show selB (FitM m) m.t=false from if_neg h],if_neg h⟩
noncomputable def paC:Pt→List Lf
 | .inf=>.b (.v (.bool true))::g0C
 | .fin z=>.b (.v (.bool false))::gaC z
noncomputable def paK:Pt→Int
 | .inf=>0
 | .fin z=>gaK z
def mcj (t:Bool) (z:GQ):GQ:=bif t then gconj z else z
theorem mcj_sz {k:Nat} {t:Bool} {z:GQ} (h:GSz k z):GSz k (mcj t z):=by
 cases t
 · exact h
 · exact h.conj
def msN (m:MQ):Pt→GQ
 | .inf=>m.a
 | .fin z=>gadd (gmul m.a (mcj m.t z)) m.b
def msD (m:MQ):Pt→GQ
 | .inf=>m.c
 | .fin z=>gadd (gmul m.c (mcj m.t z)) m.d
abbrev ssz (i j:Nat):Nat:=i+j+(i+j)+1+i+1
theorem msN_sz {i j:Nat} {m:MQ} {p:Pt} (h:MSz i m) (hp:PSz j p):GSz (ssz i j) (msN m p):=by
 cases p
 · exact h.a.mono (by unfold ssz; omega)
 · exact (h.a.mul (mcj_sz hp)).add h.b
theorem msD_sz {i j:Nat} {m:MQ} {p:Pt} (h:MSz i m) (hp:PSz j p):GSz (ssz i j) (msD m p):=by
 cases p
 · exact h.c.mono (by unfold ssz; omega)
 · exact (h.c.mul (mcj_sz hp)).add h.d
def msend (m:MQ) (p:Pt) (b:Bool):Pt:=bif b then .inf else .fin (gdiv (msN m p) (msD m p))
inductive Pp where
 | inf
 | fin (a b:Fp)
 | odd (x y:R4) (h:¬ (x=⟨false,⟨#[]⟩,false,⟨#[]⟩⟩∧y=⟨false,⟨#[]⟩,false,⟨#[]⟩⟩))
def R4.L (x:R4):List Lf:=[.b (.v (.bool x.b)),.b (.v (.string x.s)),.b (.v (.bool x.c)),.b (.v (.string x.t))]
def Pp.C:Pp→List Lf
 | .inf=>.b (.v (.bool true))::g0C
 | .fin a b=>.b (.v (.bool false))::(a.C++b.C)
 | .odd x y _=>.b (.v (.bool true))::(x.L++y.L)
def Pp.B:Pp→Bool
 | .inf=>true
 | .fin a b=>a.B&&b.B
 | .odd ..=>false
def r40:R4:=⟨false,⟨#[]⟩,false,⟨#[]⟩⟩
theorem odd_ne {x y:R4} (h:¬ (x=⟨false,⟨#[]⟩,false,⟨#[]⟩⟩∧y=⟨false,⟨#[]⟩,false,⟨#[]⟩⟩)):((true==true)&&((x.eq r40&&(y.eq r40&&true))&&true))=false:=by
 refine Bool.eq_false_iff.2 fun e=>h ?_
 simp only [Bool.and_true,Bool.and_eq_true,R4.eq_iff] at e
 exact e.2
end Go.Proofs.YtbepimnlleilfaaGreat
end
section
namespace Go.Proofs.YtbepimnlleilfaaGreat.Y
open Go Go.RowKit
set_option maxRecDepth 100000
abbrev lsX (l:List Lf):List Lf:=l
def Spec.ofX {P:Program} (S:Spec P) (ho:S.obs=[]) (hn:S.news=[]):Spec P:=S
def BY (n:Int) (w:World) (g:Pl):Prop:=(∀ c,g.F c↔c=g.b)∧Byt w (.slice (some ⟨g.b,0,none⟩) (led n.natAbs).length (led n.natAbs).length) (led n.natAbs).reverse
theorem by_stable (n:Int):Stable (BY n) :=
 ⟨fun w g ⟨h,k⟩ c hc=>by rw [(h c).1 hc]; exact k.open_.2.2.1,fun w w' g ⟨h,k⟩ hb=>⟨h,k.on hb⟩,
  fun w w' g b o m n ⟨h,k⟩ hs ht hne=>⟨h,by
   obtain ⟨h0,b',cap,cs,t,fr,h1,h2,h3⟩:=k
   have hb:g.b=b':=by injection h1 with h1 _ _; cases Option.some.inj h1; rfl
   subst hb
   exact ⟨h0,g.b,cap,cs,t,fr,h1,by rw [ht.block g.b (heap_some_lt h2) fun e=>hne ((h b).2 e.symm)]; exact h2,h3⟩⟩⟩
def bytT (n:Int):Thing:=thing (BY n) (by_stable n)
theorem extE_s (β:Env) (n a b:Nat) (g:Pl):(SV.one (.c (.b (.s n 0 a b)))).den (extE β n [g])=.slice (some ⟨g.b,0,none⟩) a b:=by
 have:=extE_in (β:=β) (n:=n) (i:=0) (xs:=[g]) rfl
 rw [Nat.add_zero] at this
 simp only [SV.den,SC.den,Lf.den,Lf0.den,this]
def nBytes {n:Int} (hn:sz n≤KB):Ev Tryz.prog:=dyn1 fun k m=>.call 266 Tryz.call266 (fun β=>#[.pointer ((β k).v 0)]) [(k,(intT n).ob)] m (.one (.c (.b (.s m 0 (led n.natAbs).length (led n.natAbs).length)))) [bytT n] (fun β w h=>by
 obtain ⟨a,ha,ka⟩:=needI (n:=n) (k:=k) h (by simp)
 simp only [ha.1]
 refine (Bytes_at ka (okn_sz hn)).mono fun e w' ⟨g,he,h1,h2,h3⟩=>⟨[newPl g],fun x hx c hc=>?_,by rw [he,extE_s]; rfl,⟨⟨fun _=>Iff.rfl,h2⟩,trivial⟩,h3⟩
 obtain rfl:=List.mem_singleton.1 hx
 rw [((newPl_one g).1 c).1 hc]
 exact .inl h1)
def slOf:SV→Nat
 | .one (.c (.b (.s k _ _ _)))=>k
 | _=>0
def rdStr (d t:Nat) (n:Int) (k:Nat):Ev Tryz.prog:=.rd d (.convert 306 9 (.tmp t)) (fun β=>[.slice (some ⟨(β k).b,0,none⟩) (led n.natAbs).length (led n.natAbs).length]) [(k,(bytT n).ob)] 0 (.one (.c (.b (.v (.string (mag n.natAbs)))))) [] (fun β w h ρ o ho hx=>by
 have h1:BY n w (β k):=h (k,(bytT n).ob) (by simp)
 have h2:ρ (.tmp t)=.slice (some ⟨(β k).b,0,none⟩) (led n.natAbs).length (led n.natAbs).length:=by simpa [Op.operands] using hx
 refine ⟨[],w,(fun _ h=>by cases h),?_,trivial,Below.refl _ _⟩
 unfold execOp
 rw [ho]
 simp only [h2]
 have h3:=string_of_byt h1.2
 simp [go_sem,h3]
 rfl)
def dStr (n:Int):Ev Tryz.prog:=.dyn (fun o _ _=>match o.op with
 | .convert a b (.tmp _)=>Nat.beq a 306&&Nat.beq b 9
 | _=>false) fun o xs _=>match o.op with
 | .convert _ _ (.tmp t)=>lit (slOf (xs.getD 0 undefS)) fun k=>rdStr (o.dst.getD 0) t n k
 | _=>.eqv 0 undef undef rfl
theorem frac_ok {x:Rat} (hx:Sz KB x) (β:Env) (w:World) (hh:∀ (k:Nat) (t:Thing),[ratM x][k]?=some t→t.D w (β k)) :
  Calls Tryz.prog 202 (([rV 0]:List SV).map (SV.den β)).toArray w fun e w'=>∃ xs:List Pl,freshS β w 1 xs∧e=.returned ((SV.tup [.a [.b (.v (.bool (ansB x))),.b (.v (.string (ansS x))),.b (.v (.bool false)),.b (.v (.string (ansD x)))],.c (.b (.v (.int .i64 (ansK x))))]).den (extE β 1 xs))∧newHold w' [] xs∧Below w.heap.size w w':=by
 cases h1:decide (1024<sz x.num) with
 | true =>
  have hf:¬ Fit x:=fun h=>by have:=of_decide_eq_true h1; have:=h.1; unfold sz at *; omega
  rw [show ansB x=false from if_neg hf,show ansS x=⟨#[]⟩ from if_neg hf,show ansD x=⟨#[]⟩ from if_neg hf,show ansK x=4 from if_neg hf]
  exact spec_auto (obs:=[ratM x]) (Ns:=[(5,10)]) (m:=400) (evs:=[(sRat x).e,nNum x,nBytes (n:=x.num) (Nat.le_trans hx.1 (by decide)),nDenom x,nBytes (n:=(x.den:Int)) (Nat.le_trans hx.2 (by decide)),.eqv 16 (.bool (decide ((1024:Int)<((led x.num.natAbs).length:Int)))) (.bool true) (led_gt h1)]) Tryz.func202 hmA (fun β=>by kernel_rfl) (by kernel_rfl) β w hh
 | false=>cases h2:decide (1024<sz (x.den:Int)) with
 | true =>
  have hf:¬ Fit x:=fun h=>by have:=of_decide_eq_true h2; have:=h.2; unfold sz at *; rw [Int.natAbs_natCast] at *; omega
  rw [show ansB x=false from if_neg hf,show ansS x=⟨#[]⟩ from if_neg hf,show ansD x=⟨#[]⟩ from if_neg hf,show ansK x=4 from if_neg hf]
  exact spec_auto (obs:=[ratM x]) (Ns:=[(5,10)]) (m:=400) (evs:=[(sRat x).e,nNum x,nBytes (n:=x.num) (Nat.le_trans hx.1 (by decide)),nDenom x,nBytes (n:=(x.den:Int)) (Nat.le_trans hx.2 (by decide)),.eqv 16 (.bool (decide ((1024:Int)<((led x.num.natAbs).length:Int)))) (.bool false) (led_gt h1),.eqv 20 (.bool (decide ((1024:Int)<((led (x.den:Int).natAbs).length:Int)))) (.bool true) (led_gt h2)]) Tryz.func202 hmA (fun β=>by kernel_rfl) (by kernel_rfl) β w hh
 | false =>
  have hf:Fit x:=⟨by have:=of_decide_eq_false h1; unfold sz at *; omega,by have:=of_decide_eq_false h2; unfold sz at *; rw [Int.natAbs_natCast] at *; omega⟩
  rw [show ansB x=decide (x.num<0) from if_pos hf,show ansS x=mag x.num.natAbs from if_pos hf,show ansD x=mag (x.den:Int).natAbs from if_pos hf,show ansK x=0 from if_pos hf]
  exact spec_auto (obs:=[ratM x]) (Ns:=[(5,10)]) (m:=400) (evs:=[(sRat x).e,nNum x,nBytes (n:=x.num) (Nat.le_trans hx.1 (by decide)),nDenom x,nBytes (n:=(x.den:Int)) (Nat.le_trans hx.2 (by decide)),.eqv 16 (.bool (decide ((1024:Int)<((led x.num.natAbs).length:Int)))) (.bool false) (led_gt h1),.eqv 20 (.bool (decide ((1024:Int)<((led (x.den:Int).natAbs).length:Int)))) (.bool false) (led_gt h2),nSign (x:=x) rfl,.eqv 25 (.bool (decide (x.num.sign<0))) (.bool (decide (x.num<0))) sign_lt,dStr x.num,dStr (x.den:Int)]) Tryz.func202 hmA (fun β=>by kernel_rfl) (by kernel_rfl) β w hh
noncomputable def sFrac {x:Rat} (hx:Sz KB x):Spec Tryz.prog :=
 ⟨202,Tryz.call202,[rV 0],[ratM x],(SV.tup [.a [.b (.v (.bool (ansB x))),.b (.v (.string (ansS x))),.b (.v (.bool false)),.b (.v (.string (ansD x)))],.c (.b (.v (.int .i64 (ansK x))))]),[],frac_ok hx,by kernel_rfl⟩
def AN (w:World) (g:Pl):Prop:=∀ c,g.F c→c<w.heap.size
theorem an_stable:Stable AN :=
 ⟨fun w g h=>h,fun w w' g h hb c hc=>Nat.lt_of_lt_of_le (h c hc) hb.size,fun w w' g b o m n h hs ht hne c hc=>Nat.lt_of_lt_of_le (h c hc) (ht.below (B:=0) (Nat.zero_le _) (Nat.zero_le _)).size⟩
def anyT:Thing:=⟨AN,an_stable,0,AN,an_stable,fun _ _ h=>h,true,fun _ _ _ h=>h.elim,true,fun _ _ _ h=>h.elim,false,fun h=>(Bool.noConfusion h),false,fun h=>(Bool.noConfusion h)⟩
theorem an_of {D:World→Pl→Prop} (st:Stable D) {w:World} {g:Pl} (h:D w g):AN w g:=st.lt w g h
def exFormed (b:Bool) (s:ByteArray) (r:Bool) (hr:r=true↔FormedB b s):Ev Tryz.prog:=.ret 355 Tryz.call355 #[.agg #[.bool b,.string s]] _ (fun w=>exformed_any b s r hr)
def exWhole (b:Bool) (s:ByteArray) (hs:s.size≤4294967296) (x:Int) (hx:numOf b s=x):Ev Tryz.prog:=dyn1 fun _ n=>.call 356 Tryz.call356 (fun _=>#[.agg #[.bool b,.string s]]) [] n (.one (.c (.b (.z n 0)))) [intT x] (fun β w _=>one_int (by rw [← hx]; exact exwhole_any b s hs) β n _)
theorem ratNo_ok {b c:Bool} {s t:ByteArray} (h:¬ IsFrac (rawV b c s t)) (β:Env) (w:World) (hh:∀ (k:Nat) (t:Thing),([]:List Thing)[k]?=some t→t.D w (β k)):Calls Tryz.prog 301 (([.one (.a [.b (.v (.bool b)),.b (.v (.string s)),.b (.v (.bool c)),.b (.v (.string t))])]:List SV).map (SV.den β)).toArray w fun e w'=>∃ xs:List Pl,freshS β w 0 xs∧e=.returned ((SV.one (.c (.b (.v (.pointer none))))).den (extE β ([]:List Thing).length xs))∧newHold w' [] xs∧Below w.heap.size w w':=by
 obtain ⟨r1,h1⟩:=formedB_dec b s
 obtain ⟨r2,h2⟩:=formedB_dec c t
 cases r1 with
 | false=>exact spec_ok (args:=[.one (.a [.b (.v (.bool b)),.b (.v (.string s)),.b (.v (.bool c)),.b (.v (.string t))])]) (obs:=[]) (idx:=[]) (Ns:=[]) (m:=400) (evs:=[exFormed b s false h1]) Tryz.func301 hmA (fun β=>by kernel_rfl) (by kernel_rfl) β w hh
 | true=>cases r2 with
 | false=>exact spec_ok (args:=[.one (.a [.b (.v (.bool b)),.b (.v (.string s)),.b (.v (.bool c)),.b (.v (.string t))])]) (obs:=[]) (idx:=[]) (Ns:=[]) (m:=400) (evs:=[exFormed b s true h1,exFormed c t false h2]) Tryz.func301 hmA (fun β=>by kernel_rfl) (by kernel_rfl) β w hh
 | true=>cases c with
 | true=>exact spec_ok (args:=[.one (.a [.b (.v (.bool b)),.b (.v (.string s)),.b (.v (.bool true)),.b (.v (.string t))])]) (obs:=[]) (idx:=[]) (Ns:=[]) (m:=400) (evs:=[exFormed b s true h1,exFormed true t true h2]) Tryz.func301 hmA (fun β=>by kernel_rfl) (by kernel_rfl) β w hh
 | false=>cases h4:decide (t.size=0) with
 | true=>exact spec_ok (args:=[.one (.a [.b (.v (.bool b)),.b (.v (.string s)),.b (.v (.bool false)),.b (.v (.string t))])]) (obs:=[]) (idx:=[]) (Ns:=[]) (m:=400) (evs:=[exFormed b s true h1,exFormed false t true h2,.eqv 25 (.bool (t.toList==(⟨#[]⟩:ByteArray).toList)) (.bool true) (eq_empty h4)]) Tryz.func301 hmA (fun β=>by kernel_rfl) (by kernel_rfl) β w hh
 | false=>cases h5:decide (1024<s.size) with
 | true=>exact spec_ok (args:=[.one (.a [.b (.v (.bool b)),.b (.v (.string s)),.b (.v (.bool false)),.b (.v (.string t))])]) (obs:=[]) (idx:=[]) (Ns:=[]) (m:=400) (evs:=[exFormed b s true h1,exFormed false t true h2,.eqv 25 (.bool (t.toList==(⟨#[]⟩:ByteArray).toList)) (.bool false) (eq_empty h4),.eqv 32 (.bool (decide ((1024:Int)<(s.size:Int)))) (.bool true) (len_gt h5)]) Tryz.func301 hmA (fun β=>by kernel_rfl) (by kernel_rfl) β w hh
 | false=>cases h6:decide (1024<t.size) with
 | true=>exact spec_ok (args:=[.one (.a [.b (.v (.bool b)),.b (.v (.string s)),.b (.v (.bool false)),.b (.v (.string t))])]) (obs:=[]) (idx:=[]) (Ns:=[]) (m:=400) (evs:=[exFormed b s true h1,exFormed false t true h2,.eqv 25 (.bool (t.toList==(⟨#[]⟩:ByteArray).toList)) (.bool false) (eq_empty h4),.eqv 32 (.bool (decide ((1024:Int)<(s.size:Int)))) (.bool false) (len_gt h5),.eqv 39 (.bool (decide ((1024:Int)<(t.size:Int)))) (.bool true) (len_gt h6)]) Tryz.func301 hmA (fun β=>by kernel_rfl) (by kernel_rfl) β w hh
 | false =>
  obtain ⟨n,e1⟩:∃ n,numOf b s=n:=⟨_,rfl⟩
  obtain ⟨d,e2⟩:∃ d,numOf false t=d:=⟨_,rfl⟩
  have l1:s.size≤1024:=by have:=of_decide_eq_false h5; omega
  have l2:t.size≤1024:=by have:=of_decide_eq_false h6; omega
  have l0:=of_decide_eq_false h4
  obtain ⟨f1,f2⟩:=formed_num (h1.1 rfl)
  obtain ⟨f3,f4⟩:=formed_num (h2.1 rfl)
  rw [e1] at f1 f2
  rw [e2] at f3 f4
  have z1:s.size≤4294967296:=by omega
  have z2:t.size≤4294967296:=by omega
  have h0:d≠0:=by
   rintro rfl
   have:sz 0=0:=Nat.le_zero.1 (sz_le.2 (by decide))
   unfold sz at this
   rw [f4] at this
   exact l0 this
  have k1:sz n≤KB:=by unfold sz; rw [f2]; exact Nat.le_trans l1 (by decide)
  have k2:sz d≤KB:=by unfold sz; rw [f4]; exact Nat.le_trans l2 (by decide)
  cases h7:decide ((Rat.divInt n d).num=n) with
  | false=>exact spec_ok (args:=[.one (.a [.b (.v (.bool b)),.b (.v (.string s)),.b (.v (.bool false)),.b (.v (.string t))])]) (obs:=[]) (idx:=[]) (Ns:=[]) (m:=400) (evs:=[exFormed b s true h1,exFormed false t true h2,.eqv 25 (.bool (t.toList==(⟨#[]⟩:ByteArray).toList)) (.bool false) (eq_empty h4),.eqv 32 (.bool (decide ((1024:Int)<(s.size:Int)))) (.bool false) (len_gt h5),.eqv 39 (.bool (decide ((1024:Int)<(t.size:Int)))) (.bool false) (len_gt h6),exWhole b s z1 n e1,exWhole false t z2 d e2,mkR,fSetFrac h0 k1 k2,nNum (Rat.divInt n d),nIntCmp (a:=(Rat.divInt n d).num) (b:=n) rfl,.eqv 55 (.bool (cmpI (Rat.divInt n d).num n != 0)) (.bool true) (cmp_ne h7)]) Tryz.func301 hmA (fun β=>by kernel_rfl) (by kernel_rfl) β w hh
  | true=>cases h8:decide (((Rat.divInt n d).den:Int)=d) with
  | false=>exact spec_ok (args:=[.one (.a [.b (.v (.bool b)),.b (.v (.string s)),.b (.v (.bool false)),.b (.v (.string t))])]) (obs:=[]) (idx:=[]) (Ns:=[]) (m:=400) (evs:=[exFormed b s true h1,exFormed false t true h2,.eqv 25 (.bool (t.toList==(⟨#[]⟩:ByteArray).toList)) (.bool false) (eq_empty h4),.eqv 32 (.bool (decide ((1024:Int)<(s.size:Int)))) (.bool false) (len_gt h5),.eqv 39 (.bool (decide ((1024:Int)<(t.size:Int)))) (.bool false) (len_gt h6),exWhole b s z1 n e1,exWhole false t z2 d e2,mkR,fSetFrac h0 k1 k2,nNum (Rat.divInt n d),nIntCmp (a:=(Rat.divInt n d).num) (b:=n) rfl,.eqv 55 (.bool (cmpI (Rat.divInt n d).num n != 0)) (.bool false) (cmp_ne h7),nDenom (Rat.divInt n d),nIntCmp (a:=((Rat.divInt n d).den:Int)) (b:=d) rfl,.eqv 61 (.bool (cmpI ((Rat.divInt n d).den:Int) d != 0)) (.bool true) (cmp_ne h8)]) Tryz.func301 hmA (fun β=>by kernel_rfl) (by kernel_rfl) β w hh
  | true =>
   refine absurd ?_ h
   refine isFrac_doc.2 ⟨⟨l1,l2⟩,h1.1 rfl,h2.1 rfl,?_,?_⟩
   · rw [e2,← of_decide_eq_true h8]
     exact Int.natCast_pos.2 (Rat.divInt n d).den_pos
   · rw [e1,e2]
     have:=(Rat.divInt n d).reduced
     rw [of_decide_eq_true h7] at this
     have h9:(Rat.divInt n d).den=d.natAbs:=by have:=of_decide_eq_true h8; omega
     rw [h9] at this
     exact this
def sRatNo {b c:Bool} {s t:ByteArray} (h:¬ IsFrac (rawV b c s t)):Spec Tryz.prog :=
 ⟨301,Tryz.call301,[.one (.a [.b (.v (.bool b)),.b (.v (.string s)),.b (.v (.bool c)),.b (.v (.string t))])],[],(SV.one (.c (.b (.v (.pointer none))))),[],ratNo_ok h,by kernel_rfl⟩
theorem ratIn_ok {x:Rat} (hx:Fit x) (β:Env) (w:World) (hh:∀ (k:Nat) (t:Thing),([]:List Thing)[k]?=some t→t.D w (β k)):Calls Tryz.prog 301 (([.one (.a [.b (.v (.bool (decide (x.num<0)))),.b (.v (.string (mag x.num.natAbs))),.b (.v (.bool false)),.b (.v (.string (mag x.den)))])]:List SV).map (SV.den β)).toArray w fun e w'=>∃ xs:List Pl,freshS β w 0 xs∧e=.returned ((SV.one (.c (.b (.z 0 0)))).den (extE β ([]:List Thing).length xs))∧newHold w' [ratT x] xs∧Below w.heap.size w w':=by
 obtain ⟨n,en⟩:∃ n,x.num=n:=⟨_,rfl⟩
 obtain ⟨d,ed⟩:∃ d:Int,(x.den:Int)=d:=⟨_,rfl⟩
 have hxe:x=Rat.divInt n d:=by rw [← en,← ed,Rat.num_divInt_den]
 obtain ⟨b,eb⟩:∃ b,decide (x.num<0)=b:=⟨_,rfl⟩
 obtain ⟨s,es⟩:∃ s,mag x.num.natAbs=s:=⟨_,rfl⟩
 obtain ⟨t,et⟩:∃ t,mag x.den=t:=⟨_,rfl⟩
 have e1:numOf b s=n:=by rw [← eb,← es,← en]; exact numOf_mag x.num
 have e2:numOf false t=d:=by
  have:=numOf_mag (x.den:Int)
  rw [show decide ((x.den:Int)<0)=false by simp,Int.natAbs_natCast] at this
  rw [← et,← ed]; exact this
 obtain ⟨⟨l1,l2⟩,q1,q2,q3,_⟩:=isFrac_doc.1 (fitF x hx)
 rw [eb,es] at q1
 rw [et] at q2 q3
 rw [es] at l1
 rw [et] at l2
 rw [e2] at q3
 have h1:true=true↔FormedB b s:=iff_true_of q1
 have h2:true=true↔FormedB false t:=iff_true_of q2
 have h4:decide (t.size=0)=false:=decide_eq_false fun h=>by
  obtain rfl:=empty_data h
  rw [show numOf false ⟨#[]⟩=0 from rfl] at e2
  omega
 have h5:decide (1024<s.size)=false:=decide_eq_false (by omega)
 have h6:decide (1024<t.size)=false:=decide_eq_false (by omega)
 have z1:s.size≤4294967296:=by omega
 have z2:t.size≤4294967296:=by omega
 have h0:d≠0:=by omega
 have k1:sz n≤KB:=by rw [← en]; unfold sz; rw [es]; exact Nat.le_trans l1 (by decide)
 have k2:sz d≤KB:=by rw [← ed]; unfold sz; rw [Int.natAbs_natCast,et]; exact Nat.le_trans l2 (by decide)
 have h7:decide ((Rat.divInt n d).num=n)=true:=decide_eq_true (by rw [← hxe]; exact en)
 have h8:decide (((Rat.divInt n d).den:Int)=d)=true:=decide_eq_true (by rw [← hxe]; exact ed)
 rw [eb,es,et]
 clear eb es et
 subst hxe
 exact spec_ok (args:=[.one (.a [.b (.v (.bool b)),.b (.v (.string s)),.b (.v (.bool false)),.b (.v (.string t))])]) (obs:=[]) (idx:=[4]) (Ns:=[]) (m:=400) (evs:=[exFormed b s true h1,exFormed false t true h2,.eqv 25 (.bool (t.toList==(⟨#[]⟩:ByteArray).toList)) (.bool false) (eq_empty h4),.eqv 32 (.bool (decide ((1024:Int)<(s.size:Int)))) (.bool false) (len_gt h5),.eqv 39 (.bool (decide ((1024:Int)<(t.size:Int)))) (.bool false) (len_gt h6),exWhole b s z1 n e1,exWhole false t z2 d e2,mkR,fSetFrac h0 k1 k2,nNum (Rat.divInt n d),nIntCmp (a:=(Rat.divInt n d).num) (b:=n) rfl,.eqv 55 (.bool (cmpI (Rat.divInt n d).num n != 0)) (.bool false) (cmp_ne h7),nDenom (Rat.divInt n d),nIntCmp (a:=((Rat.divInt n d).den:Int)) (b:=d) rfl,.eqv 61 (.bool (cmpI ((Rat.divInt n d).den:Int) d != 0)) (.bool false) (cmp_ne h8)]) Tryz.func301 hmA (fun β=>by kernel_rfl) (by kernel_rfl) β w hh
def sRatIn {x:Rat} (hx:Fit x):Spec Tryz.prog :=
 ⟨301,Tryz.call301,[.one (.a [.b (.v (.bool (decide (x.num<0)))),.b (.v (.string (mag x.num.natAbs))),.b (.v (.bool false)),.b (.v (.string (mag x.den)))])],[],(.one (.c (.b (.z 0 0)))),[ratT x],ratIn_ok hx,by kernel_rfl⟩
def rdNe (d t:Nat) (x:Rat) (k:Nat):Ev Tryz.prog:=.rd d (.binOp .neq 153 (.tmp t) (.const (.pointer none)) 153) (fun β=>[.pointer ((β k).v 0),.pointer none]) [(k,(ratT x).ob)] 0 (.one (.c (.b (.v (.bool true))))) [] (fun β w h ρ o ho hx=>by
 obtain ⟨a,ha,ka⟩:=needP (x:=x) (k:=k) h (by simp)
 have h2:ρ (.tmp t)=.pointer (some ⟨a,0,none⟩)∧ρ (.const (.pointer none))=.pointer none:=by
  rw [ha.1] at hx
  simpa [Op.operands] using hx
 refine ⟨[],w,(fun _ h=>by cases h),?_,trivial,Below.refl _ _⟩
 unfold execOp
 rw [ho]
 simp only [h2.1,h2.2]
 kernel_rfl)
def dNe (x:Rat):Ev Tryz.prog:=.dyn (fun o _ _=>match o.op with
 | .binOp .neq a (.tmp _) (.const (.pointer none)) _=>Nat.beq a 153
 | _=>false) fun o xs _=>match o.op with
 | .binOp _ _ (.tmp t) _ _=>lit (ptOf (xs.getD 0 undefS)) fun k=>rdNe (o.dst.getD 0) t x k
 | _=>.eqv 0 undef undef rfl
def fpC (a:Fp):List Lf:=lsX a.C
def ofT:Fp→Fp→List Thing
 | .ok x _,.ok y _=>[ratT x,ratT y]
 | _,_=>[anyT,anyT]
theorem sOf_ok (a b:Fp) (β:Env) (w:World) (hh:∀ (k:Nat) (t:Thing),([]:List Thing)[k]?=some t→t.D w (β k)) :
  Calls Tryz.prog 204 (([.one (.a (fpC a++fpC b))]:List SV).map (SV.den β)).toArray w fun e w'=>∃ xs:List Pl,freshS β w 0 xs∧e=.returned ((SV.tup [nA 0,.c (.b (.v (.bool (a.B&&b.B))))]).den (extE β 0 xs))∧newHold w' (ofT a b) xs∧Below w.heap.size w w':=by
 cases a with
 | ok x hx=>cases b with
  | ok y hy=>exact spec_auto (obs:=[]) (evs:=[(sRatIn hx).e,(sRatIn hy).e,dNe x,dNe y]) (Ns:=[]) (m:=400) Tryz.func204 hmA (fun β=>by kernel_rfl) (by kernel_rfl) β w hh
  | no b' c s t h hs ht =>
   refine (spec_auto (args:=[.one (.a (fpC (.ok x hx)++fpC (.no b' c s t h hs ht)))]) (obs:=[]) (res:=SV.tup [.a [.b (.z 0 0),.b (.v (.pointer none))],.c (.b (.v (.bool false)))]) (news:=[ratT x]) (evs:=[(sRatIn hx).e,(sRatNo h).e,dNe x]) (Ns:=[]) (m:=400) Tryz.func204 hmA (fun β=>by kernel_rfl) (by kernel_rfl) β w hh).mono fun e w' ⟨xs,h1,he,h2,h3⟩=>?_
   match xs,h1,he,h2 with
   | [p],h1,he,h2=>exact ⟨[p,nilPl],fun x hx c hc=>by
     rcases List.mem_cons.1 hx with rfl | hx
     · exact h1 _ (by simp) c hc
     · obtain rfl:=List.mem_singleton.1 hx
       exact hc.elim,he,⟨an_of (pr_stable x) h2.1,fun _ h=>h.elim,trivial⟩,h3⟩
 | no b' c s t h hs ht=>cases b with
  | ok y hy =>
   refine (spec_auto (args:=[.one (.a (fpC (.no b' c s t h hs ht)++fpC (.ok y hy)))]) (obs:=[]) (res:=SV.tup [.a [.b (.v (.pointer none)),.b (.z 0 0)],.c (.b (.v (.bool false)))]) (news:=[ratT y]) (evs:=[(sRatNo h).e,(sRatIn hy).e]) (Ns:=[]) (m:=400) Tryz.func204 hmA (fun β=>by kernel_rfl) (by kernel_rfl) β w hh).mono fun e w' ⟨xs,h1,he,h2,h3⟩=>?_
   match xs,h1,he,h2 with
   | [p],h1,he,h2=>exact ⟨[nilPl,p],fun x hx c hc=>by
     rcases List.mem_cons.1 hx with rfl | hx
     · exact hc.elim
     · obtain rfl:=List.mem_singleton.1 hx
       exact h1 _ (by simp) c hc,he,⟨fun _ h=>h.elim,an_of (pr_stable y) h2.1,trivial⟩,h3⟩
  | no b'' c' s' t' h' hs' ht' =>
   refine (spec_auto (args:=[.one (.a (fpC (.no b' c s t h hs ht)++fpC (.no b'' c' s' t' h' hs' ht')))]) (obs:=[]) (res:=SV.tup [.a [.b (.v (.pointer none)),.b (.v (.pointer none))],.c (.b (.v (.bool false)))]) (news:=[]) (evs:=[(sRatNo h).e,(sRatNo h').e]) (Ns:=[]) (m:=400) Tryz.func204 hmA (fun β=>by kernel_rfl) (by kernel_rfl) β w hh).mono fun e w' ⟨xs,h1,he,h2,h3⟩=>?_
   match xs,h1,he,h2 with
   | [],h1,he,h2=>exact ⟨[nilPl,nilPl],fun x hx c hc=>by
     rcases List.mem_cons.1 hx with rfl | hx
     · exact hc.elim
     · obtain rfl:=List.mem_singleton.1 hx
       exact hc.elim,he,⟨fun _ h=>h.elim,fun _ h=>h.elim,trivial⟩,h3⟩
def sOf (a b:Fp):Spec Tryz.prog :=
 ⟨204,Tryz.call204,[.one (.a (fpC a++fpC b))],[],.tup [nA 0,.c (.b (.v (.bool (a.B&&b.B))))],ofT a b,sOf_ok a b,by cases a<;>cases b<;>kernel_rfl⟩
def sInt (n m:Int) (hn : -9223372036854775808≤n∧n≤9223372036854775807) (hm : -9223372036854775808≤m∧m≤9223372036854775807):Spec Tryz.prog :=
 Spec.auto Tryz.call284 [.one (.c (.b (.v (.int .i64 n)))),.one (.c (.b (.v (.int .i64 m))))] [] (nV 0) (gT (gint n m))
  [nNew n 1 hn (by decide) (by decide),nNew m 1 hm (by decide) (by decide)] [] 400 Tryz.func284 hmA (by kernel_rfl) (fun β=>by kernel_rfl)
theorem told_ok {z:GQ} (hz:GSz KB z) (β:Env) (w:World) (hh:∀ (k:Nat) (t:Thing),(gM z)[k]?=some t→t.D w (β k)) :
  Calls Tryz.prog 176 (([nV 0]:List SV).map (SV.den β)).toArray w fun e w'=>∃ xs:List Pl,freshS β w 2 xs∧e=.returned ((SV.tup [.a (lsX (gaC z)),.c (.b (.v (.int .i64 (gaK z))))]).den (extE β 2 xs))∧newHold w' [] xs∧Below w.heap.size w w':=by
 by_cases h1:Fit z.re
 · by_cases h2:Fit z.im
   · rw [(ga_fit ⟨h1,h2⟩).1,(ga_fit ⟨h1,h2⟩).2]
     have e1:(ansK z.re != 0)=false:=by rw [(ansF_fit h1).2.2.2]; rfl
     have e2:(ansK z.im != 0)=false:=by rw [(ansF_fit h2).2.2.2]; rfl
     unfold gC
     rw [← (ansF_fit h1).1,← (ansF_fit h1).2.1,← (ansF_fit h1).2.2.1,← (ansF_fit h2).1,← (ansF_fit h2).2.1,← (ansF_fit h2).2.2.1]
     exact spec_auto (obs:=gM z) (evs:=[(sFrac hz.1).e,(sFrac hz.2).e,.eqv 21 (.bool (ansK z.re != 0)) (.bool false) (ansK_ne e1),.eqv 24 (.bool (ansK z.im != 0)) (.bool false) (ansK_ne e2)]) (Ns:=[]) (m:=400) Tryz.func176 hmA (fun β=>by kernel_rfl) (by kernel_rfl) β w hh
   · have hn:¬ FitG z:=fun h=>h2 h.2
     rw [(ga_not hn).1,(ga_not hn).2]
     have e1:(ansK z.re != 0)=false:=by rw [(ansF_fit h1).2.2.2]; rfl
     have e2:(ansK z.im != 0)=true:=by rw [show ansK z.im=4 from if_neg h2]; rfl
     exact spec_auto (obs:=gM z) (evs:=[(sFrac hz.1).e,(sFrac hz.2).e,.eqv 21 (.bool (ansK z.re != 0)) (.bool false) (ansK_ne e1),.eqv 24 (.bool (ansK z.im != 0)) (.bool true) (ansK_ne e2)]) (Ns:=[]) (m:=400) Tryz.func176 hmA (fun β=>by kernel_rfl) (by kernel_rfl) β w hh
 · have hn:¬ FitG z:=fun h=>h1 h.1
   rw [(ga_not hn).1,(ga_not hn).2]
   have e1:(ansK z.re != 0)=true:=by rw [show ansK z.re=4 from if_neg h1]; rfl
   exact spec_auto (obs:=gM z) (evs:=[(sFrac hz.1).e,(sFrac hz.2).e,.eqv 21 (.bool (ansK z.re != 0)) (.bool true) (ansK_ne e1)]) (Ns:=[]) (m:=400) Tryz.func176 hmA (fun β=>by kernel_rfl) (by kernel_rfl) β w hh
noncomputable def sTold {z:GQ} (hz:GSz KB z):Spec Tryz.prog :=
 ⟨176,Tryz.call176,[nV 0],gM z,.tup [.a (lsX (gaC z)),.c (.b (.v (.int .i64 (gaK z))))],[],told_ok hz,by kernel_rfl⟩
def pI:Pt→Bool
 | .inf=>true
 | .fin _=>false
def pG:Pt→GQ
 | .inf=>g0
 | .fin z=>z
def pL (k:Nat) (p:Pt):List Lf:=[.b (.v (.bool (pI p))),.b (.z k 0),.b (.z (k+1) 0)]
abbrev pV (k:Nat) (p:Pt):SV:=.one (.a (pL k p))
def pM (p:Pt):List Thing:=gM (pG p)
def mA (k:Nat) (m:MQ):SC:=.a [.b (.z k 0),.b (.z (k+1) 0),.b (.z (k+2) 0),.b (.z (k+3) 0),.b (.z (k+4) 0),.b (.z (k+5) 0),.b (.z (k+6) 0),.b (.z (k+7) 0),.b (.v (.bool m.t))]
abbrev mV (k:Nat) (m:MQ):SV:=.one (mA k m)
def mM (m:MQ):List Thing:=gM m.a++gM m.b++gM m.c++gM m.d
def mT (m:MQ):List Thing:=gT m.a++gT m.b++gT m.c++gT m.d
def sBy (p:Pt):Spec Tryz.prog :=
 ⟨297,Tryz.call297,[pV 0 p],pM p,.tup [nA 2,nA 4],gM (byA p)++gM (byB p),fun β w hh=>by
  cases p
  · exact spec_auto (obs:=pM .inf) (evs:=[(sInt 1 0 (by decide) (by decide)).e,(sInt 0 0 (by decide) (by decide)).e]) (Ns:=[(3,3)]) (m:=400) Tryz.func297 hmA (fun β=>by kernel_rfl) (by kernel_rfl) β w hh
  · rename_i z
    exact spec_auto (obs:=pM (.fin z)) (evs:=[(sInt 1 0 (by decide) (by decide)).e]) (Ns:=[(3,3)]) (m:=400) Tryz.func297 hmA (fun β=>by kernel_rfl) (by kernel_rfl) β w hh,by kernel_rfl⟩
def sAcross {p q:Pt} (hp:PSz KE p) (hq:PSz KE q):Spec Tryz.prog :=
 Spec.auto Tryz.call298 [pV 0 p,pV 2 q] (pM p++pM q) (nV 4) (gT (gacross p q))
  [(sBy p).e,(sBy q).e,
 (sMul ((byA_sz hp (by decide)).mono (by decide)) (byB_sz (p:=q) (by decide))).e,(sMul (byB_sz (p:=p) (by decide)) ((byA_sz hq (by decide)).mono (by decide))).e,
 (sSub (((byA_sz hp (by decide)).mul (byB_sz (k:=KE) (p:=q) (by decide))).mono (by decide)) (((byB_sz (k:=KE) (p:=p) (by decide)).mul (byA_sz hq (by decide))).mono (by decide))).e] [(3,7)] 800 Tryz.func298 hmA (by kernel_rfl) (fun β=>by kernel_rfl)
def sDet {m:MQ} (h:MSz KE m):Spec Tryz.prog :=
 Spec.auto Tryz.call175 [mV 0 m] (mM m) (nV 8) (gT (mdet m))
  [(sMul (h.a.mono (by decide)) (h.d.mono (by decide))).e,(sMul (h.b.mono (by decide)) (h.c.mono (by decide))).e,(sSub ((h.a.mul h.d).mono (by decide)) ((h.b.mul h.c).mono (by decide))).e]
  [(1,11)] 400 Tryz.func175 hmA (by kernel_rfl) (fun β=>by kernel_rfl)
def sNormal {m:MQ} (h:MSz KM m) {b:Bool} (hb:gzero m.c=b) (h0:gzero (bif b then m.d else m.c)=false):Spec Tryz.prog :=
 ⟨286,Tryz.call286,[mV 0 m],mM m,mV 8 (mnormB m b),mT (mnormB m b),fun β w hh=>by
  cases b
  · exact spec_auto (obs:=mM m) (evs:=[(sZero hb).e,(sDiv h.a h.c h0).e,(sDiv h.b h.c h0).e,(sDiv h.c h.c h0).e,(sDiv h.d h.c h0).e]) (Ns:=[(4,19)]) (m:=400) Tryz.func286 hmA (fun β=>by kernel_rfl) (by kernel_rfl) β w hh
  · exact spec_auto (obs:=mM m) (evs:=[(sZero hb).e,(sDiv h.a h.d h0).e,(sDiv h.b h.d h0).e,(sDiv h.c h.d h0).e,(sDiv h.d h.d h0).e]) (Ns:=[(4,19)]) (m:=400) Tryz.func286 hmA (fun β=>by kernel_rfl) (by kernel_rfl) β w hh,by kernel_rfl⟩
def mstill (t:Bool):MQ:=⟨gint 1 0,g0,g0,gint 1 0,t⟩
theorem newHold4 {w:World} {t1 t2 t3 t4:Thing}:∀ {xs:List Pl},newHold w [t1,t2,t3,t4] xs→∃ a b c d,xs=[a,b,c,d]∧t1.D w a∧t2.D w b∧t3.D w c∧t4.D w d
 | [],h=>h.elim
 | [_],h=>h.2.elim
 | [_,_],h=>h.2.2.elim
 | [_,_,_],h=>h.2.2.2.elim
 | [a,b,c,d],h=>⟨a,b,c,d,rfl,h.1,h.2.1,h.2.2.1,h.2.2.2.1⟩
 | _::_::_::_::_::_,h=>h.2.2.2.2.elim
theorem still_ok (β:Env) (w:World) (hh:∀ (k:Nat) (t:Thing),([]:List Thing)[k]?=some t→t.D w (β k)) :
  Calls Tryz.prog 146 (([]:List SV).map (SV.den β)).toArray w fun e w'=>∃ xs:List Pl,freshS β w 0 xs∧e=.returned ((SV.one (.a [.b (.z 0 0),.b (.z 1 0),.b (.v (.pointer none)),.b (.v (.pointer none)),.b (.v (.pointer none)),.b (.v (.pointer none)),.b (.z 2 0),.b (.z 3 0),.b (.v (.bool false))])).den (extE β 0 xs))∧newHold w' [ratM (gint 1 0).re,ratM (gint 1 0).im,ratM (gint 1 0).re,ratM (gint 1 0).im] xs∧Below w.heap.size w w' :=
 spec_auto (evs:=[(sInt 1 0 (by decide) (by decide)).e,(sInt 1 0 (by decide) (by decide)).e]) (Ns:=[]) (m:=400) Tryz.func146 hmA (fun β=>by kernel_rfl) (by kernel_rfl) β w hh
theorem still_ok2 (β:Env) (w:World) (hh:∀ (k:Nat) (t:Thing),([]:List Thing)[k]?=some t→t.D w (β k)) :
  Calls Tryz.prog 146 (([]:List SV).map (SV.den β)).toArray w fun e w'=>∃ xs:List Pl,freshS β w 0 xs∧e=.returned ((mV 0 (mstill false)).den (extE β 0 xs))∧newHold w' [ratM (gint 1 0).re,ratM (gint 1 0).im,ratM 0,ratM 0,ratM 0,ratM 0,ratM (gint 1 0).re,ratM (gint 1 0).im] xs∧Below w.heap.size w w':=by
 refine (still_ok β w hh).mono fun e w' ⟨xs,h1,he,h2,h3⟩=>?_
 obtain ⟨a,b,c,d,rfl,k1,k2,k3,k4⟩:=newHold4 h2
 have hn:(ratM 0).D w' nilPl:=nil_or (decide_eq_true rfl) w'
 refine ⟨[a,b,nilPl,nilPl,nilPl,nilPl,c,d],fun x hx k hk=>?_,by rw [he]; kernel_rfl,⟨k1,k2,hn,hn,hn,hn,k3,k4,trivial⟩,h3⟩
 simp only [List.mem_cons,List.not_mem_nil,or_false] at hx
 rcases hx with rfl | rfl | rfl | rfl | rfl | rfl | rfl | rfl
 · exact h1 _ (by simp) k hk
 · exact h1 _ (by simp) k hk
 · exact hk.elim
 · exact hk.elim
 · exact hk.elim
 · exact hk.elim
 · exact h1 _ (by simp) k hk
 · exact h1 _ (by simp) k hk
def sStill:Spec Tryz.prog :=
 ⟨146,Tryz.call146,[],[],mV 0 (mstill false),[ratM (gint 1 0).re,ratM (gint 1 0).im,ratM 0,ratM 0,ratM 0,ratM 0,ratM (gint 1 0).re,ratM (gint 1 0).im],still_ok2,by kernel_rfl⟩
def sUndo {m:MQ} (h:MSz KM m) {b:Bool} (hb:gzero (mconj (mundo0 m) m.t).c=b) (h0:gzero (bif b then (mconj (mundo0 m) m.t).d else (mconj (mundo0 m) m.t).c)=false):Spec Tryz.prog :=
 ⟨145,Tryz.call145,[mV 0 m],mM m,mV 8 (mnormB (mconj (mundo0 m) m.t) b),mT (mnormB (mconj (mundo0 m) m.t) b),fun β w hh=>by
  obtain ⟨a,b',c,d,t⟩:=m
  cases t
  · exact spec_auto (obs:=mM ⟨a,b',c,d,false⟩) (evs:=[(sNeg b').e,(sNeg c).e,(sNormal (h.undo0.conj false) hb h0).e]) (Ns:=[(1,14),(3,13)]) (m:=400) Tryz.func145 hmA (fun β=>by kernel_rfl) (by kernel_rfl) β w hh
  · exact spec_auto (obs:=mM ⟨a,b',c,d,true⟩) (evs:=[(sNeg b').e,(sNeg c).e,(sConj d).e,(sConj (gneg b')).e,(sConj (gneg c)).e,(sConj a).e,(sNormal (h.undo0.conj true) hb h0).e]) (Ns:=[(1,14),(3,13)]) (m:=400) Tryz.func145 hmA (fun β=>by kernel_rfl) (by kernel_rfl) β w hh,by kernel_rfl⟩
def mulE {z w:GQ} (hz:GSz KE z) (hw:GSz KE w):Ev Tryz.prog:=(sMul (hz.mono (by decide)) (hw.mono (by decide))).e
def mulMulAdd {z w u v:GQ} (hz:GSz KE z) (hw:GSz KE w) (hu:GSz KE u) (hv:GSz KE v):List (Ev Tryz.prog) :=
 [mulE hz hw,mulE hu hv,(sAdd ((hz.mul hw).mono (by decide)) ((hu.mul hv).mono (by decide))).e]
def behE {m n:MQ} (h:MSz KE m) (k:MSz KE n):List (Ev Tryz.prog) :=
 mulMulAdd h.a k.a h.b k.c++mulMulAdd h.a k.b h.b k.d++mulMulAdd h.c k.a h.d k.c++mulMulAdd h.c k.b h.d k.d
def conjE (n:MQ):List (Ev Tryz.prog):=[(sConj n.a).e,(sConj n.b).e,(sConj n.c).e,(sConj n.d).e]
def sBehind {m n:MQ} (h:MSz KE m) (k:MSz KE n) {b:Bool} (hb:gzero (mbeh m n).c=b) (h0:gzero (bif b then (mbeh m n).d else (mbeh m n).c)=false):Spec Tryz.prog :=
 ⟨147,Tryz.call147,[mV 0 m,mV 8 n],mM m++mM n,mV 16 (mnormB (mbeh m n) b),mT (mnormB (mbeh m n) b),fun β w hh=>by
  obtain ⟨a,b',c,d,t⟩:=m
  obtain ⟨a2,b2,c2,d2,t2⟩:=n
  cases t
  · cases t2<;>exact spec_auto (obs:=mM ⟨a,b',c,d,_⟩++mM ⟨a2,b2,c2,d2,_⟩) (evs:=behE h k++[(sNormal ((h.beh k).mono (by decide)) hb h0).e]) (Ns:=[(2,13),(3,51)]) (m:=800) Tryz.func147 hmA (fun β=>by kernel_rfl) (by kernel_rfl) β w hh
  · cases t2<;>exact spec_auto (obs:=mM ⟨a,b',c,d,_⟩++mM ⟨a2,b2,c2,d2,_⟩) (evs:=conjE ⟨a2,b2,c2,d2,true⟩++behE h (k.conj true)++[(sNormal ((h.beh k).mono (by decide)) hb h0).e]) (Ns:=[(2,13),(3,51)]) (m:=800) Tryz.func147 hmA (fun β=>by kernel_rfl) (by kernel_rfl) β w hh,by kernel_rfl⟩
def chE {p q r:Pt} (hp:PSz KC p) (hq:PSz KC q) (hr:PSz KC r):List (Ev Tryz.prog):=[(sBy p).e,(sBy r).e,(sAcross (hq.mono (by decide)) (hr.mono (by decide))).e,(sAcross (hq.mono (by decide)) (hp.mono (by decide))).e,
 mulE (byB_sz (p:=p) (by decide)) ((gacross_sz hq hr (by decide)).mono (by decide)),mulE ((byA_sz hp (by decide)).mono (by decide)) ((gacross_sz hq hr (by decide)).mono (by decide)),(sNeg (gmul (byA p) (gacross q r))).e,
 mulE (byB_sz (p:=r) (by decide)) ((gacross_sz hq hp (by decide)).mono (by decide)),mulE ((byA_sz hr (by decide)).mono (by decide)) ((gacross_sz hq hp (by decide)).mono (by decide)),(sNeg (gmul (byA r) (gacross q p))).e]
def sChart {p q r:Pt} (hp:PSz KC p) (hq:PSz KC q) (hr:PSz KC r) {b:Bool} (hb:gzero (mchart0 p q r).c=b) (h0:gzero (bif b then (mchart0 p q r).d else (mchart0 p q r).c)=false):Spec Tryz.prog :=
 Spec.auto Tryz.call174 [.one (.a (pL 0 p++pL 2 q++pL 4 r))] (pM p++pM q++pM r) (mV 6 (mnormB (mchart0 p q r) b)) (mT (mnormB (mchart0 p q r) b))
  (chE hp hq hr++[(sNormal ((chart0_sz hp hq hr).mono (by decide)) hb h0).e]) [(3,12),(4,16)] 800 Tryz.func174 hmA (by kernel_rfl) (fun β=>by kernel_rfl)
noncomputable def sToldP (p:Pt) (h:PSz KB p):Spec Tryz.prog :=
 ⟨161,Tryz.call161,[pV 0 p],pM p,.tup [.a (lsX (paC p)),.c (.b (.v (.int .i64 (paK p))))],[],fun β w hh=>by
  cases p
  · exact spec_auto (obs:=pM .inf) (evs:=[]) (Ns:=[]) (m:=400) Tryz.func161 hmA (fun β=>by kernel_rfl) (by kernel_rfl) β w hh
  · rename_i z
    exact spec_auto (obs:=pM (.fin z)) (evs:=[(sTold (z:=z) h).e]) (Ns:=[]) (m:=400) Tryz.func161 hmA (fun β=>by kernel_rfl) (by kernel_rfl) β w hh,by cases p<;>kernel_rfl⟩
def sendE (m:MQ) (h:MSz KE m):(p:Pt)→PSz KE p→List (Ev Tryz.prog)
 | .inf,_=>[]
 | .fin z,hp=>(bif m.t then [(sConj z).e] else [])++[mulE h.a (mcj_sz (t:=m.t) hp),(sAdd ((h.a.mul (mcj_sz (t:=m.t) hp)).mono (by decide)) (h.b.mono (by decide))).e,
   mulE h.c (mcj_sz (t:=m.t) hp),(sAdd ((h.c.mul (mcj_sz (t:=m.t) hp)).mono (by decide)) (h.d.mono (by decide))).e]
theorem nilpair {P:Program} {f:FuncId} {args:Array Value} {w:World} {β:Env} {m:Nat} {r r':Env→Value}
  (h:Calls P f args w fun e w'=>∃ xs:List Pl,freshS β w m xs∧e=.returned (r (extE β m xs))∧newHold w' [] xs∧Below w.heap.size w w') (hr:r' (extE β m [nilPl,nilPl])=r (extE β m [])) :
  Calls P f args w fun e w'=>∃ xs:List Pl,freshS β w m xs∧e=.returned (r' (extE β m xs))∧newHold w' (gM g0) xs∧Below w.heap.size w w' :=
 h.mono fun e w' ⟨xs,h1,he,h2,h3⟩=>by
  match xs,h1,he,h2 with
  | [],h1,he,h2 =>
   have hn:OR0 0 w' nilPl:=nil_or (by decide) w'
   refine ⟨[nilPl,nilPl],fun x hx k hk=>?_,by rw [he,hr],⟨hn,hn,trivial⟩,h3⟩
   simp only [List.mem_cons,List.not_mem_nil,or_false] at hx
   rcases hx with rfl | rfl<;>exact hk.elim
def sSend {m:MQ} {p:Pt} (h:MSz KE m) (hp:PSz KE p) {b:Bool} (hb:gzero (msD m p)=b):Spec Tryz.prog :=
 ⟨162,Tryz.call162,[mV 0 m,pV 8 p],mM m++pM p,pV 10 (msend m p b),pM (msend m p b),fun β w hh=>by
  obtain ⟨a,b',c,d,t⟩:=m
  cases b
  · rcases p with _ | z
    · cases t<;>exact spec_auto (obs:=mM ⟨a,b',c,d,_⟩++pM .inf) (evs:=sendE _ h _ hp++[(sZero hb).e,(sDiv ((msN_sz h hp).mono (by decide)) ((msD_sz h hp).mono (by decide)) hb).e]) (Ns:=[(1,7+6000+1000000*14),(6,14)]) (m:=800) Tryz.func162 hmA (fun β=>by kernel_rfl) (by kernel_rfl) β w hh
    · cases t<;>exact spec_auto (obs:=mM ⟨a,b',c,d,_⟩++pM (.fin z)) (evs:=sendE _ h _ hp++[(sZero hb).e,(sDiv ((msN_sz h hp).mono (by decide)) ((msD_sz h hp).mono (by decide)) hb).e]) (Ns:=[(1,7+6000+1000000*14),(6,14)]) (m:=800) Tryz.func162 hmA (fun β=>by kernel_rfl) (by kernel_rfl) β w hh
  · rcases p with _ | z
    · cases t<;>exact nilpair (r:=(SV.one (.a [.b (.v (.bool true)),.b (.v (.pointer none)),.b (.v (.pointer none))])).den) (r':=(pV 10 .inf).den) (spec_auto (obs:=mM ⟨a,b',c,d,_⟩++pM .inf) (args:=[mV 0 ⟨a,b',c,d,_⟩,pV 8 .inf]) (res:=.one (.a [.b (.v (.bool true)),.b (.v (.pointer none)),.b (.v (.pointer none))])) (news:=[]) (evs:=sendE _ h _ hp++[(sZero hb).e]) (Ns:=[(1,7+6000+1000000*14),(6,14)]) (m:=800) Tryz.func162 hmA (fun β=>by kernel_rfl) (by kernel_rfl) β w hh) (by kernel_rfl)
    · cases t<;>exact nilpair (r:=(SV.one (.a [.b (.v (.bool true)),.b (.v (.pointer none)),.b (.v (.pointer none))])).den) (r':=(pV 10 .inf).den) (spec_auto (obs:=mM ⟨a,b',c,d,_⟩++pM (.fin z)) (args:=[mV 0 ⟨a,b',c,d,_⟩,pV 8 (.fin z)]) (res:=.one (.a [.b (.v (.bool true)),.b (.v (.pointer none)),.b (.v (.pointer none))])) (news:=[]) (evs:=sendE _ h _ hp++[(sZero hb).e]) (Ns:=[(1,7+6000+1000000*14),(6,14)]) (m:=800) Tryz.func162 hmA (fun β=>by kernel_rfl) (by kernel_rfl) β w hh) (by kernel_rfl),by cases p<;>cases b<;>kernel_rfl⟩
noncomputable def tE {z:GQ} (hz:GSz KB z) (r:Bool) (h:(gaK z != 0)=r):List (Ev Tryz.prog):=[(sTold hz).e,.eqv 43 (.bool (gaK z != 0)) (.bool r) (gaK_ne h)]
noncomputable def tN {z:GQ} (hz:GSz KB z) (h:¬ FitG z):List (Ev Tryz.prog):=tE hz true (gaK_not h)++[.eqv 45 (.int .i64 (gaK z)) (.int .i64 4) (by rw [(ga_not h).2])]
noncomputable def sToldM {m:MQ} (h:MSz KM m) {b:Bool} (hb:gzero m.c=b) (h0:gzero (bif b then m.d else m.c)=false):Spec Tryz.prog :=
 ⟨148,Tryz.call148,[mV 0 m],mM m,.tup [.a (lsX (maC (mnormB m b))),.c (.b (.v (.int .i64 (maK (mnormB m b)))))],[],fun β w hh=>by
  have hn:=(h.normB h0).mono (show dsz KM≤KB by decide)
  by_cases h1:FitG (mnormB m b).a
  · by_cases h2:FitG (mnormB m b).b
    · by_cases h3:FitG (mnormB m b).c
      · by_cases h4:FitG (mnormB m b).d
        · rw [(maC_yes ⟨h1,h2,h3,h4⟩).1,(maC_yes ⟨h1,h2,h3,h4⟩).2]
          exact spec_auto (obs:=mM m) (evs:=[(sNormal h hb h0).e]++tE hn.a false (gaK_fit h1)++tE hn.b false (gaK_fit h2)++tE hn.c false (gaK_fit h3)++tE hn.d false (gaK_fit h4)) (Ns:=[]) (m:=800) Tryz.func148 hmA (fun β=>by kernel_rfl) (by kernel_rfl) β w hh
        · have hN:¬ FitM (mnormB m b):=fun e=>h4 e.2.2.2
          rw [(maC_no hN).1,(maC_no hN).2]
          exact spec_auto (obs:=mM m) (evs:=[(sNormal h hb h0).e]++tE hn.a false (gaK_fit h1)++tE hn.b false (gaK_fit h2)++tE hn.c false (gaK_fit h3)++tN hn.d h4) (Ns:=[]) (m:=800) Tryz.func148 hmA (fun β=>by kernel_rfl) (by kernel_rfl) β w hh
      · have hN:¬ FitM (mnormB m b):=fun e=>h3 e.2.2.1
        rw [(maC_no hN).1,(maC_no hN).2]
        exact spec_auto (obs:=mM m) (evs:=[(sNormal h hb h0).e]++tE hn.a false (gaK_fit h1)++tE hn.b false (gaK_fit h2)++tN hn.c h3) (Ns:=[]) (m:=800) Tryz.func148 hmA (fun β=>by kernel_rfl) (by kernel_rfl) β w hh
    · have hN:¬ FitM (mnormB m b):=fun e=>h2 e.2.1
      rw [(maC_no hN).1,(maC_no hN).2]
      exact spec_auto (obs:=mM m) (evs:=[(sNormal h hb h0).e]++tE hn.a false (gaK_fit h1)++tN hn.b h2) (Ns:=[]) (m:=800) Tryz.func148 hmA (fun β=>by kernel_rfl) (by kernel_rfl) β w hh
  · have hN:¬ FitM (mnormB m b):=fun e=>h1 e.1
    rw [(maC_no hN).1,(maC_no hN).2]
    exact spec_auto (obs:=mM m) (evs:=[(sNormal h hb h0).e]++tN hn.a h1) (Ns:=[]) (m:=800) Tryz.func148 hmA (fun β=>by kernel_rfl) (by kernel_rfl) β w hh,by kernel_rfl⟩
def rL (x:R4):List Lf:=[.b (.v (.bool x.b)),.b (.v (.string x.s)),.b (.v (.bool x.c)),.b (.v (.string x.t))]
structure Fr where
 r:R4
 a:Fp
 e:fpC a=rL r
def sOfW (a b:Fr) {r:Bool} (hr:(a.a.B&&b.a.B)=r):Spec Tryz.prog :=
 ⟨204,Tryz.call204,[.one (.a (rL a.r++rL b.r))],[],.tup [nA 0,.c (.b (.v (.bool r)))],[anyT,anyT],fun β w hh=>by
  rw [← a.e,← b.e]
  refine (sOf_ok a.a b.a β w hh).mono fun e w' ⟨xs,h1,he,h2,h3⟩=>⟨xs,h1,by rw [he,hr]; rfl,?_,h3⟩
  obtain ⟨_,a,_⟩:=a
  obtain ⟨_,b,_⟩:=b
  cases a<;>cases b
  · match xs,h2 with
    | [p,q],h2=>exact ⟨an_of (pr_stable _) h2.1,an_of (pr_stable _) h2.2.1,trivial⟩
  · exact h2
  · exact h2
  · exact h2,by kernel_rfl⟩
structure Mp where
 a:Fr
 a':Fr
 b:Fr
 b':Fr
 c:Fr
 c':Fr
 d:Fr
 d':Fr
 t:Bool
def Mp.C (m:Mp):List Lf:=rL m.a.r++rL m.a'.r++rL m.b.r++rL m.b'.r++rL m.c.r++rL m.c'.r++rL m.d.r++rL m.d'.r++[.b (.v (.bool m.t))]
def any8:List Thing:=[anyT,anyT,anyT,anyT,anyT,anyT,anyT,anyT]
def eqEv (t:TypeId) (xs ys:Array Value) (r:Bool) (hg:Tryz.prog.eqGuardType Tryz.prog.depth t=false) (h:∀ w,(Op.equalIn 10000 t (.agg xs) (.agg ys)).run Tryz.prog w=.ok r w):Ev Tryz.prog :=
 .dyn (fun o _ _=>match o.op with
  | .binOp .eql t' _ _ _=>Nat.beq t' t
  | .binOp .neq t' _ _ _=>Nat.beq t' t
  | _=>false) fun o _ _=>match o.op with
  | .binOp .eql _ a b u=>.gen (o.dst.getD 0) (.binOp .eql t a b u) [.agg xs,.agg ys] (.bool r) (fun ρ o w ho hx=>by
    simp only [Op.operands,List.map_cons,List.map_nil,List.cons.injEq] at hx
    exact exec_eql hg (h w) a b ρ o ho hx.1 hx.2.1)
  | .binOp .neq _ a b u=>.gen (o.dst.getD 0) (.binOp .neq t a b u) [.agg xs,.agg ys] (.bool (!r)) (fun ρ o w ho hx=>by
    simp only [Op.operands,List.map_cons,List.map_nil,List.cons.injEq] at hx
    exact exec_neq hg (h w) a b ρ o ho hx.1 hx.2.1)
  | _=>.eqv 0 undef undef rfl
def eqEvP (i i':Bool) (x y x' y':R4) (r:Bool) (h:((i==i')&&((x.eq x'&&(y.eq y'&&true))&&true))=r):Ev Tryz.prog :=
 eqEv 61 #[.bool i,.bool x.b,.string x.s,.bool x.c,.string x.t,.bool y.b,.string y.s,.bool y.c,.string y.t] #[.bool i',.bool x'.b,.string x'.s,.bool x'.c,.string x'.t,.bool y'.b,.string y'.s,.bool y'.c,.string y'.t] r (by kernel_rfl) (fun w=>by rw [← h]; exact eqP 9995 i i' x y x' y')
def eqEvW (b b':Bool) (s s':ByteArray) (r:Bool) (h:weq b b' s s'=r):Ev Tryz.prog :=
 eqEv 23 #[.bool b,.string s] #[.bool b',.string s'] r (by kernel_rfl) (fun w=>by rw [← h]; exact eqW 9998 ..)
def eqEvG (x y x' y':R4) (r:Bool) (h:(x.eq x'&&(y.eq y'&&true))=r):Ev Tryz.prog :=
 eqEv 46 #[.bool x.b,.string x.s,.bool x.c,.string x.t,.bool y.b,.string y.s,.bool y.c,.string y.t] #[.bool x'.b,.string x'.s,.bool x'.c,.string x'.t,.bool y'.b,.string y'.s,.bool y'.c,.string y'.t] r (by kernel_rfl) (fun w=>by rw [← h]; exact eqG 9996 ..)
def spI:Pp→Bool
 | .fin ..=>false
 | _=>true
def spT:Pp→List Thing
 | .fin a b=>ofT a b
 | _=>gM g0
def sSpot (p:Pp):Spec Tryz.prog :=
 ⟨158,Tryz.call158,[.one (.a (lsX p.C))],[],.tup [.a [.b (.v (.bool (spI p))),.b (.z 0 0),.b (.z 1 0)],.c (.b (.v (.bool p.B)))],spT p,fun β w hh=>by
  rcases p with _ | ⟨a,b⟩ | ⟨x,y,h⟩
  · exact nilpair (r:=(SV.tup [.a [.b (.v (.bool true)),.b (.v (.pointer none)),.b (.v (.pointer none))],.c (.b (.v (.bool true)))]).den) (r':=(SV.tup [.a [.b (.v (.bool true)),.b (.z 0 0),.b (.z 1 0)],.c (.b (.v (.bool true)))]).den) (spec_auto (args:=[.one (.a (lsX Pp.inf.C))]) (obs:=[]) (res:=.tup [.a [.b (.v (.bool true)),.b (.v (.pointer none)),.b (.v (.pointer none))],.c (.b (.v (.bool true)))]) (news:=[]) (evs:=[]) (Ns:=[(2,2004005)]) (m:=400) Tryz.func158 hmA (fun β=>by kernel_rfl) (by kernel_rfl) β w hh) (by kernel_rfl)
  · cases a with
    | ok x hx=>cases b with
     | ok y hy=>exact spec_auto (obs:=[]) (evs:=[(sOf (.ok x hx) (.ok y hy)).e]) (Ns:=[(2,2004005)]) (m:=400) Tryz.func158 hmA (fun β=>by kernel_rfl) (by kernel_rfl) β w hh
     | no b2 c2 s2 t2 h2 u2 v2=>exact spec_auto (obs:=[]) (evs:=[(sOf (.ok x hx) (.no b2 c2 s2 t2 h2 u2 v2)).e]) (Ns:=[(2,2004005)]) (m:=400) Tryz.func158 hmA (fun β=>by kernel_rfl) (by kernel_rfl) β w hh
    | no b1 c1 s1 t1 h1 u1 v1=>cases b with
     | ok y hy=>exact spec_auto (obs:=[]) (evs:=[(sOf (.no b1 c1 s1 t1 h1 u1 v1) (.ok y hy)).e]) (Ns:=[(2,2004005)]) (m:=400) Tryz.func158 hmA (fun β=>by kernel_rfl) (by kernel_rfl) β w hh
     | no b2 c2 s2 t2 h2 u2 v2=>exact spec_auto (obs:=[]) (evs:=[(sOf (.no b1 c1 s1 t1 h1 u1 v1) (.no b2 c2 s2 t2 h2 u2 v2)).e]) (Ns:=[(2,2004005)]) (m:=400) Tryz.func158 hmA (fun β=>by kernel_rfl) (by kernel_rfl) β w hh
  · exact nilpair (r:=(SV.tup [.a [.b (.v (.bool true)),.b (.v (.pointer none)),.b (.v (.pointer none))],.c (.b (.v (.bool false)))]).den) (r':=(SV.tup [.a [.b (.v (.bool true)),.b (.z 0 0),.b (.z 1 0)],.c (.b (.v (.bool false)))]).den) (spec_auto (args:=[.one (.a (lsX (Pp.odd x y h).C))]) (obs:=[]) (res:=.tup [.a [.b (.v (.bool true)),.b (.v (.pointer none)),.b (.v (.pointer none))],.c (.b (.v (.bool false)))]) (news:=[]) (evs:=[eqEvP true true x y r40 r40 false (odd_ne h)]) (Ns:=[(2,2004005)]) (m:=400) Tryz.func158 hmA (fun β=>by kernel_rfl) (by kernel_rfl) β w hh) (by kernel_rfl),by
  rcases p with _ | ⟨_ | _,_ | _⟩ | _<;>kernel_rfl⟩
theorem fitG_sz {z:GQ} (h:FitG z):GSz 1024 z:=⟨h.1.sz,h.2.sz⟩
theorem fitM_sz {m:MQ} (h:FitM m):MSz 1024 m:=⟨fitG_sz h.1,fitG_sz h.2.1,fitG_sz h.2.2.1,fitG_sz h.2.2.2⟩
def mCl (m:MQ):List Lf:=lsX (gC m.a)++lsX (gC m.b)++lsX (gC m.c)++lsX (gC m.d)++[.b (.v (.bool m.t))]
def ofE {z:GQ} (h:FitG z):Ev Tryz.prog:=(sOf (.ok z.re h.1) (.ok z.im h.2)).e
def of4E {m:MQ} (h:FitM m):List (Ev Tryz.prog):=[ofE h.1,ofE h.2.1,ofE h.2.2.1,ofE h.2.2.2]
def mB (k:Nat) (t:Bool):SC:=.a [.b (.z k 0),.b (.z (k+1) 0),.b (.z (k+2) 0),.b (.z (k+3) 0),.b (.z (k+4) 0),.b (.z (k+5) 0),.b (.z (k+6) 0),.b (.z (k+7) 0),.b (.v (.bool t))]
def mx0:SC:=.a [.b (.v (.pointer none)),.b (.v (.pointer none)),.b (.v (.pointer none)),.b (.v (.pointer none)),.b (.v (.pointer none)),.b (.v (.pointer none)),.b (.v (.pointer none)),.b (.v (.pointer none)),.b (.v (.bool false))]
theorem nil8 {P:Program} {f:FuncId} {args:Array Value} {w:World} {β:Env}
  (h:Calls P f args w fun e w'=>∃ xs:List Pl,freshS β w 0 xs∧e=.returned ((SV.tup [mx0,.c (.b (.v (.bool false)))]).den (extE β 0 xs))∧newHold w' [] xs∧Below w.heap.size w w') :
  Calls P f args w fun e w'=>∃ xs:List Pl,freshS β w 0 xs∧e=.returned ((SV.tup [mB 0 false,.c (.b (.v (.bool false)))]).den (extE β 0 xs))∧newHold w' any8 xs∧Below w.heap.size w w' :=
 h.mono fun e w' ⟨xs,h1,he,h2,h3⟩=>by
  have hn:AN w' nilPl:=fun _ h=>h.elim
  exact ⟨[nilPl,nilPl,nilPl,nilPl,nilPl,nilPl,nilPl,nilPl],fun x hx c hc=>by
   simp only [List.mem_cons,List.not_mem_nil,or_false,or_self] at hx
   subst hx
   exact hc.elim,by rw [he]; kernel_rfl,⟨hn,hn,hn,hn,hn,hn,hn,hn,trivial⟩,h3⟩
theorem openNum_ok (m:Mp) {r1 r2 r3 r4:Bool} (ha:(m.a.a.B&&m.a'.a.B)=r1) (hb:(m.b.a.B&&m.b'.a.B)=r2) (hc:(m.c.a.B&&m.c'.a.B)=r3) (hd:(m.d.a.B&&m.d'.a.B)=r4) (hf:(r1&&r2&&r3&&r4)=false) (β:Env) (w:World) (hh:∀ (k:Nat) (t:Thing),([]:List Thing)[k]?=some t→t.D w (β k)) :
  Calls Tryz.prog 144 (([.one (.a m.C)]:List SV).map (SV.den β)).toArray w fun e w'=>∃ xs:List Pl,freshS β w 0 xs∧e=.returned ((SV.tup [mx0,.c (.b (.v (.bool false)))]).den (extE β 0 xs))∧newHold w' [] xs∧Below w.heap.size w w':=by
 cases r1 with
 | false=>exact spec_auto (evs:=[(sOfW m.a m.a' ha).e,(sOfW m.b m.b' hb).e,(sOfW m.c m.c' hc).e,(sOfW m.d m.d' hd).e]) (Ns:=[(12,2016017)]) (m:=1200) Tryz.func144 hmA (fun β=>by kernel_rfl) (by kernel_rfl) β w hh
 | true=>cases r2 with
  | false=>exact spec_auto (evs:=[(sOfW m.a m.a' ha).e,(sOfW m.b m.b' hb).e,(sOfW m.c m.c' hc).e,(sOfW m.d m.d' hd).e]) (Ns:=[(12,2016017)]) (m:=1200) Tryz.func144 hmA (fun β=>by kernel_rfl) (by kernel_rfl) β w hh
  | true=>cases r3 with
   | false=>exact spec_auto (evs:=[(sOfW m.a m.a' ha).e,(sOfW m.b m.b' hb).e,(sOfW m.c m.c' hc).e,(sOfW m.d m.d' hd).e]) (Ns:=[(12,2016017)]) (m:=1200) Tryz.func144 hmA (fun β=>by kernel_rfl) (by kernel_rfl) β w hh
   | true=>cases r4 with
    | false=>exact spec_auto (evs:=[(sOfW m.a m.a' ha).e,(sOfW m.b m.b' hb).e,(sOfW m.c m.c' hc).e,(sOfW m.d m.d' hd).e]) (Ns:=[(12,2016017)]) (m:=1200) Tryz.func144 hmA (fun β=>by kernel_rfl) (by kernel_rfl) β w hh
    | true=>cases hf
def sOpenNum (m:Mp) {r1 r2 r3 r4:Bool} (ha:(m.a.a.B&&m.a'.a.B)=r1) (hb:(m.b.a.B&&m.b'.a.B)=r2) (hc:(m.c.a.B&&m.c'.a.B)=r3) (hd:(m.d.a.B&&m.d'.a.B)=r4) (hf:(r1&&r2&&r3&&r4)=false):Spec Tryz.prog :=
 ⟨144,Tryz.call144,[.one (.a m.C)],[],.tup [mB 0 false,.c (.b (.v (.bool false)))],any8,fun β w hh=>nil8 (openNum_ok m ha hb hc hd hf β w hh),by
  kernel_rfl⟩
def sOpenDet {m:MQ} (h:FitM m) (hd:gzero (mdet m)=true):Spec Tryz.prog :=
 ⟨144,Tryz.call144,[.one (.a (mCl m))],[],.tup [mB 0 false,.c (.b (.v (.bool false)))],any8,fun β w hh=>nil8 (spec_auto (obs:=[]) (args:=[.one (.a (mCl m))]) (res:=.tup [mx0,.c (.b (.v (.bool false)))]) (news:=[]) (evs:=of4E h++[(sDet ((fitM_sz h).mono (by decide))).e,(sZero hd).e]) (Ns:=[(12,2016017)]) (m:=1200) Tryz.func144 hmA (fun β=>by kernel_rfl) (by kernel_rfl) β w hh),by kernel_rfl⟩
def mayR (r1 r2 r3:Bool):Bool:=bif r1 then true else bif r2 then r3 else false
def sOpenM {m:MQ} (h:FitM m) {r1 r2 r3:Bool} (hd:gzero (mdet m)=false) (h1:gzero (gsub m.c (gint 1 0))=r1) (h2:gzero m.c=r2) (h3:gzero (gsub m.d (gint 1 0))=r3):Spec Tryz.prog :=
 ⟨144,Tryz.call144,[.one (.a (mCl m))],[],.tup [mA 0 m,.c (.b (.v (.bool (mayR r1 r2 r3))))],mT m,fun β w hh=>by
  have k1:GSz KE (gint 1 0):=(GSz.int (by decide) (by decide)).mono (by decide)
  cases r1
  · cases r2
    · exact spec_auto (obs:=[]) (evs:=of4E h++[(sDet ((fitM_sz h).mono (by decide))).e,(sZero hd).e,(sInt 1 0 (by decide) (by decide)).e,(sSame ((fitM_sz h).c.mono (by decide)) k1 h1).e,(sZero h2).e]) (Ns:=[(12,2016017)]) (m:=1200) Tryz.func144 hmA (fun β=>by kernel_rfl) (by kernel_rfl) β w hh
    · exact spec_auto (obs:=[]) (evs:=of4E h++[(sDet ((fitM_sz h).mono (by decide))).e,(sZero hd).e,(sInt 1 0 (by decide) (by decide)).e,(sSame ((fitM_sz h).c.mono (by decide)) k1 h1).e,(sZero h2).e,(sSame ((fitM_sz h).d.mono (by decide)) k1 h3).e]) (Ns:=[(12,2016017)]) (m:=1200) Tryz.func144 hmA (fun β=>by kernel_rfl) (by kernel_rfl) β w hh
  · exact spec_auto (obs:=[]) (evs:=of4E h++[(sDet ((fitM_sz h).mono (by decide))).e,(sZero hd).e,(sInt 1 0 (by decide) (by decide)).e,(sSame ((fitM_sz h).c.mono (by decide)) k1 h1).e]) (Ns:=[(12,2016017)]) (m:=1200) Tryz.func144 hmA (fun β=>by kernel_rfl) (by kernel_rfl) β w hh,by kernel_rfl⟩
end Go.Proofs.YtbepimnlleilfaaGreat.Y
end
