/- RRv, CiA, CiB, CiC, CiD, CiE, MtA, MtD, F1R, GsE, F1B, F1, Open. -/
import Derived.ProofKit
import Derived.OpenShut
import Derived.ShutString
import Derived.ChangeOld
import Derived.Below
import Derived.Test.YtpccljaooghafaaGreatPk13
set_option linter.unnecessarySimpa false
set_option linter.unusedVariables false
set_option linter.unusedSimpArgs false
section
namespace Go.Proofs.YtpccljaooghafaaGreat.Y
open Go Go.RowKit
set_option maxRecDepth 100000
def sRMade0 : Spec Tryz.prog :=
  ⟨291,Tryz.call291,[.one (.c (.b (.v (.bool false)))),nilW],[],whS 0,[],fun β w hh=>by
    refine (made_any false (Words.nil w) (by decide)).mono fun e w' ⟨he,hb⟩=>⟨[],(fun _ h=>by cases h),?_,trivial,hb⟩
    rw [he,show sg false (val []) = ((0 : Nat) : Int) from rfl,whole_nat]
    rfl,by kernel_rfl⟩
def sRProd0 : Spec Tryz.prog :=
  ⟨302,Tryz.call302,[nilW,nilW],[],wdS 0 0,[wdT 0],fun β w hh=>by
    refine (rproduct_any (Words.nil w) (Words.nil w) (by decide) (by decide)).mono fun e w' ⟨v,he,hv,hb⟩=>?_
    obtain ⟨A,c,rfl,h2⟩:=wd_of hv
    exact ⟨[wdPl A c],wd_fresh,by rw [he]; rfl,⟨h2,trivial⟩,hb⟩,by kernel_rfl⟩
theorem bits0 : Bits 0 0:=⟨by decide,fun h=>absurd h (by decide)⟩
theorem dl1 : dgL (2 ^ 0) ≤ 8589934592:=Nat.le_trans (dig_len_le 1 1 (by decide)) (by decide)
theorem dl0 : dgL 0 ≤ 4294967296:=Nat.le_trans (dig_len_le 0 0 (by decide)) (by decide)
theorem mg0 : (mag 0).size ≤ 4294967296:=by rw [mag_zero]; decide
def sRRoot0 : Spec Tryz.prog :=
  Spec.auto Tryz.call157 [whS 0] [] (rtRes 0 0) []
    [(sRWords 0 mg0).e,(sRBits bits0).e,(sRUp1 0 (by decide)).e,(sRMore0 dl1).e,(sRProd dl1).e,(sRUnder (2 ^ 0 * 2 ^ 0) 0).e,sRMade0.e,sRProd0.e,(sRLess (x:=0) (y:=0) (Nat.le_trans dl0 (by decide)) (Nat.le_refl 0)).e,(sRMade (x:=0 - 0) dl0).e] [] 800 Tryz.func157 hmA (by kernel_rfl) (fun β=>by kernel_rfl)
theorem rootA_ok {n R : Nat} (hm : (mag n).size ≤ 4294967296) (hd : dgL n ≤ 4294967290) (hR1 : R * R ≤ n) (hR2 : n < (R + 1) * (R + 1)) (β : Env) (w : World) (hh : ∀ (k : Nat) (t : Thing),([] : List Thing)[k]? = some t → t.D w (β k)) :
    Calls Tryz.prog 157 (([whS n] : List SV).map (SV.den β)).toArray w fun e w'=>∃ xs : List Pl,freshS β w 0 xs ∧ e = .returned ((rtRes R (n - R * R)).den (extE β 0 xs)) ∧ newHold w' [] xs ∧ Below w.heap.size w w':=by
  rcases Nat.eq_zero_or_pos n with rfl | hn
  · obtain rfl : R = 0:=by
      rcases Nat.eq_zero_or_pos R with h | h
      · exact h
      · have:=Nat.mul_pos h h
        omega
    exact sRRoot0.ok β w hh
  · exact (sRRoot hn hm hd hR1 hR2).ok β w hh
def sRRootA {n R : Nat} (b : Bool) (hb : b = false) (hm : (mag n).size ≤ 4294967296) (hd : dgL n ≤ 4294967290) (hR1 : R * R ≤ n) (hR2 : n < (R + 1) * (R + 1)) : Spec Tryz.prog :=
  ⟨157,Tryz.call157,[.one (.a [.b (.v (.bool b)),.b (.v (.string (mag n)))])],[],rtRes R (n - R * R),[],fun β w hh=>by
    subst hb
    exact rootA_ok hm hd hR1 hR2 β w hh,by kernel_rfl⟩
def sRSgn (m : Nat) {b : Bool} (hb : decide (m = 0) = b) : Spec Tryz.prog :=
  ⟨158,Tryz.call158,[whS m],[],.one (.c (.b (.v (.int .i64 (bif b then 0 else 1))))),[],fun β w hh=>by
    have h1:=rsign_w (w:=w) (p:=false) (s:=mag m) (n:=(m : Int)) (whole_nat m).symm
    refine h1.mono fun e w' ⟨he,hbb⟩=>⟨[],(fun _ h=>by cases h),?_,trivial,hbb⟩
    rw [he]
    cases b with
    | true =>
      obtain rfl : m = 0:=of_decide_eq_true hb
      rfl
    | false =>
      have : 0 < m:=Nat.pos_of_ne_zero (of_decide_eq_false hb)
      rw [Int.sign_eq_one_of_pos (by omega : (0 : Int) < (m : Int))]
      rfl,by kernel_rfl⟩
section
variable {x : Rat} (h0 : 0 ≤ x.num) {R S : Nat} (hm : (mag x.num.natAbs).size ≤ 4294967296) (hd : dgL x.num.natAbs ≤ 4294967290) (hm' : (mag x.den).size ≤ 4294967296) (hd' : dgL x.den ≤ 4294967290)
  (hR1 : R * R ≤ x.num.natAbs) (hR2 : x.num.natAbs < (R + 1) * (R + 1)) (hS1 : S * S ≤ x.den) (hS2 : x.den < (S + 1) * (S + 1))
noncomputable def sq3E : List (Ev Tryz.prog) :=
  [(sR3Sign (x:=x) rfl).e,.eqv 10 (.bool (decide (x.num.sign < 0))) (.bool false) (nat_sign (n:=x.num.natAbs) (by omega)),(sRRootA (decide (x.num < 0)) (decide_eq_false (by omega)) hm hd hR1 hR2).e,(sRRootA false rfl hm' hd' hS1 hS2).e]
noncomputable def sR3SqrtY (ha : decide (x.num.natAbs - R * R = 0) = true) (hb : decide (x.den - S * S = 0) = true) : Spec Tryz.prog :=
  Spec.auto Tryz.call31 [.one (.a (fC x))] [] (.tup [.a [.b (.v (.bool false)),.b (.v (.string (mag R))),.b (.v (.bool false)),.b (.v (.string (mag S)))],.c (.b (.v (.bool true)))]) []
    (sq3E h0 hm hd hm' hd' hR1 hR2 hS1 hS2 ++ [(sRSgn _ ha).e,(sRSgn _ hb).e]) [] 800 Tryz.func31 hmA (by kernel_rfl) (fun β=>by kernel_rfl)
noncomputable def sR3SqrtN1 (ha : decide (x.num.natAbs - R * R = 0) = false) : Spec Tryz.prog :=
  Spec.auto Tryz.call31 [.one (.a (fC x))] [] (.tup [.a (rL r40),.c (.b (.v (.bool false)))]) []
    (sq3E h0 hm hd hm' hd' hR1 hR2 hS1 hS2 ++ [(sRSgn _ ha).e]) [] 800 Tryz.func31 hmA (by kernel_rfl) (fun β=>by kernel_rfl)
noncomputable def sR3SqrtN2 (ha : decide (x.num.natAbs - R * R = 0) = true) (hb : decide (x.den - S * S = 0) = false) : Spec Tryz.prog :=
  Spec.auto Tryz.call31 [.one (.a (fC x))] [] (.tup [.a (rL r40),.c (.b (.v (.bool false)))]) []
    (sq3E h0 hm hd hm' hd' hR1 hR2 hS1 hS2 ++ [(sRSgn _ ha).e,(sRSgn _ hb).e]) [] 800 Tryz.func31 hmA (by kernel_rfl) (fun β=>by kernel_rfl)
end
end Go.Proofs.YtpccljaooghafaaGreat.Y
end
section
namespace Go.Proofs.YtpccljaooghafaaGreat.Y
open Go Go.RowKit
set_option maxRecDepth 100000
abbrev KC : Nat:=1000000
structure RQ where
  a : Rat
  b : GQ
  c : Rat
structure RSz (k : Nat) (r : RQ) : Prop where
  a : Sz k r.a
  b : GSz k r.b
  c : Sz k r.c
def rpow (r : RQ) : Rat:=gnorm r.b - r.a * r.c
def rbyQ (i j : Bool) (r : RQ) : Rat:=bif i then (bif j then r.b.im else r.b.re) else r.a
def rnm (r : RQ) (x : Rat) : RQ:=⟨r.a * x⁻¹,gscale r.b x⁻¹,r.c * x⁻¹⟩
def FitC (m : RQ) : Prop:=Fit m.a ∧ FitG m.b ∧ Fit m.c
section
variable {r : RQ} (h : RSz KC r) {i j : Bool} (hi : decide (r.a = 0) = i) (hj : decide (r.b.re = 0) = j) (h0 : rbyQ i j r ≠ 0)
include h hi hj h0
end
def rby (r : RQ) : Rat:=rbyQ (decide (r.a = 0)) (decide (r.b.re = 0)) r
def rone (r : RQ) : RQ:=rnm r (rby r)
end Go.Proofs.YtpccljaooghafaaGreat.Y
end
section
namespace Go.Proofs.YtpccljaooghafaaGreat.Y
open Go Go.RowKit
set_option maxRecDepth 100000
inductive Fn where
  | ok (x : Rat) (h : Fit x)
  | no (f : Fr) (h : f.a.B = false)
def Fn.fr : Fn → Fr
  | .ok x h=>frX x h
  | .no f _=>f
def Fn.r (a : Fn) : R4:=a.fr.r
end Go.Proofs.YtpccljaooghafaaGreat.Y
end
section
namespace Go.Proofs.YtpccljaooghafaaGreat.Y
open Go Go.RowKit
set_option maxRecDepth 100000
abbrev KD5 : Nat:=5000
end Go.Proofs.YtpccljaooghafaaGreat.Y
end
section
namespace Go.Proofs.YtpccljaooghafaaGreat.Y
open Go Go.RowKit
set_option maxRecDepth 100000
theorem sz1_le : sz 1 ≤ 1000000000:=Nat.le_trans (m:=1) (sz_le.2 (by decide)) (by decide)
theorem sz2_le : sz 2 ≤ 1000000000:=Nat.le_trans (m:=1) (sz_le.2 (by decide)) (by decide)
def sR3Small (n m : Int) (hn : -9223372036854775808 ≤ n ∧ n ≤ 9223372036854775807) (hm : -9223372036854775808 ≤ m ∧ m ≤ 9223372036854775807) (h0 : m ≠ 0) (sn : sz n ≤ 1000000000) (sm : sz m ≤ 1000000000) : Spec Tryz.prog :=
  Spec.auto Tryz.call27 [.one (svI n),.one (svI m)] [] (.one (.a (fC (Rat.divInt n m)))) [] [eWOf n hn,eWOf m hm,eFOf sn sm h0] [] 400 Tryz.func27 hmA (by kernel_rfl) (fun β=>by kernel_rfl)
section
variable {p q r : Pt} (hp : FitP p) (hq : FitP q) (hr : FitP r)
theorem hf_sz : Sz 8 (Rat.divInt 1 2):=sz_lit 1 2 (by decide) (by decide) (by decide)
end
end Go.Proofs.YtpccljaooghafaaGreat.Y
end
section
namespace Go.Proofs.YtpccljaooghafaaGreat.Y
open Go Go.RowKit
set_option maxRecDepth 100000
structure MayC (r : RQ) : Prop where
  fit : FitC r
  pow : decide ((rpow r).num.sign ≤ 0) = false
  one : rone r = r
end Go.Proofs.YtpccljaooghafaaGreat.Y
end
section
namespace Go.Proofs.YtpccljaooghafaaGreat.Y
open Go Go.RowKit
set_option maxRecDepth 100000
structure CkNo (l : List Lf) : Prop where
  cl : l.all (Lf.of fun _=>false) = true
  prog : ∀ (β : Env) (w : World),Calls Tryz.prog 97 (([.one (.a l)] : List SV).map (SV.den β)).toArray w fun e w'=>e = .returned (.int .i64 2) ∧ Below w.heap.size w w'
  ref : ∀ (β : Env) (w : World),Calls Tryz.prog 253 (([.one (.a l)] : List SV).map (SV.den β)).toArray w fun e w'=>e = .returned (.int .i64 2) ∧ Below w.heap.size w w'
inductive Cp where
  | ok (r : RQ) (h : MayC r)
  | no (a b b' c : R4) (h : CkNo (rL a ++ (rL b ++ rL b') ++ rL c))
def Cp.a : Cp → R4
  | .ok r _=>fR r.a
  | .no a _ _ _ _=>a
def Cp.b : Cp → R4
  | .ok r _=>fR r.b.re
  | .no _ b _ _ _=>b
def Cp.c : Cp → R4
  | .ok r _=>fR r.c
  | .no _ _ _ c _=>c
end Go.Proofs.YtpccljaooghafaaGreat.Y
end
section
namespace Go.Proofs.YtpccljaooghafaaGreat.Y
open Go Go.RowKit
set_option maxRecDepth 100000
abbrev fcS (x : Rat) : SV:=.one (.a (fC x))
abbrev hf2 : Rat:=Rat.divInt 1 2
noncomputable def sR3CmpK {x y : Rat} (hx : Sz KC x) (hy : Sz KC y) {k : Int} (hk : cmpQ x y = k) : Spec Tryz.prog :=
  (Spec.auto Tryz.call18 [fcS x,fcS y] [] (.one (svI (cmpI (x.num * y.den) (y.num * x.den)))) []
    [eWTimes (Nat.le_trans hx.1 (by decide)) (Nat.le_trans hy.2 (by decide)),eWTimes (Nat.le_trans hy.1 (by decide)) (Nat.le_trans hx.2 (by decide)),eWCmp (Nat.le_trans (sz_mul hx.1 hy.2) (by decide)) (Nat.le_trans (sz_mul hy.1 hx.2) (by decide))] [(1,12)] 400 Tryz.func18 hmA (by kernel_rfl) (fun β=>by kernel_rfl)).conv (.one (svI k)) (congrArg (fun c=>SV.one (svI c)) ((cmpQ_of x y).trans hk))
end Go.Proofs.YtpccljaooghafaaGreat.Y
end
section
namespace Go.Proofs.YtpccljaooghafaaGreat.Y
open Go Go.RowKit
set_option maxRecDepth 100000
abbrev wS (n : Int) : SV:=.one (.a (wC n))
abbrev bS (b : Bool) : SV:=.one (.c (.b (.v (.bool b))))
def sRMadeS (b : Bool) {x : Nat} (hx : dgL x ≤ 4294967296) : Spec Tryz.prog :=
  ⟨291,Tryz.call291,[bS b,wdS 0 x],[wdT x],wS (sg b x),[],fun β w hh=>by
    have h0 : WD x w (β 0):=hh 0 _ rfl
    refine (made_any b h0.1 hx).mono fun e w' ⟨he,hb⟩=>⟨[],(fun _ h=>by cases h),?_,trivial,hb⟩
    rw [he,val_dig]
    rfl,by kernel_rfl⟩
def sRDivided {a b : Nat} (hb : 0 < b) (hl : dgL a ≤ 4294967296) : Spec Tryz.prog :=
  ⟨323,Tryz.call323,[wdS 0 a,wdS 1 b],[wdT a,wdT b],.tup [.c (.b (.y 2 0 (dgL (a / b)))),.c (.b (.y 3 0 (dgL (a % b))))],[wdT (a / b),wdT (a % b)],fun β w hh=>by
    have h0 : WD a w (β 0):=hh 0 _ rfl
    have h1 : WD b w (β 1):=hh 1 _ rfl
    refine (divided_any h0.1 h1.1 hb hl).mono fun e w' hp=>?_
    obtain ⟨v,u,he,hv,hu,hB⟩:=hp
    obtain ⟨A,c,rfl,h2⟩:=wd_of hv
    obtain ⟨A',c',rfl,h3⟩:=wd_of hu
    refine ⟨[wdPl A c,wdPl A' c'],fun x hx c hc=>?_,by rw [he]; rfl,⟨h2,h3,trivial⟩,hB⟩
    rcases List.mem_cons.1 hx with rfl | hx
    · exact hc.elim
    · obtain rfl:=List.mem_singleton.1 hx
      exact hc.elim,by kernel_rfl⟩
def sRMinus2 {n m : Int} (hn : sz n ≤ 1000000000) (hm : sz m ≤ 1000000000) : Spec Tryz.prog :=
  (Spec.auto Tryz.call324 [wS n,wS m] [] (wS (n + -m)) [] [eWNeg m,eWPlus hn (Nat.le_trans (Nat.le_of_eq (sz_neg m)) hm)] [(1,4)] 400 Tryz.func324 hmA (by kernel_rfl) (fun β=>by kernel_rfl)).conv (wS (n - m)) (congrArg (fun k=>wS k) Int.sub_eq_add_neg.symm)
theorem abs_sv (m : Nat) : SV.one (.a [.b (.v (.bool false)),.b (.v (.string (mag m)))]) = wS (m : Int):=by
  unfold wS wC
  rw [decide_eq_false (by omega : ¬ ((m : Int) < 0)),Int.natAbs_natCast]
def sRAbs2 (n : Int) : Spec Tryz.prog :=
  (Spec.auto Tryz.call160 [wS n] [] (.one (.a [.b (.v (.bool false)),.b (.v (.string (mag n.natAbs)))])) [] [] [] 400 Tryz.func160 hmA (by kernel_rfl) (fun β=>by kernel_rfl)).conv (wS (n.natAbs : Int)) (abs_sv n.natAbs)
theorem bne_lit {x y t : Bool} (h : (x != y) = t) : Value.bool (x != y) = .bool t:=by rw [h]
theorem neg_lit {a : Int} {t : Bool} (h : decide (a < 0) = t) : Value.bool (decide (a < 0)) = .bool t:=by rw [h]
theorem nil_lit {r : Nat} {t : Bool} (h : decide (r = 0) = t) : Value.bool (((dgL r : Nat) : Int) == 0) = .bool t:=by
  rw [← h]
  congr 1
  rw [Bool.eq_iff_iff,beq_iff_eq,decide_eq_true_iff]
  have:=dig_nil_iff r
  constructor
  · intro h
    have h : ((dig r).length : Int) = 0:=h
    exact this.1 (List.eq_nil_of_length_eq_zero (by omega))
  · intro h
    have:=this.2 h
    show ((dig r).length : Int) = 0
    rw [this]
    rfl
structure DvD (a b : Int) : Prop where
  hb : 0 < b
  ha : sz a ≤ 100000000
  hb2 : sz b ≤ 100000000
theorem dg_sz {n : Nat} {k : Nat} (h : (mag n).size ≤ k) : dgL n ≤ k + 4:=by
  have:=wl_size h
  show (dig n).length ≤ k + 4
  omega
section
variable {a b : Int} (h : DvD a b)
include h
theorem DvD.pos : 0 < b.natAbs:=by have:=h.hb; omega
theorem DvD.dg (x : Nat) (hx : x ≤ a.natAbs) : dgL x ≤ 4294967296:=Nat.le_trans (dig_len_mono _ _ hx) (Nat.le_trans (dg_sz h.ha) (by decide))
theorem DvD.dg2 (x : Nat) (hx : x ≤ b.natAbs) : dgL x ≤ 4294967296:=Nat.le_trans (dig_len_mono _ _ hx) (Nat.le_trans (dg_sz h.hb2) (by decide))
theorem DvD.sq (t : Bool) : sz (sg t (a.natAbs / b.natAbs)) ≤ 100000000:=by
  unfold sz
  rw [sg_natAbs]
  exact mag_mono (Nat.div_le_self _ _) h.ha
theorem DvD.sr : sz (sg false (a.natAbs % b.natAbs)) ≤ 100000000:=by
  unfold sz
  rw [sg_natAbs]
  exact mag_mono (Nat.le_of_lt (Nat.mod_lt _ h.pos)) h.hb2
end
noncomputable def dvE {a b : Int} (h : DvD a b) {t : Bool} (ht : decide (a < 0) = t) : List (Ev Tryz.prog) :=
  [(sRWords a.natAbs (Nat.le_trans h.ha (by decide))).e,(sRWords b.natAbs (Nat.le_trans h.hb2 (by decide))).e,(sRDivided h.pos (h.dg a.natAbs (Nat.le_refl _))).e,
    .eqv 24 (.bool (decide (a < 0) != decide (b < 0))) (.bool t) (bne_lit (by rw [ht,decide_eq_false (by have:=h.hb; omega : ¬ b < 0)]; cases t <;> rfl)),(sRMadeS t (h.dg (a.natAbs / b.natAbs) (Nat.div_le_self _ _))).e,(sRMadeS false (h.dg2 (a.natAbs % b.natAbs) (Nat.le_of_lt (Nat.mod_lt _ h.pos)))).e,
    .eqv 30 (.bool (decide (a < 0))) (.bool t) (neg_lit ht)]
abbrev dvNs : List (Nat × Nat):=[(1,12),(4,3002003),(7,3),(8,5)]
abbrev dvR (q r : Int) : SV:=.tup [.a (wC q),.a (wC r)]
noncomputable def sDv0 {a b : Int} (h : DvD a b) (ht : decide (a < 0) = false) : Spec Tryz.prog :=
  Spec.auto Tryz.call161 [wS a,wS b] [] (dvR (sg false (a.natAbs / b.natAbs)) (sg false (a.natAbs % b.natAbs))) [] (dvE h ht) dvNs 800 Tryz.func161 hmA (by kernel_rfl) (fun β=>by kernel_rfl)
noncomputable def sDv1 {a b : Int} (h : DvD a b) (ht : decide (a < 0) = true) (hr : decide (a.natAbs % b.natAbs = 0) = true) : Spec Tryz.prog :=
  Spec.auto Tryz.call161 [wS a,wS b] [] (dvR (sg true (a.natAbs / b.natAbs)) (sg false (a.natAbs % b.natAbs))) [] (dvE h ht ++ [.eqv 35 (.bool (((dgL (a.natAbs % b.natAbs) : Nat) : Int) == 0)) (.bool true) (nil_lit hr)]) dvNs 800 Tryz.func161 hmA (by kernel_rfl) (fun β=>by kernel_rfl)
theorem abs_pos {b : Int} (h : 0 < b) : ((b.natAbs : Nat) : Int) = b:=by omega
noncomputable def sDv2 {a b : Int} (h : DvD a b) (ht : decide (a < 0) = true) (hr : decide (a.natAbs % b.natAbs = 0) = false) : Spec Tryz.prog :=
  Spec.auto Tryz.call161 [wS a,wS b] [] (dvR (sg true (a.natAbs / b.natAbs) - 1) ((b.natAbs : Int) - sg false (a.natAbs % b.natAbs))) []
    (dvE h ht ++ [.eqv 35 (.bool (((dgL (a.natAbs % b.natAbs) : Nat) : Int) == 0)) (.bool false) (nil_lit hr),.eqv 40 (.bool (decide (b < 0))) (.bool false) (neg_lit (decide_eq_false (by have:=h.hb; omega))),eWOf 1 (by decide),(sRMinus2 (n:=sg true (a.natAbs / b.natAbs)) (m:=1) (Nat.le_trans (h.sq true) (by decide)) (Nat.le_trans sz1_le (by decide))).e,
      (sRAbs2 b).e,(sRMinus2 (n:=(b.natAbs : Int)) (m:=sg false (a.natAbs % b.natAbs)) (by rw [abs_pos h.hb]; exact Nat.le_trans h.hb2 (by decide)) (Nat.le_trans h.sr (by decide))).e]) dvNs 800 Tryz.func161 hmA (by kernel_rfl) (fun β=>by kernel_rfl)
theorem dv_ok {a b : Int} (h : DvD a b) (β : Env) (w : World) (hh : ∀ (k : Nat) (t : Thing),([] : List Thing)[k]? = some t → t.D w (β k)) :
    Calls Tryz.prog 161 (([wS a,wS b] : List SV).map (SV.den β)).toArray w fun e w'=>∃ xs : List Pl,freshS β w 0 xs ∧ e = .returned ((dvR (a / b) (a % b)).den (extE β 0 xs)) ∧ newHold w' [] xs ∧ Below w.heap.size w w':=by
  have hb:=h.hb
  have eb : b = ((b.natAbs : Nat) : Int):=by omega
  have hp:=h.pos
  cases ht : decide (a < 0) with
  | false =>
    have ea : a = ((a.natAbs : Nat) : Int):=by have:=of_decide_eq_false ht; omega
    obtain ⟨h1,h2⟩:=dm_pos a.natAbs b.natAbs
    rw [← ea,← eb] at h1 h2
    rw [h1,h2]
    exact (sDv0 h ht).ok β w hh
  | true =>
    have ea : a = -((a.natAbs : Nat) : Int):=by have:=of_decide_eq_true ht; omega
    cases hr : decide (a.natAbs % b.natAbs = 0) with
    | true =>
      obtain ⟨h1,h2⟩:=dm_neg0 a.natAbs b.natAbs hp (of_decide_eq_true hr)
      rw [← ea,← eb] at h1 h2
      have e2 : a % b = sg false (a.natAbs % b.natAbs):=by rw [h2,of_decide_eq_true hr]; rfl
      rw [h1,e2]
      exact (sDv1 h ht hr).ok β w hh
    | false =>
      obtain ⟨h1,h2⟩:=dm_neg1 a.natAbs b.natAbs hp (of_decide_eq_false hr)
      rw [← ea,← eb] at h1 h2
      have e2 : a % b = (b.natAbs : Int) - sg false (a.natAbs % b.natAbs):=by rw [h2,abs_pos hb]; rfl
      rw [h1,e2]
      exact (sDv2 h ht hr).ok β w hh
noncomputable def sRDivMod {a b : Int} (h : DvD a b) : Spec Tryz.prog :=
  ⟨161,Tryz.call161,[wS a,wS b],[],dvR (a / b) (a % b),[],dv_ok h,by kernel_rfl⟩
theorem abs3_sv (x : Rat) : SV.one (.a [.b (.v (.bool (decide ((x.num.natAbs : Int) < 0)))),.b (.v (.string (mag (x.num.natAbs : Int).natAbs))),.b (.v (.bool false)),.b (.v (.string (mag x.den)))]) = .one (.a (fC (if x.num < 0 then -x else x))):=by
  split
  · rename_i h
    show _ = SV.one (.a [.b (.v (.bool (decide ((-x).num < 0)))),.b (.v (.string (mag (-x).num.natAbs))),.b (.v (.bool false)),.b (.v (.string (mag (-x).den)))])
    rw [show (-x).num = (x.num.natAbs : Int) by rw [Rat.neg_num]; omega,Rat.neg_den]
  · rename_i h
    show _ = SV.one (.a [.b (.v (.bool (decide (x.num < 0)))),.b (.v (.string (mag x.num.natAbs))),.b (.v (.bool false)),.b (.v (.string (mag x.den)))])
    rw [show (x.num.natAbs : Int) = x.num by omega]
noncomputable def sR3Abs (x : Rat) : Spec Tryz.prog :=
  (Spec.auto Tryz.call33 [.one (.a (fC x))] [] (.one (.a [.b (.v (.bool (decide ((x.num.natAbs : Int) < 0)))),.b (.v (.string (mag (x.num.natAbs : Int).natAbs))),.b (.v (.bool false)),.b (.v (.string (mag x.den)))])) []
    [(sRAbs2 x.num).e] [(1,6)] 400 Tryz.func33 hmA (by kernel_rfl) (fun β=>by kernel_rfl)).conv (.one (.a (fC (if x.num < 0 then -x else x)))) (abs3_sv x)
theorem dv_frac {x : Rat} (hx : Sz 100000000 x) : DvD x.num x.den:=⟨Int.natCast_pos.2 x.den_pos,hx.1,hx.2⟩
theorem wC_den (x : Rat) : wC (x.den : Int) = [.b (.v (.bool false)),.b (.v (.string (mag x.den)))]:=by
  unfold wC
  rw [decide_eq_false (by omega : ¬ ((x.den : Int) < 0)),Int.natAbs_natCast]
def Spec.argc {P : Program} (S : Spec P) (args : List SV) (h : S.args = args) : Spec P:=⟨S.f,S.en,args,S.obs,S.res,S.news,fun β w hh=>h ▸ S.ok β w hh,h ▸ S.closed⟩
noncomputable def sR3Floor {x : Rat} (hx : Sz 100000000 x) : Spec Tryz.prog :=
  Spec.auto Tryz.call34 [.one (.a (fC x))] [] (wS (flQ x)) [] [((sRDivMod (dv_frac hx)).argc [wS x.num,.one (.a [.b (.v (.bool false)),.b (.v (.string (mag x.den)))])] (by show [wS x.num,wS (x.den : Int)] = _; rw [wS,wS,wC_den])).e] [] 400 Tryz.func34 hmA (by kernel_rfl) (fun β=>by kernel_rfl)
noncomputable def sR3Whole (n : Int) : Spec Tryz.prog :=
  (Spec.auto Tryz.call135 [wS n] [] (.one (.a [.b (.v (.bool (decide (n < 0)))),.b (.v (.string (mag n.natAbs))),.b (.v (.bool false)),.b (.v (.string (mag 1)))])) [] [eWOf 1 (by decide)] [(1,3)] 400 Tryz.func135 hmA (by kernel_rfl) (fun β=>by kernel_rfl)).conv (.one (.a (fC (Rat.divInt n 1)))) (congrArg (fun l=>SV.one (.a l)) (fC_int n).symm)
section
variable {x : Rat} (hx : Fit x)
abbrev nrO (x : Rat) : Rat:=x - Rat.divInt (flQ x) 1
include hx in
theorem nr_fl : sz (flQ x) ≤ 1024:=sz_flQ hx.sz
include hx in
theorem nr_sz : Sz 1024 (Rat.divInt (flQ x) 1):=by
  refine ⟨?_,?_⟩
  · rw [(divInt_one _).1]; exact nr_fl hx
  · rw [(divInt_one _).2]; exact Nat.le_trans (m:=1) (sz_le.2 (by decide)) (by decide)
include hx in
theorem nr_off : Sz 5000 (nrO x):=(hx.sz.sub (nr_sz hx)).mono (by decide)
include hx in
theorem nr_dv : DvD (flQ x) 2:=⟨by decide,Nat.le_trans (nr_fl hx) (by decide),Nat.le_trans (m:=1) (sz_le.2 (by decide)) (by decide)⟩
theorem pos_lit {c : Int} {g : Bool} (h : decide (0 < c) = g) : Value.bool (decide (0 < c)) = .bool g:=by rw [h]
theorem eq0_lit {c : Int} {g : Bool} (h : (c == 0) = g) : Value.bool (c == 0) = .bool g:=by rw [h]
theorem ne0_lit {c : Int} {g : Bool} (h : (!(c == 0)) = g) : Value.bool (!(c == 0)) = .bool g:=by rw [h]
noncomputable def nr3E {c : Int} (hc : cmpQ (nrO x) hf2 = c) {g : Bool} (hg : decide (0 < c) = g) : List (Ev Tryz.prog) :=
  [(sR3Floor (hx.sz.mono (by decide))).e,(sR3Whole (flQ x)).e,(sR3Minus (hx.sz.mono (by decide)) ((nr_sz hx).mono (by decide))).e,(sR3Small 1 2 (by decide) (by decide) (by decide) sz1_le sz2_le).e,(sR3CmpK ((nr_off hx).mono (by decide)) (hf_sz.mono (by decide)) hc).e,
    eWOf 2 (by decide),(sRDivMod (nr_dv hx)).e,.eqv 24 (.bool (decide (0 < c))) (.bool g) (pos_lit hg)]
noncomputable def nr3U : List (Ev Tryz.prog):=[eWOf 1 (by decide),eWPlus (n:=flQ x) (m:=1) (Nat.le_trans (nr_fl hx) (by decide)) (Nat.le_trans sz1_le (by decide))]
abbrev nr3N : List (Nat × Nat):=[(2,5),(3,4),(4,5008009),(6,3)]
noncomputable def sNr1 {c : Int} (hc : cmpQ (nrO x) hf2 = c) (hg : decide (0 < c) = true) : Spec Tryz.prog :=
  Spec.auto Tryz.call35 [.one (.a (fC x))] [] (wS (flQ x + 1)) [] (nr3E hx hc hg ++ nr3U hx) nr3N 1200 Tryz.func35 hmA (by kernel_rfl) (fun β=>by kernel_rfl)
noncomputable def sNr2 {c : Int} (hc : cmpQ (nrO x) hf2 = c) (hg : decide (0 < c) = false) (hz : (c == 0) = false) : Spec Tryz.prog :=
  Spec.auto Tryz.call35 [.one (.a (fC x))] [] (wS (flQ x)) [] (nr3E hx hc hg ++ [.eqv 27 (.bool (c == 0)) (.bool false) (eq0_lit hz)]) nr3N 1200 Tryz.func35 hmA (by kernel_rfl) (fun β=>by kernel_rfl)
noncomputable def sNr3 {c : Int} (hc : cmpQ (nrO x) hf2 = c) (hg : decide (0 < c) = false) (hz : (c == 0) = true) (ho : (!((flQ x % 2).sign == 0)) = true) : Spec Tryz.prog :=
  Spec.auto Tryz.call35 [.one (.a (fC x))] [] (wS (flQ x + 1)) [] (nr3E hx hc hg ++ [.eqv 27 (.bool (c == 0)) (.bool true) (eq0_lit hz),eWSign (n:=flQ x % 2) rfl,.eqv 31 (.bool (!((flQ x % 2).sign == 0))) (.bool true) (ne0_lit ho)] ++ nr3U hx) nr3N 1200 Tryz.func35 hmA (by kernel_rfl) (fun β=>by kernel_rfl)
noncomputable def sNr4 {c : Int} (hc : cmpQ (nrO x) hf2 = c) (hg : decide (0 < c) = false) (hz : (c == 0) = true) (ho : (!((flQ x % 2).sign == 0)) = false) : Spec Tryz.prog :=
  Spec.auto Tryz.call35 [.one (.a (fC x))] [] (wS (flQ x)) [] (nr3E hx hc hg ++ [.eqv 27 (.bool (c == 0)) (.bool true) (eq0_lit hz),eWSign (n:=flQ x % 2) rfl,.eqv 31 (.bool (!((flQ x % 2).sign == 0))) (.bool false) (ne0_lit ho)]) nr3N 1200 Tryz.func35 hmA (by kernel_rfl) (fun β=>by kernel_rfl)
theorem sign_nz (m : Int) : (!(m.sign == 0)) = decide (m ≠ 0):=by
  rw [Bool.eq_iff_iff]
  simp [Int.sign_eq_zero_iff_zero]
include hx in
theorem near_ok (β : Env) (w : World) (hh : ∀ (k : Nat) (t : Thing),([] : List Thing)[k]? = some t → t.D w (β k)) :
    Calls Tryz.prog 35 (([.one (.a (fC x))] : List SV).map (SV.den β)).toArray w fun e w'=>∃ xs : List Pl,freshS β w 0 xs ∧ e = .returned ((wS (nearQ x)).den (extE β 0 xs)) ∧ newHold w' [] xs ∧ Below w.heap.size w w':=by
  have hoff : x - ((flQ x : Int) : Rat) = nrO x:=by rw [int_divInt]
  have hu:=near_up x
  unfold upQ at hu
  rw [hoff] at hu
  obtain ⟨c,hc⟩ : ∃ c,cmpQ (nrO x) hf2 = c:=⟨_,rfl⟩
  have hc2:=hc
  unfold cmpQ at hc2
  by_cases h1 : nrO x < hf2
  · rw [if_pos h1] at hc2
    subst hc2
    rw [decide_eq_false (fun h=>by grind),decide_eq_false (fun h=>by grind)] at hu
    rw [hu,if_neg (by simp)]
    exact (sNr2 hx hc rfl rfl).ok β w hh
  · rw [if_neg h1] at hc2
    by_cases h2 : hf2 < nrO x
    · rw [if_pos h2] at hc2
      subst hc2
      rw [decide_eq_true h2] at hu
      rw [hu,if_pos (by simp)]
      exact (sNr1 hx hc rfl).ok β w hh
    · rw [if_neg h2] at hc2
      subst hc2
      have h3 : nrO x = hf2:=Rat.le_antisymm (Rat.not_lt.1 h2) (Rat.not_lt.1 h1)
      rw [decide_eq_false h2,decide_eq_true h3,Bool.false_or,Bool.true_and] at hu
      cases ho : (!((flQ x % 2).sign == 0)) with
      | true =>
        rw [← sign_nz,ho] at hu
        rw [hu,if_pos rfl]
        exact (sNr3 hx hc rfl rfl ho).ok β w hh
      | false =>
        rw [← sign_nz,ho] at hu
        rw [hu,if_neg (by simp)]
        exact (sNr4 hx hc rfl rfl ho).ok β w hh
noncomputable def sR3Nearest : Spec Tryz.prog :=
  ⟨35,Tryz.call35,[.one (.a (fC x))],[],wS (nearQ x),[],near_ok hx,by kernel_rfl⟩
end
end Go.Proofs.YtpccljaooghafaaGreat.Y
end
section
namespace Go.Proofs.YtpccljaooghafaaGreat.Y
open Go Go.RowKit
set_option maxRecDepth 100000
theorem pow_dig (m : Nat) : (4294967296 : Nat) ^ (m + 1) = 256 ^ (4 * m) * 4294967296:=by
  rw [Nat.pow_succ,Nat.pow_mul]
theorem dig_big {n k : Nat} (h : n < 256 ^ k) (hk : k ≤ 8000) : (dig (5 * n)).length ≤ 4294967296:=by
  obtain ⟨m,hm⟩ : ∃ m : Nat,m = 2000:=⟨_,rfl⟩
  have hkm : k ≤ 4 * m:=by omega
  refine Nat.le_trans (dig_len_le (5 * n) (m + 1) ?_) (by omega)
  have h1 : 256 ^ k ≤ 256 ^ (4 * m):=Nat.pow_le_pow_right (by decide) hkm
  rw [pow_dig]
  generalize (256 : Nat) ^ (4 * m) = z at h1
  omega
section
variable {u : GQ} (hu : GSz 64 u)
include hu
end
end Go.Proofs.YtpccljaooghafaaGreat.Y
end
section
namespace Go.Proofs.YtpccljaooghafaaGreat.Y
open Go Go.RowKit
set_option maxRecDepth 100000
abbrev ansC (q : Rat) : List Lf:=[.b (.v (.bool (ansB q))),.b (.v (.string (ansS q))),.b (.v (.bool false)),.b (.v (.string (ansD q)))]
abbrev ansP (q : Rat) : SV:=.tup [.a (ansC q),.c (.b (.v (.int .i64 (ansK q))))]
def ansW (q : Rat) : Value:=.agg #[.bool (ansB q),.string (ansS q),.bool false,.string (ansD q)]
def pairW (q : Rat) : Value:=.tuple #[ansW q,.int .i64 (ansK q)]
theorem ret_ans {f : FuncId} {args : Array Value} {w : World} {q : Rat} (h : Calls Tryz.prog f args w fun e w'=>e = .returned (.tuple #[ansV q,.int .i64 (ansK q)]) ∧ Below w.heap.size w w') : Calls Tryz.prog f args w fun e w'=>e = .returned (pairW q) ∧ Below w.heap.size w w':=by
  unfold pairW ansW
  rw [ansW_eq]
  exact h
def frac0k (k : Int) : Value:=.tuple #[.agg #[.bool false,.string ⟨#[]⟩,.bool false,.string ⟨#[]⟩],.int .i64 k]
section
variable {x y : Rat} (hx : Fit x) (hy : Fit y)
def eFcAdd : Ev Tryz.prog:=.ret 123 Tryz.call123 #[fracV x,fracV y] _ (fun w=>ret_ans (bin_in (FAdd_any _ _ _ _ _ _ _ _ (fit_maxLen hx).1 (fit_maxLen hx).2 (fit_maxLen hy).1 (fit_maxLen hy).2) rfl rfl hx hy))
def eFcSub : Ev Tryz.prog:=.ret 139 Tryz.call139 #[fracV x,fracV y] _ (fun w=>ret_ans (bin_in (FSub_any _ _ _ _ _ _ _ _ (fit_maxLen hx).1 (fit_maxLen hx).2 (fit_maxLen hy).1 (fit_maxLen hy).2) rfl rfl hx hy))
end
section
variable (x : Rat) (hx : Fit x) (b2 c2 : Bool) (s2 t2 : ByteArray) (hs2 : s2.size ≤ maxLen) (ht2 : t2.size ≤ maxLen) (h : ¬ IsFrac (rawV b2 c2 s2 t2))
def eFcAddN : Ev Tryz.prog:=.ret 123 Tryz.call123 #[rawV b2 c2 s2 t2,fracV x] _ (fun w=>bin_out (FAdd_any b2 c2 _ _ s2 t2 _ _ hs2 ht2 (fit_maxLen hx).1 (fit_maxLen hx).2) (fun k=>h k.1))
def eFcSubN : Ev Tryz.prog:=.ret 139 Tryz.call139 #[fracV x,rawV b2 c2 s2 t2] _ (fun w=>bin_out (FSub_any _ _ b2 c2 _ _ s2 t2 (fit_maxLen hx).1 (fit_maxLen hx).2 hs2 ht2) (fun k=>h k.2))
include hs2 ht2 h in
theorem signN_w (w : World) : Calls Tryz.prog 30 #[rawV b2 c2 s2 t2] w fun e w'=>e = .returned (.int .i64 0) ∧ Below w.heap.size w w' :=
  (FSign_any b2 c2 s2 t2 hs2 ht2).mono fun e w' ⟨k,he,hk,hb⟩=>by
    rcases hk with ⟨y,hy,hv,_⟩ | ⟨_,rfl⟩
    · exact absurd ⟨y,hy,hv⟩ h
    · exact ⟨he,hb⟩
def eFcSignN : Ev Tryz.prog:=.ret 30 Tryz.call30 #[rawV b2 c2 s2 t2] (.int .i64 0) (fun w=>signN_w b2 c2 s2 t2 hs2 ht2 h w)
include hs2 ht2 h in
theorem nearN_w (w : World) : Calls Tryz.prog 24 #[rawV b2 c2 s2 t2] w fun e w'=>e = .returned (.tuple #[.agg #[.bool false,.string ⟨#[]⟩],.int .i64 2]) ∧ Below w.heap.size w w' :=
  (Nearest_any b2 c2 s2 t2 hs2 ht2).mono fun e w' ⟨v,k,he,hk,hb⟩=>by
    rcases hk with ⟨y,hy,hv,_⟩ | ⟨_,rfl,rfl⟩
    · exact absurd ⟨y,hy,hv⟩ h
    · exact ⟨he,hb⟩
def eFcNearN : Ev Tryz.prog:=.ret 24 Tryz.call24 #[rawV b2 c2 s2 t2] (.tuple #[.agg #[.bool false,.string ⟨#[]⟩],.int .i64 2]) (fun w=>nearN_w b2 c2 s2 t2 hs2 ht2 h w)
end
theorem signF_w {x : Rat} (hx : Fit x) (w : World) : Calls Tryz.prog 30 #[fracV x] w fun e w'=>e = .returned (.int .i64 x.num.sign) ∧ Below w.heap.size w w' :=
  (FSign_any _ _ _ _ (fit_maxLen hx).1 (fit_maxLen hx).2).mono fun e w' ⟨k,he,hk,hb⟩=>by
    rcases hk with ⟨y,hy,hv,rfl⟩ | ⟨hn,_⟩
    · obtain rfl:=fracV_inj hv
      exact ⟨he,hb⟩
    · exact absurd (fitF x hx) hn
def eFcSign {x : Rat} (hx : Fit x) : Ev Tryz.prog:=.ret 30 Tryz.call30 #[fracV x] (.int .i64 x.num.sign) (fun w=>signF_w hx w)
theorem nearF_w {x : Rat} (hx : Fit x) (w : World) : Calls Tryz.prog 24 #[fracV x] w fun e w'=>e = .returned (.tuple #[wholeV (nearQ x),.int .i64 0]) ∧ Below w.heap.size w w' :=
  (Nearest_any _ _ _ _ (fit_maxLen hx).1 (fit_maxLen hx).2).mono fun e w' ⟨v,k,he,hk,hb⟩=>by
    rcases hk with ⟨y,hy,hv,rfl,rfl⟩ | ⟨hn,_⟩
    · obtain rfl:=fracV_inj hv
      exact ⟨he,hb⟩
    · exact absurd (fitF x hx) hn
def eFcNear {x : Rat} (hx : Fit x) : Ev Tryz.prog:=.ret 24 Tryz.call24 #[fracV x] (.tuple #[wholeV (nearQ x),.int .i64 0]) (fun w=>nearF_w hx w)
theorem small_fitQ {n m : Int} (hn : I64 n) (hm : I64 m) (h0 : m ≠ 0) : Fit (Rat.divInt n m):=by
  have h1 : sz n ≤ 8:=by
    refine sz_le.2 ?_
    have : n.natAbs ≤ 9223372036854775808:=by omega
    exact Nat.lt_of_le_of_lt this (by decide)
  have h2 : sz m ≤ 8:=by
    refine sz_le.2 ?_
    have : m.natAbs ≤ 9223372036854775808:=by omega
    exact Nat.lt_of_le_of_lt this (by decide)
  have:=sz_divInt h0 h1 h2
  refine ⟨Nat.le_trans this.1 (by decide),?_⟩
  have h3:=this.2
  unfold sz at h3
  rw [Int.natAbs_natCast] at h3
  exact Nat.le_trans h3 (by decide)
def eFcSmall {n m : Int} (hn : I64 n) (hm : I64 m) (h0 : m ≠ 0) : Ev Tryz.prog:=.ret 26 Tryz.call26 #[.int .i64 n,.int .i64 m] (.tuple #[fracV (Rat.divInt n m),.int .i64 0]) (fun w=>(Small_any hn hm).mono fun e w' ⟨v,k,he,hk,hb⟩=>by
  obtain ⟨rfl,rfl⟩:=small_fit hk h0 (small_fitQ hn hm h0)
  exact ⟨he,hb⟩)
def eFcSmall0 {n m : Int} (hn : I64 n) (hm : I64 m) (h0 : m = 0) : Ev Tryz.prog:=.ret 26 Tryz.call26 #[.int .i64 n,.int .i64 m] (frac0k 5) (fun w=>(Small_any hn hm).mono fun e w' ⟨v,k,he,hk,hb⟩=>by
  rcases hk with ⟨_,rfl,rfl⟩ | ⟨h,_⟩
  · exact ⟨he,hb⟩
  · exact absurd h0 h)
abbrev q0 : Rat:=Rat.divInt 0 1
theorem q0_fit : Fit q0:=fit00.1
theorem q0_eq : q0 = 0:=zero_lit
def sFNeg {x : Rat} (hx : Fit x) : Spec Tryz.prog :=
  (Spec.auto Tryz.call21 [fcS x] [] (ansP (q0 - x)) [] [(sFInt 0 (by decide) (by decide)).e,eFcSub q0_fit hx] [(1,5)] 400 Tryz.func21 hmA (by kernel_rfl) (fun β=>by kernel_rfl)).conv (ansP (-x)) (congrArg (fun q=>ansP q) (by rw [q0_eq,Rat.sub_eq_add_neg,Rat.zero_add]))
abbrev abQ (x : Rat) : Rat:=if x.num < 0 then -x else x
def sFAbs1 {x : Rat} (hx : Fit x) (h : decide (x.num < 0) = true) : Spec Tryz.prog :=
  (Spec.auto Tryz.call22 [fcS x] [] (ansP (-x)) [] [eFcSign hx,.eqv 6 (.bool (decide (x.num.sign < 0))) (.bool true) ((sign_neg_lit x.num).trans (p_lit h)),(sFNeg hx).e] [(3,5)] 400 Tryz.func22 hmA (by kernel_rfl) (fun β=>by kernel_rfl)).conv (ansP (abQ x)) (congrArg (fun q=>ansP q) (if_pos (of_decide_eq_true h)).symm)
def sFAbs0 {x : Rat} (hx : Fit x) (h : decide (x.num < 0) = false) : Spec Tryz.prog :=
  (Spec.auto Tryz.call22 [fcS x] [] (ansP (x + q0)) [] [eFcSign hx,.eqv 6 (.bool (decide (x.num.sign < 0))) (.bool false) ((sign_neg_lit x.num).trans (p_lit h)),(sFInt 0 (by decide) (by decide)).e,eFcAdd hx q0_fit] [(3,5)] 400 Tryz.func22 hmA (by kernel_rfl) (fun β=>by kernel_rfl)).conv (ansP (abQ x)) (congrArg (fun q=>ansP q) (by rw [q0_eq,Rat.add_zero]; exact (if_neg (of_decide_eq_false h)).symm))
def sFAbs {x : Rat} (hx : Fit x) : Spec Tryz.prog :=
  ⟨22,Tryz.call22,[fcS x],[],ansP (abQ x),[],fun β w hh=>by
    cases h : decide (x.num < 0) with
    | true=>exact (sFAbs1 hx h).ok β w hh
    | false=>exact (sFAbs0 hx h).ok β w hh,by kernel_rfl⟩
def nFloor {x : Rat} (hx : Fit x) : Ev Tryz.prog:=dyn1 fun k n=>.call 142 Tryz.call142 (fun β=>#[.pointer ((β k).v 0)]) [(k,(ratT x).ob)] n (.one (.c (.b (.z n 0)))) [intT (flQ x)] (fun β w h=>by
  obtain ⟨a,ha,ka⟩:=needP (x:=x) (k:=k) h (by simp)
  simp only [ha.1]
  exact one_int (floor_any ka (hx.sz.okR (by decide))) β n _)
def nBack {n : Int} (hn : sz n ≤ KB) : Ev Tryz.prog:=dyn1 fun k _=>.call 141 Tryz.call141 (fun β=>#[.pointer ((β k).v 0)]) [(k,(intT n).ob)] 0 (wS n) [] (fun β w h=>by
  obtain ⟨a,ha,ka⟩:=needI (n:=n) (k:=k) h (by simp)
  simp only [ha.1]
  exact of_pure0 (back_any ka (okn_sz hn)) (fun _=>rfl))
def sFFloor {x : Rat} (hx : Fit x) : Spec Tryz.prog :=
  Spec.auto Tryz.call23 [fcS x] [] (.tup [.a (wC (flQ x)),nI' 0]) [] [eMayF x hx,(sFrat hx).e,nFloor hx,nBack (Nat.le_trans (sz_flQ hx.sz) (by decide))] [] 400 Tryz.func23 hmA (by kernel_rfl) (fun β=>by kernel_rfl)
section
variable (b c : Bool) (s t : ByteArray) (hs : s.size ≤ maxLen) (ht : t.size ≤ maxLen) (h : ¬ IsFrac (rawV b c s t))
abbrev rwC (b c : Bool) (s t : ByteArray) : List Lf:=[.b (.v (.bool b)),.b (.v (.string s)),.b (.v (.bool c)),.b (.v (.string t))]
abbrev f0C : List Lf:=[.b (.v (.bool false)),.b (.v (.string ⟨#[]⟩)),.b (.v (.bool false)),.b (.v (.string ⟨#[]⟩))]
def sFNegN : Spec Tryz.prog:=Spec.auto Tryz.call21 [.one (.a (rwC b c s t))] [] (.tup [.a f0C,nI' 2]) [] [(sFInt 0 (by decide) (by decide)).e,eFcSubN q0 q0_fit b c s t hs ht h] [(1,5)] 400 Tryz.func21 hmA (by kernel_rfl) (fun β=>by kernel_rfl)
def sFAbsN : Spec Tryz.prog:=Spec.auto Tryz.call22 [.one (.a (rwC b c s t))] [] (.tup [.a f0C,nI' 2]) [] [eFcSignN b c s t hs ht h,(sFInt 0 (by decide) (by decide)).e,eFcAddN q0 q0_fit b c s t hs ht h] [(3,5)] 400 Tryz.func22 hmA (by kernel_rfl) (fun β=>by kernel_rfl)
def sFFloorN : Spec Tryz.prog:=Spec.auto Tryz.call23 [.one (.a (rwC b c s t))] [] (.tup [.a w00,nI' 2]) [] [eMay b c s t hs ht false (iff_false_of h)] [] 400 Tryz.func23 hmA (by kernel_rfl) (fun β=>by kernel_rfl)
def sFSqrtN : Spec Tryz.prog:=Spec.auto Tryz.call25 [.one (.a (rwC b c s t))] [] (.tup [.a f0C,nI' 2]) [] [eMay b c s t hs ht false (iff_false_of h)] [] 400 Tryz.func25 hmA (by kernel_rfl) (fun β=>by kernel_rfl)
end
section
variable {x : Rat} (hx : Fit x)
abbrev q1N (x : Rat) : Nat:=x.num.natAbs.sqrt
abbrev q1S (x : Rat) : Nat:=x.den.sqrt
def q1B (x : Rat) : Bool:=!decide (x.num < 0) && (decide ((x.num.natAbs : Int) - (q1N x : Int) * (q1N x : Int) = 0) && decide ((x.den : Int) - (q1S x : Int) * (q1S x : Int) = 0))
theorem rtd_of (n : Int) (m : Nat) (hn : n = (m : Int)) (h : (mag m).size ≤ 1024) : ∃ L K,RtD n m m.sqrt L K:=by
  subst hn
  have h1:=Nat.sqrt_le m
  have h2:=Nat.lt_succ_sqrt m
  have hle : m.sqrt ≤ m:=Nat.le_trans (Nat.le_mul_self _) (Nat.sqrt_le m)
  obtain ⟨L,hL,hl⟩:=bits_of m.sqrt (Nat.le_trans (mag_mono hle h) (by decide))
  have hs : m - m.sqrt * m.sqrt ≤ m:=Nat.sub_le _ _
  obtain ⟨K,hK,hk⟩:=bits_of (m - m.sqrt * m.sqrt) (Nat.le_trans (mag_mono hs h) (by decide))
  have e : (m : Int) - (m.sqrt : Int) * (m.sqrt : Int) = ((m - m.sqrt * m.sqrt : Nat) : Int):=by
    rw [Int.ofNat_sub h1,Int.natCast_mul]
  have z1 : sz (m : Int) ≤ 1024:=by unfold sz; rw [Int.natAbs_natCast]; exact h
  refine ⟨L,K,rfl,h1,h2,z1,?_,?_,?_,hl,?_,hk,?_⟩
  · unfold sz; rw [Int.natAbs_natCast]; exact mag_mono hle h
  · rw [e]; unfold sz; rw [Int.natAbs_natCast]; exact Nat.le_trans (mag_mono hs h) (by decide)
  · rw [Int.natAbs_natCast]; exact hL
  · rw [e,Int.natAbs_natCast]; exact hK
  · obtain ⟨J,hJ⟩ : ∃ J : Nat,J = 1024:=⟨_,rfl⟩
    have l1 : m < 256 ^ J:=by
      have:=sz_le.1 (show sz (m : Int) ≤ J by rw [hJ]; exact z1)
      rwa [Int.natAbs_natCast] at this
    exact dig_big l1 (by rw [hJ]; decide)
include hx in
theorem wok_num : WholeOk (decide (x.num < 0)) (mag x.num.natAbs):=(isFrac_parts (fitF x hx)).1
include hx in
theorem wok_den : WholeOk (decide ((x.den : Int) < 0)) (mag (x.den : Int).natAbs):=by
  rw [decide_eq_false (by omega : ¬ ((x.den : Int) < 0)),Int.natAbs_natCast]
  exact (isFrac_parts (fitF x hx)).2.1
abbrev q1C (x : Rat) : List Lf:=[.b (.v (.bool false)),.b (.v (.string (mag (q1N x)))),.b (.v (.bool false)),.b (.v (.string (mag (q1S x))))]
abbrev q1A (x : Rat) : List SV:=[fcS x]
include hx in
theorem sqrtY_ok (h : q1B x = true) (β : Env) (w : World) (hh : ∀ (k : Nat) (t : Thing),([] : List Thing)[k]? = some t → t.D w (β k)) :
    Calls Tryz.prog 25 ((q1A x).map (SV.den β)).toArray w fun e w'=>∃ xs : List Pl,freshS β w 0 xs ∧ e = .returned ((SV.tup [.a (q1C x),nI' 0]).den (extE β 0 xs)) ∧ newHold w' [] xs ∧ Below w.heap.size w w':=by
  unfold q1B at h
  rw [Bool.and_eq_true,Bool.and_eq_true,Bool.not_eq_true'] at h
  obtain ⟨h1,h2,h3⟩:=h
  have e1 : x.num = ((x.num.natAbs : Nat) : Int):=by have:=of_decide_eq_false h1; omega
  obtain ⟨L,K,r⟩:=rtd_of x.num x.num.natAbs e1 hx.1
  obtain ⟨L',K',r'⟩:=rtd_of (x.den : Int) x.den rfl hx.2
  have h2' : decide (x.num - (x.num.natAbs.sqrt : Int) * (x.num.natAbs.sqrt : Int) = 0) = true:=by rw [← h2]; congr 2; rw [← e1]
  exact spec_auto (evs:=[eMayF x hx,(sWSq1 (p:=decide (x.num < 0)) rfl (wok_num hx) h1 r h2').e,(sWSq1 (p:=false) (decide_eq_false (by omega)) (wok_den hx) rfl r' h3).e]) (Ns:=[]) (m:=800) Tryz.func25 hmA (fun β=>by kernel_rfl) (by kernel_rfl) β w hh
include hx in
theorem sqrtN_ok (h : q1B x = false) (β : Env) (w : World) (hh : ∀ (k : Nat) (t : Thing),([] : List Thing)[k]? = some t → t.D w (β k)) :
    Calls Tryz.prog 25 ((q1A x).map (SV.den β)).toArray w fun e w'=>∃ xs : List Pl,freshS β w 0 xs ∧ e = .returned ((SV.tup [.a f0C,nI' 7]).den (extE β 0 xs)) ∧ newHold w' [] xs ∧ Below w.heap.size w w':=by
  unfold q1B at h
  obtain ⟨L',K',r'⟩:=rtd_of (x.den : Int) x.den rfl hx.2
  have hd : decide ((x.den : Int) < 0) = false:=decide_eq_false (by omega)
  cases h1 : decide (x.num < 0) with
  | true =>
    cases h3 : decide ((x.den : Int) - (x.den.sqrt : Int) * (x.den.sqrt : Int) = 0) with
    | true=>exact spec_auto (evs:=[eMayF x hx,(sWSqN (p:=decide (x.num < 0)) rfl (wok_num hx) h1).e,(sWSq1 (p:=false) hd (wok_den hx) rfl r' h3).e]) (Ns:=[]) (m:=800) Tryz.func25 hmA (fun β=>by kernel_rfl) (by kernel_rfl) β w hh
    | false=>exact spec_auto (evs:=[eMayF x hx,(sWSqN (p:=decide (x.num < 0)) rfl (wok_num hx) h1).e,(sWSq0 (p:=false) hd (wok_den hx) rfl r' h3).e]) (Ns:=[]) (m:=800) Tryz.func25 hmA (fun β=>by kernel_rfl) (by kernel_rfl) β w hh
  | false =>
    have e1 : x.num = ((x.num.natAbs : Nat) : Int):=by have:=of_decide_eq_false h1; omega
    obtain ⟨L,K,r⟩:=rtd_of x.num x.num.natAbs e1 hx.1
    have e2 : decide ((x.num.natAbs : Int) - (q1N x : Int) * (q1N x : Int) = 0) = decide (x.num - (x.num.natAbs.sqrt : Int) * (x.num.natAbs.sqrt : Int) = 0):=by rw [← e1]
    cases h2 : decide (x.num - (x.num.natAbs.sqrt : Int) * (x.num.natAbs.sqrt : Int) = 0) with
    | true =>
      cases h3 : decide ((x.den : Int) - (x.den.sqrt : Int) * (x.den.sqrt : Int) = 0) with
      | true =>
        rw [h1,e2,h2,h3] at h
        cases h
      | false=>exact spec_auto (evs:=[eMayF x hx,(sWSq1 (p:=decide (x.num < 0)) rfl (wok_num hx) h1 r h2).e,(sWSq0 (p:=false) hd (wok_den hx) rfl r' h3).e]) (Ns:=[]) (m:=800) Tryz.func25 hmA (fun β=>by kernel_rfl) (by kernel_rfl) β w hh
    | false =>
      cases h3 : decide ((x.den : Int) - (x.den.sqrt : Int) * (x.den.sqrt : Int) = 0) with
      | true=>exact spec_auto (evs:=[eMayF x hx,(sWSq0 (p:=decide (x.num < 0)) rfl (wok_num hx) h1 r h2).e,(sWSq1 (p:=false) hd (wok_den hx) rfl r' h3).e]) (Ns:=[]) (m:=800) Tryz.func25 hmA (fun β=>by kernel_rfl) (by kernel_rfl) β w hh
      | false=>exact spec_auto (evs:=[eMayF x hx,(sWSq0 (p:=decide (x.num < 0)) rfl (wok_num hx) h1 r h2).e,(sWSq0 (p:=false) hd (wok_den hx) rfl r' h3).e]) (Ns:=[]) (m:=800) Tryz.func25 hmA (fun β=>by kernel_rfl) (by kernel_rfl) β w hh
def sFSqrtY (h : q1B x = true) : Spec Tryz.prog:=⟨25,Tryz.call25,q1A x,[],.tup [.a (q1C x),nI' 0],[],sqrtY_ok hx h,by kernel_rfl⟩
def sFSqrtO (h : q1B x = false) : Spec Tryz.prog:=⟨25,Tryz.call25,q1A x,[],.tup [.a f0C,nI' 7],[],sqrtN_ok hx h,by kernel_rfl⟩
theorem sub_nat {a b : Nat} (h : b * b ≤ a) : decide (a - b * b = 0) = decide ((a : Int) - (b : Int) * (b : Int) = 0):=by
  refine decide_eq_decide.2 ?_
  have e : (a : Int) - (b : Int) * (b : Int) = ((a - b * b : Nat) : Int):=by rw [Int.ofNat_sub h,Int.natCast_mul]
  rw [e]
  omega
include hx in
theorem rsz : (mag x.num.natAbs).size ≤ 4294967296 ∧ dgL x.num.natAbs ≤ 4294967290 ∧ (mag x.den).size ≤ 4294967296 ∧ dgL x.den ≤ 4294967290 :=
  ⟨Nat.le_trans hx.1 (by decide),Nat.le_trans (dg_sz hx.1) (by decide),Nat.le_trans hx.2 (by decide),Nat.le_trans (dg_sz hx.2) (by decide)⟩
include hx in
theorem rsqY_ok (h : q1B x = true) (β : Env) (w : World) (hh : ∀ (k : Nat) (t : Thing),([] : List Thing)[k]? = some t → t.D w (β k)) :
    Calls Tryz.prog 31 ((q1A x).map (SV.den β)).toArray w fun e w'=>∃ xs : List Pl,freshS β w 0 xs ∧ e = .returned ((SV.tup [.a (q1C x),.c (.b (.v (.bool true)))]).den (extE β 0 xs)) ∧ newHold w' [] xs ∧ Below w.heap.size w w':=by
  unfold q1B at h
  rw [Bool.and_eq_true,Bool.and_eq_true,Bool.not_eq_true'] at h
  obtain ⟨h1,h2,h3⟩:=h
  have h0 : 0 ≤ x.num:=by have:=of_decide_eq_false h1; omega
  have z:=rsz hx
  exact (sR3SqrtY h0 z.1 z.2.1 z.2.2.1 z.2.2.2 (Nat.sqrt_le _) (Nat.lt_succ_sqrt _) (Nat.sqrt_le _) (Nat.lt_succ_sqrt _) (by rw [sub_nat (Nat.sqrt_le _)]; exact h2) (by rw [sub_nat (Nat.sqrt_le _)]; exact h3)).ok β w hh
include hx in
theorem rsqN_ok (h : q1B x = false) (β : Env) (w : World) (hh : ∀ (k : Nat) (t : Thing),([] : List Thing)[k]? = some t → t.D w (β k)) :
    Calls Tryz.prog 31 ((q1A x).map (SV.den β)).toArray w fun e w'=>∃ xs : List Pl,freshS β w 0 xs ∧ e = .returned ((SV.tup [.a f0C,.c (.b (.v (.bool false)))]).den (extE β 0 xs)) ∧ newHold w' [] xs ∧ Below w.heap.size w w':=by
  unfold q1B at h
  have z:=rsz hx
  cases h1 : decide (x.num < 0) with
  | true=>exact spec_auto (evs:=[(sR3Sign (x:=x) rfl).e,.eqv 10 (.bool (decide (x.num.sign < 0))) (.bool true) ((sign_neg_lit x.num).trans (p_lit h1))]) (Ns:=[]) (m:=800) Tryz.func31 hmA (fun β=>by kernel_rfl) (by kernel_rfl) β w hh
  | false =>
    have h0 : 0 ≤ x.num:=by have:=of_decide_eq_false h1; omega
    cases h2 : decide ((x.num.natAbs : Int) - (q1N x : Int) * (q1N x : Int) = 0) with
    | true =>
      cases h3 : decide ((x.den : Int) - (q1S x : Int) * (q1S x : Int) = 0) with
      | true=>rw [h1,h2,h3] at h; cases h
      | false=>exact (sR3SqrtN2 h0 z.1 z.2.1 z.2.2.1 z.2.2.2 (Nat.sqrt_le _) (Nat.lt_succ_sqrt _) (Nat.sqrt_le _) (Nat.lt_succ_sqrt _) (by rw [sub_nat (Nat.sqrt_le _)]; exact h2) (by rw [sub_nat (Nat.sqrt_le _)]; exact h3)).ok β w hh
    | false=>exact (sR3SqrtN1 h0 z.1 z.2.1 z.2.2.1 z.2.2.2 (Nat.sqrt_le _) (Nat.lt_succ_sqrt _) (Nat.sqrt_le _) (Nat.lt_succ_sqrt _) (by rw [sub_nat (Nat.sqrt_le _)]; exact h2)).ok β w hh
def sRSqrtY (h : q1B x = true) : Spec Tryz.prog:=⟨31,Tryz.call31,q1A x,[],.tup [.a (q1C x),.c (.b (.v (.bool true)))],[],rsqY_ok hx h,by kernel_rfl⟩
def sRSqrtO (h : q1B x = false) : Spec Tryz.prog:=⟨31,Tryz.call31,q1A x,[],.tup [.a f0C,.c (.b (.v (.bool false)))],[],rsqN_ok hx h,by kernel_rfl⟩
end
end Go.Proofs.YtpccljaooghafaaGreat.Y
end
section
namespace Go.Proofs.YtpccljaooghafaaGreat.Y
open Go Go.RowKit
set_option maxRecDepth 100000
def eF1Known : Ev Tryz.prog:=.ret 15 Tryz.call15 _ _ (fun _=>known_any)
def eF1Long (k : Nat) (b c : Bool) (s t : ByteArray) (r : Bool) (hr : r = true ↔ ¬ (s.size ≤ 1100 ∧ t.size ≤ 1100)) : Ev Tryz.prog :=
  .call 14 Tryz.call14 (fun β=>#[.int .i64 1100,.slice (some ⟨β k,0,none⟩) 1 1]) [(k,.box (rwC b c s t) 25)] 0 (tag (.bool r)) []
    (fun β w h=>of_pure0 (long1_w 1100 (by decide) (show BoxAt w (β k).b #[.bool b,.string s,.bool c,.string t] _ from (h (k,.box (rwC b c s t) 25) (List.mem_singleton.2 rfl)).2) r hr) (fun _=>rfl))
def eF1Told (q : Rat) : Ev Tryz.prog:=.ret 19 Tryz.call19 #[ansW q,.int .i64 (ansK q),fracV q,.bool true] (.bool true) (fun w=>told_w (by rw [← ansW_eq]) rfl rfl)
def eF1ToldNot (b c : Bool) (s t : ByteArray) : Ev Tryz.prog:=.ret 19 Tryz.call19 _ _ (fun w=>told_not b c s t)
abbrev oneA (b c : Bool) (s t : ByteArray) (n m : Int) : List SV:=[.one (.a (rwC b c s t)),.one (svI n),.one (svI m)]
abbrev oneN : List (Nat × Nat):=[(10,33),(17,43)]
theorem int0_lit {m : Int} {z : Bool} (h : (m == 0) = z) : Value.bool (m == 0) = .bool z:=by rw [h]
theorem intn_lit {m : Int} {z : Bool} (h : (!(m == 0)) = z) : Value.bool (!(m == 0)) = .bool z:=by rw [h]
def f1z : R4:=⟨false,⟨#[]⟩,false,⟨#[]⟩⟩
def eqSame (x : R4) : Ev Tryz.prog:=eqEvF x x true (R4.eq_iff.2 rfl)
def eqSameW (b : Bool) (s : ByteArray) : Ev Tryz.prog:=eqEvW b b s s true (weq_iff.2 ⟨rfl,rfl⟩)
section
variable {n m : Int} (hn : I64 n) (hm : I64 m)
theorem mz_of {m : Int} (h : (m == 0) = true) : m = 0:=by simpa using h
theorem mnz_of {m : Int} (h : (m == 0) = false) : m ≠ 0:=by simpa using h
theorem i64sz {n : Int} (h : I64 n) : sz n ≤ 1000000000:=by
  refine Nat.le_trans (m:=8) (sz_le.2 ?_) (by decide)
  have : n.natAbs ≤ 9223372036854775808:=by omega
  exact Nat.lt_of_le_of_lt this (by decide)
def f1m0 (h : (m == 0) = true) : List (Ev Tryz.prog):=[eFcSmall0 hn hm (mz_of h),.eqv 60 (.bool (m == 0)) (.bool true) (int0_lit h),eqSame f1z,.eqv 72 (.bool (!(m == 0))) (.bool false) (intn_lit (by rw [h]; rfl)),(sFIntA n hn).e,(sR3Int n hn).e,eqSame (fR (Rat.divInt n 1))]
def f1m1 (h : (m == 0) = false) : List (Ev Tryz.prog):=[eFcSmall hn hm (mnz_of h),.eqv 60 (.bool (m == 0)) (.bool false) (int0_lit h),.eqv 72 (.bool (!(m == 0))) (.bool true) (intn_lit (by rw [h]; rfl)),(sR3Small n m hn hm (mnz_of h) (i64sz hn) (i64sz hm)).e,eqSame (fR (Rat.divInt n m)),(sFIntA n hn).e,(sR3Int n hn).e,eqSame (fR (Rat.divInt n 1))]
section
variable (b c : Bool) (s t : ByteArray)
def sOneL (h : ¬ (s.size ≤ 1100 ∧ t.size ≤ 1100)) : Spec Tryz.prog :=
  Spec.auto Tryz.call4 (oneA b c s t n m) [] (bS true) [] [eF1Long 1 b c s t true (iff_true_of h),eF1Known] oneN 2000 Tryz.func4 hmA (by kernel_rfl) (fun β=>by kernel_rfl)
variable (hs : s.size ≤ maxLen) (ht : t.size ≤ maxLen) (hl : ¬ ¬ (s.size ≤ 1100 ∧ t.size ≤ 1100)) (h : ¬ IsFrac (rawV b c s t))
noncomputable def oneNa : List (Ev Tryz.prog):=[eF1Long 1 b c s t false (iff_false_of hl),(sR3May b c s t false (iff_false_of h)).e,(sFNegN b c s t hs ht h).e,(sFAbsN b c s t hs ht h).e,(sFFloorN b c s t hs ht h).e,eFcNearN b c s t hs ht h,(sFSqrtN b c s t hs ht h).e]
noncomputable def oneNb : List (Ev Tryz.prog):=[eF1ToldNot b c s t,eF1ToldNot b c s t,eqSameW false ⟨#[]⟩,eqSameW false ⟨#[]⟩,eqSame f1z,eFcSignN b c s t hs ht h,eF1Known]
noncomputable def sOneN0 (h0 : (m == 0) = true) : Spec Tryz.prog :=
  Spec.auto Tryz.call4 (oneA b c s t n m) [] (bS true) [] (oneNa b c s t hs ht hl h ++ f1m0 hn hm h0 ++ oneNb b c s t hs ht h) oneN 2000 Tryz.func4 hmA (by kernel_rfl) (fun β=>by kernel_rfl)
noncomputable def sOneN1 (h0 : (m == 0) = false) : Spec Tryz.prog :=
  Spec.auto Tryz.call4 (oneA b c s t n m) [] (bS true) [] (oneNa b c s t hs ht hl h ++ f1m1 hn hm h0 ++ oneNb b c s t hs ht h) oneN 2000 Tryz.func4 hmA (by kernel_rfl) (fun β=>by kernel_rfl)
end
section
variable {x : Rat} (hx : Fit x)
abbrev oneX (x : Rat) (n m : Int) : List SV:=oneA (decide (x.num < 0)) false (mag x.num.natAbs) (mag x.den) n m
noncomputable def oneYa (S : Ev Tryz.prog) : List (Ev Tryz.prog):=[eF1Long 1 (decide (x.num < 0)) false (mag x.num.natAbs) (mag x.den) false (iff_false_of fun h=>h ⟨Nat.le_trans hx.1 (by decide),Nat.le_trans hx.2 (by decide)⟩),(sR3May (decide (x.num < 0)) false (mag x.num.natAbs) (mag x.den) true (iff_true_of (fitF x hx))).e,(sFNeg hx).e,(sFAbs hx).e,(sFFloor hx).e,eFcNear hx,S]
noncomputable def oneYb : List (Ev Tryz.prog):=[(sR3Neg x).e,eF1Told (-x),(sR3Abs x).e,eF1Told (abQ x),(sR3Floor (hx.sz.mono (by decide))).e,eqSameW (decide (flQ x < 0)) (mag (flQ x).natAbs),(sR3Nearest hx).e,eqSameW (decide (nearQ x < 0)) (mag (nearQ x).natAbs),eFcSign hx,(sR3Sign (x:=x) rfl).e,.eqv 204 (.bool (x.num.sign == x.num.sign)) (.bool true) (ieq_self _),eF1Known]
def q1R (x : Rat) : R4:=⟨false,mag (q1N x),false,mag (q1S x)⟩
noncomputable def sOneY0 (k : q1B x = true) (h0 : (m == 0) = true) : Spec Tryz.prog :=
  Spec.auto Tryz.call4 (oneX x n m) [] (bS true) [] (oneYa hx (sFSqrtY hx k).e ++ f1m0 hn hm h0 ++ [(sRSqrtY hx k).e,eqSame (q1R x)] ++ oneYb hx) oneN 2000 Tryz.func4 hmA (by kernel_rfl) (fun β=>by kernel_rfl)
noncomputable def sOneY1 (k : q1B x = true) (h0 : (m == 0) = false) : Spec Tryz.prog :=
  Spec.auto Tryz.call4 (oneX x n m) [] (bS true) [] (oneYa hx (sFSqrtY hx k).e ++ f1m1 hn hm h0 ++ [(sRSqrtY hx k).e,eqSame (q1R x)] ++ oneYb hx) oneN 2000 Tryz.func4 hmA (by kernel_rfl) (fun β=>by kernel_rfl)
noncomputable def sOneO0 (k : q1B x = false) (h0 : (m == 0) = true) : Spec Tryz.prog :=
  Spec.auto Tryz.call4 (oneX x n m) [] (bS true) [] (oneYa hx (sFSqrtO hx k).e ++ f1m0 hn hm h0 ++ [(sRSqrtO hx k).e,eqSame f1z] ++ oneYb hx) oneN 2000 Tryz.func4 hmA (by kernel_rfl) (fun β=>by kernel_rfl)
noncomputable def sOneO1 (k : q1B x = false) (h0 : (m == 0) = false) : Spec Tryz.prog :=
  Spec.auto Tryz.call4 (oneX x n m) [] (bS true) [] (oneYa hx (sFSqrtO hx k).e ++ f1m1 hn hm h0 ++ [(sRSqrtO hx k).e,eqSame f1z] ++ oneYb hx) oneN 2000 Tryz.func4 hmA (by kernel_rfl) (fun β=>by kernel_rfl)
end
end
theorem _root_.Go.Proofs.YtpccljaooghafaaGreat.FracOne_walk (b c : Bool) (s t : ByteArray) (n m : Int) (hs : s.size ≤ maxLen) (ht : t.size ≤ maxLen) (hn0 : (Lit.int .i64 n).wf = true) (hm0 : (Lit.int .i64 m).wf = true) (W : World) :
    Calls Tryz.prog 4 #[.agg #[.bool b,.string s,.bool c,.string t],.int .i64 n,.int .i64 m] W fun e W'=>e = .returned (.bool true) ∧ Below W.heap.size W W':=by
  have hn:=i64_of hn0
  have hm:=i64_of hm0
  by_cases hl : s.size ≤ 1100 ∧ t.size ≤ 1100
  rotate_left
  · exact spec_yes (sOneL (n:=n) (m:=m) b c s t hl) rfl rfl W
  by_cases h : IsFrac (rawV b c s t)
  · obtain ⟨x,hx,hv⟩:=h
    obtain ⟨rfl,rfl,rfl,rfl⟩:=agg4 hv
    cases k : q1B x with
    | true =>
      cases h0 : (m == 0) with
      | true=>exact spec_yes (sOneY0 hn hm hx k h0) rfl rfl W
      | false=>exact spec_yes (sOneY1 hn hm hx k h0) rfl rfl W
    | false =>
      cases h0 : (m == 0) with
      | true=>exact spec_yes (sOneO0 hn hm hx k h0) rfl rfl W
      | false=>exact spec_yes (sOneO1 hn hm hx k h0) rfl rfl W
  · cases h0 : (m == 0) with
    | true=>exact spec_yes (sOneN0 hn hm b c s t hs ht (fun k=>k hl) h h0) rfl rfl W
    | false=>exact spec_yes (sOneN1 hn hm b c s t hs ht (fun k=>k hl) h h0) rfl rfl W
end Go.Proofs.YtpccljaooghafaaGreat.Y
end
section
namespace Go.Proofs.YtpccljaooghafaaGreat
open Go.ChangeShapes Go.WideShapes Go.ChangeAt Go.RowKit
theorem cellsOf_bool : Tryz.prog.cellsOf 4 = 1:=by kernel_rfl
theorem cellsOf_string : Tryz.prog.cellsOf 9 = 1:=by kernel_rfl
theorem cellsOf_whole : Tryz.prog.cellsOf 23 = 2:=by kernel_rfl
theorem cellsOf_frac : Tryz.prog.cellsOf 25 = 4:=by kernel_rfl
section
variable {H : Type} {enc : TypeId × Value → H} {w : World} {base : Nat} {spare : Nat → Bool} {held : Bool}
set_option maxRecDepth 100000 in
theorem trod_whole {fuel : Nat} {cs : List Value} {x : DataW H × List MemPlace} (h : DataW.trod enc Tryz.prog w base spare held fuel 23 cs = some x) :
    ∃ (b : Bool) (s : ByteArray),cs = [.bool b,.string s] ∧ s.size ≤ maxLen:=by
  obtain ⟨xs,n,rfl,_,hlen,hxl,hf⟩:=DataW.trod_struct Tryz.underlying23 h
  rw [cellsOf_whole] at hlen
  have hx0 : xs[0]? = some (xs[0]'(by rw [hxl]; decide)):=List.getElem?_eq_getElem _
  have hx1 : xs[1]? = some (xs[1]'(by rw [hxl]; decide)):=List.getElem?_eq_getElem _
  have h0 : DataW.trod enc Tryz.prog w base spare held n 4 ((cs.drop 0).take (Tryz.prog.cellsOf 4)) = some _:=(hf 0 _ rfl).trans hx0
  have h1 : DataW.trod enc Tryz.prog w base spare held n 9 ((cs.drop 1).take (Tryz.prog.cellsOf 9)) = some _:=(hf 1 _ rfl).trans hx1
  rw [cellsOf_bool] at h0
  rw [cellsOf_string] at h1
  match cs,hlen with
  | [a,b],_ =>
    obtain ⟨p,e0,_⟩:=DataW.trod_bool Tryz.underlying4 h0
    obtain ⟨s,e1,_,hs⟩:=DataW.trod_string Tryz.underlying9 h1
    cases e0
    cases e1
    exact ⟨p,s,rfl,hs⟩
set_option maxRecDepth 100000 in
theorem trod_frac {fuel : Nat} {cs : List Value} {x : DataW H × List MemPlace} (h : DataW.trod enc Tryz.prog w base spare held fuel 25 cs = some x) :
    ∃ (b c : Bool) (s t : ByteArray),cs = [.bool b,.string s,.bool c,.string t] ∧ s.size ≤ maxLen ∧ t.size ≤ maxLen:=by
  obtain ⟨xs,n,rfl,_,hlen,hxl,hf⟩:=DataW.trod_struct Tryz.underlying25 h
  rw [cellsOf_frac] at hlen
  have hx0 : xs[0]? = some (xs[0]'(by rw [hxl]; decide)):=List.getElem?_eq_getElem _
  have hx1 : xs[1]? = some (xs[1]'(by rw [hxl]; decide)):=List.getElem?_eq_getElem _
  have h0 : DataW.trod enc Tryz.prog w base spare held n 23 ((cs.drop 0).take (Tryz.prog.cellsOf 23)) = some _:=(hf 0 _ rfl).trans hx0
  have h1 : DataW.trod enc Tryz.prog w base spare held n 23 ((cs.drop 2).take (Tryz.prog.cellsOf 23)) = some _:=(hf 1 _ rfl).trans hx1
  rw [cellsOf_whole] at h0 h1
  match cs,hlen with
  | [a,b,c,d],_ =>
    obtain ⟨p,s,e0,hs⟩:=trod_whole h0
    obtain ⟨q,t,e1,ht⟩:=trod_whole h1
    cases e0
    cases e1
    exact ⟨p,q,s,t,rfl,hs,ht⟩
set_option maxRecDepth 100000 in
theorem open_frac {r : Reach} {b0 : Nat} {v : Value} {d : DataW H} {p : List MemPlace} (hv : Value.okWide Tryz.prog w r b0 25 v) (h : DataW.Trod enc Tryz.prog w base spare held 25 v d p) :
    ∃ (b c : Bool) (s t : ByteArray),v = .agg #[.bool b,.string s,.bool c,.string t] ∧ s.size ≤ maxLen ∧ t.size ≤ maxLen:=by
  obtain ⟨cs,rfl,hsz⟩:=okWide_struct Tryz.underlying25 hv
  obtain ⟨fuel,hf⟩:=h
  obtain ⟨b,c,s,t,e,hs,ht⟩:=trod_frac hf
  refine ⟨b,c,s,t,?_,hs,ht⟩
  obtain ⟨l⟩:=cs
  simp only [Value.cells] at e
  rw [← e]
end
end Go.Proofs.YtpccljaooghafaaGreat
end
