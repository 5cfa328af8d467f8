/- EqA, Rs3, ExM, EyB, EyC, EyD, EyE, MayP, Rs4, Pts, Alg, Rs7, Rs8, MoA, MoC, EqM, MkA, Row. -/
import Derived.Deep.MidRow
import Derived.Test.YtimfgjcidigbiaaGreatPk10
set_option linter.unnecessarySimpa false
set_option linter.unusedVariables false
set_option linter.unusedSimpArgs false
section
namespace Go.Proofs.YtimfgjcidigbiaaGreat
open Go.Proofs.YtimfgjcidigbiaaGreat.Y
open Go Go.RowKit
set_option maxRecDepth 100000
theorem run_eqF_cons {P : Program} {w : World} {d : Nat} {xs ys : Array Value} {f : Field} {fs : List Field} {a b : Value} {r : Bool} (hn : decide (f.name = "_") = false) (ha : (part f.type xs f.offset).run P w = .ok a w) (hb : (part f.type ys f.offset).run P w = .ok b w)
    (hr : (Op.equalIn d f.type a b).run P w = .ok r w) {s : Bool} (hs : (Op.eqFields d xs ys fs).run P w = .ok s w) : (Op.eqFields d xs ys (f :: fs)).run P w = .ok (r && s) w:=by
  unfold Op.eqFields
  rw [if_pos (of_decide_eq_false hn)]
  simp only [Sem.run_bind,ha,hb,hr,Result.andThen_ok]
  cases r
  · rfl
  · simpa using hs
theorem eqW {w : World} (d : Nat) (b b' : Bool) (s s' : ByteArray) : (Op.equalIn (d + 2) 23 (.agg #[.bool b,.string s]) (.agg #[.bool b',.string s'])).run Tryz.prog w = .ok ((b == b') && ((s.toList == s'.toList) && true)) w:=by
  rw [run_equalIn_agg _ _ _ _ _ (by kernel_rfl) (by kernel_rfl)]
  refine run_eqF_cons (a:=.bool b) (b:=.bool b') (by kernel_rfl) (by kernel_rfl) (by kernel_rfl) (run_equalIn_bool' _ _ _ _ _ (by kernel_rfl)) ?_
  refine run_eqF_cons (a:=.string s) (b:=.string s') (by kernel_rfl) (by kernel_rfl) (by kernel_rfl) (run_equalIn_string _ _ _ _ _ (by kernel_rfl)) ?_
  kernel_rfl
def weq (b b' : Bool) (s s' : ByteArray) : Bool:=(b == b') && ((s.toList == s'.toList) && true)
def feq (b b' : Bool) (s s' : ByteArray) (c c' : Bool) (t t' : ByteArray) : Bool:=weq b b' s s' && (weq c c' t t' && true)
theorem eqF {w : World} (d : Nat) (b b' c c' : Bool) (s s' t t' : ByteArray) : (Op.equalIn (d + 3) 25 (.agg #[.bool b,.string s,.bool c,.string t]) (.agg #[.bool b',.string s',.bool c',.string t'])).run Tryz.prog w = .ok (feq b b' s s' c c' t t') w:=by
  rw [run_equalIn_agg _ _ _ _ _ (by kernel_rfl) (by kernel_rfl)]
  refine run_eqF_cons (a:=.agg #[.bool b,.string s]) (b:=.agg #[.bool b',.string s']) (by kernel_rfl) (by kernel_rfl) (by kernel_rfl) (eqW d _ _ _ _) ?_
  refine run_eqF_cons (a:=.agg #[.bool c,.string t]) (b:=.agg #[.bool c',.string t']) (by kernel_rfl) (by kernel_rfl) (by kernel_rfl) (eqW d _ _ _ _) ?_
  kernel_rfl
structure R4 where
  b : Bool
  s : ByteArray
  c : Bool
  t : ByteArray
def R4.V (x : R4) : List Value:=[.bool x.b,.string x.s,.bool x.c,.string x.t]
def R4.eq (x y : R4) : Bool:=feq x.b y.b x.s y.s x.c y.c x.t y.t
theorem weq_iff {b b' : Bool} {s s' : ByteArray} : weq b b' s s' = true ↔ b = b' ∧ s = s':=by
  unfold weq
  rw [Bool.and_true,Bool.and_eq_true,beq_iff_eq,beq_iff_eq,toList_inj]
theorem R4.eq_iff {x y : R4} : x.eq y = true ↔ x = y:=by
  unfold R4.eq feq
  rw [Bool.and_true,Bool.and_eq_true,weq_iff,weq_iff]
  obtain ⟨b,s,c,t⟩:=x
  obtain ⟨b',s',c',t'⟩:=y
  constructor
  · rintro ⟨⟨rfl,rfl⟩,rfl,rfl⟩; rfl
  · intro h; injection h with h1 h2 h3 h4; exact ⟨⟨h1,h2⟩,h3,h4⟩
theorem eqG {w : World} (d : Nat) (x y x' y' : R4) : (Op.equalIn (d + 4) 27 (.agg #[.bool x.b,.string x.s,.bool x.c,.string x.t,.bool y.b,.string y.s,.bool y.c,.string y.t]) (.agg #[.bool x'.b,.string x'.s,.bool x'.c,.string x'.t,.bool y'.b,.string y'.s,.bool y'.c,.string y'.t])).run Tryz.prog w = .ok (x.eq x' && (y.eq y' && true)) w:=by
  rw [run_equalIn_agg _ _ _ _ _ (by kernel_rfl) (by kernel_rfl)]
  refine run_eqF_cons (a:=.agg #[.bool x.b,.string x.s,.bool x.c,.string x.t]) (b:=.agg #[.bool x'.b,.string x'.s,.bool x'.c,.string x'.t]) (by kernel_rfl) (by kernel_rfl) (by kernel_rfl) (eqF d _ _ _ _ _ _ _ _) ?_
  refine run_eqF_cons (a:=.agg #[.bool y.b,.string y.s,.bool y.c,.string y.t]) (b:=.agg #[.bool y'.b,.string y'.s,.bool y'.c,.string y'.t]) (by kernel_rfl) (by kernel_rfl) (by kernel_rfl) (eqF d _ _ _ _ _ _ _ _) ?_
  kernel_rfl
theorem eqP {w : World} (d : Nat) (i i' : Bool) (x y x' y' : R4) : (Op.equalIn (d + 5) 29 (.agg #[.bool i,.bool x.b,.string x.s,.bool x.c,.string x.t,.bool y.b,.string y.s,.bool y.c,.string y.t]) (.agg #[.bool i',.bool x'.b,.string x'.s,.bool x'.c,.string x'.t,.bool y'.b,.string y'.s,.bool y'.c,.string y'.t])).run Tryz.prog w = .ok ((i == i') && ((x.eq x' && (y.eq y' && true)) && true)) w:=by
  rw [run_equalIn_agg _ _ _ _ _ (by kernel_rfl) (by kernel_rfl)]
  refine run_eqF_cons (a:=.bool i) (b:=.bool i') (by kernel_rfl) (by kernel_rfl) (by kernel_rfl) (run_equalIn_bool' _ _ _ _ _ (by kernel_rfl)) ?_
  refine run_eqF_cons (a:=.agg #[.bool x.b,.string x.s,.bool x.c,.string x.t,.bool y.b,.string y.s,.bool y.c,.string y.t]) (b:=.agg #[.bool x'.b,.string x'.s,.bool x'.c,.string x'.t,.bool y'.b,.string y'.s,.bool y'.c,.string y'.t]) (by kernel_rfl) (by kernel_rfl) (by kernel_rfl) (eqG d _ _ _ _) ?_
  kernel_rfl
theorem exec_eql {w : World} {t u : TypeId} {xs ys : Array Value} {r : Bool} (hg : Tryz.prog.eqGuardType Tryz.prog.depth t = false) (h : (Op.equalIn 10000 t (.agg xs) (.agg ys)).run Tryz.prog w = .ok r w) (x y : Operand) (ρ : Operand → Value) (o : Oper) (ho : o.op = .binOp .eql t x y u) (hx : ρ x = .agg xs) (hy : ρ y = .agg ys) : (execOp ρ o).run Tryz.prog w = .ok (.value (.bool r)) w:=by
  unfold execOp
  rw [ho]
  simp only [hx,hy,Sem.run_bind,run_eqGuard_agg w _ _ _ _ _ _ hg,run_eql_struct,h,Result.andThen_ok]
  rfl
theorem exec_neq {w : World} {t u : TypeId} {xs ys : Array Value} {r : Bool} (hg : Tryz.prog.eqGuardType Tryz.prog.depth t = false) (h : (Op.equalIn 10000 t (.agg xs) (.agg ys)).run Tryz.prog w = .ok r w) (x y : Operand) (ρ : Operand → Value) (o : Oper) (ho : o.op = .binOp .neq t x y u) (hx : ρ x = .agg xs) (hy : ρ y = .agg ys) : (execOp ρ o).run Tryz.prog w = .ok (.value (.bool (!r))) w:=by
  unfold execOp
  rw [ho]
  simp only [hx,hy,Sem.run_bind,run_eqGuard_agg w _ _ _ _ _ _ hg,run_neq_struct,h,Result.andThen_ok]
  rfl
def eqEv (t : TypeId) (xs ys : Array Value) (r : Bool) (hg : Tryz.prog.eqGuardType Tryz.prog.depth t = false) (h : ∀ w,(Op.equalIn 10000 t (.agg xs) (.agg ys)).run Tryz.prog w = .ok r w) : Ev Tryz.prog :=
  .dyn (fun o _ _=>match o.op with
    | .binOp .eql t' _ _ _=>Nat.beq t' t
    | .binOp .neq t' _ _ _=>Nat.beq t' t
    | _=>false) fun o _ _=>match o.op with
    | .binOp .eql _ a b u=>.gen (o.dst.getD 0) (.binOp .eql t a b u) [.agg xs,.agg ys] (.bool r) (fun ρ o w ho hx=>by
        simp only [Op.operands,List.map_cons,List.map_nil,List.cons.injEq] at hx
        exact exec_eql hg (h w) a b ρ o ho hx.1 hx.2.1)
    | .binOp .neq _ a b u=>.gen (o.dst.getD 0) (.binOp .neq t a b u) [.agg xs,.agg ys] (.bool (!r)) (fun ρ o w ho hx=>by
        simp only [Op.operands,List.map_cons,List.map_nil,List.cons.injEq] at hx
        exact exec_neq hg (h w) a b ρ o ho hx.1 hx.2.1)
    | _=>.eqv 0 undef undef rfl
def eqEvP (i i' : Bool) (x y x' y' : R4) (r : Bool) (h : ((i == i') && ((x.eq x' && (y.eq y' && true)) && true)) = r) : Ev Tryz.prog :=
  eqEv 29 #[.bool i,.bool x.b,.string x.s,.bool x.c,.string x.t,.bool y.b,.string y.s,.bool y.c,.string y.t] #[.bool i',.bool x'.b,.string x'.s,.bool x'.c,.string x'.t,.bool y'.b,.string y'.s,.bool y'.c,.string y'.t] r (by kernel_rfl) (fun w=>by rw [← h]; exact eqP 9995 i i' x y x' y')
def eqEvW (b b' : Bool) (s s' : ByteArray) (r : Bool) (h : weq b b' s s' = r) : Ev Tryz.prog :=
  eqEv 23 #[.bool b,.string s] #[.bool b',.string s'] r (by kernel_rfl) (fun w=>by rw [← h]; exact eqW 9998 ..)
def eqEvF (x x' : R4) (r : Bool) (h : x.eq x' = r) : Ev Tryz.prog :=
  eqEv 25 #[.bool x.b,.string x.s,.bool x.c,.string x.t] #[.bool x'.b,.string x'.s,.bool x'.c,.string x'.t] r (by kernel_rfl) (fun w=>by rw [← h]; exact eqF 9997 ..)
end Go.Proofs.YtimfgjcidigbiaaGreat
end
section
namespace Go.Proofs.YtimfgjcidigbiaaGreat
open Go.Proofs.YtimfgjcidigbiaaGreat.Y
open Go Go.RowKit
set_option maxRecDepth 100000
def Y.Spec.conv {P : Program} (S : Y.Spec P) (res : SV) (h : S.res = res) : Y.Spec P:=⟨S.f,S.en,S.args,S.obs,res,S.news,fun β w hh=>h ▸ S.ok β w hh,h ▸ S.closed⟩
abbrev K3 : Nat:=100000000
theorem fres {x y : Rat} (h : x = y) : SV.one (.a (fC x)) = .one (.a (fC y)):=by rw [h]
section
variable {x y : Rat}
def sR3Plus (hx : Sz K3 x) (hy : Sz K3 y) : Y.Spec Tryz.prog :=
  (Y.Spec.auto Tryz.call146 [.one (.a (fC x)),.one (.a (fC y))] [] (.one (.a (fC (Rat.divInt (x.num * y.den + y.num * x.den) (x.den * y.den))))) []
    [eWTimes (Nat.le_trans hx.1 (by decide)) (Nat.le_trans hy.2 (by decide)),eWTimes (Nat.le_trans hy.1 (by decide)) (Nat.le_trans hx.2 (by decide)),
     eWPlus (Nat.le_trans (sz_mul hx.1 hy.2) (by decide)) (Nat.le_trans (sz_mul hy.1 hx.2) (by decide)),eWTimes (Nat.le_trans hx.2 (by decide)) (Nat.le_trans hy.2 (by decide)),
     eFOf (Nat.le_trans (sz_add (sz_mul hx.1 hy.2) (sz_mul hy.1 hx.2)) (by decide)) (Nat.le_trans (sz_mul hx.2 hy.2) (by decide)) (Int.mul_ne_zero (den_ne x) (den_ne y))]
    [(3,9)] 400 Tryz.func146 hmA (by kernel_rfl) (fun β=>by kernel_rfl)).conv (.one (.a (fC (x + y)))) (fres (divInt_Add x y))
def sR3Neg (x : Rat) : Y.Spec Tryz.prog :=
  Y.Spec.auto Tryz.call123 [.one (.a (fC x))] [] (.one (.a (fC (-x)))) [] [eWNeg x.num] [(1,6)] 400 Tryz.func123 hmA (by kernel_rfl) (fun β=>by kernel_rfl)
def sR3Minus (hx : Sz K3 x) (hy : Sz K3 y) : Y.Spec Tryz.prog :=
  (Y.Spec.auto Tryz.call133 [.one (.a (fC x)),.one (.a (fC y))] [] (.one (.a (fC (x + -y)))) []
    [(sR3Neg y).e,(sR3Plus hx hy.neg).e] [(1,4)] 400 Tryz.func133 hmA (by kernel_rfl) (fun β=>by kernel_rfl)).conv (.one (.a (fC (x - y)))) (fres (Rat.sub_eq_add_neg x y).symm)
def sR3Times (hx : Sz K3 x) (hy : Sz K3 y) : Y.Spec Tryz.prog :=
  (Y.Spec.auto Tryz.call131 [.one (.a (fC x)),.one (.a (fC y))] [] (.one (.a (fC (Rat.divInt (x.num * y.num) ((x.den : Int) * y.den))))) []
    [eWTimes (Nat.le_trans hx.1 (by decide)) (Nat.le_trans hy.1 (by decide)),eWTimes (Nat.le_trans hx.2 (by decide)) (Nat.le_trans hy.2 (by decide)),
     eFOf (Nat.le_trans (sz_mul hx.1 hy.1) (by decide)) (Nat.le_trans (sz_mul hx.2 hy.2) (by decide)) (Int.mul_ne_zero (den_ne x) (den_ne y))]
    [(1,11)] 400 Tryz.func131 hmA (by kernel_rfl) (fun β=>by kernel_rfl)).conv (.one (.a (fC (x * y)))) (fres (divInt_mul x y))
def sR3Over (hx : Sz K3 x) (hy : Sz K3 y) (h0 : y ≠ 0) : Y.Spec Tryz.prog :=
  (Y.Spec.auto Tryz.call130 [.one (.a (fC x)),.one (.a (fC y))] [] (.one (.a (fC (Rat.divInt (x.num * (y.den : Int)) ((x.den : Int) * y.num))))) []
    [eWTimes (Nat.le_trans hx.1 (by decide)) (Nat.le_trans hy.2 (by decide)),eWTimes (Nat.le_trans hx.2 (by decide)) (Nat.le_trans hy.1 (by decide)),
     eFOf (Nat.le_trans (sz_mul hx.1 hy.2) (by decide)) (Nat.le_trans (sz_mul hx.2 hy.1) (by decide)) (Int.mul_ne_zero (den_ne x) fun e=>h0 (Rat.num_eq_zero.1 e))]
    [(1,11)] 400 Tryz.func130 hmA (by kernel_rfl) (fun β=>by kernel_rfl)).conv (.one (.a (fC (x / y)))) (fres (divInt_quo x y))
def sR3Sign {k : Int} (hk : x.num.sign = k) : Y.Spec Tryz.prog :=
  Y.Spec.auto Tryz.call59 [.one (.a (fC x))] [] (.one (.c (.b (.v (.int .i64 k))))) [] [eWSign hk] [] 400 Tryz.func59 hmA (by kernel_rfl) (fun β=>by kernel_rfl)
end
theorem divInt_one (n : Int) : (Rat.divInt n 1).num = n ∧ (Rat.divInt n 1).den = 1:=by
  obtain ⟨_,_,_,h4,h5⟩:=divInt_parts n 1 (by decide) 1 (by rw [if_neg (by decide),show (1 : Int).natAbs = 1 from rfl,Nat.gcd_one_right]; rfl)
  rw [Int.ediv_one] at h4 h5
  exact ⟨h4,by omega⟩
theorem fC_int (n : Int) : fC (Rat.divInt n 1) = [.b (.v (.bool (decide (n < 0)))),.b (.v (.string (mag n.natAbs))),.b (.v (.bool false)),.b (.v (.string (mag 1)))]:=by
  unfold fC
  rw [(divInt_one n).1,(divInt_one n).2]
def sR3Int (n : Int) (hr : -9223372036854775808 ≤ n ∧ n ≤ 9223372036854775807) : Y.Spec Tryz.prog :=
  Y.Spec.conv (Y.Spec.auto Tryz.call100 [.one (.c (.b (.v (.int .i64 n))))] [] (.one (.a [.b (.v (.bool (decide (n < 0)))),.b (.v (.string (mag n.natAbs))),.b (.v (.bool false)),.b (.v (.string (mag 1)))])) []
    [eWOf n hr,eWOf 1 (by decide)] [] 400 Tryz.func100 hmA (by kernel_rfl) (fun β=>by kernel_rfl)) (.one (.a (fC (Rat.divInt n 1)))) (congrArg (fun l=>SV.one (.a l)) (fC_int n).symm)
def eFFits (b c : Bool) (s t : ByteArray) (r : Bool) (hr : r = true ↔ s.size ≤ 1024 ∧ t.size ≤ 1024) : Ev Tryz.prog:=.ret 142 Tryz.call142 #[rawV b c s t] (.bool r) (fun w=>(r3fits_any b c s t).mono fun e w' ⟨r',he,hr',hb⟩=>⟨by rw [he,Bool.eq_iff_iff.2 (hr'.trans hr.symm)],hb⟩)
def eFFit {x : Rat} {r : Bool} (hr : r = true ↔ Fit x) : Ev Tryz.prog:=eFFits (decide (x.num < 0)) false (mag x.num.natAbs) (mag x.den) r hr
def FracFormed (b c : Bool) (s t : ByteArray) : Prop:=FormedB b s ∧ FormedB c t ∧ 0 < numOf c t ∧ Nat.gcd (numOf b s).natAbs (numOf c t).natAbs = 1
theorem formed_cells {p : Bool} {s : ByteArray} (h : FormedB p s) {k : Nat} (hk : s.size ≤ k) : ∃ n : Int,p = decide (n < 0) ∧ s = mag n.natAbs ∧ sz n ≤ k ∧ numOf p s = n:=by
  obtain ⟨h1,h2⟩:=formed_num h
  refine ⟨numOf p s,h1.symm,h2.symm,?_,rfl⟩
  unfold sz
  rw [h2]
  exact hk
theorem sign_pos {n : Int} {r : Bool} (h : decide (0 < n) = r) : Value.bool (decide (n.sign ≤ 0)) = .bool (!r):=by
  rw [← h]
  by_cases k : 0 < n
  · rw [decide_eq_true k,Int.sign_eq_one_of_pos k]; rfl
  · have : n.sign ≤ 0:=by
      rcases Int.lt_trichotomy n 0 with a | a | a
      · rw [Int.sign_eq_neg_one_of_neg a]; decide
      · rw [a]; decide
      · exact absurd a k
    rw [decide_eq_false k,decide_eq_true this]; rfl
theorem formed_ok (b c : Bool) (s t : ByteArray) (h1 : s.size ≤ 1000000000) (h2 : t.size ≤ 1000000000) (r : Bool) (hr : r = true ↔ FracFormed b c s t) (β : Env) (w : World) (hh : ∀ (k : Nat) (t : Thing),([] : List Thing)[k]? = some t → t.D w (β k)) :
    Calls Tryz.prog 143 (([SV.one (.a [.b (.v (.bool b)),.b (.v (.string s)),.b (.v (.bool c)),.b (.v (.string t))])] : List SV).map (SV.den β)).toArray w fun e w'=>∃ xs : List Pl,freshS β w ([] : List Thing).length xs ∧ e = .returned ((SV.one (.c (.b (.v (.bool r))))).den (extE β ([] : List Thing).length xs)) ∧ newHold w' [] xs ∧ Below w.heap.size w w':=by
  by_cases q1 : FormedB b s
  rotate_left
  · obtain rfl:=eq_false_of hr fun h=>q1 h.1
    exact spec_auto (evs:=[eWFormed b s false (iff_false_of q1)]) (Ns:=[]) (m:=400) Tryz.func143 hmA (fun β=>by kernel_rfl) (by kernel_rfl) β w hh
  by_cases q2 : FormedB c t
  rotate_left
  · obtain rfl:=eq_false_of hr fun h=>q2 h.2.1
    exact spec_auto (evs:=[eWFormed b s true (iff_true_of q1),eWFormed c t false (iff_false_of q2)]) (Ns:=[]) (m:=400) Tryz.func143 hmA (fun β=>by kernel_rfl) (by kernel_rfl) β w hh
  obtain ⟨n,rfl,rfl,e1,e2⟩:=formed_cells q1 h1
  obtain ⟨m,rfl,rfl,e3,e4⟩:=formed_cells q2 h2
  unfold FracFormed at hr
  rw [e2,e4] at hr
  cases q3 : decide (0 < m) with
  | false =>
    obtain rfl:=eq_false_of hr fun h=>of_decide_eq_false q3 h.2.2.1
    exact spec_auto (evs:=[eWFormed _ _ true (iff_true_of q1),eWFormed _ _ true (iff_true_of q2),eWSign (n:=m) rfl,.eqv 17 (.bool (decide (m.sign ≤ 0))) (.bool true) (sign_pos q3)]) (Ns:=[]) (m:=400) Tryz.func143 hmA (fun β=>by kernel_rfl) (by kernel_rfl) β w hh
  | true =>
    have hb : ((decide (((Nat.gcd n.natAbs m.natAbs : Nat) : Int) < 0) == decide ((1 : Int) < 0)) && (((mag (((Nat.gcd n.natAbs m.natAbs : Nat) : Int)).natAbs).toList == (mag (1 : Int).natAbs).toList) && true)) = r:=by
      rw [Bool.eq_iff_iff,hr]
      show weq _ _ _ _ = true ↔ _
      rw [weq_iff]
      constructor
      · rintro ⟨_,h⟩
        have:=mag_inj h
        rw [Int.natAbs_natCast] at this
        exact ⟨q1,q2,of_decide_eq_true q3,this⟩
      · rintro ⟨_,_,_,h⟩
        rw [h]
        exact ⟨rfl,rfl⟩
    exact spec_auto (evs:=[eWFormed _ _ true (iff_true_of q1),eWFormed _ _ true (iff_true_of q2),eWSign (n:=m) rfl,.eqv 17 (.bool (decide (m.sign ≤ 0))) (.bool false) (sign_pos q3),eWGcd (Nat.le_trans e1 (by decide)) (Nat.le_trans e3 (by decide)),eWOf 1 (by decide),
      eqEvW _ _ _ _ r hb]) (Ns:=[]) (m:=400) Tryz.func143 hmA (fun β=>by kernel_rfl) (by kernel_rfl) β w hh
def sR3Formed (b c : Bool) (s t : ByteArray) (h1 : s.size ≤ 1000000000) (h2 : t.size ≤ 1000000000) (r : Bool) (hr : r = true ↔ FracFormed b c s t) : Y.Spec Tryz.prog :=
  ⟨143,Tryz.call143,[.one (.a [.b (.v (.bool b)),.b (.v (.string s)),.b (.v (.bool c)),.b (.v (.string t))])],[],.one (.c (.b (.v (.bool r)))),[],formed_ok b c s t h1 h2 r hr,by kernel_rfl⟩
theorem may3_ok (b c : Bool) (s t : ByteArray) (r : Bool) (hr : r = true ↔ IsFrac (rawV b c s t)) (β : Env) (w : World) (hh : ∀ (k : Nat) (t : Thing),([] : List Thing)[k]? = some t → t.D w (β k)) :
    Calls Tryz.prog 44 (([SV.one (.a [.b (.v (.bool b)),.b (.v (.string s)),.b (.v (.bool c)),.b (.v (.string t))])] : List SV).map (SV.den β)).toArray w fun e w'=>∃ xs : List Pl,freshS β w ([] : List Thing).length xs ∧ e = .returned ((SV.one (.c (.b (.v (.bool r))))).den (extE β ([] : List Thing).length xs)) ∧ newHold w' [] xs ∧ Below w.heap.size w w':=by
  unfold rawV at hr
  rw [isFrac_doc] at hr
  by_cases f1 : s.size ≤ 1024 ∧ t.size ≤ 1024
  · have hr2 : r = true ↔ FracFormed b c s t:=hr.trans ⟨fun h=>h.2,fun h=>⟨f1,h⟩⟩
    cases r
    · exact spec_auto (evs:=[eFFits b c s t true (iff_true_of f1),(sR3Formed b c s t (Nat.le_trans f1.1 (by decide)) (Nat.le_trans f1.2 (by decide)) false hr2).e]) (Ns:=[]) (m:=400) Tryz.func44 hmA (fun β=>by kernel_rfl) (by kernel_rfl) β w hh
    · exact spec_auto (evs:=[eFFits b c s t true (iff_true_of f1),(sR3Formed b c s t (Nat.le_trans f1.1 (by decide)) (Nat.le_trans f1.2 (by decide)) true hr2).e]) (Ns:=[]) (m:=400) Tryz.func44 hmA (fun β=>by kernel_rfl) (by kernel_rfl) β w hh
  · obtain rfl:=eq_false_of hr fun h=>f1 h.1
    exact spec_auto (evs:=[eFFits b c s t false (iff_false_of f1)]) (Ns:=[]) (m:=400) Tryz.func44 hmA (fun β=>by kernel_rfl) (by kernel_rfl) β w hh
def sR3May (b c : Bool) (s t : ByteArray) (r : Bool) (hr : r = true ↔ IsFrac (rawV b c s t)) : Y.Spec Tryz.prog :=
  ⟨44,Tryz.call44,[.one (.a [.b (.v (.bool b)),.b (.v (.string s)),.b (.v (.bool c)),.b (.v (.string t))])],[],.one (.c (.b (.v (.bool r)))),[],may3_ok b c s t r hr,by kernel_rfl⟩
end Go.Proofs.YtimfgjcidigbiaaGreat
end
section
namespace Go.Proofs.YtimfgjcidigbiaaGreat
open Go.Proofs.YtimfgjcidigbiaaGreat.Y
open Go Go.RowKit
set_option maxRecDepth 100000
abbrev KE : Nat:=10000000
theorem sz_lit (a b : Int) (ha : a.natAbs < 18446744073709551616) (hb : b.natAbs < 18446744073709551616) (h0 : b ≠ 0) : Sz 8 (Rat.divInt a b) :=
  sz_divInt h0 (sz_le.2 (Nat.lt_of_lt_of_le ha (by decide))) (sz_le.2 (Nat.lt_of_lt_of_le hb (by decide)))
theorem sign_zero (x : Rat) : (Value.bool (x.num.sign == 0)) = .bool (decide (x = 0)):=by
  congr 1
  rw [Bool.eq_iff_iff,beq_iff_eq,decide_eq_true_iff,Int.sign_eq_zero_iff_zero,Rat.num_eq_zero]
theorem sign_lit {x : Rat} {b : Bool} (h : decide (x = 0) = b) : (Value.bool (x.num.sign == 0)) = .bool b:=by rw [sign_zero,h]
theorem exformed_any {w : World} (p : Bool) (s : ByteArray) (r : Bool) (hr : r = true ↔ FormedB p s) :
    Calls Tryz.prog 241 #[.agg #[.bool p,.string s]] w fun e w'=>e = .returned (.bool r) ∧ Below w.heap.size w w':=by
  have HB:=Lib.hid (below_new w (.cells #[.bool p,.string s] 23))
  have HR:=Lib.hid hr
  clear hr
  by_cases h0 : s.size = 0
  · obtain rfl:=empty_data h0
    have HQ : Hid (r = !p):=by
      have h1:=HR.out
      unfold FormedB at h1
      cases p <;> cases r <;> simp_all [Hid]
    clear h0
    go_enter Tryz.func241,Tryz.ntmps241
    go_wp2
    go_ret
    exact ⟨by rw [HQ.out]; rfl,HB.out⟩
  · obtain ⟨hE,hE2⟩:=toList_some h0
    have hp : 0 < s.size:=by omega
    obtain ⟨t,ht⟩ : ∃ t,t = head s:=⟨_,rfl⟩
    have ht2 : s[0].toNat = t:=by rw [ht]; exact head_eq hp
    have HQ : Hid (r = true ↔ t ≠ 0):=by
      have h1:=HR.out
      unfold FormedB at h1
      rw [← ht] at h1
      exact ⟨fun h=>(h1.1 h).elim (fun k=>absurd k.1 h0) (fun k=>k.2),fun h=>h1.2 (.inr ⟨h0,h⟩)⟩
    clear ht
    by_cases hz : t = 0
    · subst hz
      go_enter Tryz.func241,Tryz.ntmps241
      go_wp2
      go_ret
      refine ⟨?_,HB.out⟩
      cases r
      · rfl
      · exact absurd rfl (HQ.out.1 rfl)
    · have hz1 : ((t : Int) == 0) = false:=by rw [beq_eq_false_iff_ne]; omega
      have hz2 : ((t : Int) != 0) = true:=by rw [bne_iff_ne]; omega
      go_enter Tryz.func241,Tryz.ntmps241
      go_wp2
      go_ret
      refine ⟨?_,HB.out⟩
      rw [HQ.out.2 hz]
      rfl
theorem exwhole_any {w : World} (b : Bool) (s : ByteArray) (hs : s.size ≤ 4294967296) :
    Calls Tryz.prog 242 #[.agg #[.bool b,.string s]] w fun e w'=>∃ g,e = .returned (.pointer (some ⟨g,0,none⟩)) ∧ w.heap.size ≤ g ∧ IntAt w' g 0 (numOf b s) ∧ Below w.heap.size w w':=by
  have hcv:=fun (w : World)=>run_bytes_of_string (P:=Tryz.prog) w 9 259 5 s Tryz.underlying9 Tryz.underlying259 Tryz.underlying5
  have HS:=Lib.hid hs
  have HB:=Lib.hid (below_new w (.cells #[.bool b,.string s] 23))
  have HX:=Lib.hid (BoxAt.new w #[.bool b,.string s] 23)
  clear hs
  go_enter Tryz.func242,Tryz.ntmps242
  go_wp2_with fail
  generalize hW2 : (w.alloc (.cells #[.bool b,.string s] 23)).alloc (.cells #[.bool false,.slice none 0 0] 256) = W2
  have hi : IntAt W2 (w.heap.size + 1) 0 0:=by rw [← hW2]; exact IntAt.new_at (size_alloc _ _).symm
  have hx : BoxAt W2 w.heap.size #[.bool b,.string s] 23:=by rw [← hW2]; exact HX.out.on (below_new _ _)
  have hb : Below w.heap.size w W2:=by rw [← hW2]; exact HB.out.trans ((below_new _ _).mono (by simp))
  have hsz : w.heap.size + 1 + 1 = W2.heap.size:=by rw [← hW2]; simp
  have hby:=byt_row (W:=W2) s (grownCap W2 s.size 0 5) (grownCap W2 s.size 0 5) (w.heap.size + 1 + 1) ((bytesRow s (grownCap W2 s.size 0 5)).size,(bytesRow s (grownCap W2 s.size 0 5)).size + 1) hsz
  have hbl:=below_row W2 (bytesRow s (grownCap W2 s.size 0 5)) 5 ((bytesRow s (grownCap W2 s.size 0 5)).size,(bytesRow s (grownCap W2 s.size 0 5)).size + 1)
  clear hW2
  generalize grownCap W2 s.size 0 5 = c at hby hbl ⊢
  generalize (W2.alloc (.cells (bytesRow s c) 5 ((bytesRow s c).size,(bytesRow s c).size + 1))).drew = W3 at hby hbl ⊢
  refine (SetBytes_any (hi.on hbl).slot hby HS.out).mono ?_
  rintro e w1 ⟨rfl,h1,h2⟩
  rw [List.reverse_reverse] at h1
  have HX1:=Lib.hid (hx.on hbl)
  have HB1:=Lib.hid (hb.trans (hbl.mono hb.size))
  have HI:=Lib.hid h1
  have HT:=Lib.hid (h2.below (B:=w.heap.size + 1) (Nat.le_refl _) (by have:=hbl.size; omega))
  have hc0 : w1.cell? ⟨w.heap.size,0,none⟩ = some (.bool b):=by rw [HT.out.cell (by simp)]; exact HX1.out.cell 0 _ rfl
  have hc1 : w1.cell? ⟨w.heap.size,1,none⟩ = some (.string s):=by rw [HT.out.cell (by simp)]; exact HX1.out.cell 1 _ rfl
  have HBB:=Lib.hid (HB1.out.trans (HT.out.mono (by omega)))
  clear h1 h2 hi hx hb hsz hby hbl
  cases b
  · go_wp2
    go_ret
    refine ⟨_,rfl,by omega,?_,HBB.out⟩
    have:=HI.out
    simpa [numOf,sg,num] using this
  · go_wp2_with fail
    refine (neg_any HI.out.slot HI.out).mono ?_
    rintro e w2 ⟨rfl,h1,h2⟩
    have H1:=Lib.hid h1
    have H2:=Lib.hid (HBB.out.trans (h2.below (by omega) HBB.out.size))
    clear h1 h2 hc0 hc1
    go_wp2
    go_ret
    refine ⟨_,rfl,by omega,?_,H2.out⟩
    have:=H1.out
    simpa [numOf,sg,num] using this
theorem formedB_dec (b : Bool) (s : ByteArray) : ∃ r : Bool,r = true ↔ FormedB b s:=by
  by_cases h : FormedB b s
  · exact ⟨true,by simp [h]⟩
  · exact ⟨false,by simp [h]⟩
theorem eq_empty {t : ByteArray} {r : Bool} (h : decide (t.size = 0) = r) : Value.bool (t.toList == (⟨#[]⟩ : ByteArray).toList) = .bool r:=by
  rw [← h]
  congr 1
  rw [Bool.eq_iff_iff,beq_iff_eq,decide_eq_true_iff,toList_inj]
  exact ⟨fun h=>by rw [h]; rfl,fun h=>empty_data h⟩
theorem len_gt {t : ByteArray} {r : Bool} (h : decide (1024 < t.size) = r) : Value.bool (decide ((1024 : Int) < (t.size : Int))) = .bool r:=by
  rw [← h]
  congr 1
  rw [Bool.eq_iff_iff,decide_eq_true_iff,decide_eq_true_iff]
  omega
theorem cmp_ne {a b : Int} {r : Bool} (h : decide (a = b) = r) : Value.bool (cmpI a b != 0) = .bool (!r):=by
  rw [← h]
  congr 1
  unfold cmpI
  by_cases h1 : a < b
  · rw [if_pos h1]; simp; omega
  · by_cases h2 : b < a
    · rw [if_neg h1,if_pos h2]; simp; omega
    · rw [if_neg h1,if_neg h2]; simp; omega
set_option maxRecDepth 100000 in
theorem Bytes_at {w : World} {b o : Nat} {n : Int} (hx : IntAt w b o n) (hn : Okn n) :
    Calls Tryz.prog 213 #[.pointer (some ⟨b,o,none⟩)] w fun e w'=>∃ g,e = .returned (.slice (some ⟨g,0,none⟩) (led n.natAbs).length (led n.natAbs).length) ∧ w.heap.size ≤ g ∧ Byt w' (.slice (some ⟨g,0,none⟩) (led n.natAbs).length (led n.natAbs).length) (led n.natAbs).reverse ∧ Below w.heap.size w w':=by
  have HX:=Lib.hid hx
  have HO:=Lib.hid hn
  clear hx hn
  go_enter Tryz.func213,Tryz.ntmps213
  go_wp2_with fail
  refine (BitLen_any HX.out).mono ?_
  rintro e w1 ⟨L,rfl,hL,hLb,hb1⟩
  obtain ⟨N,hN⟩ : ∃ N,N = n.natAbs:=⟨_,rfl⟩
  have ho:=HO.out
  unfold Okn at ho
  rw [← hN] at hL ho
  obtain ⟨m,hm⟩ : ∃ m,m = (L + 7) / 8:=⟨_,rfl⟩
  have HM : Hid ((led N).length = m):=by rw [hm]; exact led_len_bits N L hL.1 hL.2
  have hmi : ((L : Int) + 7) / 8 = (m : Int):=by omega
  have hLL:=hL.le (by have:=dig_lt N; rw [p32] at this; exact this)
  have hmb : m ≤ 17179869185:=by omega
  have HN:=Lib.hid hN
  have HB1:=Lib.hid hb1
  have HS1 : Hid (w.heap.size ≤ w1.heap.size):=hb1.size
  clear hL hm hb1 hN hLL ho
  go_wp2_with (at_make; refine wpList_make_bytes rfl _ _ rfl _ _ _ _ m m rfl rfl (by omega) (by omega) (Nat.le_refl _) (by omega) ?_)
  intro w2 hbuf hb2 hz2
  have HB2:=Lib.hid hz2
  clear hz2
  go_wp2
  go_loopw [14] (fun i wr=>∃ (k : Nat),k ≤ m ∧ i = .int .i64 (k : Int) ∧ BBuf wr w1.heap.size (List.replicate (m - k) 0 ++ (led N).reverse.drop (m - k)) ∧ Below w1.heap.size w1 wr) (fun i _=>m - (intOf i).toNat)
  case atStart=>exact ⟨0,by omega,rfl,by rw [Nat.sub_zero,List.drop_of_length_le (by rw [List.length_reverse,HM.out]; exact Nat.le_refl _),List.append_nil]; exact hbuf,hb2⟩
  case round =>
    obtain ⟨k,hk,rfl,hbuf',hb'⟩:=hrel
    have hsz:=hb'.size
    have hblt:=hbuf'.lt
    clear hbuf hb2 HB2
    by_cases hk0 : k < m
    · have hx:=HX.out.on (HB1.out.trans (hb'.mono HS1.out))
      obtain ⟨A,l,c,h0,h1,h2,hlt⟩:=hx.open_
      rw [← HN.out] at h2
      have hl:=h2.len.1
      obtain ⟨q,hq⟩ : ∃ q,q = k / 4:=⟨_,rfl⟩
      obtain ⟨r,hr⟩ : ∃ r,r = k % 4:=⟨_,rfl⟩
      obtain ⟨s,hs⟩ : ∃ s,s = k % 4 * 8:=⟨_,rfl⟩
      have hql : q < l:=by
        have h3:=led_len_le N (4 * l) (by have:=dig_lt N; rw [← hl,p32] at this; rw [p256]; rwa [show 8 * (4 * l) = 32 * l by omega])
        have:=HM.out
        omega
      obtain ⟨g,p,rfl,hall⟩:=h2.open_ (by omega)
      have hc:=hall q hql
      obtain ⟨x,hx'⟩ : ∃ x,x = N / 4294967296 ^ q % 4294967296:=⟨_,rfl⟩
      have hx32 : x < 4294967296:=by rw [hx']; exact Nat.mod_lt _ (by decide)
      replace hc : wr.cell? ⟨g,p + q,none⟩ = some (.int .u32 (x : Int)):=by rw [hx',← dig_getD]; exact hc
      obtain ⟨y,hy⟩ : ∃ y,y = x / 2 ^ s:=⟨_,rfl⟩
      have hsh : (x : Int) / 2 ^ s = (y : Int):=by rw [hy,Int.natCast_ediv]; simp
      have hyb : y < 4294967296:=by rw [hy]; exact Nat.lt_of_le_of_lt (Nat.div_le_self _ _) hx32
      have hbyte : y % 256 = N / 256 ^ k % 256:=by rw [hy,hx',hq,hs]; exact byte_word N k
      have HBY:=Lib.hid hbyte
      have hqi : (k : Int) / 4 = (q : Int):=by omega
      have hri : (k : Int) % 4 = (r : Int):=by omega
      have hsi : (r : Int) * 8 = (s : Int):=by omega
      have hs24 : s ≤ 24:=by omega
      have hmk2 : ((m : Int) - 1 - (k : Int)) = ((m - 1 - k : Nat) : Int):=by omega
      have hc2:=hbuf'.cell (m - 1 - k) (by rw [List.length_append,List.length_replicate]; omega)
      have hf:=hbuf'.frozen (m - 1 - k)
      have HB:=Lib.hid (hbuf'.set (m - 1 - k) (y % 256) _ (Nat.mod_lt _ (by decide)) rfl)
      have HH:=Lib.hid hb'
      clear hall h0 h2 hx hl hx' hy hbyte hbuf' hb' hq hr hs
      go_wp2
      go_roundw
      case rel =>
        refine ⟨k + 1,by omega,by go_num,?_,HH.out.setCell (Nat.le_refl _) _⟩
        have h:=HB.out
        have h2:=led_back N m k HM.out hk0
        rw [← HBY.out] at h2
        rw [h2] at h
        exact h
      case measure=>simp [intOf]; omega
    · obtain rfl : k = m:=by omega
      rw [Nat.sub_self,List.replicate_zero,List.nil_append,List.drop_zero] at hbuf'
      have HV:=Lib.hid (hbuf'.byt (n:=k) (cap:=k) (by rw [List.length_reverse]; exact HM.out))
      clear hbuf'
      go_wp2
      go_ret
      exact ⟨w1.heap.size,by rw [← HN.out,HM.out]; rfl,HS1.out,by rw [← HN.out,HM.out]; exact HV.out,HB1.out.trans (hb'.mono HS1.out)⟩
theorem led_gt {n : Int} {r : Bool} (h : decide (1024 < sz n) = r) : Value.bool (decide ((1024 : Int) < ((led n.natAbs).length : Int))) = .bool r:=by
  rw [← h]
  congr 1
  have : sz n = (led n.natAbs).length:=by unfold sz mag; rw [strN_size,List.length_reverse]
  rw [Bool.eq_iff_iff,decide_eq_true_iff,decide_eq_true_iff,this]
  omega
theorem sign_lt {x : Rat} : Value.bool (decide (x.num.sign < 0)) = .bool (decide (x.num < 0)):=by
  congr 1
  rw [Bool.eq_iff_iff,decide_eq_true_iff,decide_eq_true_iff,Int.sign_neg_iff]
inductive Fp where
  | ok (x : Rat) (h : Fit x)
  | no (b c : Bool) (s t : ByteArray) (h : ¬ IsFrac (rawV b c s t)) (hs : s.size ≤ maxLen) (ht : t.size ≤ maxLen)
theorem fp_all (b c : Bool) (s t : ByteArray) : (∃ x,∃ _ : Fit x,b = decide (x.num < 0) ∧ s = mag x.num.natAbs ∧ c = false ∧ t = mag x.den) ∨ ¬ IsFrac (rawV b c s t):=by
  by_cases h : IsFrac (rawV b c s t)
  · obtain ⟨x,hx,hv⟩:=h
    obtain ⟨h1,h2,h3,h4⟩:=agg4 hv
    exact .inl ⟨x,hx,h1,h2,h3,h4⟩
  · exact .inr h
def Fp.C : Fp → List Lf
  | .ok x _=>[.b (.v (.bool (decide (x.num < 0)))),.b (.v (.string (mag x.num.natAbs))),.b (.v (.bool false)),.b (.v (.string (mag x.den)))]
  | .no b c s t _ _ _=>[.b (.v (.bool b)),.b (.v (.string s)),.b (.v (.bool c)),.b (.v (.string t))]
def Fp.B : Fp → Bool
  | .ok ..=>true
  | .no ..=>false
def FitG (z : GQ) : Prop:=Fit z.re ∧ Fit z.im
open Classical in
noncomputable def gaK (z : GQ) : Int:=if FitG z then 0 else 4
open Classical in
noncomputable def gaB (z : GQ) : Bool:=if FitG z then decide (z.re.num < 0) else false
open Classical in
noncomputable def gaS (z : GQ) : ByteArray:=if FitG z then mag z.re.num.natAbs else ⟨#[]⟩
open Classical in
noncomputable def gaD (z : GQ) : ByteArray:=if FitG z then mag z.re.den else ⟨#[]⟩
open Classical in
noncomputable def gaB' (z : GQ) : Bool:=if FitG z then decide (z.im.num < 0) else false
open Classical in
noncomputable def gaS' (z : GQ) : ByteArray:=if FitG z then mag z.im.num.natAbs else ⟨#[]⟩
open Classical in
noncomputable def gaD' (z : GQ) : ByteArray:=if FitG z then mag z.im.den else ⟨#[]⟩
noncomputable def gaC (z : GQ) : List Lf:=[.b (.v (.bool (gaB z))),.b (.v (.string (gaS z))),.b (.v (.bool false)),.b (.v (.string (gaD z))),.b (.v (.bool (gaB' z))),.b (.v (.string (gaS' z))),.b (.v (.bool false)),.b (.v (.string (gaD' z)))]
def g0C : List Lf:=[.b (.v (.bool false)),.b (.v (.string ⟨#[]⟩)),.b (.v (.bool false)),.b (.v (.string ⟨#[]⟩)),.b (.v (.bool false)),.b (.v (.string ⟨#[]⟩)),.b (.v (.bool false)),.b (.v (.string ⟨#[]⟩))]
def gC (z : GQ) : List Lf:=[.b (.v (.bool (decide (z.re.num < 0)))),.b (.v (.string (mag z.re.num.natAbs))),.b (.v (.bool false)),.b (.v (.string (mag z.re.den))),.b (.v (.bool (decide (z.im.num < 0)))),.b (.v (.string (mag z.im.num.natAbs))),.b (.v (.bool false)),.b (.v (.string (mag z.im.den)))]
theorem ga_fit {z : GQ} (h : FitG z) : gaC z = gC z ∧ gaK z = 0:=by
  unfold gaC gC gaB gaS gaD gaB' gaS' gaD' gaK
  constructor <;> simp only [if_pos h]
theorem ga_not {z : GQ} (h : ¬ FitG z) : gaC z = g0C ∧ gaK z = 4:=by
  unfold gaC g0C gaB gaS gaD gaB' gaS' gaD' gaK
  constructor <;> simp only [if_neg h]
theorem ansK_ne {x : Rat} {r : Bool} (h : (ansK x != 0) = r) : Value.bool (ansK x != 0) = .bool r:=by rw [h]
theorem ansF_fit {x : Rat} (h : Fit x) : ansB x = decide (x.num < 0) ∧ ansS x = mag x.num.natAbs ∧ ansD x = mag x.den ∧ ansK x = 0:=⟨if_pos h,if_pos h,if_pos h,if_pos h⟩
inductive Pt where
  | inf
  | fin (z : GQ)
def PSz (k : Nat) : Pt → Prop
  | .inf=>True
  | .fin z=>GSz k z
theorem sz_zero : Sz 1 (0 : Rat):=⟨sz_le.2 (by decide),sz_le.2 (by decide)⟩
def g0 : GQ:=⟨0,0⟩
abbrev nilL : Lf:=.b (.v (.pointer none))
abbrev KC : Nat:=100000
theorem PSz.mono {i k : Nat} {p : Pt} (h : PSz i p) (hk : i ≤ k) : PSz k p:=by
  cases p
  · trivial
  · exact GSz.mono h hk
noncomputable def paC : Pt → List Lf
  | .inf=>.b (.v (.bool true)) :: g0C
  | .fin z=>.b (.v (.bool false)) :: gaC z
noncomputable def paK : Pt → Int
  | .inf=>0
  | .fin z=>gaK z
inductive Pp where
  | inf
  | fin (a b : Fp)
  | odd (x y : R4) (h : ¬ (x = ⟨false,⟨#[]⟩,false,⟨#[]⟩⟩ ∧ y = ⟨false,⟨#[]⟩,false,⟨#[]⟩⟩))
def R4.L (x : R4) : List Lf:=[.b (.v (.bool x.b)),.b (.v (.string x.s)),.b (.v (.bool x.c)),.b (.v (.string x.t))]
def Pp.C : Pp → List Lf
  | .inf=>.b (.v (.bool true)) :: g0C
  | .fin a b=>.b (.v (.bool false)) :: (a.C ++ b.C)
  | .odd x y _=>.b (.v (.bool true)) :: (x.L ++ y.L)
def Pp.B : Pp → Bool
  | .inf=>true
  | .fin a b=>a.B && b.B
  | .odd ..=>false
def r40 : R4:=⟨false,⟨#[]⟩,false,⟨#[]⟩⟩
theorem odd_ne {x y : R4} (h : ¬ (x = ⟨false,⟨#[]⟩,false,⟨#[]⟩⟩ ∧ y = ⟨false,⟨#[]⟩,false,⟨#[]⟩⟩)) : ((true == true) && ((x.eq r40 && (y.eq r40 && true)) && true)) = false:=by
  refine Bool.eq_false_iff.2 fun e=>h ?_
  simp only [Bool.and_true,Bool.and_eq_true,R4.eq_iff] at e
  exact e.2
end Go.Proofs.YtimfgjcidigbiaaGreat
end
section
namespace Go.Proofs.YtimfgjcidigbiaaGreat.Y
open Go Go.RowKit
set_option maxRecDepth 100000
abbrev lsX (l : List Lf) : List Lf:=l
def BY (n : Int) (w : World) (g : Pl) : Prop:=(∀ c,g.F c ↔ c = g.b) ∧ Byt w (.slice (some ⟨g.b,0,none⟩) (led n.natAbs).length (led n.natAbs).length) (led n.natAbs).reverse
theorem by_stable (n : Int) : Stable (BY n) :=
  ⟨fun w g ⟨h,k⟩ c hc=>by rw [(h c).1 hc]; exact k.open_.2.2.1,fun w w' g ⟨h,k⟩ hb=>⟨h,k.on hb⟩,
    fun w w' g b o m n ⟨h,k⟩ hs ht hne=>⟨h,by
      obtain ⟨h0,b',cap,cs,t,fr,h1,h2,h3⟩:=k
      have hb : g.b = b':=by injection h1 with h1 _ _; cases Option.some.inj h1; rfl
      subst hb
      exact ⟨h0,g.b,cap,cs,t,fr,h1,by rw [ht.block g.b (heap_some_lt h2) fun e=>hne ((h b).2 e.symm)]; exact h2,h3⟩⟩⟩
def bytT (n : Int) : Thing:=thing (BY n) (by_stable n)
theorem extE_s (β : Env) (n a b : Nat) (g : Pl) : (SV.one (.c (.b (.s n 0 a b)))).den (extE β n [g]) = .slice (some ⟨g.b,0,none⟩) a b:=by
  have:=extE_in (β:=β) (n:=n) (i:=0) (xs:=[g]) rfl
  rw [Nat.add_zero] at this
  simp only [SV.den,SC.den,Lf.den,Lf0.den,this]
def nBytes {n : Int} (hn : sz n ≤ KB) : Ev Tryz.prog:=dyn1 fun k m=>.call 213 Tryz.call213 (fun β=>#[.pointer ((β k).v 0)]) [(k,(intT n).ob)] m (.one (.c (.b (.s m 0 (led n.natAbs).length (led n.natAbs).length)))) [bytT n] (fun β w h=>by
  obtain ⟨a,ha,ka⟩:=needI (n:=n) (k:=k) h (by simp)
  simp only [ha.1]
  refine (Bytes_at ka (okn_sz hn)).mono fun e w' ⟨g,he,h1,h2,h3⟩=>⟨[newPl g],fun x hx c hc=>?_,by rw [he,extE_s]; rfl,⟨⟨fun _=>Iff.rfl,h2⟩,trivial⟩,h3⟩
  obtain rfl:=List.mem_singleton.1 hx
  rw [((newPl_one g).1 c).1 hc]
  exact .inl h1)
def slOf : SV → Nat
  | .one (.c (.b (.s k _ _ _)))=>k
  | _=>0
def rdStr (d t : Nat) (n : Int) (k : Nat) : Ev Tryz.prog:=.rd d (.convert 259 9 (.tmp t)) (fun β=>[.slice (some ⟨(β k).b,0,none⟩) (led n.natAbs).length (led n.natAbs).length]) [(k,(bytT n).ob)] 0 (.one (.c (.b (.v (.string (mag n.natAbs)))))) [] (fun β w h ρ o ho hx=>by
  have h1 : BY n w (β k):=h (k,(bytT n).ob) (by simp)
  have h2 : ρ (.tmp t) = .slice (some ⟨(β k).b,0,none⟩) (led n.natAbs).length (led n.natAbs).length:=by simpa [Op.operands] using hx
  refine ⟨[],w,(fun _ h=>by cases h),?_,trivial,Below.refl _ _⟩
  unfold execOp
  rw [ho]
  simp only [h2]
  have h3:=string_of_byt h1.2
  simp [go_sem,h3]
  rfl)
def dStr (n : Int) : Ev Tryz.prog:=.dyn (fun o _ _=>match o.op with
  | .convert a b (.tmp _)=>Nat.beq a 259 && Nat.beq b 9
  | _=>false) fun o xs _=>match o.op with
  | .convert _ _ (.tmp t)=>lit (slOf (xs.getD 0 undefS)) fun k=>rdStr (o.dst.getD 0) t n k
  | _=>.eqv 0 undef undef rfl
theorem frac_ok {x : Rat} (hx : Sz KB x) (β : Env) (w : World) (hh : ∀ (k : Nat) (t : Thing),[ratM x][k]? = some t → t.D w (β k)) :
    Calls Tryz.prog 111 (([rV 0] : List SV).map (SV.den β)).toArray w fun e w'=>∃ xs : List Pl,freshS β w 1 xs ∧ e = .returned ((SV.tup [.a [.b (.v (.bool (ansB x))),.b (.v (.string (ansS x))),.b (.v (.bool false)),.b (.v (.string (ansD x)))],.c (.b (.v (.int .i64 (ansK x))))]).den (extE β 1 xs)) ∧ newHold w' [] xs ∧ Below w.heap.size w w':=by
  cases h1 : decide (1024 < sz x.num) with
  | true =>
    have hf : ¬ Fit x:=fun h=>by have:=of_decide_eq_true h1; have:=h.1; unfold sz at *; omega
    rw [show ansB x = false from if_neg hf,show ansS x = ⟨#[]⟩ from if_neg hf,show ansD x = ⟨#[]⟩ from if_neg hf,show ansK x = 4 from if_neg hf]
    exact spec_auto (obs:=[ratM x]) (Ns:=[(5,10)]) (m:=400) (evs:=[(sRat x).e,nNum x,nBytes (n:=x.num) (Nat.le_trans hx.1 (by decide)),nDenom x,nBytes (n:=(x.den : Int)) (Nat.le_trans hx.2 (by decide)),.eqv 16 (.bool (decide ((1024 : Int) < ((led x.num.natAbs).length : Int)))) (.bool true) (led_gt h1)]) Tryz.func111 hmA (fun β=>by kernel_rfl) (by kernel_rfl) β w hh
  | false=>cases h2 : decide (1024 < sz (x.den : Int)) with
  | true =>
    have hf : ¬ Fit x:=fun h=>by have:=of_decide_eq_true h2; have:=h.2; unfold sz at *; rw [Int.natAbs_natCast] at *; omega
    rw [show ansB x = false from if_neg hf,show ansS x = ⟨#[]⟩ from if_neg hf,show ansD x = ⟨#[]⟩ from if_neg hf,show ansK x = 4 from if_neg hf]
    exact spec_auto (obs:=[ratM x]) (Ns:=[(5,10)]) (m:=400) (evs:=[(sRat x).e,nNum x,nBytes (n:=x.num) (Nat.le_trans hx.1 (by decide)),nDenom x,nBytes (n:=(x.den : Int)) (Nat.le_trans hx.2 (by decide)),.eqv 16 (.bool (decide ((1024 : Int) < ((led x.num.natAbs).length : Int)))) (.bool false) (led_gt h1),.eqv 20 (.bool (decide ((1024 : Int) < ((led (x.den : Int).natAbs).length : Int)))) (.bool true) (led_gt h2)]) Tryz.func111 hmA (fun β=>by kernel_rfl) (by kernel_rfl) β w hh
  | false =>
    have hf : Fit x:=⟨by have:=of_decide_eq_false h1; unfold sz at *; omega,by have:=of_decide_eq_false h2; unfold sz at *; rw [Int.natAbs_natCast] at *; omega⟩
    rw [show ansB x = decide (x.num < 0) from if_pos hf,show ansS x = mag x.num.natAbs from if_pos hf,show ansD x = mag (x.den : Int).natAbs from if_pos hf,show ansK x = 0 from if_pos hf]
    exact spec_auto (obs:=[ratM x]) (Ns:=[(5,10)]) (m:=400) (evs:=[(sRat x).e,nNum x,nBytes (n:=x.num) (Nat.le_trans hx.1 (by decide)),nDenom x,nBytes (n:=(x.den : Int)) (Nat.le_trans hx.2 (by decide)),.eqv 16 (.bool (decide ((1024 : Int) < ((led x.num.natAbs).length : Int)))) (.bool false) (led_gt h1),.eqv 20 (.bool (decide ((1024 : Int) < ((led (x.den : Int).natAbs).length : Int)))) (.bool false) (led_gt h2),nSign (x:=x) rfl,.eqv 25 (.bool (decide (x.num.sign < 0))) (.bool (decide (x.num < 0))) sign_lt,dStr x.num,dStr (x.den : Int)]) Tryz.func111 hmA (fun β=>by kernel_rfl) (by kernel_rfl) β w hh
noncomputable def sFrac {x : Rat} (hx : Sz KB x) : Spec Tryz.prog :=
  ⟨111,Tryz.call111,[rV 0],[ratM x],(SV.tup [.a [.b (.v (.bool (ansB x))),.b (.v (.string (ansS x))),.b (.v (.bool false)),.b (.v (.string (ansD x)))],.c (.b (.v (.int .i64 (ansK x))))]),[],frac_ok hx,by kernel_rfl⟩
def AN (w : World) (g : Pl) : Prop:=∀ c,g.F c → c < w.heap.size
theorem an_stable : Stable AN :=
  ⟨fun w g h=>h,fun w w' g h hb c hc=>Nat.lt_of_lt_of_le (h c hc) hb.size,fun w w' g b o m n h hs ht hne c hc=>Nat.lt_of_lt_of_le (h c hc) (ht.below (B:=0) (Nat.zero_le _) (Nat.zero_le _)).size⟩
def anyT : Thing:=⟨AN,an_stable,0,AN,an_stable,fun _ _ h=>h,true,fun _ _ _ h=>h.elim,true,fun _ _ _ h=>h.elim⟩
theorem an_of {D : World → Pl → Prop} (st : Stable D) {w : World} {g : Pl} (h : D w g) : AN w g:=st.lt w g h
def exFormed (b : Bool) (s : ByteArray) (r : Bool) (hr : r = true ↔ FormedB b s) : Ev Tryz.prog:=.ret 241 Tryz.call241 #[.agg #[.bool b,.string s]] _ (fun w=>exformed_any b s r hr)
def exWhole (b : Bool) (s : ByteArray) (hs : s.size ≤ 4294967296) (x : Int) (hx : numOf b s = x) : Ev Tryz.prog:=dyn1 fun _ n=>.call 242 Tryz.call242 (fun _=>#[.agg #[.bool b,.string s]]) [] n (.one (.c (.b (.z n 0)))) [intT x] (fun β w _=>one_int (by rw [← hx]; exact exwhole_any b s hs) β n _)
theorem ratNo_ok {b c : Bool} {s t : ByteArray} (h : ¬ IsFrac (rawV b c s t)) (β : Env) (w : World) (hh : ∀ (k : Nat) (t : Thing),([] : List Thing)[k]? = some t → t.D w (β k)) : Calls Tryz.prog 138 (([.one (.a [.b (.v (.bool b)),.b (.v (.string s)),.b (.v (.bool c)),.b (.v (.string t))])] : List SV).map (SV.den β)).toArray w fun e w'=>∃ xs : List Pl,freshS β w 0 xs ∧ e = .returned ((SV.one (.c (.b (.v (.pointer none))))).den (extE β ([] : List Thing).length xs)) ∧ newHold w' [] xs ∧ Below w.heap.size w w':=by
  obtain ⟨r1,h1⟩:=formedB_dec b s
  obtain ⟨r2,h2⟩:=formedB_dec c t
  cases r1 with
  | false=>exact spec_ok (args:=[.one (.a [.b (.v (.bool b)),.b (.v (.string s)),.b (.v (.bool c)),.b (.v (.string t))])]) (obs:=[]) (idx:=[]) (Ns:=[]) (m:=400) (evs:=[exFormed b s false h1]) Tryz.func138 hmA (fun β=>by kernel_rfl) (by kernel_rfl) β w hh
  | true=>cases r2 with
  | false=>exact spec_ok (args:=[.one (.a [.b (.v (.bool b)),.b (.v (.string s)),.b (.v (.bool c)),.b (.v (.string t))])]) (obs:=[]) (idx:=[]) (Ns:=[]) (m:=400) (evs:=[exFormed b s true h1,exFormed c t false h2]) Tryz.func138 hmA (fun β=>by kernel_rfl) (by kernel_rfl) β w hh
  | true=>cases c with
  | true=>exact spec_ok (args:=[.one (.a [.b (.v (.bool b)),.b (.v (.string s)),.b (.v (.bool true)),.b (.v (.string t))])]) (obs:=[]) (idx:=[]) (Ns:=[]) (m:=400) (evs:=[exFormed b s true h1,exFormed true t true h2]) Tryz.func138 hmA (fun β=>by kernel_rfl) (by kernel_rfl) β w hh
  | false=>cases h4 : decide (t.size = 0) with
  | true=>exact spec_ok (args:=[.one (.a [.b (.v (.bool b)),.b (.v (.string s)),.b (.v (.bool false)),.b (.v (.string t))])]) (obs:=[]) (idx:=[]) (Ns:=[]) (m:=400) (evs:=[exFormed b s true h1,exFormed false t true h2,.eqv 25 (.bool (t.toList == (⟨#[]⟩ : ByteArray).toList)) (.bool true) (eq_empty h4)]) Tryz.func138 hmA (fun β=>by kernel_rfl) (by kernel_rfl) β w hh
  | false=>cases h5 : decide (1024 < s.size) with
  | true=>exact spec_ok (args:=[.one (.a [.b (.v (.bool b)),.b (.v (.string s)),.b (.v (.bool false)),.b (.v (.string t))])]) (obs:=[]) (idx:=[]) (Ns:=[]) (m:=400) (evs:=[exFormed b s true h1,exFormed false t true h2,.eqv 25 (.bool (t.toList == (⟨#[]⟩ : ByteArray).toList)) (.bool false) (eq_empty h4),.eqv 32 (.bool (decide ((1024 : Int) < (s.size : Int)))) (.bool true) (len_gt h5)]) Tryz.func138 hmA (fun β=>by kernel_rfl) (by kernel_rfl) β w hh
  | false=>cases h6 : decide (1024 < t.size) with
  | true=>exact spec_ok (args:=[.one (.a [.b (.v (.bool b)),.b (.v (.string s)),.b (.v (.bool false)),.b (.v (.string t))])]) (obs:=[]) (idx:=[]) (Ns:=[]) (m:=400) (evs:=[exFormed b s true h1,exFormed false t true h2,.eqv 25 (.bool (t.toList == (⟨#[]⟩ : ByteArray).toList)) (.bool false) (eq_empty h4),.eqv 32 (.bool (decide ((1024 : Int) < (s.size : Int)))) (.bool false) (len_gt h5),.eqv 39 (.bool (decide ((1024 : Int) < (t.size : Int)))) (.bool true) (len_gt h6)]) Tryz.func138 hmA (fun β=>by kernel_rfl) (by kernel_rfl) β w hh
  | false =>
    obtain ⟨n,e1⟩ : ∃ n,numOf b s = n:=⟨_,rfl⟩
    obtain ⟨d,e2⟩ : ∃ d,numOf false t = d:=⟨_,rfl⟩
    have l1 : s.size ≤ 1024:=by have:=of_decide_eq_false h5; omega
    have l2 : t.size ≤ 1024:=by have:=of_decide_eq_false h6; omega
    have l0:=of_decide_eq_false h4
    obtain ⟨f1,f2⟩:=formed_num (h1.1 rfl)
    obtain ⟨f3,f4⟩:=formed_num (h2.1 rfl)
    rw [e1] at f1 f2
    rw [e2] at f3 f4
    have z1 : s.size ≤ 4294967296:=by omega
    have z2 : t.size ≤ 4294967296:=by omega
    have h0 : d ≠ 0:=by
      rintro rfl
      have : sz 0 = 0:=Nat.le_zero.1 (sz_le.2 (by decide))
      unfold sz at this
      rw [f4] at this
      exact l0 this
    have k1 : sz n ≤ KB:=by unfold sz; rw [f2]; exact Nat.le_trans l1 (by decide)
    have k2 : sz d ≤ KB:=by unfold sz; rw [f4]; exact Nat.le_trans l2 (by decide)
    cases h7 : decide ((Rat.divInt n d).num = n) with
    | false=>exact spec_ok (args:=[.one (.a [.b (.v (.bool b)),.b (.v (.string s)),.b (.v (.bool false)),.b (.v (.string t))])]) (obs:=[]) (idx:=[]) (Ns:=[]) (m:=400) (evs:=[exFormed b s true h1,exFormed false t true h2,.eqv 25 (.bool (t.toList == (⟨#[]⟩ : ByteArray).toList)) (.bool false) (eq_empty h4),.eqv 32 (.bool (decide ((1024 : Int) < (s.size : Int)))) (.bool false) (len_gt h5),.eqv 39 (.bool (decide ((1024 : Int) < (t.size : Int)))) (.bool false) (len_gt h6),exWhole b s z1 n e1,exWhole false t z2 d e2,mkR,fSetFrac h0 k1 k2,nNum (Rat.divInt n d),nIntCmp (a:=(Rat.divInt n d).num) (b:=n) rfl,.eqv 55 (.bool (cmpI (Rat.divInt n d).num n != 0)) (.bool true) (cmp_ne h7)]) Tryz.func138 hmA (fun β=>by kernel_rfl) (by kernel_rfl) β w hh
    | true=>cases h8 : decide (((Rat.divInt n d).den : Int) = d) with
    | false=>exact spec_ok (args:=[.one (.a [.b (.v (.bool b)),.b (.v (.string s)),.b (.v (.bool false)),.b (.v (.string t))])]) (obs:=[]) (idx:=[]) (Ns:=[]) (m:=400) (evs:=[exFormed b s true h1,exFormed false t true h2,.eqv 25 (.bool (t.toList == (⟨#[]⟩ : ByteArray).toList)) (.bool false) (eq_empty h4),.eqv 32 (.bool (decide ((1024 : Int) < (s.size : Int)))) (.bool false) (len_gt h5),.eqv 39 (.bool (decide ((1024 : Int) < (t.size : Int)))) (.bool false) (len_gt h6),exWhole b s z1 n e1,exWhole false t z2 d e2,mkR,fSetFrac h0 k1 k2,nNum (Rat.divInt n d),nIntCmp (a:=(Rat.divInt n d).num) (b:=n) rfl,.eqv 55 (.bool (cmpI (Rat.divInt n d).num n != 0)) (.bool false) (cmp_ne h7),nDenom (Rat.divInt n d),nIntCmp (a:=((Rat.divInt n d).den : Int)) (b:=d) rfl,.eqv 61 (.bool (cmpI ((Rat.divInt n d).den : Int) d != 0)) (.bool true) (cmp_ne h8)]) Tryz.func138 hmA (fun β=>by kernel_rfl) (by kernel_rfl) β w hh
    | true =>
      refine absurd ?_ h
      refine isFrac_doc.2 ⟨⟨l1,l2⟩,h1.1 rfl,h2.1 rfl,?_,?_⟩
      · rw [e2,← of_decide_eq_true h8]
        exact Int.natCast_pos.2 (Rat.divInt n d).den_pos
      · rw [e1,e2]
        have:=(Rat.divInt n d).reduced
        rw [of_decide_eq_true h7] at this
        have h9 : (Rat.divInt n d).den = d.natAbs:=by have:=of_decide_eq_true h8; omega
        rw [h9] at this
        exact this
def sRatNo {b c : Bool} {s t : ByteArray} (h : ¬ IsFrac (rawV b c s t)) : Spec Tryz.prog :=
  ⟨138,Tryz.call138,[.one (.a [.b (.v (.bool b)),.b (.v (.string s)),.b (.v (.bool c)),.b (.v (.string t))])],[],(SV.one (.c (.b (.v (.pointer none))))),[],ratNo_ok h,by kernel_rfl⟩
theorem ratIn_ok {x : Rat} (hx : Fit x) (β : Env) (w : World) (hh : ∀ (k : Nat) (t : Thing),([] : List Thing)[k]? = some t → t.D w (β k)) : Calls Tryz.prog 138 (([.one (.a [.b (.v (.bool (decide (x.num < 0)))),.b (.v (.string (mag x.num.natAbs))),.b (.v (.bool false)),.b (.v (.string (mag x.den)))])] : List SV).map (SV.den β)).toArray w fun e w'=>∃ xs : List Pl,freshS β w 0 xs ∧ e = .returned ((SV.one (.c (.b (.z 0 0)))).den (extE β ([] : List Thing).length xs)) ∧ newHold w' [ratT x] xs ∧ Below w.heap.size w w':=by
  obtain ⟨n,en⟩ : ∃ n,x.num = n:=⟨_,rfl⟩
  obtain ⟨d,ed⟩ : ∃ d : Int,(x.den : Int) = d:=⟨_,rfl⟩
  have hxe : x = Rat.divInt n d:=by rw [← en,← ed,Rat.num_divInt_den]
  obtain ⟨b,eb⟩ : ∃ b,decide (x.num < 0) = b:=⟨_,rfl⟩
  obtain ⟨s,es⟩ : ∃ s,mag x.num.natAbs = s:=⟨_,rfl⟩
  obtain ⟨t,et⟩ : ∃ t,mag x.den = t:=⟨_,rfl⟩
  have e1 : numOf b s = n:=by rw [← eb,← es,← en]; exact numOf_mag x.num
  have e2 : numOf false t = d:=by
    have:=numOf_mag (x.den : Int)
    rw [show decide ((x.den : Int) < 0) = false by simp,Int.natAbs_natCast] at this
    rw [← et,← ed]; exact this
  obtain ⟨⟨l1,l2⟩,q1,q2,q3,_⟩:=isFrac_doc.1 (fitF x hx)
  rw [eb,es] at q1
  rw [et] at q2 q3
  rw [es] at l1
  rw [et] at l2
  rw [e2] at q3
  have h1 : true = true ↔ FormedB b s:=iff_true_of q1
  have h2 : true = true ↔ FormedB false t:=iff_true_of q2
  have h4 : decide (t.size = 0) = false:=decide_eq_false fun h=>by
    obtain rfl:=empty_data h
    rw [show numOf false ⟨#[]⟩ = 0 from rfl] at e2
    omega
  have h5 : decide (1024 < s.size) = false:=decide_eq_false (by omega)
  have h6 : decide (1024 < t.size) = false:=decide_eq_false (by omega)
  have z1 : s.size ≤ 4294967296:=by omega
  have z2 : t.size ≤ 4294967296:=by omega
  have h0 : d ≠ 0:=by omega
  have k1 : sz n ≤ KB:=by rw [← en]; unfold sz; rw [es]; exact Nat.le_trans l1 (by decide)
  have k2 : sz d ≤ KB:=by rw [← ed]; unfold sz; rw [Int.natAbs_natCast,et]; exact Nat.le_trans l2 (by decide)
  have h7 : decide ((Rat.divInt n d).num = n) = true:=decide_eq_true (by rw [← hxe]; exact en)
  have h8 : decide (((Rat.divInt n d).den : Int) = d) = true:=decide_eq_true (by rw [← hxe]; exact ed)
  rw [eb,es,et]
  clear eb es et
  subst hxe
  exact spec_ok (args:=[.one (.a [.b (.v (.bool b)),.b (.v (.string s)),.b (.v (.bool false)),.b (.v (.string t))])]) (obs:=[]) (idx:=[4]) (Ns:=[]) (m:=400) (evs:=[exFormed b s true h1,exFormed false t true h2,.eqv 25 (.bool (t.toList == (⟨#[]⟩ : ByteArray).toList)) (.bool false) (eq_empty h4),.eqv 32 (.bool (decide ((1024 : Int) < (s.size : Int)))) (.bool false) (len_gt h5),.eqv 39 (.bool (decide ((1024 : Int) < (t.size : Int)))) (.bool false) (len_gt h6),exWhole b s z1 n e1,exWhole false t z2 d e2,mkR,fSetFrac h0 k1 k2,nNum (Rat.divInt n d),nIntCmp (a:=(Rat.divInt n d).num) (b:=n) rfl,.eqv 55 (.bool (cmpI (Rat.divInt n d).num n != 0)) (.bool false) (cmp_ne h7),nDenom (Rat.divInt n d),nIntCmp (a:=((Rat.divInt n d).den : Int)) (b:=d) rfl,.eqv 61 (.bool (cmpI ((Rat.divInt n d).den : Int) d != 0)) (.bool false) (cmp_ne h8)]) Tryz.func138 hmA (fun β=>by kernel_rfl) (by kernel_rfl) β w hh
def sRatIn {x : Rat} (hx : Fit x) : Spec Tryz.prog :=
  ⟨138,Tryz.call138,[.one (.a [.b (.v (.bool (decide (x.num < 0)))),.b (.v (.string (mag x.num.natAbs))),.b (.v (.bool false)),.b (.v (.string (mag x.den)))])],[],(.one (.c (.b (.z 0 0)))),[ratT x],ratIn_ok hx,by kernel_rfl⟩
def rdNe (d t : Nat) (x : Rat) (k : Nat) : Ev Tryz.prog:=.rd d (.binOp .neq 113 (.tmp t) (.const (.pointer none)) 113) (fun β=>[.pointer ((β k).v 0),.pointer none]) [(k,(ratT x).ob)] 0 (.one (.c (.b (.v (.bool true))))) [] (fun β w h ρ o ho hx=>by
  obtain ⟨a,ha,ka⟩:=needP (x:=x) (k:=k) h (by simp)
  have h2 : ρ (.tmp t) = .pointer (some ⟨a,0,none⟩) ∧ ρ (.const (.pointer none)) = .pointer none:=by
    rw [ha.1] at hx
    simpa [Op.operands] using hx
  refine ⟨[],w,(fun _ h=>by cases h),?_,trivial,Below.refl _ _⟩
  unfold execOp
  rw [ho]
  simp only [h2.1,h2.2]
  kernel_rfl)
def dNe (x : Rat) : Ev Tryz.prog:=.dyn (fun o _ _=>match o.op with
  | .binOp .neq a (.tmp _) (.const (.pointer none)) _=>Nat.beq a 113
  | _=>false) fun o xs _=>match o.op with
  | .binOp _ _ (.tmp t) _ _=>lit (ptOf (xs.getD 0 undefS)) fun k=>rdNe (o.dst.getD 0) t x k
  | _=>.eqv 0 undef undef rfl
def fpC (a : Fp) : List Lf:=lsX a.C
def ofT : Fp → Fp → List Thing
  | .ok x _,.ok y _=>[ratT x,ratT y]
  | _,_=>[anyT,anyT]
theorem sOf_ok (a b : Fp) (β : Env) (w : World) (hh : ∀ (k : Nat) (t : Thing),([] : List Thing)[k]? = some t → t.D w (β k)) :
    Calls Tryz.prog 180 (([.one (.a (fpC a ++ fpC b))] : List SV).map (SV.den β)).toArray w fun e w'=>∃ xs : List Pl,freshS β w 0 xs ∧ e = .returned ((SV.tup [nA 0,.c (.b (.v (.bool (a.B && b.B))))]).den (extE β 0 xs)) ∧ newHold w' (ofT a b) xs ∧ Below w.heap.size w w':=by
  cases a with
  | ok x hx=>cases b with
    | ok y hy=>exact spec_auto (obs:=[]) (evs:=[(sRatIn hx).e,(sRatIn hy).e,dNe x,dNe y]) (Ns:=[]) (m:=400) Tryz.func180 hmA (fun β=>by kernel_rfl) (by kernel_rfl) β w hh
    | no b' c s t h hs ht =>
      refine (spec_auto (args:=[.one (.a (fpC (.ok x hx) ++ fpC (.no b' c s t h hs ht)))]) (obs:=[]) (res:=SV.tup [.a [.b (.z 0 0),.b (.v (.pointer none))],.c (.b (.v (.bool false)))]) (news:=[ratT x]) (evs:=[(sRatIn hx).e,(sRatNo h).e,dNe x]) (Ns:=[]) (m:=400) Tryz.func180 hmA (fun β=>by kernel_rfl) (by kernel_rfl) β w hh).mono fun e w' ⟨xs,h1,he,h2,h3⟩=>?_
      match xs,h1,he,h2 with
      | [p],h1,he,h2=>exact ⟨[p,nilPl],fun x hx c hc=>by
          rcases List.mem_cons.1 hx with rfl | hx
          · exact h1 _ (by simp) c hc
          · obtain rfl:=List.mem_singleton.1 hx
            exact hc.elim,he,⟨an_of (pr_stable x) h2.1,fun _ h=>h.elim,trivial⟩,h3⟩
  | no b' c s t h hs ht=>cases b with
    | ok y hy =>
      refine (spec_auto (args:=[.one (.a (fpC (.no b' c s t h hs ht) ++ fpC (.ok y hy)))]) (obs:=[]) (res:=SV.tup [.a [.b (.v (.pointer none)),.b (.z 0 0)],.c (.b (.v (.bool false)))]) (news:=[ratT y]) (evs:=[(sRatNo h).e,(sRatIn hy).e]) (Ns:=[]) (m:=400) Tryz.func180 hmA (fun β=>by kernel_rfl) (by kernel_rfl) β w hh).mono fun e w' ⟨xs,h1,he,h2,h3⟩=>?_
      match xs,h1,he,h2 with
      | [p],h1,he,h2=>exact ⟨[nilPl,p],fun x hx c hc=>by
          rcases List.mem_cons.1 hx with rfl | hx
          · exact hc.elim
          · obtain rfl:=List.mem_singleton.1 hx
            exact h1 _ (by simp) c hc,he,⟨fun _ h=>h.elim,an_of (pr_stable y) h2.1,trivial⟩,h3⟩
    | no b'' c' s' t' h' hs' ht' =>
      refine (spec_auto (args:=[.one (.a (fpC (.no b' c s t h hs ht) ++ fpC (.no b'' c' s' t' h' hs' ht')))]) (obs:=[]) (res:=SV.tup [.a [.b (.v (.pointer none)),.b (.v (.pointer none))],.c (.b (.v (.bool false)))]) (news:=[]) (evs:=[(sRatNo h).e,(sRatNo h').e]) (Ns:=[]) (m:=400) Tryz.func180 hmA (fun β=>by kernel_rfl) (by kernel_rfl) β w hh).mono fun e w' ⟨xs,h1,he,h2,h3⟩=>?_
      match xs,h1,he,h2 with
      | [],h1,he,h2=>exact ⟨[nilPl,nilPl],fun x hx c hc=>by
          rcases List.mem_cons.1 hx with rfl | hx
          · exact hc.elim
          · obtain rfl:=List.mem_singleton.1 hx
            exact hc.elim,he,⟨fun _ h=>h.elim,fun _ h=>h.elim,trivial⟩,h3⟩
def sOf (a b : Fp) : Spec Tryz.prog :=
  ⟨180,Tryz.call180,[.one (.a (fpC a ++ fpC b))],[],.tup [nA 0,.c (.b (.v (.bool (a.B && b.B))))],ofT a b,sOf_ok a b,by cases a <;> cases b <;> kernel_rfl⟩
def sInt (n m : Int) (hn : -9223372036854775808 ≤ n ∧ n ≤ 9223372036854775807) (hm : -9223372036854775808 ≤ m ∧ m ≤ 9223372036854775807) : Spec Tryz.prog :=
  Spec.auto Tryz.call176 [.one (.c (.b (.v (.int .i64 n)))),.one (.c (.b (.v (.int .i64 m))))] [] (nV 0) (gT (gint n m))
    [nNew n 1 hn (by decide) (by decide),nNew m 1 hm (by decide) (by decide)] [] 400 Tryz.func176 hmA (by kernel_rfl) (fun β=>by kernel_rfl)
theorem told_ok {z : GQ} (hz : GSz KB z) (β : Env) (w : World) (hh : ∀ (k : Nat) (t : Thing),(gM z)[k]? = some t → t.D w (β k)) :
    Calls Tryz.prog 177 (([nV 0] : List SV).map (SV.den β)).toArray w fun e w'=>∃ xs : List Pl,freshS β w 2 xs ∧ e = .returned ((SV.tup [.a (lsX (gaC z)),.c (.b (.v (.int .i64 (gaK z))))]).den (extE β 2 xs)) ∧ newHold w' [] xs ∧ Below w.heap.size w w':=by
  by_cases h1 : Fit z.re
  · by_cases h2 : Fit z.im
    · rw [(ga_fit ⟨h1,h2⟩).1,(ga_fit ⟨h1,h2⟩).2]
      have e1 : (ansK z.re != 0) = false:=by rw [(ansF_fit h1).2.2.2]; rfl
      have e2 : (ansK z.im != 0) = false:=by rw [(ansF_fit h2).2.2.2]; rfl
      unfold gC
      rw [← (ansF_fit h1).1,← (ansF_fit h1).2.1,← (ansF_fit h1).2.2.1,← (ansF_fit h2).1,← (ansF_fit h2).2.1,← (ansF_fit h2).2.2.1]
      exact spec_auto (obs:=gM z) (evs:=[(sFrac hz.1).e,(sFrac hz.2).e,.eqv 21 (.bool (ansK z.re != 0)) (.bool false) (ansK_ne e1),.eqv 24 (.bool (ansK z.im != 0)) (.bool false) (ansK_ne e2)]) (Ns:=[]) (m:=400) Tryz.func177 hmA (fun β=>by kernel_rfl) (by kernel_rfl) β w hh
    · have hn : ¬ FitG z:=fun h=>h2 h.2
      rw [(ga_not hn).1,(ga_not hn).2]
      have e1 : (ansK z.re != 0) = false:=by rw [(ansF_fit h1).2.2.2]; rfl
      have e2 : (ansK z.im != 0) = true:=by rw [show ansK z.im = 4 from if_neg h2]; rfl
      exact spec_auto (obs:=gM z) (evs:=[(sFrac hz.1).e,(sFrac hz.2).e,.eqv 21 (.bool (ansK z.re != 0)) (.bool false) (ansK_ne e1),.eqv 24 (.bool (ansK z.im != 0)) (.bool true) (ansK_ne e2)]) (Ns:=[]) (m:=400) Tryz.func177 hmA (fun β=>by kernel_rfl) (by kernel_rfl) β w hh
  · have hn : ¬ FitG z:=fun h=>h1 h.1
    rw [(ga_not hn).1,(ga_not hn).2]
    have e1 : (ansK z.re != 0) = true:=by rw [show ansK z.re = 4 from if_neg h1]; rfl
    exact spec_auto (obs:=gM z) (evs:=[(sFrac hz.1).e,(sFrac hz.2).e,.eqv 21 (.bool (ansK z.re != 0)) (.bool true) (ansK_ne e1)]) (Ns:=[]) (m:=400) Tryz.func177 hmA (fun β=>by kernel_rfl) (by kernel_rfl) β w hh
noncomputable def sTold {z : GQ} (hz : GSz KB z) : Spec Tryz.prog :=
  ⟨177,Tryz.call177,[nV 0],gM z,.tup [.a (lsX (gaC z)),.c (.b (.v (.int .i64 (gaK z))))],[],told_ok hz,by kernel_rfl⟩
end Go.Proofs.YtimfgjcidigbiaaGreat.Y
end
section
namespace Go.Proofs.YtimfgjcidigbiaaGreat.Y
open Go Go.RowKit
set_option maxRecDepth 100000
def pI : Pt → Bool
  | .inf=>true
  | .fin _=>false
def pG : Pt → GQ
  | .inf=>g0
  | .fin z=>z
def pL (k : Nat) (p : Pt) : List Lf:=[.b (.v (.bool (pI p))),.b (.z k 0),.b (.z (k + 1) 0)]
abbrev pV (k : Nat) (p : Pt) : SV:=.one (.a (pL k p))
def pM (p : Pt) : List Thing:=gM (pG p)
noncomputable def sToldP (p : Pt) (h : PSz KB p) : Spec Tryz.prog :=
  ⟨82,Tryz.call82,[pV 0 p],pM p,.tup [.a (lsX (paC p)),.c (.b (.v (.int .i64 (paK p))))],[],fun β w hh=>by
    cases p
    · exact spec_auto (obs:=pM .inf) (evs:=[]) (Ns:=[]) (m:=400) Tryz.func82 hmA (fun β=>by kernel_rfl) (by kernel_rfl) β w hh
    · rename_i z
      exact spec_auto (obs:=pM (.fin z)) (evs:=[(sTold (z:=z) h).e]) (Ns:=[]) (m:=400) Tryz.func82 hmA (fun β=>by kernel_rfl) (by kernel_rfl) β w hh,by cases p <;> kernel_rfl⟩
end Go.Proofs.YtimfgjcidigbiaaGreat.Y
end
section
namespace Go.Proofs.YtimfgjcidigbiaaGreat.Y
open Go Go.RowKit
set_option maxRecDepth 100000
def rL (x : R4) : List Lf:=[.b (.v (.bool x.b)),.b (.v (.string x.s)),.b (.v (.bool x.c)),.b (.v (.string x.t))]
structure Fr where
  r : R4
  a : Fp
  e : fpC a = rL r
def sOfW (a b : Fr) {r : Bool} (hr : (a.a.B && b.a.B) = r) : Spec Tryz.prog :=
  ⟨180,Tryz.call180,[.one (.a (rL a.r ++ rL b.r))],[],.tup [nA 0,.c (.b (.v (.bool r)))],[anyT,anyT],fun β w hh=>by
    rw [← a.e,← b.e]
    refine (sOf_ok a.a b.a β w hh).mono fun e w' ⟨xs,h1,he,h2,h3⟩=>⟨xs,h1,by rw [he,hr]; rfl,?_,h3⟩
    obtain ⟨_,a,_⟩:=a
    obtain ⟨_,b,_⟩:=b
    cases a <;> cases b
    · match xs,h2 with
      | [p,q],h2=>exact ⟨an_of (pr_stable _) h2.1,an_of (pr_stable _) h2.2.1,trivial⟩
    · exact h2
    · exact h2
    · exact h2,by kernel_rfl⟩
end Go.Proofs.YtimfgjcidigbiaaGreat.Y
end
section
namespace Go.Proofs.YtimfgjcidigbiaaGreat.Y
open Go Go.RowKit
set_option maxRecDepth 100000
def eqEv (t : TypeId) (xs ys : Array Value) (r : Bool) (hg : Tryz.prog.eqGuardType Tryz.prog.depth t = false) (h : ∀ w,(Op.equalIn 10000 t (.agg xs) (.agg ys)).run Tryz.prog w = .ok r w) : Ev Tryz.prog :=
  .dyn (fun o _ _=>match o.op with
    | .binOp .eql t' _ _ _=>Nat.beq t' t
    | .binOp .neq t' _ _ _=>Nat.beq t' t
    | _=>false) fun o _ _=>match o.op with
    | .binOp .eql _ a b u=>.gen (o.dst.getD 0) (.binOp .eql t a b u) [.agg xs,.agg ys] (.bool r) (fun ρ o w ho hx=>by
        simp only [Op.operands,List.map_cons,List.map_nil,List.cons.injEq] at hx
        exact exec_eql hg (h w) a b ρ o ho hx.1 hx.2.1)
    | .binOp .neq _ a b u=>.gen (o.dst.getD 0) (.binOp .neq t a b u) [.agg xs,.agg ys] (.bool (!r)) (fun ρ o w ho hx=>by
        simp only [Op.operands,List.map_cons,List.map_nil,List.cons.injEq] at hx
        exact exec_neq hg (h w) a b ρ o ho hx.1 hx.2.1)
    | _=>.eqv 0 undef undef rfl
def eqEvP (i i' : Bool) (x y x' y' : R4) (r : Bool) (h : ((i == i') && ((x.eq x' && (y.eq y' && true)) && true)) = r) : Ev Tryz.prog :=
  eqEv 29 #[.bool i,.bool x.b,.string x.s,.bool x.c,.string x.t,.bool y.b,.string y.s,.bool y.c,.string y.t] #[.bool i',.bool x'.b,.string x'.s,.bool x'.c,.string x'.t,.bool y'.b,.string y'.s,.bool y'.c,.string y'.t] r (by kernel_rfl) (fun w=>by rw [← h]; exact eqP 9995 i i' x y x' y')
def eqEvW (b b' : Bool) (s s' : ByteArray) (r : Bool) (h : weq b b' s s' = r) : Ev Tryz.prog :=
  eqEv 23 #[.bool b,.string s] #[.bool b',.string s'] r (by kernel_rfl) (fun w=>by rw [← h]; exact eqW 9998 ..)
def eqEvF (x x' : R4) (r : Bool) (h : x.eq x' = r) : Ev Tryz.prog :=
  eqEv 25 #[.bool x.b,.string x.s,.bool x.c,.string x.t] #[.bool x'.b,.string x'.s,.bool x'.c,.string x'.t] r (by kernel_rfl) (fun w=>by rw [← h]; exact eqF 9997 ..)
end Go.Proofs.YtimfgjcidigbiaaGreat.Y
end
section
namespace Go.Proofs.YtimfgjcidigbiaaGreat
open Go.Proofs.YtimfgjcidigbiaaGreat.Y
open Go Go.RowKit
set_option maxRecDepth 100000
def Fp.mayE : Fp → Ev Tryz.prog
  | .ok x h=>eMayF x h
  | .no b c s t h hs ht=>eMay b c s t hs ht false ⟨fun e=>Bool.noConfusion e,fun e=>absurd e h⟩
def gMayE (a b : Fp) : List (Ev Tryz.prog):=match a with
  | .ok ..=>[a.mayE,b.mayE]
  | .no ..=>[a.mayE]
def sGMay (a b : Fp) : Y.Spec Tryz.prog :=
  Y.Spec.auto Tryz.call262 [.one (.a (a.C ++ b.C))] [] (.one (.c (.b (.v (.bool (a.B && b.B)))))) []
    (gMayE a b) [] 400 Tryz.func262 hmA (by cases a <;> cases b <;> kernel_rfl) (fun β=>by cases a <;> cases b <;> kernel_rfl)
def sInfinity : Y.Spec Tryz.prog :=
  Y.Spec.auto Tryz.call261 [] [] (.one (.a (.b (.v (.bool true)) :: g0C))) [] [] [] 400 Tryz.func261 hmA (by kernel_rfl) (fun β=>by kernel_rfl)
def Pp.mayE : Pp → List (Ev Tryz.prog)
  | .inf=>[sInfinity.e]
  | .fin a b=>[(sGMay a b).e]
  | .odd x y h=>[sInfinity.e,eqEvP true true x y r40 r40 false (odd_ne h)]
def sPMay (p : Pp) : Y.Spec Tryz.prog :=
  Y.Spec.auto Tryz.call189 [.one (.a p.C)] [] (.one (.c (.b (.v (.bool p.B))))) []
    p.mayE [(2,4)] 400 Tryz.func189 hmA (by rcases p with _ | ⟨_ | _,_ | _⟩ | _ <;> kernel_rfl) (fun β=>by rcases p with _ | ⟨_ | _,_ | _⟩ | _ <;> kernel_rfl)
end Go.Proofs.YtimfgjcidigbiaaGreat
end
section
namespace Go.Proofs.YtimfgjcidigbiaaGreat
open Go.Proofs.YtimfgjcidigbiaaGreat.Y
open Go Go.RowKit
set_option maxRecDepth 100000
theorem Sz.le {i k : Nat} {x : Rat} (h : Sz i x) (hk : Nat.ble i k = true:=by decide) : Sz k x:=h.mono (Nat.le_of_ble_eq_true hk)
theorem GSz.le {i k : Nat} {z : GQ} (h : GSz i z) (hk : Nat.ble i k = true:=by decide) : GSz k z:=h.mono (Nat.le_of_ble_eq_true hk)
abbrev svG (z : GQ) : SV:=.one (.a (gC z))
abbrev svF (x : Rat) : SV:=.one (.a (fC x))
section
variable {z w : GQ} {x : Rat}
def sR4Neg (z : GQ) : Y.Spec Tryz.prog:=Y.Spec.auto Tryz.call238 [svG z] [] (svG (gneg z)) [] [(sR3Neg z.re).e,(sR3Neg z.im).e] [(1,7)] 400 Tryz.func238 hmA (by kernel_rfl) (fun β=>by kernel_rfl)
def sR4Conj (z : GQ) : Y.Spec Tryz.prog:=Y.Spec.auto Tryz.call85 [svG z] [] (svG (gconj z)) [] [(sR3Neg z.im).e] [(1,6)] 400 Tryz.func85 hmA (by kernel_rfl) (fun β=>by kernel_rfl)
def sR4Plus (hz : GSz KE z) (hw : GSz KE w) : Y.Spec Tryz.prog:=Y.Spec.auto Tryz.call135 [svG z,svG w] [] (svG (gadd z w)) [] [(sR3Plus hz.1.le hw.1.le).e,(sR3Plus hz.2.le hw.2.le).e] [(1,11)] 400 Tryz.func135 hmA (by kernel_rfl) (fun β=>by kernel_rfl)
def sR4Times (hz : GSz KE z) (hw : GSz KE w) : Y.Spec Tryz.prog:=Y.Spec.auto Tryz.call178 [svG z,svG w] [] (svG (gmul z w)) []
  [(sR3Times hz.1.le hw.1.le).e,(sR3Times hz.2.le hw.2.le).e,(sR3Minus (hz.1.mul hw.1).le (hz.2.mul hw.2).le).e,(sR3Times hz.1.le hw.2.le).e,(sR3Times hz.2.le hw.1.le).e,(sR3Plus (hz.1.mul hw.2).le (hz.2.mul hw.1).le).e] [(1,12),(2,12)] 400 Tryz.func178 hmA (by kernel_rfl) (fun β=>by kernel_rfl)
def sR4Dot (hz : GSz KE z) (hw : GSz KE w) : Y.Spec Tryz.prog:=Y.Spec.auto Tryz.call236 [svG z,svG w] [] (svF (z.re * w.re + z.im * w.im)) []
  [(sR3Times hz.1.le hw.1.le).e,(sR3Times hz.2.le hw.2.le).e,(sR3Plus (hz.1.mul hw.1).le (hz.2.mul hw.2).le).e] [(1,11)] 400 Tryz.func236 hmA (by kernel_rfl) (fun β=>by kernel_rfl)
def sR4Norm (hz : GSz KE z) : Y.Spec Tryz.prog:=Y.Spec.auto Tryz.call126 [svG z] [] (svF (gnorm z)) [] [(sR4Dot hz hz).e] [] 400 Tryz.func126 hmA (by kernel_rfl) (fun β=>by kernel_rfl)
end
def sR4Int (n m : Int) (hn : -9223372036854775808 ≤ n ∧ n ≤ 9223372036854775807:=by decide) (hm : -9223372036854775808 ≤ m ∧ m ≤ 9223372036854775807:=by decide) : Y.Spec Tryz.prog :=
  Y.Spec.auto Tryz.call74 [.one (.c (.b (.v (.int .i64 n)))),.one (.c (.b (.v (.int .i64 m))))] [] (svG (gint n m)) [] [(sR3Int n hn).e,(sR3Int m hm).e] [] 400 Tryz.func74 hmA (by kernel_rfl) (fun β=>by kernel_rfl)
def sR4Fits (z : GQ) {b : Bool} (hb : b = true ↔ FitG z) : Y.Spec Tryz.prog :=
  ⟨137,Tryz.call137,[svG z],[],.one (.c (.b (.v (.bool b)))),[],fun β w hh=>by
    by_cases h1 : Fit z.re
    · have h2 : b = true ↔ Fit z.im:=hb.trans ⟨fun h=>h.2,fun h=>⟨h1,h⟩⟩
      cases b <;> exact spec_auto (evs:=[eFFit (iff_true_of h1),eFFit h2]) (Ns:=[]) (m:=400) Tryz.func137 hmA (fun β=>by kernel_rfl) (by kernel_rfl) β w hh
    · obtain rfl:=eq_false_of hb fun h=>h1 h.1
      exact spec_auto (evs:=[eFFit (iff_false_of h1)]) (Ns:=[]) (m:=400) Tryz.func137 hmA (fun β=>by kernel_rfl) (by kernel_rfl) β w hh,by kernel_rfl⟩
def Fp.may3 : Fp → Y.Spec Tryz.prog
  | .ok x h=>sR3May _ _ _ _ true (iff_true_of (fitF x h))
  | .no b c s t h hs ht=>sR3May b c s t false (iff_false_of h)
def may4E (a b : Fp) : List (Ev Tryz.prog):=match a with
  | .ok ..=>[a.may3.e,b.may3.e]
  | .no ..=>[a.may3.e]
def sR4May (a b : Fp) : Y.Spec Tryz.prog :=
  Y.Spec.auto Tryz.call170 [.one (.a (a.C ++ b.C))] [] (.one (.c (.b (.v (.bool (a.B && b.B)))))) [] (may4E a b) [] 400 Tryz.func170 hmA (by cases a <;> cases b <;> kernel_rfl) (fun β=>by cases a <;> cases b <;> kernel_rfl)
end Go.Proofs.YtimfgjcidigbiaaGreat
end
section
namespace Go.Proofs.YtimfgjcidigbiaaGreat
open Go.Proofs.YtimfgjcidigbiaaGreat.Y
open Go Go.RowKit
set_option maxRecDepth 100000
def Fp.raw : Fp → R4
  | .ok x _=>⟨decide (x.num < 0),mag x.num.natAbs,false,mag x.den⟩
  | .no b c s t _ _ _=>⟨b,s,c,t⟩
def Pp.rI : Pp → Bool
  | .fin ..=>false
  | _=>true
def Pp.rX : Pp → R4
  | .inf=>r40
  | .fin a _=>a.raw
  | .odd x _ _=>x
def Pp.rY : Pp → R4
  | .inf=>r40
  | .fin _ b=>b.raw
  | .odd _ y _=>y
def rawC (i : Bool) (x y : R4) : List Lf:=.b (.v (.bool i)) :: (x.L ++ y.L)
def Y.Spec.as {P : Program} (S : Y.Spec P) (args : List SV) (res : SV) (ha : S.args = args) (hr : S.res = res) : Y.Spec P :=
  ⟨S.f,S.en,args,S.obs,res,S.news,fun β w hh=>by subst ha; subst hr; exact S.ok β w hh,by subst ha; subst hr; exact S.closed⟩
def fR (x : Rat) : R4:=⟨decide (x.num < 0),mag x.num.natAbs,false,mag x.den⟩
def Pt.i : Pt → Bool
  | .inf=>true
  | .fin _=>false
def Pt.x : Pt → R4
  | .inf=>r40
  | .fin z=>fR z.re
def Pt.y : Pt → R4
  | .inf=>r40
  | .fin z=>fR z.im
abbrev svR (i : Bool) (x y : R4) : SV:=.one (.a (rawC i x y))
abbrev svP (p : Pt) : SV:=svR p.i p.x p.y
def FitP : Pt → Prop
  | .inf=>True
  | .fin z=>FitG z
theorem FitP.sz {p : Pt} (h : FitP p) : PSz 1024 p:=by
  cases p
  · trivial
  · exact ⟨h.1.sz,h.2.sz⟩
def ppt : (p : Pt) → FitP p → Pp
  | .inf,_=>.inf
  | .fin z,h=>.fin (.ok z.re h.1) (.ok z.im h.2)
structure Rw where
  i : Bool
  x : R4
  y : R4
def Pt.w (p : Pt) : Rw:=⟨p.i,p.x,p.y⟩
def Pp.w (p : Pp) : Rw:=⟨p.rI,p.rX,p.rY⟩
theorem fp_of (x : R4) (h1 : x.s.size ≤ maxLen) (h2 : x.t.size ≤ maxLen) : ∃ a : Fp,a.raw = x:=by
  obtain ⟨b,s,c,t⟩:=x
  rcases fp_all b c s t with ⟨q,h,rfl,rfl,rfl,rfl⟩ | h
  · exact ⟨.ok q h,rfl⟩
  · exact ⟨.no b c s t h h1 h2,rfl⟩
theorem fR_inj {x y : Rat} (h : fR x = fR y) : x = y:=by
  injection h with h1 h2 h3 h4
  have hn : x.num.natAbs = y.num.natAbs:=mag_inj h2
  have hd : x.den = y.den:=mag_inj h4
  have hb : (x.num < 0) = (y.num < 0):=by simpa using h1
  refine Rat.ext ?_ hd
  by_cases h0 : x.num < 0
  · have : y.num < 0:=by rw [← hb]; exact h0
    omega
  · have : ¬ y.num < 0:=by rw [← hb]; exact h0
    omega
theorem Pt.w_inj {p q : Pt} (h : p.w = q.w) : p = q:=by
  cases p <;> cases q
  · rfl
  · injection h with h1; cases h1
  · injection h with h1; cases h1
  · rename_i z w
    injection h with _ h2 h3
    exact congrArg Pt.fin (GQ.ext2 (fR_inj h2) (fR_inj h3))
def rwB (i i' : Bool) (x y x' y' : R4) : Bool:=(i == i') && ((x.eq x' && (y.eq y' && true)) && true)
theorem rwB_iff {i i' : Bool} {x y x' y' : R4} : rwB i i' x y x' y' = true ↔ i = i' ∧ x = x' ∧ y = y':=by
  unfold rwB
  simp only [Bool.and_true,Bool.and_eq_true,R4.eq_iff,beq_iff_eq]
def ptB (p q : Pt) : Bool:=rwB p.i q.i p.x p.y q.x q.y
theorem ptB_iff {p q : Pt} : ptB p q = true ↔ p = q:=by
  unfold ptB
  rw [rwB_iff]
  constructor
  · rintro ⟨h1,h2,h3⟩
    exact Pt.w_inj (by unfold Pt.w; rw [h1,h2,h3])
  · rintro rfl; exact ⟨rfl,rfl,rfl⟩
open Classical in
noncomputable def paI (p : Pt) : Bool:=if FitP p then p.i else false
open Classical in
noncomputable def paX (p : Pt) : R4:=if FitP p then p.x else r40
open Classical in
noncomputable def paY (p : Pt) : R4:=if FitP p then p.y else r40
theorem pa_fit {p : Pt} (h : FitP p) : paI p = p.i ∧ paX p = p.x ∧ paY p = p.y:=⟨if_pos h,if_pos h,if_pos h⟩
theorem pa_not {p : Pt} (h : ¬ FitP p) : paI p = false ∧ paX p = r40 ∧ paY p = r40:=⟨if_neg h,if_neg h,if_neg h⟩
theorem paK_fit {p : Pt} (h : FitP p) : paK p = 0:=by
  cases p
  · rfl
  · exact (ga_fit h).2
theorem paC_raw (p : Pt) : paC p = rawC (paI p) (paX p) (paY p):=by
  by_cases h : FitP p
  · rw [(pa_fit h).1,(pa_fit h).2.1,(pa_fit h).2.2]
    cases p
    · rfl
    · show _ :: gaC _ = _
      rw [(ga_fit h).1]; rfl
  · rw [(pa_not h).1,(pa_not h).2.1,(pa_not h).2.2]
    cases p
    · exact absurd trivial h
    · show _ :: gaC _ = _
      rw [(ga_not h).1]; rfl
end Go.Proofs.YtimfgjcidigbiaaGreat
end
section
namespace Go.Proofs.YtimfgjcidigbiaaGreat
open Go.Proofs.YtimfgjcidigbiaaGreat.Y
open Go Go.RowKit
set_option maxRecDepth 100000
theorem gz_true {z : GQ} : gzero z = true ↔ z = g0:=by
  rw [gzero_iff]
  exact ⟨fun h=>GQ.ext2 h.1 h.2,fun h=>by rw [h]; exact ⟨rfl,rfl⟩⟩
end Go.Proofs.YtimfgjcidigbiaaGreat
end
section
namespace Go.Proofs.YtimfgjcidigbiaaGreat
open Go.Proofs.YtimfgjcidigbiaaGreat.Y
open Go Go.RowKit
set_option maxRecDepth 100000
structure BSpec (P : Program) where
  f : FuncId
  en : Enters P f
  args : List SV
  cs : List Lf
  t : TypeId
  r : Value
  ok : ∀ β w,(Ob.box cs t).holds β w (β 0) → Calls P f (args.map (SV.den β)).toArray w fun e w'=>e = .returned r ∧ Below w.heap.size w w'
  cl : (cs.all (Lf.of fun _=>false) && args.all (SV.of fun k=>Nat.beq k 0)) = true
  hr : ∀ β,(tag r).den β = r
def bkOf : List SV → Nat
  | []=>0
  | .one (.c (.b (.s k _ _ _))) :: _=>k
  | _ :: r=>bkOf r
theorem cells_closed {β β' : Env} {cs : List Lf} (h : cs.all (Lf.of fun _=>false) = true) : cs.map (Lf.den β) = cs.map (Lf.den β') :=
  List.map_congr_left fun x hx=>Lf.den_congr (q:=fun _=>false) (fun k hk=>by cases hk) x (List.all_eq_true.1 h x hx)
def BSpec.e {P : Program} (S : BSpec P) : Ev P:=.dyn (fun o _ _=>isCallB o) fun _ xs ob=>lit (bkOf xs) fun i =>
  .call S.f S.en (fun β=>(S.args.map (SV.den fun _=>β i)).toArray) [(i,.box S.cs S.t)] 0 (tag S.r) [] (fun β w h=>of_pure0 (by
    have hc:=S.cl
    rw [Bool.and_eq_true] at hc
    refine S.ok (fun _=>β i) w ?_
    have h1 : (β i).one ∧ w.heap[(β i).b]? = some (.cells (S.cs.map (Lf.den β)).toArray S.t (0,0)):=h _ (List.mem_singleton.2 rfl)
    show (β i).one ∧ w.heap[(β i).b]? = some (.cells (S.cs.map (Lf.den fun _=>β i)).toArray S.t (0,0))
    rw [cells_closed (β':=β) hc.1]
    exact h1) S.hr)
theorem bspec_ok {P : Program} {f : FuncId} {fn : Func} {args : List SV} {cs : List Lf} {t : TypeId} {r : Value} (evs : List (Ev P)) (Ns : List (Nat × Nat)) (m : Nat) (hf : P.funcs[f]? = some fn) (hm : P.follows .mixedOrders = true)
    (h : ∀ β,(allS P fn args [.box cs t] evs Ns m (tag r) [] β).map Prod.fst = (allS P fn args [.box cs t] evs Ns m (tag r) [] β).map Prod.snd)
    (hB : (args.all (SV.of fun k=>Nat.blt k 1) && [Ob.box cs t].all fun x=>x.of (fun k=>Nat.blt k 1) && x.own) = true) (hr : ∀ β,(tag r).den β = r) (β : Env) (w : World) (hh : (Ob.box cs t).holds β w (β 0)) :
    Calls P f (args.map (SV.den β)).toArray w fun e w'=>e = .returned r ∧ Below w.heap.size w w':=by
  rw [Bool.and_eq_true] at hB
  refine (sx (P:=P) args [.box cs t] evs Ns m (tag r) [] hf hm (fun β=>ok_of_maps (h β)) hB.1 hB.2 β w (fun k o ho=>?_)).mono ?_
  · cases k with
    | zero=>simp only [List.getElem?_cons_zero] at ho; obtain rfl:=Option.some.inj ho; exact hh
    | succ k=>simp at ho
  · rintro e w' ⟨β',q,obj,e1,rfl,e2,e4,e5,g⟩
    exact ⟨by rw [hr],g.bel⟩
def big (k : Nat) (s : ByteArray) : Bool:=decide ((k : Int) < (s.size : Int))
def smB (k : Nat) (x y : R4) : Bool:=!(big k x.s || (big k x.t || (big k y.s || big k y.t)))
theorem big_lit {k : Nat} {s : ByteArray} {r : Bool} (h : big k s = r) : Value.bool (decide ((k : Int) < (s.size : Int))) = .bool r:=by rw [← h]; rfl
def evBig (k : Nat) (s : ByteArray) (d : Nat) (r : Bool) (h : big k s = r) : Ev Tryz.prog:=.eqv d (.bool (decide ((k : Int) < (s.size : Int)))) (.bool r) (big_lit h)
theorem small4_ok (k : Nat) (x y : R4) {b : Bool} (hb : smB k x y = b) (β : Env) (w : World) (hh : (Ob.box (x.L ++ y.L) 27).holds β w (β 0)) :
    Calls Tryz.prog 16 (([.one (.c (.b (.v (.int .i64 (k : Int))))),.one (.c (.b (.s 0 0 1 1)))] : List SV).map (SV.den β)).toArray w fun e w'=>e = .returned (.bool b) ∧ Below w.heap.size w w':=by
  unfold smB at hb
  cases h1 : big k x.s with
  | true =>
    obtain rfl : b = false:=by rw [← hb,h1]; rfl
    exact bspec_ok [evBig k x.s 23 true h1] [] 800 Tryz.func16 hmA (fun β=>by kernel_rfl) (by kernel_rfl) (fun β=>rfl) β w hh
  | false=>cases h2 : big k x.t with
  | true =>
    obtain rfl : b = false:=by rw [← hb,h1,h2]; rfl
    exact bspec_ok [evBig k x.s 23 false h1,evBig k x.t 31 true h2] [] 800 Tryz.func16 hmA (fun β=>by kernel_rfl) (by kernel_rfl) (fun β=>rfl) β w hh
  | false=>cases h3 : big k y.s with
  | true =>
    obtain rfl : b = false:=by rw [← hb,h1,h2,h3]; rfl
    exact bspec_ok [evBig k x.s 23 false h1,evBig k x.t 31 false h2,evBig k y.s 40 true h3] [] 800 Tryz.func16 hmA (fun β=>by kernel_rfl) (by kernel_rfl) (fun β=>rfl) β w hh
  | false=>cases h4 : big k y.t with
  | true =>
    obtain rfl : b = false:=by rw [← hb,h1,h2,h3,h4]; rfl
    exact bspec_ok [evBig k x.s 23 false h1,evBig k x.t 31 false h2,evBig k y.s 40 false h3,evBig k y.t 49 true h4] [] 800 Tryz.func16 hmA (fun β=>by kernel_rfl) (by kernel_rfl) (fun β=>rfl) β w hh
  | false =>
    obtain rfl : b = true:=by rw [← hb,h1,h2,h3,h4]; rfl
    exact bspec_ok [evBig k x.s 23 false h1,evBig k x.t 31 false h2,evBig k y.s 40 false h3,evBig k y.t 49 false h4] [] 800 Tryz.func16 hmA (fun β=>by kernel_rfl) (by kernel_rfl) (fun β=>rfl) β w hh
def sR4Small (k : Nat) (x y : R4) {b : Bool} (hb : smB k x y = b) : BSpec Tryz.prog :=
  ⟨16,Tryz.call16,[.one (.c (.b (.v (.int .i64 (k : Int))))),.one (.c (.b (.s 0 0 1 1)))],x.L ++ y.L,27,.bool b,small4_ok k x y hb,by kernel_rfl,fun _=>rfl⟩
def sR7Of (z : GQ) : Y.Spec Tryz.prog:=Y.Spec.auto Tryz.call75 [svG z] [] (svP (.fin z)) [] [] [] 400 Tryz.func75 hmA (by kernel_rfl) (fun β=>by kernel_rfl)
def sR7Int (n m : Int) (hn : -9223372036854775808 ≤ n ∧ n ≤ 9223372036854775807:=by decide) (hm : -9223372036854775808 ≤ m ∧ m ≤ 9223372036854775807:=by decide) : Y.Spec Tryz.prog :=
  Y.Spec.auto Tryz.call42 [.one (.c (.b (.v (.int .i64 n)))),.one (.c (.b (.v (.int .i64 m))))] [] (svP (.fin (gint n m))) [] [(sR4Int n m hn hm).e,(sR7Of (gint n m)).e] [] 400 Tryz.func42 hmA (by kernel_rfl) (fun β=>by kernel_rfl)
end Go.Proofs.YtimfgjcidigbiaaGreat
end
section
namespace Go.Proofs.YtimfgjcidigbiaaGreat
open Go.Proofs.YtimfgjcidigbiaaGreat.Y
open Go Go.RowKit
set_option maxRecDepth 100000
abbrev KD : Nat:=1000000
def mmA {z w u v : GQ} (hz : GSz KD z) (hw : GSz KD w) (hu : GSz KD u) (hv : GSz KD v) : List (Ev Tryz.prog) :=
  [(sR4Times (GSz.le hz) (GSz.le hw)).e,(sR4Times (GSz.le hu) (GSz.le hv)).e,(sR4Plus (hz.mul hw).le (hu.mul hv).le).e]
end Go.Proofs.YtimfgjcidigbiaaGreat
end
section
namespace Go.Proofs.YtimfgjcidigbiaaGreat.Y
open Go Go.RowKit
set_option maxRecDepth 100000
def eqEvPt {p q : Pt} {r : Bool} (h : ptB p q = r) : Ev Tryz.prog:=eqEvP p.i q.i p.x p.y q.x q.y r h
end Go.Proofs.YtimfgjcidigbiaaGreat.Y
end
section
namespace Go.Proofs.YtimfgjcidigbiaaGreat.Y
open Go Go.RowKit
set_option maxRecDepth 100000
structure Gp where
  a : Fr
  b : Fr
def Gp.C (g : Gp) : SV:=.one (.a (rL g.a.r ++ rL g.b.r))
def Gp.B (g : Gp) : Bool:=g.a.a.B && g.b.a.B
abbrev tB' (t : Bool) : SV:=.one (.c (.b (.v (.bool t))))
abbrev nI' (k : Int) : SC:=.c (.b (.v (.int .i64 k)))
abbrev gS (z : GQ) : SV:=.one (.a (lsX (gC z)))
end Go.Proofs.YtimfgjcidigbiaaGreat.Y
end
section
namespace Go.Proofs.YtimfgjcidigbiaaGreat
open Go.Proofs.YtimfgjcidigbiaaGreat.Y
open Go Go.RowKit
set_option maxRecDepth 100000
abbrev svI (n : Int) : SC:=.c (.b (.v (.int .i64 n)))
theorem sz_lit1 {n : Int} (h : n.natAbs < 256) : Fit (Rat.divInt n 1):=(Sz.small h).fit (by decide)
theorem fit_int {n m : Int} (h : n.natAbs < 256) (k : m.natAbs < 256) : FitG (gint n m):=⟨sz_lit1 h,sz_lit1 k⟩
def gV (a a' : R4) : Array Value:=#[.bool a.b,.string a.s,.bool a.c,.string a.t,.bool a'.b,.string a'.s,.bool a'.c,.string a'.t]
def geq (x y x' y' : R4) : Bool:=x.eq x' && (y.eq y' && true)
theorem geq_self (x y : R4) : geq x y x y = true:=by
  unfold geq
  rw [R4.eq_iff.2 rfl,R4.eq_iff.2 rfl]; rfl
abbrev pI (n m : Int) : Pt:=.fin (gint n m)
theorem gq_lit {z w : GQ} (h1 : decide (z.re = w.re) = true) (h2 : decide (z.im = w.im) = true) : z = w:=GQ.ext2 (of_decide_eq_true h1) (of_decide_eq_true h2)
end Go.Proofs.YtimfgjcidigbiaaGreat
end
section
namespace Go.Proofs.YtimfgjcidigbiaaGreat.Y
open Go Go.RowKit
set_option maxRecDepth 100000
def frX (x : Rat) (h : Fit x) : Fr:=⟨fR x,.ok x h,rfl⟩
def gpX (z : GQ) (h : FitG z) : Gp:=⟨frX z.re h.1,frX z.im h.2⟩
theorem rL_inj {x y : R4} (h : rL x = rL y) : x = y:=by
  obtain ⟨b,s,c,t⟩:=x
  obtain ⟨b',s',c',t'⟩:=y
  simp only [rL,List.cons.injEq,Lf.b.injEq,Lf0.v.injEq,Value.bool.injEq,Value.string.injEq,and_true] at h
  obtain ⟨rfl,rfl,rfl,rfl⟩:=h
  rfl
inductive Gn where
  | ok (z : GQ) (h : FitG z)
  | no (g : Gp) (h : g.B = false)
def Gn.gp : Gn → Gp
  | .ok z h=>gpX z h
  | .no g _=>g
def Gn.x (g : Gn) : R4:=g.gp.a.r
def Gn.y (g : Gn) : R4:=g.gp.b.r
def Gn.B : Gn → Bool
  | .ok ..=>true
  | .no ..=>false
theorem Gn.gpB : ∀ g : Gn,g.gp.B = g.B
  | .ok ..=>rfl
  | .no _ h=>h
def Gn.z : Gn → GQ
  | .ok z _=>z
  | .no ..=>g0
theorem fr_of (r : R4) (h : r.s.size ≤ maxLen ∧ r.t.size ≤ maxLen) : ∃ a : Fr,a.r = r:=by
  obtain ⟨a,ha⟩:=fp_of r h.1 h.2
  exact ⟨⟨r,a,by rw [← ha]; cases a <;> rfl⟩,rfl⟩
theorem gn_of (x y : R4) (hx : x.s.size ≤ maxLen ∧ x.t.size ≤ maxLen) (hy : y.s.size ≤ maxLen ∧ y.t.size ≤ maxLen) : ∃ g : Gn,g.x = x ∧ g.y = y:=by
  obtain ⟨a,rfl⟩:=fr_of x hx
  obtain ⟨b,rfl⟩:=fr_of y hy
  cases h : (Gp.mk a b).B with
  | false=>exact ⟨.no ⟨a,b⟩ h,rfl,rfl⟩
  | true =>
    have h':=Bool.and_eq_true_iff.1 h
    obtain ⟨ra,fa,ea⟩:=a
    obtain ⟨rb,fb,eb⟩:=b
    cases fa with
    | no=>cases h'.1
    | ok x hx2=>cases fb with
      | no=>cases h'.2
      | ok y hy2 =>
        refine ⟨.ok ⟨x,y⟩ ⟨hx2,hy2⟩,rL_inj ?_,rL_inj ?_⟩
        · exact ea
        · exact eb
end Go.Proofs.YtimfgjcidigbiaaGreat.Y
end
section
namespace Go.Proofs.YtimfgjcidigbiaaGreat.Y
open Go Go.RowKit
set_option maxRecDepth 100000
inductive Cd where
  | v (x : Value)
  | r (x : Rat)
  | t (x : Rat)
def cd1 (g : Pl) (i : Nat) : Cd → Value
  | .v x=>x
  | .r _=>.pointer (g.v i)
  | .t _=>.pointer (g.v i)
def cdV (g : Pl) : Nat → List Cd → List Value
  | _,[]=>[]
  | i,c :: l=>cd1 g i c :: cdV g (i + 1) l
def cdP (w : World) (g : Pl) (i : Nat) : Cd → Prop
  | .v _=>True
  | .r x=>(g.v i = none ∧ x = 0) ∨ ∃ b,g.v i = some ⟨b,0,none⟩ ∧ g.F b ∧ RatAt w b 0 x
  | .t x=>∃ b,g.v i = some ⟨b,0,none⟩ ∧ g.F b ∧ RatAt w b 0 x
def cdOk (w : World) (g : Pl) : Nat → List Cd → Prop
  | _,[]=>True
  | i,c :: l=>cdP w g i c ∧ cdOk w g (i + 1) l
theorem cdV_at {g : Pl} : ∀ {l : List Cd} {i j : Nat} {c : Cd},l[j]? = some c → (cdV g i l)[j]? = some (cd1 g (i + j) c)
  | _ :: _,i,0,c,h=>by
    simp only [List.getElem?_cons_zero] at h
    obtain rfl:=Option.some.inj h
    rfl
  | _ :: l,i,j + 1,c,h=>by
    have:=cdV_at (g:=g) (l:=l) (i:=i + 1) (j:=j) (c:=c) (by simpa using h)
    rw [show i + (j + 1) = i + 1 + j by omega]
    simpa [cdV] using this
theorem cdOk_at {w : World} {g : Pl} : ∀ {l : List Cd} {i j : Nat} {c : Cd},cdOk w g i l → l[j]? = some c → cdP w g (i + j) c
  | _ :: _,i,0,c,h,hl=>by
    simp only [List.getElem?_cons_zero] at hl
    obtain rfl:=Option.some.inj hl
    exact h.1
  | _ :: l,i,j + 1,c,h,hl=>by
    rw [show i + (j + 1) = i + 1 + j by omega]
    exact cdOk_at (l:=l) h.2 (by simpa using hl)
theorem cdP_below {w w' : World} {g : Pl} {i : Nat} (hb : Below w.heap.size w w') : ∀ c : Cd,cdP w g i c → cdP w' g i c
  | .v _,_=>trivial
  | .r x,h=>h.imp id fun ⟨b,h1,h2,h3⟩=>⟨b,h1,h2,h3.on hb⟩
  | .t x,⟨b,h1,h2,h3⟩=>⟨b,h1,h2,h3.on hb⟩
theorem cdP_touch {w w' : World} {g : Pl} {i b o n m : Nat} (hs : Slot w b o m) (ht : Touch w w' b o n) (hne : ¬ g.F b) : ∀ c : Cd,cdP w g i c → cdP w' g i c
  | .v _,_=>trivial
  | .r x,h=>h.imp id fun ⟨d,h1,h2,h3⟩=>⟨d,h1,h2,h3.touch hs ht fun e=>hne (e ▸ h2)⟩
  | .t x,⟨d,h1,h2,h3⟩=>⟨d,h1,h2,h3.touch hs ht fun e=>hne (e ▸ h2)⟩
theorem cdOk_map {w w' : World} {g : Pl} (h : ∀ i c,cdP w g i c → cdP w' g i c) : ∀ {l : List Cd} {i : Nat},cdOk w g i l → cdOk w' g i l
  | [],_,_=>trivial
  | c :: l,i,k=>⟨h i c k.1,cdOk_map h k.2⟩
def RW (e : TypeId) (cs : List Cd) (w : World) (g : Pl) : Prop :=
  (g.F g.b ∧ ∃ cur : Array Value,w.heap[g.b]? = some (.cells cur e (0,0)) ∧ cur.toList.take cs.length = cdV g 0 cs) ∧ (cdOk w g 0 cs ∧ g.v cs.length = some ⟨g.b,0,none⟩) ∧ ∀ c,g.F c → c < w.heap.size
theorem rw_stable (e : TypeId) (cs : List Cd) : Stable (RW e cs) :=
  ⟨fun w g h=>h.2.2,
   fun w w' g ⟨⟨hf,cur,h1,h2⟩,⟨h3,h5⟩,h4⟩ hb=>⟨⟨hf,cur,by rw [hb.block g.b (heap_lt h1)]; exact h1,h2⟩,⟨cdOk_map (fun i c=>cdP_below hb c) h3,h5⟩,fun c hc=>Nat.lt_of_lt_of_le (h4 c hc) hb.size⟩,
   fun w w' g b o n m ⟨⟨hf,cur,h1,h2⟩,⟨h3,h5⟩,h4⟩ hs ht hne=>⟨⟨hf,cur,by rw [ht.block g.b (heap_lt h1) fun e=>hne (e ▸ hf)]; exact h1,h2⟩,⟨cdOk_map (fun i c=>cdP_touch hs ht hne c) h3,h5⟩,
     fun c hc=>Nat.lt_of_lt_of_le (h4 c hc) (ht.below (B:=0) (Nat.zero_le _) (Nat.zero_le _)).size⟩⟩
def rowT (e : TypeId) (cs : List Cd) : Thing:=thing (RW e cs) (rw_stable e cs)
def cellPl (g : Pl) (i : Nat) : Pl:=⟨(match g.v i with | some a=>a.block | none=>0),fun _=>g.v i,fun _=>0,fun c=>∃ a,g.v i = some a ∧ c = a.block,fun _=>undef⟩
theorem cellPl_or {w : World} {g : Pl} {i : Nat} {x : Rat} (h : cdP w g i (.r x)) : OR0 x w (cellPl g i):=by
  rcases h with ⟨h1,h2⟩ | ⟨b,h1,h2,h3⟩
  · exact .inl ⟨h1,(fun c hc=>by obtain ⟨a,ha,_⟩:=hc; rw [h1] at ha; cases ha),h2⟩
  · exact .inr ⟨b,⟨h1,fun c=>⟨fun ⟨a,ha,hc⟩=>by rw [h1] at ha; cases ha; exact hc,fun hc=>⟨_,h1,hc⟩⟩⟩,h3⟩
theorem cellPl_F {w : World} {g : Pl} {i : Nat} {x : Rat} (h : cdP w g i (.r x)) {c : Nat} (hc : (cellPl g i).F c) : g.F c:=by
  obtain ⟨a,ha,rfl⟩:=hc
  rcases h with ⟨h1,h2⟩ | ⟨b,h1,h2,h3⟩
  · rw [h1] at ha; cases ha
  · rw [h1] at ha; cases ha; exact h2
theorem rw_cell {e : TypeId} {cs : List Cd} {w : World} {g : Pl} (h : RW e cs w g) {j : Nat} {c : Cd} (hj : cs[j]? = some c) : w.cell? ⟨g.b,j,none⟩ = some (cd1 g j c):=by
  obtain ⟨⟨_,cur,h1,h2⟩,_⟩:=h
  have h3:=cdV_at (g:=g) (i:=0) hj
  rw [← h2,Nat.zero_add] at h3
  rw [List.getElem?_take] at h3
  split at h3
  · rw [Array.getElem?_toList] at h3
    exact cell_lay h1 h3
  · cases h3
def adOf : SV → Nat × Nat
  | .one (.c (.b (.p k o)))=>(k,o)
  | _=>(0,0)
def isAd : SV → Bool
  | .one (.c (.b (.p _ _)))=>true
  | _=>false
def yOf : SV → Nat × Nat
  | .one (.c (.b (.y k _ n)))=>(k,n)
  | _=>(0,0)
def isY : SV → Bool
  | .one (.c (.b (.y _ _ _)))=>true
  | _=>false
def intS : SV → Nat
  | .one (.c (.b (.v (.int _ i))))=>i.toNat
  | _=>0
structure CSpec (P : Program) where
  f : FuncId
  en : Enters P f
  args : List SV
  cs : List Lf
  t : TypeId
  res : SV
  news : List Thing
  ok : ∀ β w,(Ob.box cs t).holds β w (β 0) → Calls P f (args.map (SV.den β)).toArray w fun e w'=>∃ xs : List Pl,(∀ x ∈ xs,∀ c,x.F c → w.heap.size ≤ c) ∧ e = .returned (res.den (extE β 1 xs)) ∧ newHold w' news xs ∧ Below w.heap.size w w'
  cl : (cs.all (Lf.of fun _=>false) && args.all (SV.of fun k=>Nat.beq k 0) && res.of fun k=>Nat.ble 1 k && Nat.blt k (1 + news.length)) = true
def bkOfY : List SV → Nat
  | []=>0
  | .one (.c (.b (.s k _ _ _))) :: _=>k
  | _ :: r=>bkOfY r
def CSpec.e {P : Program} (S : CSpec P) : Ev P:=.dyn (fun o _ _=>isCallB o) fun _ xs ob=>lit (bkOfY xs) fun i=>lit ob.length fun n =>
  .call S.f S.en (fun β=>(S.args.map (SV.den fun _=>β i)).toArray) [(i,.box S.cs S.t)] n (S.res.ren fun k=>n + (k - 1)) S.news (fun β w h=>by
    have hc:=S.cl
    simp only [Bool.and_eq_true] at hc
    have h1 : (β i).one ∧ w.heap[(β i).b]? = some (.cells (S.cs.map (Lf.den β)).toArray S.t (0,0)):=h _ (List.mem_singleton.2 rfl)
    refine (S.ok (fun _=>β i) w ?_).mono fun e w' ⟨xs,k1,k2,k3,k4⟩=>⟨xs,fun x hx c hc=>.inl (k1 x hx c hc),?_,k3,k4⟩
    · show (β i).one ∧ w.heap[(β i).b]? = some (.cells (S.cs.map (Lf.den fun _=>β i)).toArray S.t (0,0))
      rw [show S.cs.map (Lf.den fun _=>β i) = S.cs.map (Lf.den β) from List.map_congr_left fun x hx=>Lf.den_congr (q:=fun _=>false) (fun k hk=>by cases hk) x (List.all_eq_true.1 hc.1.1 x hx)]
      exact h1
    · rw [k2,SV.den_ren]
      congr 1
      refine SV.den_congr (fun k hk=>?_) _ hc.2
      have hlen:=(newHold_get k3).1
      rw [Bool.and_eq_true,Nat.ble_eq,Nat.blt_eq] at hk
      have h5 : k - 1 < xs.length:=by omega
      rw [extE_in (List.getElem?_eq_getElem h5)]
      have:=extE_in (β:=fun _=>β i) (n:=1) (List.getElem?_eq_getElem h5)
      rw [show 1 + (k - 1) = k by omega] at this
      exact this)
end Go.Proofs.YtimfgjcidigbiaaGreat.Y
end
