/- A part of the proof of the given row: the walk of the law and of all that it calls. Conditions: none. -/
import Derived.Test.YtlagojobcbkpdaaGreatEF
set_option linter.unusedVariables false
set_option linter.unusedSimpArgs false
set_option maxRecDepth 100000
section
namespace Go.Lf
open Go Sm
section rules
variable {R:RM} {D:Chs} {k:Value→M}
theorem P2 {a b:Nat} {x y:Value} (hr:∀w,(Go.convert a b x).run P w = .ok y w) (H:J R D (k y)):J R D (X P (Go.convert a b x) k):=by
 intro h hs w hw;rw[hr];subst hw;exact⟨Aa.refl _,H _ hs⟩
theorem jix {s:ByteArray} {i n:Int} {kd:IntKind} (h0:0≤i∧i.toNat < s.size) (hn:((s[i.toNat]'h0.2).toNat:Int) = n) (H:J R D (k (.int .u8 n))):J R D (IX (.string s) (.int kd i) k):=λh hs=>⟨h0,by rw[hn];exact H h hs⟩
end rules
set_option maxRecDepth 4000 in
theorem Ld:Pu D8 [.int .u64 0] (I 0):=by
 intro R;refine FW λF=>?_
 refine z_1 ?_;refine CP [.int .u64 0,I 0] (λK1 h1=>?_) (λe he=>?_)
 ·exact h1
 refine z_V ?_;refine CP [.int .u64 0,I 0] (λK1 h1=>?_) (λe he=>?_)
 ·exact h1
 refine z_V ?_;refine CP [.int .u64 0,I 0] (λK1 h1=>?_) (λe he=>?_)
 ·exact h1
 refine z_V ?_;refine @P2 _ _ _ 191 5 _ (.int .u8 0) (λw=>by kernel_rfl) (jix (n:=0) ⟨δ,δ⟩ δ (@P2 _ _ _ 5 3 _ (I 0) (λw=>by kernel_rfl) (Lp ⟨δ,δ⟩ (AV (A:=[]) (RM.le.refl R) rfl))))
theorem OQ:Pu Dm [.int .u64 0] (I 0):=by
 intro R;refine GS λF=>?_
 refine z_1 ?_;exact C9 (jp Ld (AV (A:=[]) (RM.le.refl R) rfl))
theorem Nm:Pu Ba [SN,I 0,I 0] U:=by
 intro R;refine CS λF=>?_
 refine z_3 ?_;refine Lp ⟨δ,δ⟩ (jlp (λm vs R' D'=>R' = R∧D' = [] ++ F∧vs = [SN,I 0,I 0,I 1]) (n:=0) ⟨rfl,rfl,rfl⟩ ?_);rintro m e R1 D1 K ⟨hR,hD,he⟩ _;subst hR;refine z_W ?_;exact jlt (C9 (AV (A:=[]) (RM.le.refl _) rfl))
theorem OR:Pu C6 [SN,I 0,I 0,I 0] U:=by
 intro R;refine DS λF=>?_
 refine z_4 ?_;refine jlp (λm vs R' D'=>R' = R∧D' = [] ++ F∧∃x y,vs = [SN,I 0,I 0,I 0,x,y]) (n:=0) ⟨rfl,rfl,_,_,rfl⟩ ?_;rintro m e R1 D1 K ⟨hR,hD,x,y,he⟩ _;subst hR;refine z_W ?_;refine Aw (λvs R' D'=>False) (λK2 hK2=>(P6 ⟨δ,δ⟩ (jle (Dv (jp Nm (AV (A:=[]) (RM.le.refl _) rfl)))))) (λe R' D' h=>h.elim)
theorem MW:Pu DG [SN] U:=by
 intro R;refine I6 λF=>?_
 refine z_1 ?_;refine jln ?_;refine @P2 _ _ _ 3 130 _ (.int .u64 0) (λw=>by kernel_rfl) ?_;exact jp OQ (jp OR (AV (A:=[]) (RM.le.refl R) rfl))
end Go.Lf
end
section
namespace Sm
open Go.Lf
theorem Jy {l:List AF} (S:Stl l):∀{n i:Nat} {out r:List Int},CF l out→Az l n i out = some r→CF l r
 | 0,i,out,r,M,h=>by cases h
 | n + 1,i,out,r,M,h=>by
  by_cases c:i < out.length
  ·obtain⟨t,ht⟩:=M.th _ (RZ c);rw[CJ c ht] at h;cases hn:Ah l t.refs out with
   | none=>rw[hn] at h;cases h
   | some o=>rw[hn] at h;exact Jy S (M.all S hn) h
  ·rw[CM ω] at h;cases h;exact M
structure HpF (s:AU) (l:List AF) (met:List Int):Prop where
 ths:DJ s = some l
 head:Cw s l = true
 re:D5 s l = some met
 S:Stl l
 M:CF l met
 asc:l.Pairwise (λx y=>x.at_ + AA x.sh≤y.at_)
theorem JA {s:AU} {l:List AF} {met:List Int} (h:CD s = some (l,met)):HpF s l met:=by
 unfold CD at h;cases ht:DJ s with
 | none=>rw[ht] at h;cases h
 | some l'=>
  rw[ht] at h;dsimp only at h;split at h;rotate_left
  ·cases h
  rename_i hh;obtain⟨m,hm,e⟩:=Option.map_eq_some_iff.1 h;cases e;have h2:=hh;unfold Cw at h2;simp only[z_b] at h2;have S:=Nb ht h2.1.1.1.1.1.1.1;have M:CF l met:=by
   rw[Ex h2.2] at hm;cases hn:Ah l (DV s) [] with
   | none=>rw[hn] at hm;cases hm
   | some out=>rw[hn] at hm;exact Jy S (CF.nil.all S hn) hm
  refine⟨ht,hh,hm,S,M,?_⟩;have h1:=ht;unfold DJ at h1;split at h1
  ·exact (Di h1).1
  ·cases h1
end Sm
namespace Go.Lf
open Go Sm
section st
variable {R:RM} {s:Sm.AU} {wv tv mv thv ov pv:Value} {l:List AF} {met:List Int}
theorem Md {hb mb:Nat} {v:Value} (hv:HpV R s wv tv mv thv ov pv l met hb mb v) (nd:met.Nodup) (hl:met.length < 1000000):Fn P EY [Pt hb] R [] (λv R' A=>R' = R∧SO (AR met) v A):=by
 refine I1 λF=>?_
 refine z_1 ?_;obtain⟨o,h1,h2,h3,h4⟩:=hv;refine jnc (jfo (jlr h1 rfl (jc (Bj h4 hl) ?_)));rintro x R1 A1 _ ⟨hR,so,_⟩;subst hR;rcases so with ⟨rfl,rfl,rfl⟩ | ⟨b,c,sp,hc,hsp,rfl,rfl⟩
 ·exact jp MW (AV (RM.le.refl _) ⟨rfl,.inl ⟨rfl,rfl,rfl⟩⟩)
 ·refine jc (A:=[(b,C AW (met.map I ++ sp))]) (On hl) ?_;rintro v2 R2 A2 _ ⟨hR,rfl,rfl⟩;subst hR;have e:=Nk nd;have e2:=Fe met;rw[e] at e2 ⊢;refine AV (RM.le.refl _) ⟨rfl,.inr ⟨b,c,sp,ω,ω,by rw[e2],rfl⟩⟩
theorem QC (w:World) (x y:Operand) (hb:Nat):(do eqGuard .eql 86 x y (Pt hb) (.pointer none);binOp .eql 86 (Pt hb) (.pointer none):Sem Value).run P w = .ok (.bool false) w:=by kernel_rfl
theorem Pq (w:World) (x y:Operand):(do eqGuard .eql 86 x y (.pointer none) (.pointer none);binOp .eql 86 (.pointer none) (.pointer none):Sem Value).run P w = .ok (.bool true) w:=by kernel_rfl
theorem QW (w:World) (x y:Operand) (hb:Nat):(do eqGuard .neq 86 x y (Pt hb) (.pointer none);binOp .neq 86 (Pt hb) (.pointer none):Sem Value).run P w = .ok (.bool true) w:=by kernel_rfl
theorem Pg (w:World) (x y:Operand):(do eqGuard .neq 86 x y (.pointer none) (.pointer none);binOp .neq 86 (.pointer none) (.pointer none):Sem Value).run P w = .ok (.bool false) w:=by kernel_rfl
theorem jxr {R:RM} {D:Chs} {k:Value→M} {s:Sem Value} {y:Value} (hr:∀w,s.run P w = .ok y w) (H:J R D (k y)):J R D (X P s k):=by
 intro h hs w hw;rw[hr];subst hw;exact⟨Aa.refl _,H _ hs⟩
end st
end Go.Lf
end
section
namespace Go.Lf
open Go Sm
section rules
variable {R:RM} {D:Chs} {k:Value→M}
theorem N7 {lv:List Nat} {B:(List Value→M)→M} {K:Env→M} (pre:List Value) (p:Prop) (H1:∀K' : List Value→M,(p→J R D (K' pre))→J R D (B K')) (H2:∀e,p→lv.map e = pre→J R D (K e)):J R D (CUT lv B K):=
 Aw (λvs R' D'=>p∧R' = R∧D' = D∧vs = pre) (λK' h=>H1 K' λhp=>h _ _ _ ⟨hp,rfl,rfl,rfl⟩) λe R' D' ⟨hp,h1,h2,h3⟩=>by
  subst h1 h2;exact H2 e hp h3
theorem HT {lv:List Nat} {B:(List Value→M)→Env→M} (pre:List Value) (n:Nat) (p:Nat→Prop) (h0:p 0)
  (H:∀(i:Nat) K e,i≤n→p i→(i < n→p (i + 1)→J R D (K (pre ++ [I ((i:Int) + 1)])))→lv.map e = pre ++ [I i]→J R D (B K e)):J R D (LP lv B (pre ++ [I 0])):=by
 refine jlp (λm vs R' D'=>R' = R∧D' = D∧∃i:Nat,i≤n∧m = n - i∧p i∧vs = pre ++ [I i]) (n:=n) ⟨rfl,rfl,0,ω,ω,h0,rfl⟩ ?_;rintro m e R1 D1 K ⟨hR,hD,i,hi,hm,hp,he⟩ hK;subst hR hD;exact H i K e hi hp (λh hp'=>hK (n - (i + 1)) _ _ _ ω ⟨rfl,rfl,i + 1,ω,rfl,hp',rfl⟩) he
end rules
end Go.Lf
end
section
namespace Sm
open Go.Lf
end Sm
namespace Sm
open Go.Lf
end Sm
namespace Go.Lf
open Go Sm
section st
variable {R:RM} {s:Sm.AU} {wv tv mv thv ov pv:Value}
end st
end Go.Lf
end
section
namespace Go.Lf
open Go Sm
def mkB (n:Nat) (xs:List Int):List Bool:=(List.range n).map λ(i:Nat)=>decide ((i:Int)∈xs)
theorem IT (n:Nat) (xs:List Int):(mkB n xs).length = n:=by simp[mkB]
theorem O2 (n:Nat):mkB n [] = List.replicate n false:=by
 apply List.ext_getElem<;>simp[mkB]
theorem OB {n k:Nat} {xs:List Int} (h:k < n):(mkB n xs).set k true = mkB n (xs ++ [(k:Int)]):=by
 apply List.ext_getElem?;intro i;rw[TP];unfold mkB;simp only[Ry,List.length_range,S4,List.getElem?_range',Rq,Ri];by_cases e:k = i
 ·subst e;rw[if_pos rfl,if_pos h,List.getElem?_range h];simp
 ·rw[if_neg e];by_cases hi:i < n
  ·rw[List.getElem?_range hi];have:¬ ((i:Int) = k):=ω
   simp[this]
  ·rw[Sg (by simpa using hi)];rfl
section st
variable {R:RM} {s:Sm.AU} {wv tv mv thv ov pv:Value}
set_option maxRecDepth 4000 in
theorem J3 (h:SF R s wv tv mv thv ov pv):Ro GJ [.agg (eSt s wv tv mv thv ov pv).toArray] (.bool (CD s).isSome) R []:=by
 refine Jq λF=>?_
 refine z_1 ?_;refine ja λb=>jla (by exact z_n 13) rfl ?_
 refine jc (H7 h) ?_;rintro x R1 _ hR ⟨rfl,hq⟩;cases hh:CD s with
 | none=>
  rw[hh] at hq;obtain rfl:x = _:=hq;exact jxr (λw=>Pg w _ _) (AV hR ⟨rfl,rfl⟩)
 | some q=>
  obtain⟨l,met⟩:=q;rw[hh] at hq;obtain⟨hb,mb,v,rfl,_⟩:=hq;exact jxr (λw=>QW w _ _ hb) (AV hR ⟨rfl,rfl⟩)
theorem LG {l:List AF} (h:SF R s wv tv mv thv ov pv) (hl:DJ s = some l):l.length≤192∧TB l:=by
 have h1:=hl;unfold DJ at h1;split at h1;rotate_left
 ·cases h1
 unfold B7 at h1;have h2:=Ki (by have:=h.b.wl;have:=h.b.t1;omega) h1;have:=h.b.t1;rw[TF] at h2;exact⟨ω,h2.1⟩
theorem Qi {D:Chs} {b n k:Nat} {xs:List Int} {m:M} {D' : Chs} (hk:k < n) [a:At D b (C Av ((mkB n xs).map Value.bool))] [u:Up D b (C Av ((mkB n xs).map Value.bool)) (C Av ((mkB n (xs ++ [(k:Int)])).map Value.bool)) D']
  (H:J R D' m):J R D (IA 1 (S0 b n n) (I (k:Int)) λp=>ST 1 p (.bool true) m):=by
 refine E5 hk (js (cs':=(mkB n (xs ++ [(k:Int)])).map Value.bool) rfl rfl (by rw[Ry,IT];show 0 + k * 1 + 1≤n;omega) ?_ H);rw[TQ,SY];show lay _ k [.bool true] = _;rw[L7 (by rw[Ry,IT];exact hk),← List.map_set,OB hk]
end st
section rules
variable {R:RM} {D:Chs} {k:Value→M}
theorem RN {lv:List Nat} {B:(List Value→M)→Env→M} {vs:List Value} (n:Nat) (q:Nat→List Value→Prop) (h0:q 0 vs)
  (H:∀(i:Nat) K e,i≤n→q i (lv.map e)→(∀vs',i < n→q (i + 1) vs'→J R D (K vs'))→J R D (B K e)):J R D (LP lv B vs):=by
 refine jlp (λm vs R' D'=>R' = R∧D' = D∧∃i:Nat,i≤n∧m = n - i∧q i vs) (n:=n) ⟨rfl,rfl,0,ω,ω,h0⟩ ?_;rintro m e R1 D1 K ⟨hR,hD,i,hi,hm,hp⟩ hK;subst hR hD;exact H i K e hi hp (λvs' h hp'=>hK (n - (i + 1)) _ _ _ ω ⟨rfl,rfl,i + 1,ω,rfl,hp'⟩)
end rules
def DSF (x:Value) (R:RM):Prop:=∃(s:Sm.AU) (wv tv mv thv ov pv:Value),x = .agg (eSt s wv tv mv thv ov pv).toArray∧SF R s wv tv mv thv ov pv
theorem DSF.cut {x:Value} {R:RM} (h:DSF x R):∃(s:Sm.AU) (wa:Option Addr) (wc tb tc:Nat) (ma:Option Addr) (mc:Nat) (ta:Option Addr) (thc:Nat) (oa:Option Addr) (oc:Nat) (pa:Option Addr) (pc:Nat),x = .agg (eSt s (.slice wa s.AE.length wc) (S0 tb s.AB.length tc) (.slice ma s.AS.length mc) (.slice ta s.A9.length thc) (.slice oa s.old.length oc) (.slice pa s.AN.length pc)).toArray∧SF R s (.slice wa s.AE.length wc) (S0 tb s.AB.length tc) (.slice ma s.AS.length mc) (.slice ta s.A9.length thc) (.slice oa s.old.length oc) (.slice pa s.AN.length pc):=by
 obtain⟨s,wv,tv,mv,thv,ov,pv,rfl,h⟩:=h;obtain⟨tb,tc,sp,rfl,hb,htc⟩:=h.z;obtain⟨wa,wc,rfl⟩:=h.c.w.sl;obtain⟨ma,mc,rfl⟩:=h.c.m.sl;obtain⟨tha,thc,rfl⟩:=h.c.th.sl;obtain⟨oa,oc,rfl⟩:=h.c.o.sl;obtain⟨pa,pc,rfl⟩:=h.c.p.sl;exact⟨s,wa,wc,tb,tc,ma,mc,tha,thc,oa,oc,pa,pc,rfl,h⟩
end Go.Lf
end
section
namespace Sm
open Go.Lf
end Sm
namespace Go.Lf
open Go Sm
section st
variable {R:RM} {s:Sm.AU} {wv tv mv thv ov pv:Value}
theorem Pr {l:List AF} {met:List Int} (hf:HpF s l met):B7 s = some l:=by
 have h1:=hf.ths;unfold DJ at h1;split at h1
 ·exact h1
 ·cases h1
theorem Qh {l:List AF} {met:List Int} (hf:HpF s l met) {a:Int} (ha:a∈met):∃t,Al l a = some t∧AZ s.AE a = (t,true):=by
 obtain⟨t,ht⟩:=hf.M.th a ha;obtain⟨h1,h2⟩:=BX ht;have h3:=Pr hf;unfold B7 at h3;have:=((Di h3).2 t h1).2.2.1;rw[h2] at this;exact⟨t,ht,this⟩
end st
end Go.Lf
end
section
namespace Go.Lf
open Go Sm
theorem Oy {R:RM} {v:Value} (hc:Cod R v):∃n:Nat,∃a c,v = .slice a n c:=by
 obtain⟨n,hf⟩:=hc;exact⟨n,hf.sl⟩
section rules
variable {R:RM} {D:Chs} {k:Value→M}
theorem RA {x y:Int} {kd:IntKind} (h:0≤y) (H:J R D (k (.int kd (x.fdiv (2 ^ min y.toNat kd.bits))))):J R D (BO .shr (.int kd x) (.int kd y) k):=by
 unfold BO;simp only[if_true];exact λh' hs=>⟨h,H h' hs⟩
theorem Pp (x:Int) (w:World):(Go.convert 3 130 (I x):Sem Value).run P w = .ok (.int .u64 (IntKind.u64.wrap x)) w:=by kernel_rfl
theorem Q1 (x:Int) (w:World):(Go.convert 130 3 (.int .u64 x):Sem Value).run P w = .ok (I (IntKind.i64.wrap x)) w:=by kernel_rfl
theorem ND {n:Int} (h0:0≤n) (h1:n < 9223372036854775808):IntKind.u64.wrap n = n:=by
 unfold IntKind.wrap;simp only[IntKind.bits,IntKind.signed];simp;omega
end rules
theorem PL (x:Int):Pu GN [I x] (.bool false):=by
 intro R;refine JJ λF=>?_
 refine z_1 ?_;refine jne (AV (A:=[]) (RM.le.refl R) ?_);simp
theorem P3 (x:Int):Pu E0 [I x] (.bool false):=by
 intro R;refine H6 λF=>?_
 refine z_1 ?_;refine jne (AV (A:=[]) (RM.le.refl R) ?_);simp
theorem P5 (x y:Int):Pu HK [I x,I y] (.bool (decide (x < y))):=by
 intro R;refine K8 λF=>?_
 refine z_2 ?_;refine jan [I x,I y] false (λK' hK'=>?_) (λe c u ho he=>?_)
 ·exact jp (PL x) (jft (hK' _ _ _ Aj rfl))
 refine z_V ?_;refine jor [] (decide (x < y)) (λK' hK'=>?_) (λe c u ho he=>?_)
 ·rw[ho];exact jff (jlt (hK' _ _ _ AY rfl))
 refine z_V ?_;rw[ho];exact AV (A:=[]) (RM.le.refl R) rfl
def lbI (l:List Int) (x:Int):Nat:=(l.filter λy=>decide (y < x)).length
theorem Mm {l:List Int} {x:Int} {i:Nat} (hi:i≤l.length) (h1:∀k (h:k < l.length),k < i→l[k] < x) (h2:∀k (h:k < l.length),i≤k→x≤l[k]):lbI l x = i:=by
 unfold lbI
 conv=>lhs;rw[← TK i l]
 rw[List.filter_append,Rc];have e1:(l.take i).filter (λy=>decide (y < x)) = l.take i:=by
  rw[List.filter_eq_self];intro y hy;obtain⟨k,hk,rfl⟩:=S5 hy;rw[Rk] at hk;rw[List.getElem_take];exact decide_eq_true (h1 k ω ω)
 have e2:(l.drop i).filter (λy=>decide (y < x)) = []:=by
  rw[List.filter_eq_nil_iff];intro y hy;obtain⟨k,hk,rfl⟩:=S5 hy;rw[SR] at hk;rw[TR];have:=h2 (i + k) ω ω;simpa using this
 rw[e1,e2,Rk];simp;omega
theorem G0 {l:List Int} {x:Int} (hs:l.Pairwise (· < ·)) (h:x∈l):(lbI l x:Int) = DX l x:=by
 unfold DX;rw[if_pos h];have hlt:l.idxOf x < l.length:=List.idxOf_lt_length_iff.2 h;have hv:l[l.idxOf x] = x:=σ
 rw[T5] at hs;congr 1;refine Mm ω (λk hk hlt'=>?_) (λk hk hle=>?_)
 ·have:=hs k _ hk hlt hlt';omega
 ·by_cases c:k = l.idxOf x
  ·subst c;omega
  ·have:=hs _ k hlt hk ω;omega
set_option maxRecDepth 4000 in
theorem Gw {R:RM} {v:Value} {l:List Int} (x:Int) (h:Ai R v l) (hl:l.length < 1000000) (hs:l.Pairwise (· < ·)):Ro CK [v,I x] (.tuple #[I (lbI l x),.bool (decide (x∈l))]) R []:=by
 refine Dw λF=>?_
 refine z_2 ?_;obtain⟨va,vc,rfl⟩:=h.sl;refine jln ?_;have hs':=T5.1 hs;refine CP [.slice va l.length vc,I x,I l.length,I (lbI l x)] (λK1 h1=>?_) (λe he=>?_)
 ·refine CP [.slice va l.length vc,I x,I l.length,I (lbI l x)] (λK2 h2=>?_) (λe he=>?_)
  ·refine jlp (λm vs R' D'=>R' = R∧D' = [] ++ F∧∃i j:Nat,i≤j∧j≤l.length∧m = j - i∧(∀k (h:k < l.length),k < i→l[k] < x)∧(∀k (h:k < l.length),j≤k→x≤l[k])∧vs = [.slice va l.length vc,I x,I l.length,I i,I j]) (n:=l.length) ⟨rfl,rfl,0,l.length,ω,ω,ω,λk _ h=>ω,λk h h'=>ω,rfl⟩ ?_;rintro m e R1 D1 K ⟨hR,hD,i,j,hij,hj,hm,hlo,hhi,he⟩ hK;subst hR;refine z_W ?_;refine jlt (jif (λhc=>?_) (λhc=>?_));rotate_left
   ·have hc:=z_g hc;have:i = j:=ω
    subst this;rw[Mm hj hlo hhi] at h2;exact h2
   have hc:i < j:=by have:=z_f hc;omega
   refine Aw (λvs R' D'=>R' = R1∧D' = [] ++ F∧∃i' j' : Nat,i'≤j'∧j'≤l.length∧j' - i' < m∧(∀k (h:k < l.length),k < i'→l[k] < x)∧(∀k (h:k < l.length),j'≤k→x≤l[k])∧vs = [.slice va l.length vc,I x,I l.length,I i',I j']) (λK3 h3=>?_) ?_
   ·refine jad (@jxr _ _ _ _ (.int .u64 ((i:Int) + j)) (λw=>by rw[Pp,ND ω ω]) (RA δ ?_));have e1:((i:Int) + j).fdiv (2 ^ min (1:Int).toNat IntKind.u64.bits) = (((i + j) / 2:Nat):Int):=by
     show ((i:Int) + j).fdiv 2 = _;rw[Int.fdiv_eq_ediv_of_nonneg _ δ];omega
    rw[e1];refine @jxr _ _ _ _ (I (((i + j) / 2:Nat):Int)) (λw=>by rw[Q1,Ct ⟨ω,ω⟩]) ?_;have hmid:(i + j) / 2 < l.length:=ω
    refine ER h ω ω ?_;simp only[RV];refine jp (P5 _ x) (jif (λg=>?_) (λg=>?_))
    ·have g:=z_f g;refine jad (h3 _ _ _ ⟨rfl,rfl,(i + j) / 2 + 1,j,ω,hj,ω,λk hk hlt=>?_,hhi,rfl⟩);by_cases c:k = (i + j) / 2
     ·subst c;exact g
     ·have:=hs' k _ hk hmid ω;omega
    ·have g:=z_g g;refine h3 _ _ _ ⟨rfl,rfl,i,(i + j) / 2,ω,ω,ω,hlo,λk hk hle=>?_,rfl⟩;by_cases c:k = (i + j) / 2
     ·subst c;omega
     ·have:=hs' _ k hmid hk ω;omega
   rintro e R2 D2 ⟨hR,hD,i',j',a1,a2,a3,a4,a5,he⟩;subst hR;refine z_W ?_;exact hK (j' - i') _ _ _ ω ⟨rfl,rfl,i',j',a1,a2,rfl,a4,a5,rfl⟩
  ·refine z_V ?_;exact h1
 refine z_V ?_;have hlb:lbI l x≤l.length:=List.length_filter_le _ _;have hin:∀(hlt:lbI l x < l.length),(l[lbI l x] == x) = decide (x∈l):=by
  intro hlt;by_cases c:x∈l
  ·have hp:=G0 hs c;unfold DX at hp;rw[if_pos c] at hp;have:lbI l x = l.idxOf x:=ω
   simp only[this];simp[c]
  ·rw[decide_eq_false c,beq_eq_false_iff_ne];intro e;exact c (e▸RZ hlt)
 have hout:¬ lbI l x < l.length→x ∉ l:=λhlt c=>by
  have hp:=G0 hs c;unfold DX at hp;rw[if_pos c] at hp;have:=List.idxOf_lt_length_iff.2 c;omega
 refine Aw (λvs R' D'=>R' = R∧D' = [] ++ F∧∃c u,vs = [I (lbI l x),c,u]∧LQ c u (decide (x∈l))) (λK1 h1=>?_) ?_
 ·refine jlt (Bc (λg=>?_) (λg=>?_))
  ·have hlt:lbI l x < l.length:=by have:=z_f g;omega
   rw[g];refine ER h ω ω ?_;simp only[RV];refine jeq ?_;rw[hin hlt];refine BT (λg2=>?_) (λg2=>?_)
   ·refine ER h ω ω ?_;simp only[RV];rw[g2];exact jp (P3 _) (jft (h1 _ _ _ ⟨rfl,rfl,_,_,rfl,by rw[g2];exact Ac⟩))
   ·rw[g2];exact h1 _ _ _ ⟨rfl,rfl,_,_,rfl,by rw[g2];exact Ac⟩
  ·have hlt:¬ lbI l x < l.length:=by have:=z_g g;omega
   rw[g];exact h1 _ _ _ ⟨rfl,rfl,_,_,rfl,by rw[decide_eq_false (hout hlt)];exact Aj⟩
 rintro e R2 D2 ⟨hR,hD,c,u,he,ho⟩;subst hR;refine z_W ?_;rw[ho];exact Af rfl
end Go.Lf
end
section
namespace Sm
open Go.Lf
theorem NK {had:List Int} {a x:Int}:x∈had→x∈Cj had a:=λh=>by
 unfold Cj;split
 ·exact h
 ·exact S9 _ h
theorem LO {had:List Int} {a:Int}:a = 0∨a∈Cj had a:=by
 unfold Cj;split
 ·rename_i h;rcases h with h | h
  ·exact .inl h
  ·exact .inr h
 ·exact .inr σ
theorem DC {l:List AF}:∀{xs acc r:List Int},Ah l xs acc = some r→∀x∈acc,x∈r
 | [],acc,r,h,x,hx=>by cases h;exact hx
 | a :: xs,acc,r,h,x,hx=>by
  rw[Be] at h;cases hn:now l a with
  | none=>rw[hn] at h;cases h
  | some y=>rw[hn] at h;exact DC (xs:=xs) h x (NK hx)
theorem DI {l:List AF}:∀{xs acc r:List Int},Ah l xs acc = some r→∀a∈xs,∃x,now l a = some x∧(x = 0∨x∈r)
 | [],acc,r,h,a,ha=>by cases ha
 | b :: xs,acc,r,h,a,ha=>by
  rw[Be] at h;cases hn:now l b with
  | none=>rw[hn] at h;cases h
  | some y=>
   rw[hn] at h;have h:Ah l xs (Cj acc y) = some r:=h;rcases Rf.1 ha with rfl | ha
   ·refine⟨y,hn,?_⟩;rcases LO (had:=acc) (a:=y) with e | e
    ·exact .inl e
    ·exact .inr (DC h _ e)
   ·exact DI (xs:=xs) h a ha
theorem GK {l:List AF}:∀{n i:Nat} {out r:List Int},Az l n i out = some r→(∀j (h:j < out.length),j < i→∀t,Al l out[j] = some t→∀a∈t.refs,∃x,now l a = some x∧(x = 0∨x∈r))→
  (∀x∈out,x∈r)∧∀b∈r,∀t,Al l b = some t→∀a∈t.refs,∃x,now l a = some x∧(x = 0∨x∈r)
 | 0,i,out,r,h,_=>by cases h
 | n + 1,i,out,r,h,hj=>by
  by_cases c:i < out.length
  ·cases ht:Al l out[i] with
   | none=>
    unfold Az at h;rw[RU c] at h;dsimp only at h;rw[ht] at h;cases h
   | some t=>
    rw[CJ c ht] at h;cases hn:Ah l t.refs out with
    | none=>rw[hn] at h;cases h
    | some o=>
     rw[hn,z_o] at h;have hpre:∀{xs acc r:List Int},Ah l xs acc = some r→∃e,r = acc ++ e:=by
      intro xs;induction xs with
      | nil=>intro acc r h;cases h;exact⟨[],σ⟩
      | cons a xs ih=>
       intro acc r h;rw[Be] at h;cases hn:now l a with
       | none=>rw[hn] at h;cases h
       | some y=>
        rw[hn] at h;obtain⟨e,he⟩:=ih h;unfold Cj at he;split at he
        ·exact⟨e,he⟩
        ·exact⟨[y] ++ e,by rw[he,RY]⟩
     obtain⟨e,he⟩:=hpre hn;have mono:∀{n i:Nat} {out r:List Int},Az l n i out = some r→∀x∈out,x∈r:=by
      intro n;induction n with
      | zero=>intro i out r h;cases h
      | succ n ih=>
       intro i out r h x hx;by_cases c:i < out.length
       ·cases ht:Al l out[i] with
        | none=>
         unfold Az at h;rw[RU c] at h;dsimp only at h;rw[ht] at h;cases h
        | some t=>
         rw[CJ c ht] at h;cases hn:Ah l t.refs out with
         | none=>rw[hn] at h;cases h
         | some o=>rw[hn] at h;exact ih h x (DC hn x hx)
       ·rw[CM ω] at h;cases h;exact hx
     have hm:=mono h;have:=GK h λj hjl hji t' ht' a ha=>?_
     ·exact⟨λx hx=>this.1 x (DC hn x hx),this.2⟩
     ·have hjo:j < out.length:=ω
      have e1:o[j] = out[j]:=by subst he;rw[T7 hjo]
      rw[e1] at ht';by_cases cj:j = i
      ·subst cj;rw[ht] at ht';cases ht';obtain⟨x,h1,h2⟩:=DI hn a ha;exact⟨x,h1,h2.elim .inl λh=>.inr (hm x h)⟩
      ·exact hj j hjo ω t' ht' a ha
  ·rw[CM ω] at h;cases h;refine⟨λx hx=>hx,λb hb t ht a ha=>?_⟩;obtain⟨j,hj',rfl⟩:=S5 hb;exact hj j hj' ω t ht a ha
theorem HpF.closed {s:AU} {l:List AF} {met:List Int} (hf:HpF s l met):(∀a∈DV s,∃x,now l a = some x∧(x = 0∨x∈met))∧∀b∈met,∀t,Al l b = some t→∀a∈t.refs,∃x,now l a = some x∧(x = 0∨x∈met):=by
 have hh:=hf.head;unfold Cw at hh;simp only[z_b] at hh;have hr:=hf.re;rw[Ex hh.2] at hr;cases hn:Ah l (DV s) [] with
 | none=>rw[hn] at hr;cases hr
 | some out=>
  rw[hn,z_o] at hr;obtain⟨h1,h2⟩:=GK hr λj h hj=>absurd hj ω
  refine⟨λa ha=>?_,h2⟩;obtain⟨x,e1,e2⟩:=DI hn a ha;exact⟨x,e1,e2.elim .inl λh=>.inr (h1 x h)⟩
end Sm
end
section
namespace Go.Lf
open Go Sm
def nmA (l:List AF) (AQ:List Int) (a:Int):Int:=if a = 0 then -1 else DX AQ ((now l a).getD 0)
section st
variable {R:RM} {s:Sm.AU} {wv tv mv thv ov pv:Value} {l:List AF} {met:List Int}
theorem OK {hb mb:Nat} {v:Value} {a x:Int} (hv:HpV R s wv tv mv thv ov pv l met hb mb v) (hx:now l a = some x):Ro Dk [Pt hb,I a] (I x) R []:=by
 refine FR λF=>?_
 refine z_2 ?_;obtain⟨o,h1,h2,h3,h4⟩:=hv;unfold now at hx;refine jeq (jif (λh=>?_) (λh=>?_))
 ·rw[if_pos (by simpa using h)] at hx;cases hx;exact Af rfl
 have h:a≠0:=by simpa using h
 rw[if_neg h] at hx;refine jnc (jfo (jlr h1 rfl (@MU _ _ _ mb o l a false (Li.fz h2) h3 (λe=>?_) (λt v e hv=>?_))))
 ·rw[e] at hx;cases hx
 ·rw[e] at hx;obtain⟨rv,nv,rfl,_,_⟩:=hv;cases hx;exact jfd rfl (Af rfl)
set_option maxRecDepth 4000 in
theorem FJ {hb mb b1 b2:Nat} {v lv xv:Value} {AQ xs:List Int} (hv:HpV R s wv tv mv thv ov pv l met hb mb v) (hlv:Ai R lv AQ) (hll:AQ.length < 1000000) (hinc:AQ.Pairwise (· < ·)) (hm:∀x,x∈AQ↔x∈met) (hxv:Ai R xv xs) (hxl:xs.length < 1000000)
  (hc:∀a∈xs,∃x,now l a = some x∧(x = 0∨x∈met)) (hnz:∀t∈l,t.moved≠0) :
  Fn P Ae [xv,Pt b1,Pt b2] R [(b1,C 23 [lv]),(b2,C 86 [Pt hb])]
   (λv R' A=>R' = R∧∃A2,SO (xs.map (nmA l AQ)) v A2∧A = (b1,C 23 [lv]) :: (b2,C 86 [Pt hb]) :: A2):=by
 refine Fi λF=>?_
 refine z_3 ?_;refine jc (Bj hxv hxl) ?_;rintro cv R1 A1 _ ⟨hR,so,_⟩;subst hR;obtain⟨ca,cc,hcv⟩:=so.sln;refine Aw (λvs R' D'=>R' = R1∧∃A,SO (xs.map (nmA l AQ)) cv A∧D' = (b1,C 23 [lv]) :: (b2,C 86 [Pt hb]) :: (A ++ F)∧vs = [cv]) (λK1 h1=>?_) ?_
 ·refine Bh ⟨ca,cc,hcv⟩ (Aw (λvs R' D'=>R' = R1∧∃A,SO (xs.map (nmA l AQ)) cv A∧D' = (b1,C 23 [lv]) :: (b2,C 86 [Pt hb]) :: (A ++ F)∧vs = [cv]) (λK2 h2=>?_) ?_);rotate_left
  ·rintro e R2 D2 ⟨hR,A,so,hD,he⟩;subst hR;refine z_W ?_;clear hD;exact h1 _ _ _ ⟨rfl,A,so,rfl,rfl⟩
  refine Ab [(b1,C 23 [lv]),(b2,C 86 [Pt hb])] (G:=A1 ++ ([] ++ F)) (jlp (λm vs R' D'=>R' = R1∧∃(i:Nat) (A:Chs),i≤xs.length∧m = xs.length - i∧SO ((xs.take i).map (nmA l AQ) ++ xs.drop i) cv A∧D' = (b1,C 23 [lv]) :: (b2,C 86 [Pt hb]) :: (A ++ F)∧vs = [Pt b1,Pt b2,cv,cv,I xs.length,I i]) ⟨rfl,0,A1,ω,rfl,by simpa using so,rfl,rfl⟩ ?_);clear so;rintro m e R2 D2 K ⟨hR,i,A,hi,hmm,so,hD,he⟩ hK;subst hR;refine z_W ?_;clear hD;refine jlt (jif (λhc2=>?_) (λhc2=>?_));rotate_left
  ·have hc2:=z_g hc2;rw[RX ω,SU ω,SP] at so;exact h2 _ _ _ ⟨rfl,A,so,rfl,rfl⟩
  have hc2:i < xs.length:=by have:=z_f hc2;omega
  have hmem:=RZ hc2;obtain⟨x,hx,hxm⟩:=hc _ hmem;have hlen:((xs.take i).map (nmA l AQ) ++ xs.drop i).length = xs.length:=by simp;omega
  have hgi:((xs.take i).map (nmA l AQ) ++ xs.drop i)[i]'(ω) = xs[i]:=by
   rw[Sc (by simp;omega)];simp only[Ry,Rk,TR];congr 1;omega
  have hst:∀y,((xs.take i).map (nmA l AQ) ++ xs.drop i).set i y = (xs.take i).map (nmA l AQ) ++ y :: xs.drop (i + 1):=λy=>by
   rw[Su _ _ (by simp;omega),SH hc2];simp only[Ry,Rk];rw[show i - min i xs.length = 0 from ω];rfl
  have hnext:∀(y:Int) (A3:Chs),y = nmA l AQ xs[i]→SO ((xs.take i).map (nmA l AQ) ++ y :: xs.drop (i + 1)) cv A3→SO ((xs.take (i + 1)).map (nmA l AQ) ++ xs.drop (i + 1)) cv A3:=λy A3 hy so=>by
   rw[RW hc2,S8,RY];subst hy;exact so
  refine Aw (λvs R' D'=>R' = R2∧∃A,SO ((xs.take (i + 1)).map (nmA l AQ) ++ xs.drop (i + 1)) cv A∧D' = (b1,C 23 [lv]) :: (b2,C 86 [Pt hb]) :: (A ++ F)∧vs = [Pt b1,Pt b2,cv,cv,I xs.length,I i]) (λK3 h3=>?_) ?_;rotate_left
  ·rintro e R3 D3 ⟨hR,A3,so3,hD,he⟩;subst hR;refine z_W ?_;clear hD;exact jad (hK (xs.length - (i + 1)) _ _ _ ω ⟨rfl,i + 1,A3,ω,rfl,so3,rfl,rfl⟩)
  refine Aw (λvs R' D'=>R' = R2∧∃A,SO ((xs.take (i + 1)).map (nmA l AQ) ++ xs.drop (i + 1)) cv A∧D' = (b1,C 23 [lv]) :: (b2,C 86 [Pt hb]) :: (A ++ F)∧vs = [Pt b1,Pt b2,cv,cv,I xs.length,I i]) (λK4 h4=>?_) ?_;rotate_left
  ·rintro e R3 D3 ⟨hR,A3,so3,hD,he⟩;subst hR;refine z_W ?_;clear hD;exact h3 _ _ _ ⟨rfl,A3,so3,rfl,rfl⟩
  refine O8 so ω ?_;rw[hgi];refine jl rfl (jl rfl (jrp (OK hv hx) (As (jl rfl jev) (jrp (Gw x hlv hll hinc) (jex rfl (jex rfl (Ab A (G:=(b1,C 23 [lv]) :: (b2,C 86 [Pt hb]) :: F) (PW so ω λA2 so2=>?_))))))));rw[hst] at so2;refine jeq (jif (λg=>?_) (λg=>?_))
  ·have g:xs[i] = 0:=by simpa using g
   have hl2:((xs.take i).map (nmA l AQ) ++ (lbI AQ x:Int) :: xs.drop (i + 1)).length = xs.length:=by simp;omega
   refine PW so2 ω λA3 so3=>?_
   rw[Su _ _ (by simp;omega)] at so3;simp only[Ry,Rk] at so3;rw[show i - min i xs.length = 0 from ω] at so3;refine Ab [(b1,C 23 [lv]),(b2,C 86 [Pt hb])] (G:=A3 ++ F) (h4 _ _ _ ⟨rfl,A3,hnext (-1) A3 (by unfold nmA;rw[if_pos g]) so3,rfl,rfl⟩)
  ·have g:xs[i]≠0:=by simpa using g
   have hx0:x≠0:=λe=>by
    subst e;unfold now at hx;rw[if_neg g] at hx;obtain⟨t,ht,e⟩:=Option.map_eq_some_iff.1 hx;exact hnz t (BX ht).1 e
   have hxin:x∈AQ:=(hm x).2 (hxm.resolve_left hx0);refine Ab [(b1,C 23 [lv]),(b2,C 86 [Pt hb])] (G:=A2 ++ F) (h4 _ _ _ ⟨rfl,A2,hnext _ A2 (by unfold nmA;rw[if_neg g,hx];exact G0 hinc hxin) so2,rfl,rfl⟩)
 rintro e R2 D2 ⟨hR,A,so,hD,he⟩;subst hR;refine z_W ?_;clear hD;exact AV (RM.le.refl _) ⟨rfl,A,so,rfl⟩
end st
end Go.Lf
end
section
namespace Sm
structure PG where
 nodes:List (List Int × List Int)
 AD:List (List Int)
 pinned:List Int
end Sm
namespace Go.Lf
open Go Sm
section rules
variable {R:RM} {D:Chs}
theorem jci {ι:Type} {lv:List Nat} {B:(List Value→M)→M} {K:Env→M} (V:ι→List Value) (E:ι→Chs) (p:RM→ι→Prop)
  (H1:∀K' : List Value→M,(∀R' i,p R' i→J R' (E i) (K' (V i)))→J R D (B K')) (H2:∀e R' i,p R' i→lv.map e = V i→J R' (E i) (K e)):J R D (CUT lv B K):=
 Aw (λvs R' D'=>∃i,p R' i∧D' = E i∧vs = V i) (λK' h=>H1 K' λ_ i hp=>h _ _ _ ⟨i,hp,rfl,rfl⟩) λe R' D' ⟨i,hp,h2,h3⟩=>by
  rw[h2];exact H2 e R' i hp h3
theorem jli {ι:Type} {lv:List Nat} {B:(List Value→M)→Env→M} {vs:List Value} (n:ι→Nat) (V:ι→List Value) (E:ι→Chs) (p:RM→ι→Prop) (i:ι) (h0:p R i) (hv:vs = V i) (hD:D = E i)
  (H:∀K e R' i,p R' i→lv.map e = V i→(∀R'' i',n i' < n i→p R'' i'→J R'' (E i') (K (V i')))→J R' (E i) (B K e)):J R D (LP lv B vs):=by
 subst hv;refine jlp (λm vs R' D'=>∃i,p R' i∧D' = E i∧vs = V i∧m = n i) (n:=n i) ⟨i,h0,hD,rfl,rfl⟩ ?_;rintro m e R1 D1 K ⟨i,hp,h2,h3,h4⟩ hK;rw[h2];exact H K e R1 i hp h3 λR'' i' hn hp'=>hK (n i') _ _ _ ω ⟨i',hp',rfl,rfl,rfl⟩
end rules
def NdC (R:RM) (row:List Value) (n:List Int × List Int):Prop:=∃rv nv,row = [rv,nv]∧Ai R rv n.1∧Ai R nv n.2
theorem NdC.le {R R' : RM} {row:List Value} {n:List Int × List Int} (h:R.le R') (H:NdC R row n):NdC R' row n:=by
 obtain⟨a,b,h1,h2,h3⟩:=H;exact⟨a,b,h1,h2.le h,h3.le h⟩
theorem NdC.len {R:RM} {row:List Value} {n:List Int × List Int} (H:NdC R row n):row.length = 2:=by obtain⟨a,b,rfl,_⟩:=H;rfl
def RwC (R:RM) (row:List Value) (l:List Int):Prop:=∃v,row = [v]∧Ai R v l
theorem RwC.le {R R' : RM} {row:List Value} {l:List Int} (h:R.le R') (H:RwC R row l):RwC R' row l:=by
 obtain⟨a,h1,h2⟩:=H;exact⟨a,h1,h2.le h⟩
theorem RwC.len {R:RM} {row:List Value} {l:List Int} (H:RwC R row l):row.length = 1:=by obtain⟨a,rfl,_⟩:=H;rfl
def GrF (R:RM) (v:Value) (g:PG):Prop:=∃r1 r2 nv rv pv,v = .agg #[nv,rv,pv]∧Rw (NdC R) r1 g.nodes∧Fz R nv 2 r1.length r1.flatten∧Rw (RwC R) r2 g.AD∧Fz R rv 1 r2.length r2.flatten∧Ai R pv g.pinned
theorem GrF.le {R R' : RM} {v:Value} {g:PG} (h:R.le R') (H:GrF R v g):GrF R' v g:=by
 obtain⟨r1,r2,nv,rv,pv,h1,h2,h3,h4,h5,h6⟩:=H;exact⟨r1,r2,nv,rv,pv,h1,h2.mono λ_ _=>NdC.le h,h3.le h,h4.mono λ_ _=>RwC.le h,h5.le h,h6.le h⟩
def ndP (l:List AF) (AQ:List Int) (a:Int):List Int × List Int:=match Al l a with
 | some t=>(t.refs.map (nmA l AQ),t.nums)
 | none=>([],[])
def Pd (s:Sm.AU) (l:List AF) (AQ:List Int):PG:=⟨AQ.map (ndP l AQ),s.A9.map λt=>t.AD.map (nmA l AQ),s.AN.map (nmA l AQ)⟩
def Ot (r:Option (List AF × List Int)) (s:Sm.AU) (v:Value) (R:RM):Prop:=match r with
 | none=>v = .tuple #[.agg #[SN,SN,SN],.bool false]
 | some (l,met)=>∃gv,GrF R gv (Pd s l (AR met))∧v = .tuple #[gv,.bool true]
section st
variable {R:RM} {s:Sm.AU} {wv tv mv thv ov pv:Value} {l:List AF} {met:List Int}
theorem HpV.le {R R' : RM} {hb mb:Nat} {v:Value} (h:R.le R') (H:HpV R s wv tv mv thv ov pv l met hb mb v):HpV R' s wv tv mv thv ov pv l met hb mb v:=by
 obtain⟨o,h1,h2,h3,h4⟩:=H;exact⟨o,h _ _ h1,h _ _ h2,h3.le h,h4.le h⟩
theorem Mc {D:Chs} {k:Value→M} {hb mb:Nat} {v:Value} {a:Int} {t:AF} (hv:HpV R s wv tv mv thv ov pv l met hb mb v) (ht:Al l a = some t) (H:∀ra rc na nc,Ai R (.slice ra t.refs.length rc) t.refs→Ai R (.slice na t.nums.length nc) t.nums→J R D (k (.agg (eTh t (.slice ra t.refs.length rc) (.slice na t.nums.length nc)).toArray))):J R D (X P (Instr.lookup 73 (.map (some mb)) (I a) false) k):=by
 obtain⟨o,h1,h2,h3,h4⟩:=hv;refine @MU _ _ _ mb o l a false (Li.fz h2) h3 (λe=>?_) (λt' v e hv=>?_)
 ·rw[ht] at e;cases e
 ·rw[ht] at e;cases e;obtain⟨rv,nv,rfl,h5,h6⟩:=hv;obtain⟨ra,rc,rfl⟩:=h5.sl;obtain⟨na,nc,rfl⟩:=h6.sl;exact H _ _ _ _ h5 h6
theorem KX {met:List Int} (h:met.Nodup):(AR met).Pairwise (· < ·):=(DA h).1
theorem SO.frz {l:List Int} {v:Value} {A:Chs} (so:SO l v A):∃a c,v = .slice a l.length c:=by
 obtain⟨a,c,h⟩:=so.sln;exact⟨a,c,h⟩
set_option maxHeartbeats 2000000 in
set_option maxRecDepth 8000 in
theorem HN (h:SF R s wv tv mv thv ov pv):Fn P EH [.agg (eSt s wv tv mv thv ov pv).toArray] R [] (λv R' A=>A = []∧Ot (CD s) s v R'):=by
 refine HB λF=>?_
 refine z_1 ?_;refine ja λsb=>AJ (b:=sb) λR0 hR0 hsb=>ja λg0=>Ce hsb (by exact z_n 13) rfl ?_
 have h:=h.le hR0;refine jc (A:=[]) (H7 h) ?_;rintro x R1 _ hR1 ⟨rfl,hq⟩;have h:=h.le hR1;have hsb:=hR1 _ _ hsb;have hR1:=hR0.trans hR1;clear hR0;cases hh:CD s with
 | none=>
  rw[hh] at hq;obtain rfl:x = _:=hq;refine ja λhk=>jS [.pointer none] (jl (v:=.pointer none) rfl (jxr (λw=>Pq w _ _) (Dv ?_)))
  refine jbd (cs:=[SN,SN,SN]) rfl rfl (jS [SN,SN,SN] (jla (l:=[SN,SN,SN]) (RQ rfl) rfl ?_));exact AV (A:=[]) hR1 ⟨rfl,rfl⟩
 | some q=>
  obtain⟨l,met⟩:=q;rw[hh] at hq;obtain⟨hb,mb,v,rfl,hv⟩:=hq;have hf:=JA hh;have hml:=hf.M.len;have hll:=(LG h hf.ths).1;obtain⟨hc1,hc2⟩:=hf.closed;have hnz:=hf.S.nz;have hinc:=KX hf.M.nd;have hmem:∀x,x∈AR met↔x∈met:=λx=>(DA hf.M.nd).2 x
  have hsl:(AR met).length = met.length:=by have:=Gn met [];simpa [AR] using this
  refine ja λhk=>jS [Pt hb] (jl (v:=Pt hb) rfl (jxr (λw=>QC w _ _ hb) (C9 (jl (v:=Pt hb) rfl ?_))))
  refine jc (A:=[]) (Md hv hf.M.nd ω) ?_;rintro sv R2 A2 _ ⟨hR2,so⟩;subst hR2;refine EE so λR3 hR3 hi=>?_
  have h:=h.le hR3;have hv:=hv.le hR3;have hsb:=hR3 _ _ hsb;have hR3:=hR1.trans hR3;clear hR1;obtain⟨sa,sc,rfl⟩:=hi.sl;refine ja λlb=>jS [.slice sa (AR met).length sc] (ja λgb=>?_)
  generalize hlv:Value.slice sa (AR met).length sc = lv at hi ⊢;have hpp:∀(R' : RM),R3.le R'→∃o,R' hb = some (C 99 (eHp s wv tv mv thv ov pv mb v))∧R' mb = some o∧MpT R' o l∧Ai R' v met:=λR' hR'=>hv.le hR'
  refine jci (λ_:Value × Chs × List (List Value)=>[Pt sb,Pt g0,.func (.func Ae) #[] #[Pt lb,Pt hk],Pt gb])
   (λi=>(gb,C 42 [i.1,SN,SN]) :: (lb,C 23 [lv]) :: (hk,C 86 [Pt hb]) :: (i.2.1 ++ ((g0,C 42 (cl z42)) :: ([] ++ F))))
   (λR' i=>R3.le R'∧Rw (NdC R') i.2.2 ((AR met).map (ndP l (AR met)))∧SW 94 2 i.2.2 i.1 i.2.1) (λK1 h1=>?_) ?_
  ·refine jl (v:=lv) rfl (Bh ⟨sa,sc,hlv.symm⟩ ?_);refine jci (λ_:Value × Chs × List (List Value)=>[Pt sb,Pt g0,.func (.func Ae) #[] #[Pt lb,Pt hk],Pt gb])
    (λi=>(gb,C 42 [i.1,SN,SN]) :: (lb,C 23 [lv]) :: (hk,C 86 [Pt hb]) :: (i.2.1 ++ ((g0,C 42 (cl z42)) :: ([] ++ F))))
    (λR' i=>R3.le R'∧Rw (NdC R') i.2.2 ((AR met).map (ndP l (AR met)))∧SW 94 2 i.2.2 i.1 i.2.1) (λK2 h2=>?_) ?_
   rotate_left
   ·rintro e R' i hp he;refine z_V ?_;exact h1 R' i hp
   refine jli (λi:Nat × Value × Chs × List (List Value)=>(AR met).length - i.1)
    (λi=>[Pt sb,Pt g0,Pt hk,.func (.func Ae) #[] #[Pt lb,Pt hk],Pt gb,lv,I (AR met).length,I i.1])
    (λi=>(gb,C 42 [i.2.1,SN,SN]) :: (lb,C 23 [lv]) :: (hk,C 86 [Pt hb]) :: (i.2.2.1 ++ ((g0,C 42 (cl z42)) :: ([] ++ F))))
    (λR' i=>R3.le R'∧i.1≤(AR met).length∧Rw (NdC R') i.2.2.2 (((AR met).take i.1).map (ndP l (AR met)))∧SW 94 2 i.2.2.2 i.2.1 i.2.2.1)
    (0,SN,[],[]) ⟨RM.le.refl _,σ,Rw.nil,.inl ⟨rfl,rfl,rfl⟩⟩ rfl rfl ?_
   rintro K e R4 ⟨k,nv,A1,rows⟩ ⟨hR4,hkl,hrw,so⟩ he hK;dsimp only at hkl hrw so he hK ⊢;refine z_V ?_;have hiL:=hi.le hR4;have hv4:=hv.le hR4;obtain⟨o,g1,-,-,-⟩:=hpp R4 hR4;refine jlt (jif (λc=>?_) (λc=>?_));rotate_left
   ·have c:=z_g c;rw[RX ω] at hrw;exact h2 R4 (nv,A1,rows) ⟨hR4,hrw,so⟩
   have c:k < (AR met).length:=by have:=z_f c;omega
   refine jci (λ_:Value × Chs × List (List Value)=>[Pt sb,Pt g0,Pt hk,.func (.func Ae) #[] #[Pt lb,Pt hk],Pt gb,lv,I (AR met).length,I k])
    (λi=>(gb,C 42 [i.1,SN,SN]) :: (lb,C 23 [lv]) :: (hk,C 86 [Pt hb]) :: (i.2.1 ++ ((g0,C 42 (cl z42)) :: ([] ++ F))))
    (λR' i=>R3.le R'∧Rw (NdC R') i.2.2 (((AR met).take (k + 1)).map (ndP l (AR met)))∧SW 94 2 i.2.2 i.1 i.2.1) (λK7 h7=>?_) ?_
   rotate_left
   ·rintro e R' i ⟨p1,p2,p3⟩ he;refine z_V ?_;exact jad (hK R' (k + 1,i) (by dsimp only;omega) ⟨p1,c,p2,p3⟩)
   refine jci (λ_:Value × Chs × List (List Value)=>[Pt sb,Pt g0,Pt hk,.func (.func Ae) #[] #[Pt lb,Pt hk],Pt gb,lv,I (AR met).length,I k])
    (λi=>(gb,C 42 [i.1,SN,SN]) :: (lb,C 23 [lv]) :: (hk,C 86 [Pt hb]) :: (i.2.1 ++ ((g0,C 42 (cl z42)) :: ([] ++ F))))
    (λR' i=>R3.le R'∧Rw (NdC R') i.2.2 (((AR met).take (k + 1)).map (ndP l (AR met)))∧SW 94 2 i.2.2 i.1 i.2.1) (λK9 h9=>?_) ?_
   rotate_left
   ·rintro e R' i hp he;refine z_V ?_;exact h7 R' i hp
   clear h7 hK h2 h1;have ham:(AR met)[k]∈met:=(hmem _).1 (RZ c);obtain⟨t,ht⟩:=hf.M.th _ ham;have htb:=(LG h hf.ths).2 t (BX ht).1;have fin:∀(xv cv:Value) (A6 A7:Chs),SO (t.refs.map (nmA l (AR met))) xv A6→SO t.nums cv A7→
     J R4 ((gb,C 42 [nv,SN,SN]) :: (lb,C 23 [lv]) :: (hk,C 86 [Pt hb]) :: (A7 ++ (A6 ++ (A1 ++ ((g0,C 42 (cl z42)) :: ([] ++ F))))))
      (BD (cl z94) [(0,1,xv),(1,1,cv)] λx75=>AND (L1 (Pt gb) λx=>EV x nv)<|BS 94 1 (ZR 1 z94) [(0,2,x75)] λx77=>AND (L1 (Pt gb) λx=>EV x nv)<|AP 94 2 48 (cl z94) nv x77 λx79=>FO 0 (Pt gb) λx80=>ST 1 x80 x79<|K9 [Pt sb,Pt g0,Pt hk,.func (.func Ae) #[] #[Pt lb,Pt hk],Pt gb,lv,I (AR met).length,I k]):=by
    intro xv cv A6 A7 so6 so7;refine Ab A7 (G:=(gb,C 42 [nv,SN,SN]) :: (lb,C 23 [lv]) :: (hk,C 86 [Pt hb]) :: (A6 ++ (A1 ++ ((g0,C 42 (cl z42)) :: ([] ++ F))))) (EE so7 λR5 hR5 hi7=>Ab A6 (G:=(gb,C 42 [nv,SN,SN]) :: (lb,C 23 [lv]) :: (hk,C 86 [Pt hb]) :: (A1 ++ ((g0,C 42 (cl z42)) :: ([] ++ F)))) (EE so6 λR6 hR6 hi6=>?_));obtain⟨xa,xc,rfl⟩:=hi6.sl;obtain⟨ca,cc,rfl⟩:=hi7.sl;refine jbd (cs:=[.slice xa (t.refs.map (nmA l (AR met))).length xc,.slice ca t.nums.length cc]) rfl rfl (As (jl (v:=nv) rfl jev) (jbs (cs:=[.slice xa (t.refs.map (nmA l (AR met))).length xc,.slice ca t.nums.length cc]) rfl rfl λbb=>As (jl (v:=nv) rfl jev) ?_));have hrl:=hrw.1;rw[Ry,Rk] at hrl;refine KO [[.slice xa (t.refs.map (nmA l (AR met))).length xc,.slice ca t.nums.length cc]] so rfl (hrw.all λ_ _=>NdC.len) (by intro r hr;rw[Ri.1 hr];rfl) rfl rfl rfl δ (by simp only[Rr,TC];omega) λv' A' so'=>?_
    obtain⟨va,vc,hv'⟩:=so'.sl;subst hv';refine jfo (jS ([.slice va (rows ++ [[Value.slice xa (t.refs.map (nmA l (AR met))).length xc,.slice ca t.nums.length cc]]).length vc,SN,SN]) ?_);refine Ab [(gb,C 42 [.slice va (rows ++ [[Value.slice xa (t.refs.map (nmA l (AR met))).length xc,.slice ca t.nums.length cc]]).length vc,SN,SN]),(lb,C 23 [lv]),(hk,C 86 [Pt hb])] (G:=A' ++ ((g0,C 42 (cl z42)) :: ([] ++ F))) ?_;refine h9 R6 (_,A',rows ++ [[Value.slice xa (t.refs.map (nmA l (AR met))).length xc,.slice ca t.nums.length cc]]) ⟨hR4.trans (hR5.trans hR6),?_,so'⟩;rw[RW c,S8];refine (hrw.mono λ_ _=>NdC.le (hR5.trans hR6)).app (Rw.one ⟨_,_,rfl,?_,?_⟩)
    ·unfold ndP;rw[ht];exact hi6
    ·unfold ndP;rw[ht];exact hi7.le hR6
   have hcr:=hc2 _ ham t ht;refine ER hiL ω ω ?_;simp only[RV];refine jfo (jl (v:=nv) rfl (jl (v:=Pt hb) rfl (jnc (jfo (jlr (v:=.map (some mb)) g1 rfl (jl (v:=Pt hb) rfl (jnc (jfo (jlr (v:=.map (some mb)) g1 rfl ?_)))))))));refine EM ?_ (Cr ?_)
   ·refine Mc hv4 ht λra rc na nc hr hn=>jfd (v:=.slice ra t.refs.length rc) rfl (As (jl (v:=nv) rfl jev) (As (jl (v:=Pt hb) rfl jev) (As (jlr (v:=.map (some mb)) g1 rfl jev) (EM ?_ (Cr ?_)))))
    ·refine FZ (by kernel_rfl) ?_;refine jc (A:=[(lb,C 23 [lv]),(hk,C 86 [Pt hb])]) (FJ hv4 hiL ω hinc hmem hr ω hcr hnz) ?_;rintro xv R5 A5 _ ⟨hR5,A6,so6,hA⟩;subst hR5 hA;refine As (jl (v:=nv) rfl jev) (As (jl (v:=Pt hb) rfl jev) (As (jlr (v:=.map (some mb)) g1 rfl jev) ?_));refine Mc hv4 ht λra rc na nc hr hn=>jfd (v:=.slice na t.nums.length nc) rfl (As (jl (v:=nv) rfl jev) ?_)
     refine jc (A:=[]) (Bj hn ω) ?_;rintro cv R7 A7 _ ⟨hR7,so7,_⟩;subst hR7;refine Ab [(gb,C 42 [nv,SN,SN]),(lb,C 23 [lv]),(hk,C 86 [Pt hb])] (G:=A7 ++ (A6 ++ (A1 ++ ((g0,C 42 (cl z42)) :: ([] ++ F))))) ?_;exact fin xv cv A6 A7 so6 so7
    ·refine Mc hv4 ht λra2 rc2 na2 nc2 hr2 hn2=>jfd (v:=.slice na2 t.nums.length nc2) rfl (As (jl (v:=nv) rfl jev) ?_)
     refine FZ (by kernel_rfl) ?_;refine jc (A:=[(lb,C 23 [lv]),(hk,C 86 [Pt hb])]) (FJ hv4 hiL ω hinc hmem hr ω hcr hnz) ?_;rintro xv R5 A5 _ ⟨hR5,A6,so6,hA⟩;subst hR5 hA;refine As (jl (v:=nv) rfl jev) ?_;refine jc (A:=[]) (Bj hn2 ω) ?_;rintro cv R7 A7 _ ⟨hR7,so7,_⟩;subst hR7;refine Ab [(gb,C 42 [nv,SN,SN]),(lb,C 23 [lv]),(hk,C 86 [Pt hb])] (G:=A7 ++ (A6 ++ (A1 ++ ((g0,C 42 (cl z42)) :: ([] ++ F))))) ?_;exact fin xv cv A6 A7 so6 so7
   ·refine Mc hv4 ht λra rc na nc hr hn=>jfd (v:=.slice na t.nums.length nc) rfl (As (jl (v:=nv) rfl jev) (As (jl (v:=Pt hb) rfl jev) (As (jlr (v:=.map (some mb)) g1 rfl jev) ?_)))
    refine Mc hv4 ht λra2 rc2 na2 nc2 hr2 hn2=>jfd (v:=.slice ra2 t.refs.length rc2) rfl (As (jl (v:=nv) rfl jev) ?_)
    refine FZ (by kernel_rfl) ?_;refine jc (A:=[(lb,C 23 [lv]),(hk,C 86 [Pt hb])]) (FJ hv4 hiL ω hinc hmem hr2 ω hcr hnz) ?_;rintro xv R5 A5 _ ⟨hR5,A6,so6,hA⟩;subst hR5 hA;refine As (jl (v:=nv) rfl jev) ?_;refine jc (A:=[]) (Bj hn ω) ?_;rintro cv R7 A7 _ ⟨hR7,so7,_⟩;subst hR7;refine Ab [(gb,C 42 [nv,SN,SN]),(lb,C 23 [lv]),(hk,C 86 [Pt hb])] (G:=A7 ++ (A6 ++ (A1 ++ ((g0,C 42 (cl z42)) :: ([] ++ F))))) ?_;exact fin xv cv A6 A7 so6 so7
  rintro e R4 ⟨nv,A1,rows1⟩ ⟨hR4,hrw1,so1⟩ he;dsimp only at hrw1 so1 ⊢;refine z_V ?_;obtain⟨na,nc,hnv⟩:=so1.sl;refine Ab A1 (G:=(gb,C 42 [nv,SN,SN]) :: (lb,C 23 [lv]) :: (hk,C 86 [Pt hb]) :: (g0,C 42 (cl z42)) :: ([] ++ F)) ?_;refine jfw so1 (hrw1.all λ_ _=>NdC.len) λR5 hR5 hfz=>?_
  have hrw1:=hrw1.mono λ_ _=>NdC.le hR5
  have hR5:=hR4.trans hR5;clear hR4 so1;refine jci (λ_:Value × Chs × List (List Value)=>[Pt sb,Pt g0,.func (.func Ae) #[] #[Pt lb,Pt hk],Pt gb])
   (λi=>(gb,C 42 [nv,i.1,SN]) :: (lb,C 23 [lv]) :: (hk,C 86 [Pt hb]) :: (i.2.1 ++ ((g0,C 42 (cl z42)) :: ([] ++ F))))
   (λR' i=>R5.le R'∧Rw (RwC R') i.2.2 (s.A9.map λt=>t.AD.map (nmA l (AR met)))∧SW 23 1 i.2.2 i.1 i.2.1) (λK1 h1=>?_) ?_
  ·have h5:=h.le hR5;obtain⟨ta,tc,htv⟩:=h5.c.th.sl;refine jfo (jlr (v:=thv) (hR5 _ _ hsb) rfl (Bh ⟨ta,tc,htv⟩ ?_));refine jci (λ_:Value × Chs × List (List Value)=>[Pt sb,Pt g0,.func (.func Ae) #[] #[Pt lb,Pt hk],Pt gb])
    (λi=>(gb,C 42 [nv,i.1,SN]) :: (lb,C 23 [lv]) :: (hk,C 86 [Pt hb]) :: (i.2.1 ++ ((g0,C 42 (cl z42)) :: ([] ++ F))))
    (λR' i=>R5.le R'∧Rw (RwC R') i.2.2 (s.A9.map λt=>t.AD.map (nmA l (AR met)))∧SW 23 1 i.2.2 i.1 i.2.1) (λK2 h2=>?_) ?_
   rotate_left
   ·rintro e R' i hp he;refine z_V ?_;exact h1 R' i hp
   refine jli (λi:Nat × Value × Chs × List (List Value)=>s.A9.length - i.1)
    (λi=>[Pt sb,Pt g0,.func (.func Ae) #[] #[Pt lb,Pt hk],Pt gb,thv,I s.A9.length,I i.1])
    (λi=>(gb,C 42 [nv,i.2.1,SN]) :: (lb,C 23 [lv]) :: (hk,C 86 [Pt hb]) :: (i.2.2.1 ++ ((g0,C 42 (cl z42)) :: ([] ++ F))))
    (λR' i=>R5.le R'∧i.1≤s.A9.length∧Rw (RwC R') i.2.2.2 ((s.A9.take i.1).map λt=>t.AD.map (nmA l (AR met)))∧SW 23 1 i.2.2.2 i.2.1 i.2.2.1)
    (0,SN,[],[]) ⟨RM.le.refl _,σ,Rw.nil,.inl ⟨rfl,rfl,rfl⟩⟩ rfl rfl ?_
   rintro K e R6 ⟨k,rv,A2,rows⟩ ⟨hR6,hkl,hrw,so⟩ he hK;dsimp only at hkl hrw so he hK ⊢;refine z_V ?_;have hR36:=hR5.trans hR6;have h6:=h.le hR36;refine jlt (jif (λc=>?_) (λc=>?_));rotate_left
   ·have c:=z_g c;rw[RX ω] at hrw;exact h2 R6 (rv,A2,rows) ⟨hR6,hrw,so⟩
   have c:k < s.A9.length:=by have:=z_f c;omega
   have htl:=h.b.rl _ (RZ c);have hn1:=h.b.n1;refine jtr h6.c.th c λb o ty cs rtv hrt hb2 ho hrow=>Ce hb2 ho hrow (ja λjb=>?_)
   obtain⟨ra,rc,rfl⟩:=hrt.sl;refine jS ([.slice ra (s.A9[k]).AD.length rc,I (s.A9[k]).next,.bool (s.A9[k]).busy,I (s.A9[k]).BL]) ?_;refine jfo (jl (v:=rv) rfl (jfo (jl (v:=.slice ra (s.A9[k]).AD.length rc) rfl ?_)));refine FZ (by kernel_rfl) ?_;refine jc (A:=[(lb,C 23 [lv]),(hk,C 86 [Pt hb])]) (FJ (hv.le hR36) (hi.le hR36) ω hinc hmem hrt ω (λa ha=>hc1 a (S9 _ (List.mem_flatMap.2 ⟨_,RZ c,ha⟩))) hnz) ?_;rintro xv R7 A5 _ ⟨hR7,A6,so6,hA⟩;subst hR7 hA;refine Ab [(jb,C 83 [.slice ra (s.A9[k]).AD.length rc,I (s.A9[k]).next,.bool (s.A9[k]).busy,I (s.A9[k]).BL]),(gb,C 42 [nv,rv,SN]),(lb,C 23 [lv]),(hk,C 86 [Pt hb])] (G:=A6 ++ (A2 ++ ((g0,C 42 (cl z42)) :: ([] ++ F)))) (BH (Bq (D':=(gb,C 42 [nv,rv,SN]) :: (lb,C 23 [lv]) :: (hk,C 86 [Pt hb]) :: (A6 ++ (A2 ++ ((g0,C 42 (cl z42)) :: ([] ++ F))))) (SJ _) ?_));refine Ab A6 (G:=(gb,C 42 [nv,rv,SN]) :: (lb,C 23 [lv]) :: (hk,C 86 [Pt hb]) :: (A2 ++ ((g0,C 42 (cl z42)) :: ([] ++ F)))) ?_;refine EE so6 λR8 hR8 hi8=>?_
   obtain⟨xa,xc,rfl⟩:=hi8.sl;refine As (jl (v:=rv) rfl jev) (jbs (cs:=[.slice xa ((s.A9[k]).AD.map (nmA l (AR met))).length xc]) rfl rfl λbb=>As (jl (v:=rv) rfl jev) ?_);have hrl:=hrw.1;rw[Ry,Rk] at hrl;refine KO [[.slice xa ((s.A9[k]).AD.map (nmA l (AR met))).length xc]] so rfl (hrw.all λ_ _=>RwC.len) (by intro r hr;rw[Ri.1 hr];rfl) rfl rfl rfl δ (by simp only[Rr,TC];omega) λv' A' so'=>?_
   obtain⟨va,vc,hv'⟩:=so'.sl;subst hv';refine jfo (jS ([nv,.slice va (rows ++ [[Value.slice xa ((s.A9[k]).AD.map (nmA l (AR met))).length xc]]).length vc,SN]) (jad ?_));refine Ab [(gb,C 42 [nv,.slice va (rows ++ [[Value.slice xa ((s.A9[k]).AD.map (nmA l (AR met))).length xc]]).length vc,SN]),(lb,C 23 [lv]),(hk,C 86 [Pt hb])] (G:=A' ++ ((g0,C 42 (cl z42)) :: ([] ++ F))) ?_;refine hK R8 (k + 1,_,A',rows ++ [[Value.slice xa ((s.A9[k]).AD.map (nmA l (AR met))).length xc]]) (by dsimp only;omega) ⟨hR6.trans hR8,c,?_,so'⟩;rw[RW c,S8];exact (hrw.mono λ_ _=>RwC.le hR8).app (Rw.one ⟨_,rfl,hi8⟩)
  rintro e R6 ⟨rv,A2,rows2⟩ ⟨hR6,hrw2,so2⟩ he;dsimp only at hrw2 so2 ⊢;refine z_V ?_;obtain⟨ra,rc,hrv⟩:=so2.sl;refine Ab A2 (G:=(gb,C 42 [nv,rv,SN]) :: (lb,C 23 [lv]) :: (hk,C 86 [Pt hb]) :: (g0,C 42 (cl z42)) :: ([] ++ F)) ?_;refine jfw so2 (hrw2.all λ_ _=>RwC.len) λR7 hR7 hfz2=>?_
  have hrw2:=hrw2.mono λ_ _=>RwC.le hR7
  have hR7:=hR6.trans hR7;have hR37:=hR5.trans hR7;have h7:=h.le hR37;have hpl:=h.b.pl;obtain⟨pa,pc,rfl⟩:=h7.c.p.sl;refine jfo (jlr (v:=.slice pa s.AN.length pc) (hR37 _ _ hsb) rfl ?_);refine FZ (by kernel_rfl) ?_;refine jc (A:=[(lb,C 23 [lv]),(hk,C 86 [Pt hb])]) (FJ (hv.le hR37) (hi.le hR37) ω hinc hmem h7.c.p ω (λa ha=>hc1 a (SD _ ha)) hnz) ?_;rintro xv R8 A5 _ ⟨hR8,A6,so6,hA⟩;subst hR8 hA;refine Ab [(gb,C 42 [nv,rv,SN]),(g0,C 42 (cl z42)),(lb,C 23 [lv]),(hk,C 86 [Pt hb])] (G:=A6 ++ ([] ++ F)) ?_;refine Ab A6 (G:=[(gb,C 42 [nv,rv,SN]),(g0,C 42 (cl z42)),(lb,C 23 [lv]),(hk,C 86 [Pt hb])] ++ ([] ++ F)) ?_;refine EE so6 λR9 hR9 hi9=>?_
  obtain⟨xa,xc,rfl⟩:=hi9.sl;subst hnv hrv;refine jfo (jS [.slice na rows1.length nc,.slice ra rows2.length rc,.slice xa (s.AN.map (nmA l (AR met))).length xc] ?_);refine jla (l:=[.slice na rows1.length nc,.slice ra rows2.length rc,.slice xa (s.AN.map (nmA l (AR met))).length xc]) (RQ rfl) rfl ?_;refine jS [.slice na rows1.length nc,.slice ra rows2.length rc,.slice xa (s.AN.map (nmA l (AR met))).length xc] ?_;refine jla (l:=[.slice na rows1.length nc,.slice ra rows2.length rc,.slice xa (s.AN.map (nmA l (AR met))).length xc]) (RQ rfl) rfl ?_;refine AV (A:=[]) (hR3.trans (hR37.trans hR9)) ⟨rfl,_,⟨rows1,rows2,_,_,_,rfl,hrw1.mono λ_ _=>NdC.le (hR7.trans hR9),hfz.le (hR7.trans hR9),hrw2.mono λ_ _=>RwC.le hR9,hfz2.le hR9,hi9⟩,rfl⟩
end st
end Go.Lf
end
section
namespace Sm
open Go.Lf
theorem HpF.tp {s:AU} {l:List AF} {met:List Int} (hf:HpF s l met):∀t∈l,∃k:Nat,∃h:k < s.AB.length,AI t.at_ = k∧t.at_ + AA t.sh≤(s.AB[k]).top:=by
 intro t ht;have h1:=hf.ths;unfold DJ at h1;split at h1;rotate_left
 ·cases h1
 unfold B7 at h1;obtain⟨g1,g2,g3,k,hk,g4,g5,g6⟩:=(Di h1).2 t ht;rw[TF] at hk;refine⟨k + 1,ω,?_,?_⟩
 ·unfold AI;rw[if_neg ω];omega
 ·rw[List.getElem_tail] at g5;exact g5
end Sm
namespace Go.Lf
open Go Sm
end Go.Lf
end
section
namespace Sm
open Go.Lf
theorem Gg {w:List Int}:∀{n:Nat} {a top:Int} {l:List AF},AX w n a top = some l→a≤top→(a = top∨∃y∈l,y.at_ = a)∧∀x∈l,x.at_ + AA x.sh = top∨∃y∈l,y.at_ = x.at_ + AA x.sh
 | 0,a,top,l,h,hle=>by
  unfold AX at h;split at h
  ·cases h
  ·cases h;exact⟨.inl ω,λt ht=>by cases ht⟩
 | n + 1,a,top,l,h,hle=>by
  unfold AX at h;split at h;rotate_left
  ·cases h;exact⟨.inl ω,λt ht=>by cases ht⟩
  dsimp only at h;split at h;rotate_left
  ·cases h
  rename_i h1 h2;simp only[z_b,z_d] at h2;have ha:(AZ w a).1.at_ = a:=by
   have:=h2.1;unfold AZ at this ⊢;split at this
   ·rename_i c1;rw[if_pos c1];dsimp only at this ⊢;split at this
    ·rename_i c2;rw[if_pos c2]
    ·cases this
   ·cases this
  cases ht:AX w n (a + AA (AZ w a).1.sh) top with
  | none=>rw[ht] at h;cases h
  | some l2=>
   rw[ht] at h;cases h;obtain⟨i1,i2⟩:=Gg ht h2.2;refine⟨.inr ⟨_,T6,ha⟩,λx hx=>?_⟩;rcases Rf.1 hx with rfl | hx
   ·rw[ha];exact i1.imp id λ⟨y,h1,h2⟩=>⟨y,Rx _ h1,h2⟩
   ·exact (i2 x hx).imp id λ⟨y,h1,h2⟩=>⟨y,Rx _ h1,h2⟩
theorem ID {w:List Int}:∀{t:List Rg} {r:Nat} {l:List AF},Ax w r t = some l→(∀x∈l,(∃k:Nat,∃h:k < t.length,x.at_ / 16 = r + k∧x.at_ + AA x.sh = (t[k]).top)∨∃y∈l,y.at_ = x.at_ + AA x.sh)∧∀(k:Nat) (h:k < t.length),(t[k]).top = 16 * (r + k)∨∃y∈l,y.at_ = 16 * (r + k)
 | [],r,l,h=>by cases h;exact⟨λt ht=>(by cases ht),λk h=>absurd h σ⟩
 | x :: t,r,l,h=>by
  unfold Ax at h;cases h1:Ap w r x.top with
  | none=>rw[h1] at h;cases h
  | some a=>
   rw[h1] at h;dsimp only at h;cases h2:Ax w (r + 1) t with
   | none=>rw[h2] at h;cases h
   | some b=>
    rw[h2] at h;cases h;obtain⟨j1,j2⟩:=ID h2;have h3:=Ix h1;unfold Ap at h1;split at h1;rotate_left
    ·cases h1
    rename_i c;simp only[z_b,z_d] at c;obtain⟨⟨⟨⟨c1,c2⟩,c3⟩,c4⟩,c5⟩:=c;have:(r:Int) < 12:=by
     unfold Ag at c1;simp only[z_b,z_d] at c1;omega
    have hb:=EN ω this;rw[hb] at h1 c4 c5;obtain⟨i1,i2⟩:=Gg h1 c4;refine⟨λy hy=>?_,λk hk=>?_⟩
    ·rcases Rq.1 hy with hy | hy
     ·rcases i2 y hy with e | ⟨z,z1,z2⟩
      ·have:=h3.2 y hy;exact .inl ⟨0,σ,ω,by simpa using e⟩
      ·exact .inr ⟨z,S9 _ z1,z2⟩
     ·rcases j1 y hy with ⟨k,hk,e1,e2⟩ | ⟨z,z1,z2⟩
      ·exact .inl ⟨k + 1,by simp;omega,ω,by simpa using e2⟩
      ·exact .inr ⟨z,SD _ z1,z2⟩
    ·cases k with
     | zero=>
      rcases i1 with e | ⟨z,z1,z2⟩
      ·exact .inl (by simp only[List.getElem_cons_zero];omega)
      ·exact .inr ⟨z,S9 _ z1,ω⟩
     | succ k=>
      rcases j2 k (by simpa using hk) with e | ⟨z,z1,z2⟩
      ·exact .inl (by simp only[Sy];omega)
      ·exact .inr ⟨z,SD _ z1,ω⟩
theorem Jr {w:List Int} {x:AF} (h:AZ w x.at_ = (x,true)):AA x.sh = sz w x.at_∧(AT (wv w (x.at_ + 1))).2 = true∧x = thg w x.at_:=by
 have h0:16≤x.at_:=by
  unfold AZ at h;split at h
  ·rename_i c;exact (Dc c).1
  ·cases h
 have e:wv w (x.at_ + 1) = w.getD (x.at_.toNat + 1) 0:=by
  unfold wv gv;rw[show (x.at_ + 1).toNat = x.at_.toNat + 1 from ω]
 unfold AZ at h;split at h;rotate_left
 ·cases h
 dsimp only at h;split at h;rotate_left
 ·cases h
 rename_i c1 c2;rw[z_b] at c2;have h1:=congrArg Prod.fst h;dsimp only at h1;have hs:x.sh = shp w x.at_:=by rw[← h1];unfold shp;rw[e]
 refine⟨by unfold sz;rw[hs],by rw[e];exact c2.1,?_⟩;rw[← h1];unfold thg shp;simp only[e];rfl
def bgs (l:List AF) (a:Int):Prop:=∃t∈l,t.at_ = a
theorem Mw {s:AU} {l:List AF} (h:DJ s = some l):Geo s.AE s.AB (bgs l)∧Thn s.AE (bgs l) l∧B7 s = some l:=by
 unfold DJ at h;split at h;rotate_left
 ·cases h
 rename_i hf;unfold F2 at hf;simp only[z_b,beq_iff_eq] at hf;obtain⟨⟨⟨f1,f2⟩,f3⟩,f4⟩:=hf;have T:=BZ.1 f2;have hth:=h;unfold B7 at h;obtain⟨a1,a2⟩:=Di h;obtain⟨c1,c2⟩:=ID h;have n0:=T.n0;unfold Ag at f1;simp only[z_b,z_d,beq_iff_eq] at f1;have hrv:∀(k:Nat) (hk:k < s.AB.tail.length),rv s.AB (1 + (k:Int)) = s.AB.tail[k]:=λk hk=>by
  have:=Gf hk;rw[this];congr 1
 have hnd:=Ik a1 λx hx=>(a2 x hx).2.1
 refine⟨⟨ω,T,?_,?_,?_,?_⟩,⟨λx hx=>⟨⟨x,hx,rfl⟩,(Jr (a2 x hx).2.2.1).2.2⟩,?_⟩,hth⟩
 ·rintro a ⟨x,hx,rfl⟩;obtain⟨g1,g2,g3,k,hk,g4,g5,g6⟩:=a2 x hx;obtain⟨e1,e2,_⟩:=Jr g3;refine⟨ω,?_,e2⟩;rw[← e1,g4,show ((1:Nat):Int) + k = 1 + (k:Int) from rfl,hrv k hk];exact g5
 ·rintro a ⟨x,hx,rfl⟩;obtain⟨e1,_,_⟩:=Jr (a2 x hx).2.2.1;rw[← e1];rcases c1 x hx with ⟨k,hk,g4,g5⟩ | ⟨y,y1,y2⟩
  ·left;rw[g4,show ((1:Nat):Int) + k = 1 + (k:Int) from rfl,hrv k hk];exact g5
  ·exact .inr ⟨y,y1,y2⟩
 ·intro r r0 r1;obtain⟨k,rfl⟩:∃k:Nat,r = 1 + (k:Int):=⟨(r - 1).toNat,ω⟩;have hk:k < s.AB.tail.length:=by rw[TF];omega
  rw[hrv k hk];rcases c2 k hk with e | ⟨y,y1,y2⟩
  ·exact .inl ω
  ·exact .inr ⟨y,y1,ω⟩
 ·rintro a b ⟨x,hx,rfl⟩ ⟨y,hy,rfl⟩ hlt;obtain⟨e1,_,_⟩:=Jr (a2 x hx).2.2.1;rw[← e1];obtain⟨i,hi,rfl⟩:=S5 hx;obtain⟨j,hj,rfl⟩:=S5 hy;rw[T5] at a1;by_cases c:i < j
  ·exact a1 i j hi hj c
  ·by_cases c' : i = j
   ·subst c';omega
   ·have:=a1 j i hj hi ω;have:=(a2 _ (RZ hj)).2.1;omega
 ·rintro a ⟨x,hx,rfl⟩;rw[← (Jr (a2 x hx).2.2.1).2.2];exact hx
end Sm
end
section
namespace Go.Lf
open Go Sm
section
variable {R:RM} {D:Chs}
end
section st
variable {R:RM} {s:Sm.AU} {wv tv mv thv ov pv:Value}
end st
end Go.Lf
end
section
namespace Sm
open Go.Lf
def nxt (AN tops:List Int) (n:Int):Nat→Nat→Nat
 | 0,r=>r
 | f + 1,r=>if r < tops.length∧(CY AN r = true∨AG r + 16 < tops.getD r 0 + n) then nxt AN tops n f (r + 1) else r
def IN (l:List AF) (a:Int):Int:=match Al l a with | some t=>AA t.sh | none=>2
def Ng (AN:List Int) (l:List AF):List Int→List Int→Nat→Option (List Int × List Int)
 | [],tops,_=>some ([],tops)
 | a :: rest,tops,r=>if CY AN (AI a) = true then (Ng AN l rest tops r).map λq=>(a :: q.1,q.2) else
  if nxt AN tops (IN l a) (tops.length + 1) r = tops.length then none else
  (Ng AN l rest (tops.set (nxt AN tops (IN l a) (tops.length + 1) r) (tops.getD (nxt AN tops (IN l a) (tops.length + 1) r) 0 + IN l a)) (nxt AN tops (IN l a) (tops.length + 1) r)).map λq=>(tops.getD (nxt AN tops (IN l a) (tops.length + 1) r) 0 :: q.1,q.2)
def Rel (tops:List Int) (t:List Rg):Prop:=tops.length = t.length∧∀q:Nat,1≤q→q < t.length→tops.getD q 0 = (rv t q).top
def Qs (AN:List Int) (r:Int) (top:Int):Rg:=if AG r < top∨CY AN r = true then ⟨3,-1,top,top,0⟩ else EB r
def PU:List Int→Int→List Int→List Int
 | w,_,[]=>w
 | w,a,v :: c=>PU (Ak w a v) (a + 1) c
def plc (l:List AF) (AQ to:List Int) (v:Int):Int:=match now l v with
 | some u=>if u∈AQ then to.getD (AQ.idxOf u) 0 else 0
 | none=>0
def KA (w:List Int) (bl:List (Int × List Int)):List Int:=bl.foldl (λw b=>PU w b.1 b.2) w
def inB (b:Int × List Int) (x:Int):Prop:=b.1≤x∧x < b.1 + b.2.length
def Od (l:List AF) (AQ to:List Int) (a d:Int):Int × List Int:=(d,match Al l a with
 | some t=>d :: Au t.sh :: (t.refs.map (plc l AQ to) ++ t.nums)
 | none=>[])
def PM (x:AF):Int × List Int:=(x.at_,x.at_ :: Au x.sh :: (List.replicate x.refs.length 0 ++ x.nums))
def Q5 (s:AU):List Int:=(List.range s.AB.length).map λ(r:Nat)=>if CY s.AN r = true then (rv s.AB r).top else AG r
structure Qf (s s' : AU) (l:List AF) (AQ to tops:List Int):Prop where
 st:LI s = some s'
 ld:Ng s.AN l AQ (Q5 s) 1 = some (to,tops)
 wd:s'.AE = KA (KA (List.replicate s.AE.length 0) ((l.filter λx=>CY s.AN (AI x.at_)).map PM)) ((AQ.zip to).map λp=>Od l AQ to p.1 p.2)
 tl:Rel tops s'.AB
 tn:s'.AB.length = s.AB.length
 e0:rv s'.AB 0 = DZ
 rw_:∀q:Int,1≤q→q < s.AB.length→rv s'.AB q = Qs s.AN q (rv s'.AB q).top
 th:He l AQ to s.A9 = some s'.A9
 eq:s' = ⟨s'.AE,s'.AB,List.replicate s.AE.length false,0,false,false,s.C5,0,s'.A9,[],s.AN,s.C4,s.Cl + 1⟩
 hlen:to.length = AQ.length
 hd:((AQ.zip to).map λp=>Od l AQ to p.1 p.2).Pairwise (λb c=>∀x,¬ (inB b x∧inB c x))
 dd:((l.filter λx=>CY s.AN (AI x.at_)).map PM).Pairwise (λb c=>∀x,¬ (inB b x∧inB c x))
 rg:∀p∈AQ.zip to,(CY s.AN (p.1 / 16) = true∧p.2 = p.1)∨(CY s.AN (p.1 / 16) = false∧CY s.AN (p.2 / 16) = false)
 rn:∀p∈AQ.zip to,16≤p.2∧∀t,Al l p.1 = some t→p.2 + (2 + t.refs.length + t.nums.length:Nat)≤s.AE.length∧p.2 + (2 + t.refs.length + t.nums.length:Nat)≤16 * (p.2 / 16) + 16
 gs:∃f B',Lr f s'.AB B'∧(∀b,(bgs l b∧CY s.AN (b / 16) = true)→B' b∧f b = shp s.AE b)∧(∀b,B' b→(bgs l b∧CY s.AN (b / 16) = true)∨(b∈to∧CY s.AN (b / 16) = false))∧∀p∈AQ.zip to,B' p.2∧f p.2 = shp s.AE p.1∧(CY s.AN (p.1 / 16) = true→p.2 = p.1)
end Sm
end
section
namespace Go.Lf
open Go Sm
theorem CZ {R:RM} {b t n w cap:Nat} {cells sp:List Value} (hb:R b = some (C t (cells ++ sp))) (hl:cells.length = n * w) (hc:n≤cap):Fz R (S0 b n cap) w n cells:=
 .inr ⟨b,0,cap,t,_,rfl,hb,by rw[Rc,hl];omega,by rw[TG,← hl,SC (z_n _),RX (z_n _)],hc⟩
def QFd (r:Option Sm.AU) (v:Value) (R:RM):Prop:=match r with
 | none=>v = .tuple #[z28,.bool false]
 | some s'=>∃wv tv mv thv ov pv,StC R s' wv tv mv thv ov pv∧RgZ R tv s'.AB∧v = .tuple #[.agg (eSt s' wv tv mv thv ov pv).toArray,.bool true]
section st
variable {R:RM} {s:Sm.AU} {wv tv mv thv ov pv:Value}
end st
end Go.Lf
end
section
namespace Sm
open Go.Lf
end Sm
namespace Go.Lf
open Go Sm
theorem NA:P.underlying 144 = some (.map 3 3):=by kernel_rfl
theorem Qq (w:World):(zeroValue 3).run P w = .ok (I 0) w:=by kernel_rfl
theorem QG (w:World):(Instr.makeMap 144 none).run P w = .ok (.map (some w.heap.size)) (w.alloc (.map #[] 0)):=rfl
theorem Oo {l:List (Int × Value)} {x:Int} {v:Value} (h:∀p∈l,p.1≠x):up l x v = l ++ [(x,v)]:=by
 unfold up;rw[It.2 h];rfl
def prs (xs ys:List Int):List (Int × Value):=(xs.zip ys).map λp=>(p.1,I p.2)
theorem Nu {xs ys:List Int} {p:Int × Value} (h:p∈prs xs ys):p.1∈xs:=by
 obtain⟨q,hq,rfl⟩:=S6.1 h;exact (List.of_mem_zip hq).1
theorem ON {xs ys:List Int} {x y:Int} (h:xs.length = ys.length):prs (xs ++ [x]) (ys ++ [y]) = prs xs ys ++ [(x,I y)]:=by
 unfold prs;rw[List.zip_append h,S8];rfl
section st
variable {R:RM} {s:Sm.AU} {wv tv mv thv ov pv:Value} {l:List AF} {met:List Int}
end st
end Go.Lf
end
section
namespace Go.Lf
open Go Sm
section rules
variable {R:RM} {D:Chs} {k:Value→M}
theorem Nf {v z:Value} {t w n by_:Nat} {cells:List Value} (h:Fz R v w n cells) (hw:cells.length = n * w) (hz:(cl z).length = w) (hb:by_≠0) (hs:by_ * (2 * n + 200)≤2 ^ 48) (H:∀b c sp,n≤c→sp.length = (c - n) * w→J R ((b,C t (cells ++ sp)) :: D) (k (S0 b n c))) :
  J R D (BS t 0 (ZR 0 z) [] λx=>AP t w by_ (cl z) x v k):=by
 obtain⟨a,cap,rfl,hr⟩:=Fz.reads h;refine jbs (cs:=[]) rfl rfl λb2=>(PC (new:=cells) ?_ hb hs (λ_=>rfl) (λh0=>?_) (λb' c hc=>Bq (T8 _ _ _) (BH ?_)))
 ·intro h' hs';exact hr h' (St.drop (A:=[(b2,C t [])]) (by simpa using hs'))
 ·subst h0;have:cells = []:=Sj.1 ω;subst this;exact H b2 0 [] σ σ
 ·exact H b' c _ hc (by rw[BI (w:=w) (by intro x hx;rw[(SG.1 hx).2];exact hz)];simp)
theorem ME {q:Nat} {v:Value} {w n:Nat} {cells:List Value} {x y:Operand} (e0:∀w:World,(do eqGuard .eql q x y (SN) (SN);binOp .eql q (SN) (SN):Sem Value).run P w = .ok (.bool true) w) (e1:∀(a:Addr) (n c:Nat) (w:World),(do eqGuard .eql q x y (.slice (some a) n c) (SN);binOp .eql q (.slice (some a) n c) (SN):Sem Value).run P w = .ok (.bool false) w) (h:Fz R v w n cells) (H0:v = SN→n = 0→cells = []→J R D (k (.bool true))) (H1:J R D (k (.bool false))):J R D (X P (do eqGuard .eql q x y v (SN);binOp .eql q v (SN)) k):=by
 rcases h with ⟨rfl,h2,h3⟩ | ⟨b,o,cap,t,cs,rfl,_⟩
 ·exact @jxr R D k _ _ e0 (H0 rfl h2 h3)
 ·exact @jxr R D k _ _ (e1 _ _ _) H1
end rules
def OwW (t w n:Nat) (cells:List Value) (v:Value) (A:Chs):Prop:=(n = 0∧v = SN∧A = [])∨∃b c sp,n≤c∧sp.length = (c - n) * w∧v = S0 b n c∧A = [(b,C t (cells ++ sp))]
section st
variable {R:RM}
theorem K2 {v:Value} {n:Nat} {cells:List Value} (h:Fz R v 5 n cells) (hw:cells.length = n * 5) (hn:n < 1000000):Fn P Cy [v] R [] (λx R' A=>R' = R∧OwW AK 5 n cells x A):=by
 refine Es λF=>?_
 refine z_1 ?_;refine @ME _ _ _ _ _ _ _ _ _ _ (λw=>by kernel_rfl) (λa n c w=>by kernel_rfl) h (λ_ h0 _=>Dv (AV (RM.le.refl R) ⟨rfl,.inl ⟨h0,rfl,rfl⟩⟩)) (C9 (Nf h hw rfl δ ω λb c sp h1 h2=>AV (RM.le.refl R) ⟨rfl,.inr ⟨b,c,sp,h1,h2,rfl,rfl⟩⟩))
theorem Lm {v:Value} {n:Nat} {cells:List Value} (h:Fz R v 1 n cells) (hw:cells.length = n * 1) (hn:n < 1000000):Fn P Cv [v] R [] (λx R' A=>R' = R∧OwW Av 1 n cells x A):=by
 refine Eu λF=>?_
 refine z_1 ?_;refine @ME _ _ _ _ _ _ _ _ _ _ (λw=>by kernel_rfl) (λa n c w=>by kernel_rfl) h (λ_ h0 _=>Dv (AV (RM.le.refl R) ⟨rfl,.inl ⟨h0,rfl,rfl⟩⟩)) (C9 (Nf h hw rfl δ ω λb c sp h1 h2=>AV (RM.le.refl R) ⟨rfl,.inr ⟨b,c,sp,h1,h2,rfl,rfl⟩⟩))
theorem KM {v:Value} {n:Nat} {cells:List Value} (h:Fz R v 4 n cells) (hw:cells.length = n * 4) (hn:n < 1000000):Fn P Cu [v] R [] (λx R' A=>R' = R∧OwW J4 4 n cells x A):=by
 refine Ey λF=>?_
 refine z_1 ?_;refine @ME _ _ _ _ _ _ _ _ _ _ (λw=>by kernel_rfl) (λa n c w=>by kernel_rfl) h (λ_ h0 _=>Dv (AV (RM.le.refl R) ⟨rfl,.inl ⟨h0,rfl,rfl⟩⟩)) (C9 (Nf h hw rfl δ ω λb c sp h1 h2=>AV (RM.le.refl R) ⟨rfl,.inr ⟨b,c,sp,h1,h2,rfl,rfl⟩⟩))
end st
section rules
variable {R:RM} {D:Chs}
theorem Qj {t w b i f:Nat} {rows:List (List Value)} {sp:List Value} {v:Value} {D' : Chs} {m:M} (hr:∀r∈rows,r.length = w) (hi:i < rows.length) (hf:f < w) (hv:flat v = true) (h1:cl v = [v]) [a:At D b (C t (rows.flatten ++ sp))] [u:Up D b (C t (rows.flatten ++ sp)) (C t ((rows.set i ((rows[i]).set f v)).flatten ++ sp)) D'] (H:J R D' m) :
  J R D (ST 1 (.pointer (some ⟨b,0 + i * w + f,none⟩)) v m):=by
 have hl:i * w + w≤(rows.flatten ++ sp).length:=by
  rw[Rc,BI hr,← Nat.succ_mul];exact Nat.le_trans (Sv w ω) (Nat.le_add_right _ _)
 refine js (cs':=(rows.set i ((rows[i]).set f v)).flatten ++ sp) (by rw[h1];rfl) (by rw[h1];simp[BU,hv]) ω ?_ H;rw[h1,SY,PX hl hf,HP i hi hr];exact Iz (by rw[Sn];exact hr _ (RZ hi)) i hi hr
end rules
def F9:List Th→List (List Value)→Chs→Prop
 | [],rows,A=>rows = []∧A = []
 | t :: ts,rows,A=>∃rv rest A1 A2,rows = [rv,I t.next,.bool t.busy,I t.BL] :: rest∧SO t.AD rv A1∧F9 ts rest A2∧A = A1 ++ A2
theorem F9.app:∀{ts:List Th} {rows:List (List Value)} {A:Chs},F9 ts rows A→∀{t:Th} {rv:Value} {A1:Chs},SO t.AD rv A1→F9 (ts ++ [t]) (rows ++ [[rv,I t.next,.bool t.busy,I t.BL]]) (A ++ A1)
 | [],rows,A,h,t,rv,A1,so=>by
  obtain⟨rfl,rfl⟩:=h;exact⟨rv,[],A1,[],rfl,so,⟨rfl,rfl⟩,σ⟩
 | u :: ts,rows,A,h,t,rv,A1,so=>by
  obtain⟨rv0,rest,B1,B2,rfl,h1,h2,rfl⟩:=h;exact⟨rv0,_,B1,B2 ++ A1,rfl,h1,h2.app so,by rw[RY]⟩
theorem F9.len:∀{ts:List Th} {rows:List (List Value)} {A:Chs},F9 ts rows A→rows.length = ts.length∧∀r∈rows,r.length = 4
 | [],rows,A,h=>by obtain⟨rfl,_⟩:=h;exact⟨rfl,λr hr=>by cases hr⟩
 | t :: ts,rows,A,h=>by
  obtain⟨rv0,rest,B1,B2,rfl,h1,h2,rfl⟩:=h;obtain⟨g1,g2⟩:=h2.len;exact⟨by simp[g1],λr hr=>by
   rcases Rf.1 hr with rfl | hr
   ·rfl
   ·exact g2 r hr⟩
def QO (R:RM) (s:Sm.AU) (v:Value) (A:Chs):Prop:=∃bw cw wsp bt tc tsp bm mc msp bh hc hsp rows Ar ov pv,s.AE.length≤cw∧wsp.length = cw - s.AE.length∧s.AB.length≤tc∧s.AS.length≤mc∧msp.length = mc - s.AS.length∧s.A9.length≤hc∧F9 s.A9 rows Ar∧Ai R ov s.old∧Ai R pv s.AN∧
 v = .agg (eSt s (S0 bw s.AE.length cw) (S0 bt s.AB.length tc) (S0 bm s.AS.length mc) (S0 bh s.A9.length hc) ov pv).toArray∧
 A = (bw,C AW (s.AE.map I ++ wsp)) :: (bt,C AK (Aq eRg s.AB ++ tsp)) :: (bm,C Av (s.AS.map Value.bool ++ msp)) :: (bh,C J4 (rows.flatten ++ hsp)) :: Ar
section st
variable {R:RM} {s:Sm.AU} {wv tv mv thv ov pv:Value}
set_option maxHeartbeats 1000000 in
set_option maxRecDepth 8000 in
theorem MG (h:SF R s wv tv mv thv ov pv):Fn P E9 [.agg (eSt s wv tv mv thv ov pv).toArray] R [] (λv R' A=>QO R' s v A):=by
 refine HJ λF=>?_
 refine z_1 ?_;have t0:=h.b.t0;have t1:=h.b.t1;have wl:=h.b.wl;have ml:=h.b.ml;have n0:=h.b.n0;have n1:=h.b.n1;have rl:=h.b.rl;have ol:=h.b.ol;have pl:=h.b.pl;refine ja λsb=>ja λgb=>jfo (jl rfl (jc (Bj h.c.w ω) ?_))
 rintro _ R1 _ _ ⟨hR,_,own⟩;subst hR;obtain⟨bw,cw,wsp,hcw,hwsp,rfl,rfl⟩:=own ω;refine jfo (js rfl rfl (RQ rfl) rfl (jfo (jl rfl (jc (K2 h.c.t (by rw[Co (w:=5) (λ_=>rfl)]) ω) ?_))));rintro _ R2 _ _ ⟨hR,own⟩;subst hR;obtain⟨e,_⟩ | ⟨bt,tc,tsp,htc,htsp,rfl,rfl⟩:=own
 ·omega
 refine jfo (js rfl rfl (RQ rfl) rfl (jfo (jl rfl (jc (Lm h.c.m σ ω) ?_))));rintro _ R3 _ _ ⟨hR,own⟩;subst hR;obtain⟨e,_⟩ | ⟨bm,mc,msp,hmc,hmsp,rfl,rfl⟩:=own
 ·omega
 refine jfo (js rfl rfl (RQ rfl) rfl (jfo (jl rfl ?_)));obtain⟨rows,hrw,hfz⟩:=h.c.th;have hrl:=hrw.1;have hr4:∀r∈rows,r.length = 4:=hrw.all λ_ _=>CR.len
 refine jc (KM hfz (BI hr4) ω) ?_;rintro _ R4 _ _ ⟨hR,own⟩;subst hR;obtain⟨e,_⟩ | ⟨bh,hc,hsp,hhc,hhsp,rfl,rfl⟩:=own
 ·omega
 rw[hrl] at hhc;rw[hrl];refine jfo (jS (eSt s (S0 bw s.AE.length cw) (S0 bt s.AB.length tc) (S0 bm s.AS.length mc) (S0 bh s.A9.length hc) ov pv) ?_);generalize hW:S0 bw s.AE.length cw = W;generalize hT:S0 bt s.AB.length tc = T;generalize hM:S0 bm s.AS.length mc = M0;refine Ab [(bh,C 83 (rows.flatten ++ hsp)),(sb,C 28 (eSt s W T M0 (S0 bh s.A9.length hc) ov pv)),(gb,C 28 (cl z28)),(bw,C AW (s.AE.map I ++ wsp)),(bt,C AK (Aq eRg s.AB ++ tsp)),(bm,C Av (s.AS.map Value.bool ++ msp))] (G:=[] ++ F) ?_;refine jci (λ_:List (List Value) × Chs=>[Pt sb,Pt gb])
  (λq=>(bh,C 83 (q.1.flatten ++ hsp)) :: (sb,C 28 (eSt s W T M0 (S0 bh s.A9.length hc) ov pv)) :: (gb,C 28 (cl z28)) :: (bw,C AW (s.AE.map I ++ wsp)) :: (bt,C AK (Aq eRg s.AB ++ tsp)) :: (bm,C Av (s.AS.map Value.bool ++ msp)) :: (q.2 ++ ([] ++ F)))
  (λR' q=>R' = R4∧F9 s.A9 q.1 q.2) (λK1 k1=>?_) ?_
 ·refine jfo (jl rfl (jln ?_));refine jci (λ_:List (List Value) × Chs=>[Pt sb,Pt gb])
   (λq=>(bh,C 83 (q.1.flatten ++ hsp)) :: (sb,C 28 (eSt s W T M0 (S0 bh s.A9.length hc) ov pv)) :: (gb,C 28 (cl z28)) :: (bw,C AW (s.AE.map I ++ wsp)) :: (bt,C AK (Aq eRg s.AB ++ tsp)) :: (bm,C Av (s.AS.map Value.bool ++ msp)) :: (q.2 ++ ([] ++ F)))
   (λR' q=>R' = R4∧F9 s.A9 q.1 q.2) (λK2 k2=>?_) ?_
  rotate_left
  ·rintro e R' q hp he;refine z_V ?_;exact k1 R' q hp
  refine jli (λi:Nat × List (List Value) × Chs=>s.A9.length - i.1) (λi=>[Pt sb,Pt gb,I s.A9.length,I i.1])
   (λi=>(bh,C 83 ((i.2.1 ++ rows.drop i.1).flatten ++ hsp)) :: (sb,C 28 (eSt s W T M0 (S0 bh s.A9.length hc) ov pv)) :: (gb,C 28 (cl z28)) :: (bw,C AW (s.AE.map I ++ wsp)) :: (bt,C AK (Aq eRg s.AB ++ tsp)) :: (bm,C Av (s.AS.map Value.bool ++ msp)) :: (i.2.2 ++ ([] ++ F)))
   (λR' i=>R' = R4∧i.1≤s.A9.length∧F9 (s.A9.take i.1) i.2.1 i.2.2) (0,[],[]) ⟨rfl,σ,rfl,rfl⟩ τ τ ?_
  rintro K e R' ⟨i,rh,Ar⟩ ⟨hR,hi,hth⟩ he hK;subst hR;dsimp only at hi hth he hK ⊢;refine z_V ?_;refine jlt (jif (λc=>?_) (λc=>?_));rotate_left
  ·have c:=z_g c;rw[RX ω] at hth;rw[SU ω,SP];exact k2 R' (rh,Ar) ⟨rfl,hth⟩
  have c:i < s.A9.length:=by have:=z_f c;omega
  obtain⟨l1,l4⟩:=hth.len;rw[Rk] at l1;obtain⟨rv,erow,hrv⟩:=hrw.2 i ω c;have hdr:rows.drop i = rows[i]'(ω) :: rows.drop (i + 1):=SH ω;have By:∀r∈rh ++ rows.drop i,r.length = 4:=λr hr=>by
   rcases Rq.1 hr with h1 | h1
   ·exact l4 r h1
   ·exact hr4 r (Sw h1)
  have hil:i < (rh ++ rows.drop i).length:=by rw[Rc,SR];omega
  have hgi:(rh ++ rows.drop i)[i]'hil = [rv,I (s.A9[i]).next,.bool (s.A9[i]).busy,I (s.A9[i]).BL]:=by
   rw[Sc ω,← erow,TR];congr 1;omega
  have hcell:((rh ++ rows.drop i).flatten ++ hsp)[0 + i * 4 + 0]? = some rv:=by
   have e1:=HP (sp:=hsp) i hil By;rw[hgi] at e1;have e2:=congrArg (λz=>z[0]?) e1;simp only[List.getElem?_take_of_lt (show 0 < 4 by omega),Sd] at e2;rw[show 0 + i * 4 + 0 = i * 4 + 0 from ω];exact e2
  have Hg:∀y:Value,(rh ++ rows.drop i).set i (((rh ++ rows.drop i)[i]'hil).set 0 y) = (rh ++ [[y,I (s.A9[i]).next,.bool (s.A9[i]).busy,I (s.A9[i]).BL]]) ++ rows.drop (i + 1):=λy=>by
   rw[hgi,Su _ _ ω,hdr,show i - rh.length = 0 from ω,RY];rfl
  have htl:=rl _ (RZ c);refine jfo (jl rfl (jfo (jl rfl (E5 c (jfo (jl hcell (jc (Bj hrv ω) ?_)))))));rintro yv R5 A5 _ ⟨hR,so,_⟩;subst hR;obtain⟨ya,yc,hy⟩:=so.frz;refine E5 c (jfo (As (jl rfl jev) (Qj By hil ω (by rw[hy];rfl) (by rw[hy]) (jad ?_))));rw[Hg];refine Bq (D':=(bh,C 83 (((rh ++ [[yv,I (s.A9[i]).next,.bool (s.A9[i]).busy,I (s.A9[i]).BL]]) ++ rows.drop (i + 1)).flatten ++ hsp)) :: (sb,C 28 (eSt s W T M0 (S0 bh s.A9.length hc) ov pv)) :: (gb,C 28 (cl z28)) :: (bw,C AW (s.AE.map I ++ wsp)) :: (bt,C AK (Aq eRg s.AB ++ tsp)) :: (bm,C Av (s.AS.map Value.bool ++ msp)) :: ((Ar ++ A5) ++ ([] ++ F))) ?_ (hK R5 (i + 1,_,Ar ++ A5) (by dsimp only;omega) ⟨rfl,c,?_⟩)
  ·refine (SE (l₁:=A5)).trans ?_;simp only[zc];refine TS _ (TS _ (TS _ (TS _ (TS _ (TS _ ?_)))));simp only[zl,RY];exact List.Perm.append_left Ar SE
  ·dsimp only;rw[RW c];exact hth.app so
 rintro e R' ⟨rh,Ar⟩ ⟨hR,hth⟩ he;subst hR;dsimp only at hth ⊢;refine z_V ?_;refine jfo (jl rfl (jc (Bj h.c.o ω) ?_));rintro o2 R5 A5 _ ⟨hR,so5,_⟩;subst hR;refine EE so5 λR6 hR6 ho2=>?_
 obtain⟨oa,oc,rfl⟩:=ho2.sl;refine jfo (js rfl rfl (RQ rfl) rfl (jfo (jl rfl (jc (Bj (h.c.p.le hR6) ω) ?_))));rintro p2 R7 A7 _ ⟨hR,so7,_⟩;subst hR;refine EE so7 λR8 hR8 hp2=>?_
 obtain⟨pa,pc,rfl⟩:=hp2.sl;subst hW hT hM;refine jfo (js rfl rfl (RQ rfl) rfl (jla (RQ rfl) rfl (js rfl rfl (RQ rfl) rfl (jla (RQ rfl) rfl (Ab [(bw,C AW (s.AE.map I ++ wsp)),(bt,C AK (Aq eRg s.AB ++ tsp)),(bm,C Av (s.AS.map Value.bool ++ msp)),(bh,C 83 (rh.flatten ++ hsp))] (G:=Ar ++ ([] ++ F)) (AV (A:=(bw,C AW (s.AE.map I ++ wsp)) :: (bt,C AK (Aq eRg s.AB ++ tsp)) :: (bm,C Av (s.AS.map Value.bool ++ msp)) :: (bh,C 83 (rh.flatten ++ hsp)) :: Ar) (hR6.trans hR8) (⟨bw,cw,wsp,bt,tc,tsp,bm,mc,msp,bh,hc,hsp,rh,Ar,_,_,hcw,hwsp,htc,hmc,by simpa using hmsp,hhc,hth,ho2.le hR8,hp2,rfl,rfl⟩)))))))
end st
end Go.Lf
end
section
namespace Sm
open Go.Lf
end Sm
namespace Go.Lf
open Go Sm
theorem Mb {u:Int}:∀{xs ys:List Int},ys.length = xs.length→lk (prs xs ys) u = if u∈xs then some (I (ys.getD (xs.idxOf u) 0)) else none
 | [],[],_=>rfl
 | x :: xs,y :: ys,h=>by
  have ih:=Mb (u:=u) (by simpa using h);by_cases c:x = u
  ·subst c;rw[if_pos σ];simp[prs,lk]
  ·have e:lk (prs (x :: xs) (y :: ys)) u = lk (prs xs ys) u:=by
    unfold prs lk;rw[List.zip_cons_cons,So,T0 (by simpa using c)]
   rw[e,ih];have c' : ¬ u = x:=λh=>c h.symm
   by_cases d:u∈xs
   ·rw[if_pos d,if_pos (Rx _ d),List.idxOf_cons,beq_eq_false_iff_ne.2 c];rfl
   ·rw[if_neg d,if_neg (by simp[c',d])]
section rules
variable {R:RM} {D:Chs} {k:Value→M}
theorem Qy {b o len cap n:Nat} {lo:Int} (h0:0≤lo) (h1:lo≤len) (h2:len≤cap) (H:∀o',(lo < cap→o' = o + lo.toNat * n)→(o' = o∨o' = o + lo.toNat * n)→J R D (k (.slice (some ⟨b,o',none⟩) (len - lo.toNat) (cap - lo.toNat)))) :
  J R D (SL n (.slice (some ⟨b,o,none⟩) len cap) (some (I lo)) none k):=λh hs=>by
 refine⟨⟨h0,ω,ω⟩,?_⟩;split
 ·exact H o (λc=>ω) (.inl rfl) h hs
 ·exact H _ (λ_=>rfl) (.inr rfl) h hs
end rules
section st
variable {R:RM} {s:Sm.AU} {wv tv mv thv ov pv:Value} {l:List AF} {met:List Int}
end st
end Go.Lf
end
section
namespace Sm
open Go.Lf
end Sm
namespace Go.Lf
open Go Sm
section rules
variable {R:RM} {D:Chs} {k:Value→M}
theorem QZ {E:Chs} {m:M}:∀{ts:List Th} {rows:List (List Value)} {A:Chs} {R:RM},F9 ts rows A→(∀R',R.le R'→Rw (CR R') rows ts→J R' E m)→J R (A ++ E) m
 | [],rows,A,R,h,H=>by
  obtain⟨rfl,rfl⟩:=h;exact H R (RM.le.refl _) Rw.nil
 | t :: ts,rows,A,R,h,H=>by
  obtain⟨rv,rest,A1,A2,rfl,so,h2,rfl⟩:=h;rw[RY];refine EE so λR1 hR1 hi=>QZ h2 λR2 hR2 hr=>H R2 (hR1.trans hR2) ⟨by simp[hr.1],λi h h'=>?_⟩
  cases i with
  | zero=>exact⟨rv,rfl,hi.le hR2⟩
  | succ i=>exact hr.2 i (by simpa using h) (by simpa using h')
theorem F9.split:∀{ts:List Th} {rows:List (List Value)} {A:Chs} {i:Nat},F9 ts rows A→(h:i < ts.length)→∃rv A1 A2 A3,A = A1 ++ (A2 ++ A3)∧SO (ts[i]).AD rv A2∧rows[i]? = some [rv,I (ts[i]).next,.bool (ts[i]).busy,I (ts[i]).BL]∧∀(t' : Th) (A2' : Chs),SO t'.AD rv A2'→F9 (ts.set i t') (rows.set i [rv,I t'.next,.bool t'.busy,I t'.BL]) (A1 ++ (A2' ++ A3))
 | [],rows,A,i,h,hi=>absurd hi σ
 | t :: ts,rows,A,0,h,hi=>by
  obtain⟨rv,rest,A1,A2,rfl,so,h2,rfl⟩:=h;exact⟨rv,[],A1,A2,rfl,so,rfl,λt' A2' so'=>⟨rv,rest,A2',A2,rfl,so',h2,rfl⟩⟩
 | t :: ts,rows,A,i + 1,h,hi=>by
  obtain⟨rv,rest,B1,B2,rfl,so,h2,rfl⟩:=h;obtain⟨rv2,A1,A2,A3,rfl,so2,hr,hn⟩:=h2.split (by simpa using hi);exact⟨rv2,B1 ++ A1,A2,A3,σ,so2,hr,λt' A2' so'=>⟨rv,_,B1,_,rfl,so,hn t' A2' so',σ⟩⟩
end rules
end Go.Lf
end
section
namespace Go.Lf
open Go Sm
section st
variable {R:RM} {s:Sm.AU} {wv tv mv thv ov pv:Value} {l:List AF} {met:List Int}
end st
end Go.Lf
end
section
namespace Sm
open Go.Lf

end Sm
end
section
namespace Go.Lf
open Go Sm

end Go.Lf
end
section
namespace Sm
open Go.Lf

end Sm
end
section
namespace Go.Lf
open Go Sm
theorem jbz {R:RM} {D:Chs} {v:Value} {l:List Bool} {i:Nat} {k:Value→M} (h:Bls R v l) (h1:i < l.length) (H:J R D (k (.bool l[i]))):J R D (IA 1 v (I (i:Int)) λx=>L1 x k):=by
 rcases h with ⟨_,h2,_⟩ | ⟨b,o,cap,t,cs,rfl,h2,h3,h4,h5⟩
 ·omega
 ·refine jia ω ω (jlr h2 ?_ H);rw[RV,TQ];have e:=congrArg (·[i]?) h4;simp only[Sk,Sd] at e;rw[if_pos ω] at e;rw[e,S4,RU h1];rfl
structure StZ (s:Sm.AU):Prop where
 w:s.AE.length < 1000000
 t:s.AB.length < 1000000
 m:s.AS.length < 1000000
 o:s.old.length < 1000000
 p:s.AN.length < 1000000
 n:s.A9.length < 1000000
 r:∀t∈s.A9,t.AD.length < 1000000
section
variable {R:RM} {D:Chs} {s:Sm.AU} {wv tv mv thv ov pv wv' tv' mv' thv' ov' pv' : Value}
set_option maxHeartbeats 1000000 in
set_option maxRecDepth 8000 in
theorem Fu (h:StC R s wv tv mv thv ov pv) (h' : StC R s wv' tv' mv' thv' ov' pv') (z:StZ s) :
  Ro GD [.agg (eSt s wv tv mv thv ov pv).toArray,.agg (eSt s wv' tv' mv' thv' ov' pv').toArray] (.bool true) R D:=by
 refine Jn λF=>?_
 refine z_2 ?_;obtain⟨zw,zt,zm,zo,zp,zn,zr⟩:=z;refine ja λb1=>ja λb2=>(jor [Pt b1,Pt b2] false (λK' hK'=>?_) (λe c u ho he=>?_))
 ·refine jfo (jl rfl (jfo (jl rfl (jro (F8 h.w h'.w zw zw) ?_))));rw[beq_self_eq_true];refine jff (jfo (jl rfl (Bh h.t.sl (jfo (jl rfl (Bh h'.t.sl (jne ?_)))))));rw[bne_self_eq_false];exact hK' _ _ _ AY rfl
 refine z_V ?_;refine jor [Pt b1,Pt b2] false (λK' hK'=>?_) (λe c u ho2 he=>?_)
 ·rw[ho];refine jff (jfo (jl rfl (Bh h.m.sl (jfo (jl rfl (Bh h'.m.sl (jne ?_)))))));rw[bne_self_eq_false];exact hK' _ _ _ AY rfl
 refine z_V ?_;refine jor [Pt b1,Pt b2] false (λK' hK'=>?_) (λe c u ho3 he=>?_)
 ·rw[ho2];refine jff (jfo (jl rfl (jfo (jl rfl (jne ?_)))));rw[bne_self_eq_false];exact hK' _ _ _ AY rfl
 refine z_V ?_;refine jor [Pt b1,Pt b2] false (λK' hK'=>?_) (λe c u ho4 he=>?_)
 ·rw[ho3];refine jff (jfo (jl rfl (jfo (jl rfl (@jxb _ _ _ _ _ _ _ ?_)))));rw[bne_self_eq_false];exact hK' _ _ _ AY rfl
 refine z_V ?_;refine jor [Pt b1,Pt b2] false (λK' hK'=>?_) (λe c u ho5 he=>?_)
 ·rw[ho4];refine jff (jfo (jl rfl (jfo (jl rfl (@jxb _ _ _ _ _ _ _ ?_)))));rw[bne_self_eq_false];exact hK' _ _ _ AY rfl
 refine z_V ?_;refine jor [Pt b1,Pt b2] false (λK' hK'=>?_) (λe c u ho6 he=>?_)
 ·rw[ho5];refine jff (jfo (jl rfl (jfo (jl rfl (@jxb _ _ _ _ _ _ _ ?_)))));rw[bne_self_eq_false];exact hK' _ _ _ AY rfl
 refine z_V ?_;refine jor [Pt b1,Pt b2] false (λK' hK'=>?_) (λe c u ho7 he=>?_)
 ·rw[ho6];refine jff (jfo (jl rfl (jfo (jl rfl (jne ?_)))));rw[bne_self_eq_false];exact hK' _ _ _ AY rfl
 refine z_V ?_;refine jor [Pt b1,Pt b2] false (λK' hK'=>?_) (λe c u ho8 he=>?_)
 ·rw[ho7];refine jff (jfo (jl rfl (jfo (jl rfl (jne ?_)))));rw[bne_self_eq_false];exact hK' _ _ _ AY rfl
 refine z_V ?_;refine jor [Pt b1,Pt b2] false (λK' hK'=>?_) (λe c u ho9 he=>?_)
 ·rw[ho8];refine jff (jfo (jl rfl (jfo (jl rfl (jne ?_)))));rw[bne_self_eq_false];exact hK' _ _ _ AY rfl
 refine z_V ?_;refine jor [Pt b1,Pt b2] false (λK' hK'=>?_) (λe c u hoa he=>?_)
 ·rw[ho9];refine jff (jfo (jl rfl (jfo (jl rfl (jro (F8 h.o h'.o zo zo) ?_)))));rw[beq_self_eq_true];exact hK' _ _ _ AY rfl
 refine z_V ?_;refine jor [Pt b1,Pt b2] false (λK' hK'=>?_) (λe c u hob he=>?_)
 ·rw[hoa];refine jff (jfo (jl rfl (jfo (jl rfl (jro (F8 h.p h'.p zp zp) ?_)))));rw[beq_self_eq_true];exact hK' _ _ _ AY rfl
 refine z_V ?_;refine jor [Pt b1,Pt b2] false (λK' hK'=>?_) (λe c u hoc he=>?_)
 ·rw[hob];refine jff (jfo (jl rfl (Bh h.th.sl (jfo (jl rfl (Bh h'.th.sl (jne ?_)))))));rw[bne_self_eq_false];exact hK' _ _ _ AY rfl
 refine z_V ?_;rw[hoc];refine C9 (CP [Pt b1,Pt b2] (λK1 h1=>?_) (λe he=>?_))
 ·refine CP [Pt b1,Pt b2] (λK2 h2=>?_) (λe he=>?_);rotate_left
  ·refine z_V ?_;exact h1
  refine HT [Pt b1,Pt b2] s.AB.length (λ_=>True) trivial λi K e hi _ hK he=>?_
  refine z_V ?_;refine jfo (jl rfl (Bh h.t.sl (jlt (jif (λc=>?_) (λc=>h2)))));have c:i < s.AB.length:=by have:=z_f c;omega
  refine jfo (jl rfl (jrg h.t c λx o ty cs hb ho hrow=>Ce hb ho hrow (jfo (jl rfl (jrg h'.t c λx o ty cs hb ho hrow=>Ce hb ho hrow (@QQ _ _ _ _ _ _ _ ?_))))));rw[beq_self_eq_true];exact C9 (jad (hK c trivial))
 refine z_V ?_;refine CP [Pt b1,Pt b2] (λK1 h1=>?_) (λe he=>?_)
 ·refine CP [Pt b1,Pt b2] (λK2 h2=>?_) (λe he=>?_);rotate_left
  ·refine z_V ?_;exact h1
  refine HT [Pt b1,Pt b2] s.AS.length (λ_=>True) trivial λi K e hi _ hK he=>?_
  refine z_V ?_;refine jfo (jl rfl (Bh h.m.sl (jlt (jif (λc=>?_) (λc=>h2)))));have c:i < s.AS.length:=by have:=z_f c;omega
  refine jfo (jl rfl (jbz h.m c (jfo (jl rfl (jbz h'.m c (@jxb _ _ _ _ _ _ _ ?_))))));rw[bne_self_eq_false];exact C9 (jad (hK c trivial))
 refine z_V ?_;refine HT [Pt b1,Pt b2] s.A9.length (λ_=>True) trivial λi K e hi _ hK he=>?_
 refine z_V ?_;refine jfo (jl rfl (Bh h.th.sl (jlt (jif (λc=>?_) (λc=>BH (BH (Af rfl)))))));have c:i < s.A9.length:=by have:=z_f c;omega
 have zr:=zr _ (RZ c);refine jfo (jl rfl (jtr h.th c λx o ty cs rv hrv hb ho hrow=>Ce hb ho hrow ?_));obtain⟨ra,rc,rfl⟩:=hrv.sl;refine ja λb3=>js rfl rfl (RQ rfl) rfl (jfo (jl rfl (jtr h'.th c λx o ty cs rv hrv' hb ho hrow=>Ce hb ho hrow ?_)))
 obtain⟨ra',rc',rfl⟩:=hrv'.sl;refine ja λb4=>js rfl rfl (RQ rfl) rfl (jor [Pt b1,Pt b2,I i,Pt b3,Pt b4] false (λK' hK'=>?_) (λe c2 u ho1 he=>?_))
 ·refine jfo (jl rfl (jfo (jl rfl (jro (F8 hrv hrv' zr zr) ?_))));rw[beq_self_eq_true];refine jff (jfo (jl rfl (jfo (jl rfl (jne ?_)))));rw[bne_self_eq_false];exact hK' _ _ _ AY rfl
 refine z_V ?_;refine jor [Pt b1,Pt b2,I i,Pt b3,Pt b4] false (λK' hK'=>?_) (λe c2 u ho2 he=>?_)
 ·rw[ho1];refine jff (jfo (jl rfl (jfo (jl rfl (@jxb _ _ _ _ _ _ _ ?_)))));rw[bne_self_eq_false];exact hK' _ _ _ AY rfl
 refine z_V ?_;refine jor [Pt b1,Pt b2,I i] false (λK' hK'=>?_) (λe c2 u ho3 he=>?_)
 ·rw[ho2];refine jff (jfo (jl rfl (jfo (jl rfl (jne ?_)))));rw[bne_self_eq_false];exact hK' _ _ _ AY rfl
 refine z_V ?_;rw[ho3];exact C9 (jad (BH (BH (hK c trivial))))
end
section st
variable {R:RM} {s:Sm.AU} {wv tv mv thv ov pv:Value}
end st
def st0:Sm.AU:=⟨[],[],[],0,false,false,false,0,[],[],[],0,0⟩
theorem QFd.u {r:Option Sm.AU} {v:Value} {R:RM} (h:QFd r v R):∃(wa ta ma ha oa pa:Option Addr) (wc tc mc hc oc pc:Nat),
  StC R (r.getD st0) (.slice wa (r.getD st0).AE.length wc) (.slice ta (r.getD st0).AB.length tc) (.slice ma (r.getD st0).AS.length mc) (.slice ha (r.getD st0).A9.length hc) (.slice oa (r.getD st0).old.length oc) (.slice pa (r.getD st0).AN.length pc)∧
  v = .tuple #[.agg (eSt (r.getD st0) (.slice wa (r.getD st0).AE.length wc) (.slice ta (r.getD st0).AB.length tc) (.slice ma (r.getD st0).AS.length mc) (.slice ha (r.getD st0).A9.length hc) (.slice oa (r.getD st0).old.length oc) (.slice pa (r.getD st0).AN.length pc)).toArray,.bool r.isSome]:=by
 cases r with
 | none=>
  obtain rfl:v = _:=h;exact⟨none,none,none,none,none,none,0,0,0,0,0,0,⟨.inl ⟨rfl,rfl,rfl⟩,.inl ⟨rfl,rfl,rfl⟩,.inl ⟨rfl,rfl,rfl⟩,⟨[],Rw.nil,.inl ⟨rfl,rfl,rfl⟩⟩,.inl ⟨rfl,rfl,rfl⟩,.inl ⟨rfl,rfl,rfl⟩⟩,rfl⟩
 | some s=>
  obtain⟨wv,tv,mv,thv,ov,pv,h,_,rfl⟩:=h;show ∃wa ta ma ha oa pa wc tc mc hc oc pc,_∧_;obtain⟨wa,wc,rfl⟩:=h.w.sl;obtain⟨ta,tc,rfl⟩:=h.t.sl;obtain⟨ma,mc,rfl⟩:=h.m.sl;obtain⟨ha,hc,rfl⟩:=h.th.sl;obtain⟨oa,oc,rfl⟩:=h.o.sl;obtain⟨pa,pc,rfl⟩:=h.p.sl;exact⟨wa,ta,ma,ha,oa,pa,wc,tc,mc,hc,oc,pc,h,rfl⟩
section
variable {R:RM} {D:Chs} {w:List Int} {wv:Value} {t:AF} {a:Int} {k:Value→Value→M}
end
theorem LE {s s' : Sm.AU} {l:List AF} {met to tops:List Int} (hf:HpF s l met) (F1:Qf s s' l (AR met) to tops) (hw:∀x∈s.AE,Rn x) (hl:s.AE.length≤192):∀x∈s'.AE,Rn x:=by
 have hc:∀(bl:List (Int × List Int)) (w:List Int),(∀x∈w,Rn x)→(∀b∈bl,∀x∈b.2,Rn x)→∀x∈KA w bl,Rn x:=by
  intro bl;induction bl with
  | nil=>intro w h _ x hx;exact h x hx
  | cons b bl ih=>
   intro w h hb;refine ih _ ?_ λb' hb'=>hb b' (Rx _ hb')
   have hs:∀(c w:List Int) (a:Int),(∀x∈w,Rn x)→(∀x∈c,Rn x)→∀x∈PU w a c,Rn x:=by
    intro c;induction c with
    | nil=>intro w a h _ x hx;exact h x hx
    | cons v c ih2=>
     intro w a h hv;refine ih2 _ _ (λx hx=>?_) λx hx=>hv x (Rx _ hx)
     unfold Ak at hx;rcases TL hx with hx | rfl
     ·exact h x hx
     ·exact hv _ σ
   exact hs _ _ _ h (hb b σ)
 have seg_rn:∀(a n:Int) (x:Int),x∈seg s.AE a n→Rn x:=λa n x hx=>hw x (Sw (SM hx))
 have nums:∀t∈l,∀x∈t.nums,Rn x:=λt ht x hx=>by
  obtain⟨G,T,-⟩:=Mw hf.ths;have h1:=(T.all t ht).2;rw[h1] at hx;exact seg_rn _ _ x hx
 have z:Rn 0:=⟨δ,δ⟩;have small:∀x:Int,0≤x→x≤1000000→Rn x:=λx h0 h1=>⟨ω,ω⟩
 obtain⟨G,T,-⟩:=Mw hf.ths;rw[F1.wd];refine hc _ _ (hc _ _ (λx hx=>by rw[(SG.1 hx).2];exact z) λb hb x hx=>?_) λb hb x hx=>?_
 ·obtain⟨t,ht,rfl⟩:=S6.1 hb;have ht:=(TA.1 ht).1;have i:=G.inn (T.all t ht).1;unfold PM at hx;simp only[Rf,Rq,SG] at hx;rcases hx with rfl | rfl | ⟨_,rfl⟩ | hx
  ·exact small _ ω ω
  ·exact Rn.shape
  ·exact z
  ·exact nums t ht x hx
 ·obtain⟨p,hp,rfl⟩:=S6.1 hb;obtain⟨h1,h2⟩:=F1.rn p hp;unfold Od at hx;cases ht:Al l p.1 with
  | none=>rw[ht] at hx;cases hx
  | some t=>
   rw[ht] at hx;have h3:=(h2 t ht).1;simp only[Rf,Rq,S6] at hx;rcases hx with rfl | rfl | ⟨y,_,rfl⟩ | hx
   ·exact small _ ω ω
   ·exact Rn.shape
   ·unfold plc;split
    ·split
     ·rename_i u _ hu;have hi:(AR met).idxOf u < to.length:=by rw[F1.hlen];exact List.idxOf_lt_length_of_mem hu
      rw[Rh,RU hi,Option.getD_some];have hiz:(AR met).idxOf u < ((AR met).zip to).length:=by rw[List.length_zip,F1.hlen] at *;omega
      have hz:=RZ hiz;rw[List.getElem_zip] at hz;obtain⟨g1,g2⟩:=F1.rn _ hz;obtain⟨t',ht',_⟩:=Qh hf (((DA hf.M.nd).2 _).1 (List.of_mem_zip hz).1);have:=(g2 t' ht').1;dsimp only at this g1;exact small _ ω ω
     ·exact z
    ·exact z
   ·exact nums t (BX ht).1 x hx
end Go.Lf
end
section
namespace Sm
def BY (n:Nat) (low:Int) (l:List Int):Bool:=!l.any λx=>decide (x < low) || decide (x≥n)
def Hq (n:Nat) (x:List Int × List Int):Bool:=decide (x.1.length≤4) && decide (x.2.length≤4) && BY n (-1) x.1
def gOk (g:PG):Bool:=decide (g.nodes.length≤200) && decide (1≤g.AD.length) && decide (g.AD.length≤3) && decide (g.pinned.length≤8) && BY g.nodes.length 0 g.pinned && (g.nodes.all (Hq g.nodes.length)) && g.AD.all λr=>decide (r.length≤8) && BY g.nodes.length (-1) r
def E4 (p:Int→Bool):Nat→List Int→Int
 | _,[]=>-1
 | i,x :: r=>if p x = true then i else E4 p (i + 1) r
theorem GH {p:Int→Bool} {i:Nat} {x:Int} {r:List Int}:E4 p i (x :: r) = if p x = true then (i:Int) else E4 p (i + 1) r:=rfl
theorem HG {p:Int→Bool}:∀(l:List Int) (i:Nat),decide (E4 p i l≥0) = l.any p
 | [],i=>by simp[E4]
 | x :: l,i=>by
  rw[GH];cases h:p x with
  | true=>simp[h]
  | false=>simp only[List.any_cons,h,Re];exact HG l (i + 1)
structure GZ (g:PG):Prop where
 n:g.nodes.length < 1000000
 r:g.AD.length < 1000000
 p:g.pinned.length < 1000000
 nr:∀x∈g.nodes,x.1.length < 1000000∧x.2.length < 1000000
 rr:∀x∈g.AD,x.length < 1000000
end Sm
namespace Go.Lf
open Go Sm
section
variable {R:RM} {D:Chs} {k:Value→M}
theorem jnd {v:Value} {rows:List (List Value)} {l:List (List Int × List Int)} {i:Nat} (h1:Rw (NdC R) rows l) (h2:Fz R v 2 rows.length rows.flatten) (hi:i < l.length)
  (H:∀b o ty cs rv nv,Ai R rv (l[i]).1→Ai R nv (l[i]).2→R b = some (C ty cs)→o + 2≤cs.length→(cs.drop o).take 2 = [rv,nv]→J R D (k (.pointer (some ⟨b,o,none⟩)))):J R D (IA 2 v (I (i:Int)) k):=by
 have hi' : i < rows.length:=by rw[h1.1];exact hi
 obtain⟨b,o,cap,ty,cs,rfl,hb,hl,hc⟩:=HC h2 (h1.all λ_ _=>NdC.len) hi';obtain⟨rv,nv,e,r1,r2⟩:=h1.2 i hi' hi;refine jia ω ω ?_;rw[RV];exact H b (o + i * 2) ty cs rv nv r1 r2 hb hl (by rw[hc,e])
theorem jrw {v:Value} {rows:List (List Value)} {l:List (List Int)} {i:Nat} (h1:Rw (RwC R) rows l) (h2:Fz R v 1 rows.length rows.flatten) (hi:i < l.length)
  (H:∀rv,Ai R rv l[i]→J R D (k rv)):J R D (IA 1 v (I (i:Int)) λx=>L1 x k):=by
 have hi' : i < rows.length:=by rw[h1.1];exact hi
 obtain⟨b,o,cap,ty,cs,rfl,hb,hl,hc⟩:=HC h2 (h1.all λ_ _=>RwC.len) hi';obtain⟨rv,e,r1⟩:=h1.2 i hi' hi;refine jia ω ω ?_;rw[RV];have hrow:(cs.drop (o + i * 1)).take 1 = [rv]:=by rw[hc,e]
 exact jlr hb (EQ hrow (f:=0) rfl) (H rv r1)
theorem Mv {x low:Int} {b1 b2 N cap:Nat} {a:Option Addr} {rv pv:Value} (h1:R b1 = some (C 42 [.slice a N cap,rv,pv])) (h2:R b2 = some (C 3 [I low])):Ro DE [I x,Pt b2,Pt b1] (.bool (decide (x < low) || decide (x≥N))) R D:=by
 refine FS λF=>?_
 refine z_3 ?_;refine jor [] (decide (x < low) || decide (x≥N)) (λK' hK'=>?_) (λe c u ho he=>?_)
 ·refine jlr (v:=I low) h2 rfl (jlt (BT (λg=>?_) (λg=>?_)))
  ·rw[g];exact jfo (jlr (v:=.slice a N cap) h1 rfl (jln (jge (hK' _ _ _ AY (by rw[g,Re])))))
  ·rw[g];exact hK' _ _ _ Ao (by rw[g,Rm])
 refine z_V ?_;rw[ho];exact Af rfl
theorem MP {v fv:Value} {l:List Int} {p:Int→Bool} (h:Ai R v l) (hl:l.length < 1000000) (hp:∀(x:Int) (D' : Chs) (k' : Value→M),J R D' (k' (.bool (p x)))→J R D' (CV P fv [I x] k')):Ro CG [v,fv] (I (E4 p 0 l)) R D:=by
 refine Dd λF=>?_
 refine z_2 ?_;refine Bh h.sl ?_;refine HT [v,fv,I l.length] l.length (λi=>E4 p 0 l = E4 p i (l.drop i)) (by rw[TG]) λi K e hi hinv hK he=>?_
 refine z_V ?_;refine jlt (jif (λc=>?_) (λc=>?_));rotate_left
 ·have c:=z_g c;refine Af ?_;rw[hinv,SU ω];rfl
 have c:i < l.length:=by have:=z_f c;omega
 refine ER h ω ω (hp _ _ _ ?_);simp only[RV];rw[SH c,GH] at hinv;refine jif (λg=>?_) (λg=>?_)
 ·rw[if_pos g] at hinv;exact Af (by rw[hinv])
 ·rw[if_neg (by rw[g];decide)] at hinv;exact jad (hK c hinv)
theorem Oh {v fv:Value} {l:List Int} {p:Int→Bool} (h:Ai R v l) (hl:l.length < 1000000) (hp:∀(x:Int) (D' : Chs) (k' : Value→M),J R D' (k' (.bool (p x)))→J R D' (CV P fv [I x] k')):Ro Bt [v,fv] (.bool (l.any p)) R D:=by
 refine Cz λF=>?_
 refine z_2 ?_;refine jro (MP h hl hp) (jge ?_);rw[HG];exact Af rfl
theorem Ig {a:Option Addr} {N cap:Nat} {rv pv lv:Value} {l:List Int} {low:Int} (fr:flat rv = true) (fp:flat pv = true) (h:Ai R lv l) (hl:l.length < 1000000):Ro Do [.agg #[.slice a N cap,rv,pv],lv,I low] (.bool (BY N low l)) R D:=by
 refine GQ λF=>?_
 refine z_3 ?_;refine ja λb1=>ja λb2=>AJ (b:=b1) λR1 hR1 h1=>AJ (b:=b2) λR2 hR2 h2=>?_
 have h1:R2 b1 = some (C 42 [.slice a N cap,rv,pv]):=hR2 _ _ h1;have h2:R2 b2 = some (C 3 [I low]):=h2;refine jro (Oh (p:=λx=>decide (x < low) || decide (x≥N)) (h.le (hR1.trans hR2)) hl λx D' k' H=>FZ (by kernel_rfl) (jro (Mv h1 h2) H)) ?_;exact AV (A:=D) (hR1.trans hR2) ⟨rfl,rfl⟩
end
section
variable {R:RM} {v:Value} {g:PG}
set_option maxHeartbeats 1000000 in
set_option maxRecDepth 8000 in
theorem EF (h:GrF R v g) (z:GZ g):Ro GC [v] (.bool (gOk g)) R []:=by
 obtain⟨r1,r2,nv,rv,pv,rfl,h1,h2,h3,h4,h5⟩:=h;obtain⟨zn,zr,zp,znr,zrr⟩:=z;obtain⟨na,nc,rfl⟩:=h2.sl;obtain⟨ra,rc,rfl⟩:=h4.sl;obtain⟨pa,pc,rfl⟩:=h5.sl;have e1:=h1.1;have e2:=h3.1;refine JN λF=>?_
 refine z_1 ?_;refine ja λb=>AJ (b:=b) λR0 hR0 hb=>?_
 have hb:R0 b = some (C 42 [.slice na r1.length nc,.slice ra r2.length rc,.slice pa g.pinned.length pc]):=hb;have h1:=h1.mono λ_ _=>NdC.le hR0
 have h2:=h2.le hR0;have h3:=h3.mono λ_ _=>RwC.le hR0
 have h4:=h4.le hR0;have h5:=h5.le hR0;rw[e1,e2] at hb;have h2:Fz R0 (.slice na g.nodes.length nc) 2 r1.length r1.flatten:=by rw[← e1];exact h2
 have h4:Fz R0 (.slice ra g.AD.length rc) 1 r2.length r2.flatten:=by rw[← e2];exact h4
 obtain⟨A1,hA1⟩:∃A1,A1 = decide ((g.nodes.length:Int) > 200):=⟨_,rfl⟩;obtain⟨A2,hA2⟩:∃A2,A2 = decide ((g.AD.length:Int) < 1):=⟨_,rfl⟩;obtain⟨A3,hA3⟩:∃A3,A3 = decide ((g.AD.length:Int) > 3):=⟨_,rfl⟩;obtain⟨A4,hA4⟩:∃A4,A4 = decide ((g.pinned.length:Int) > 8):=⟨_,rfl⟩;have key:gOk g = (!(A1 || A2 || A3 || A4 || !BY g.nodes.length 0 g.pinned) && (g.nodes.all (Hq g.nodes.length)) && g.AD.all λr=>decide (r.length≤8) && BY g.nodes.length (-1) r):=by
  unfold gOk;have q1:decide (g.nodes.length≤200) = !A1:=by rw[hA1,← decide_not];exact decide_eq_decide.2 ω
  have q2:decide (1≤g.AD.length) = !A2:=by rw[hA2,← decide_not];exact decide_eq_decide.2 ω
  have q3:decide (g.AD.length≤3) = !A3:=by rw[hA3,← decide_not];exact decide_eq_decide.2 ω
  have q4:decide (g.pinned.length≤8) = !A4:=by rw[hA4,← decide_not];exact decide_eq_decide.2 ω
  rw[q1,q2,q3,q4];cases A1<;>cases A2<;>cases A3<;>cases A4<;>cases BY g.nodes.length 0 g.pinned<;>rfl
 rw[key];refine jor [Pt b] (A1 || A2) (λK' hK'=>?_) (λe c u ho he=>?_)
 ·refine jfo (jlr (v:=.slice na g.nodes.length nc) hb rfl (jln (jgr ?_)));rw[← hA1];refine BT (λq=>?_) (λq=>?_)
  ·rw[q];refine jfo (jlr (v:=.slice ra g.AD.length rc) hb rfl (jln (jlt ?_)));rw[← hA2];exact hK' _ _ _ AY (by rw[q,Re])
  ·rw[q];exact hK' _ _ _ Ao (by rw[q,Rm])
 refine z_V ?_;refine jor [Pt b] (A1 || A2 || A3) (λK' hK'=>?_) (λe c u ho2 he=>?_)
 ·rw[ho];refine BT (λq=>?_) (λq=>?_)
  ·rw[q];refine jfo (jlr (v:=.slice ra g.AD.length rc) hb rfl (jln (jgr ?_)));rw[← hA3];exact hK' _ _ _ AY (by rw[q,Re])
  ·rw[q];exact hK' _ _ _ Ao (by rw[q,Rm])
 refine z_V ?_;refine jor [Pt b] (A1 || A2 || A3 || A4) (λK' hK'=>?_) (λe c u ho3 he=>?_)
 ·rw[ho2];refine BT (λq=>?_) (λq=>?_)
  ·rw[q];refine jfo (jlr (v:=.slice pa g.pinned.length pc) hb rfl (jln (jgr ?_)));rw[← hA4];exact hK' _ _ _ AY (by rw[q,Re])
  ·rw[q];exact hK' _ _ _ Ao (by rw[q,Rm])
 refine z_V ?_;refine jor [Pt b] (A1 || A2 || A3 || A4 || !BY g.nodes.length 0 g.pinned) (λK' hK'=>?_) (λe c u ho4 he=>?_)
 ·rw[ho3];refine BT (λq=>?_) (λq=>?_)
  ·rw[q];refine Ce (l:=[.slice na g.nodes.length nc,.slice ra g.AD.length rc,.slice pa g.pinned.length pc]) hb (by exact z_n 3) rfl (jfo (jlr (v:=.slice pa g.pinned.length pc) hb rfl ?_));exact jro (Ig rfl rfl h5 zp) (hK' _ _ _ AY (by rw[q,Re]))
  ·rw[q];exact hK' _ _ _ Ao (by rw[q,Rm])
 refine z_V ?_;rw[ho4];generalize (A1 || A2 || A3 || A4 || !BY g.nodes.length 0 g.pinned) = B;refine jif (λq=>?_) (λq=>?_)
 ·rw[q];exact AV (A:=[]) hR0 ⟨rfl,rfl⟩
 rw[q];refine N7 [Pt b] (g.nodes.all (Hq g.nodes.length) = true) (λK1 k1=>?_) (λe hp he=>?_)
 ·refine jfo (jlr (v:=.slice na g.nodes.length nc) hb rfl (jln ?_));refine N7 [Pt b] (g.nodes.all (Hq g.nodes.length) = true) (λK2 k2=>?_) (λe hp he=>?_);rotate_left
  ·refine z_V ?_;exact k1 hp
  refine HT [Pt b,.slice na g.nodes.length nc,I g.nodes.length] g.nodes.length (λi=>(g.nodes.take i).all (Hq g.nodes.length) = true) rfl λi K e hi hinv hK he=>?_
  refine z_V ?_;refine jlt (jif (λc=>?_) (λc=>?_));rotate_left
  ·have c:=z_g c;rw[RX ω] at hinv;exact k2 hinv
  have c:i < g.nodes.length:=by have:=z_f c;omega
  obtain⟨zx1,zx2⟩:=znr _ (RZ c);have bad:Hq g.nodes.length g.nodes[i] = false→g.nodes.all (Hq g.nodes.length) = false:=λh=>by
   rw[List.all_eq_false];exact⟨_,RZ c,by rw[h];decide⟩
  refine jnd h1 h2 c λx o ty cs xv yv hx hy hxb ho hrow=>Ce hxb ho hrow ?_
  obtain⟨xa,xc,rfl⟩:=hx.sl;obtain⟨ya,yc,rfl⟩:=hy.sl;refine ja λb2=>jS ([.slice xa g.nodes[i].1.length xc,.slice ya g.nodes[i].2.length yc]) ?_
  obtain⟨B1,hB1⟩:∃B1,B1 = decide ((g.nodes[i].1.length:Int) > 4):=⟨_,rfl⟩;obtain⟨B2,hB2⟩:∃B2,B2 = decide ((g.nodes[i].2.length:Int) > 4):=⟨_,rfl⟩;have kn:Hq g.nodes.length g.nodes[i] = !(B1 || B2 || !BY g.nodes.length (-1) g.nodes[i].1):=by
   unfold Hq;have q1:decide (g.nodes[i].1.length≤4) = !B1:=by rw[hB1,← decide_not];exact decide_eq_decide.2 ω
   have q2:decide (g.nodes[i].2.length≤4) = !B2:=by rw[hB2,← decide_not];exact decide_eq_decide.2 ω
   rw[q1,q2];cases B1<;>cases B2<;>cases BY g.nodes.length (-1) g.nodes[i].1<;>rfl
  refine jor [Pt b,Pt b2,.slice na g.nodes.length nc,I g.nodes.length,I i] (B1 || B2) (λK' hK'=>?_) (λe c4 u ho he=>?_)
  ·refine jfo (jl (v:=.slice xa g.nodes[i].1.length xc) rfl (jln (jgr ?_)));rw[← hB1];refine BT (λq=>?_) (λq=>?_)
   ·rw[q];refine jfo (jl (v:=.slice ya g.nodes[i].2.length yc) rfl (jln (jgr ?_)));rw[← hB2];exact hK' _ _ _ AY (by rw[q,Re])
   ·rw[q];exact hK' _ _ _ Ao (by rw[q,Rm])
  refine z_V ?_;refine jor [Pt b,.slice na g.nodes.length nc,I g.nodes.length,I i] (B1 || B2 || !BY g.nodes.length (-1) g.nodes[i].1) (λK' hK'=>?_) (λe c3 u ho2 he=>?_)
  ·rw[ho];refine BT (λq=>?_) (λq=>?_)
   ·rw[q];refine Ce (l:=[.slice na g.nodes.length nc,.slice ra g.AD.length rc,.slice pa g.pinned.length pc]) hb (by exact z_n 3) rfl (jfo (jl (v:=.slice xa g.nodes[i].1.length xc) rfl ?_));exact jro (Ig rfl rfl hx zx1) (hK' _ _ _ AY (by rw[q,Re]))
   ·rw[q];exact hK' _ _ _ Ao (by rw[q,Rm])
  refine z_V ?_;rw[ho2];refine jif (λq=>?_) (λq=>?_)
  ·rw[q] at kn;rw[bad kn];exact AV (A:=[]) hR0 ⟨rfl,rfl⟩
  ·rw[q] at kn;refine jad (BH (hK c ?_));rw[RW c,List.all_append,hinv];simp only[List.all_cons,List.all_nil,Bool.and_true,Rj];exact kn
 refine z_V ?_;rw[hp];refine jfo (jlr (v:=.slice ra g.AD.length rc) hb rfl (jln ?_));refine HT [Pt b,.slice ra g.AD.length rc,I g.AD.length] g.AD.length (λi=>((g.AD.take i).all λr=>decide (r.length≤8) && BY g.nodes.length (-1) r) = true) rfl λi K e hi hinv hK he=>?_
 refine z_V ?_;refine jlt (jif (λc=>?_) (λc=>?_));rotate_left
 ·have c:=z_g c;rw[RX ω] at hinv;rw[hinv];exact AV (A:=[]) hR0 ⟨rfl,rfl⟩
 have c:i < g.AD.length:=by have:=z_f c;omega
 have zx:=zrr _ (RZ c);refine jrw h3 h4 c λxv hx=>?_
 obtain⟨xa,xc,rfl⟩:=hx.sl;obtain⟨B1,hB1⟩:∃B1,B1 = decide ((g.AD[i].length:Int) > 8):=⟨_,rfl⟩;have kn:(decide (g.AD[i].length≤8) && BY g.nodes.length (-1) g.AD[i]) = !(B1 || !BY g.nodes.length (-1) g.AD[i]):=by
  have q1:decide (g.AD[i].length≤8) = !B1:=by rw[hB1,← decide_not];exact decide_eq_decide.2 ω
  rw[q1];cases B1<;>cases BY g.nodes.length (-1) g.AD[i]<;>rfl
 refine jor [Pt b,.slice ra g.AD.length rc,I g.AD.length,I i] (B1 || !BY g.nodes.length (-1) g.AD[i]) (λK' hK'=>?_) (λe c3 u ho he=>?_)
 ·refine jln (jgr ?_);rw[← hB1];refine BT (λq=>?_) (λq=>?_)
  ·rw[q];refine Ce (l:=[.slice na g.nodes.length nc,.slice ra g.AD.length rc,.slice pa g.pinned.length pc]) hb (by exact z_n 3) rfl ?_;exact jro (Ig rfl rfl hx zx) (hK' _ _ _ AY (by rw[q,Re]))
  ·rw[q];exact hK' _ _ _ Ao (by rw[q,Rm])
 refine z_V ?_;rw[ho];refine jif (λq=>?_) (λq=>?_)
 ·rw[q] at kn;have:(g.AD.all λr=>decide (r.length≤8) && BY g.nodes.length (-1) r) = false:=by
   rw[List.all_eq_false];exact⟨_,RZ c,by rw[kn];decide⟩
  rw[this];exact AV (A:=[]) hR0 ⟨rfl,rfl⟩
 ·rw[q] at kn;refine jad (hK c ?_);rw[RW c,List.all_append,hinv];simp only[List.all_cons,List.all_nil,Bool.and_true,Rj];exact kn
end
end Go.Lf
end
