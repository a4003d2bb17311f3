/- A part of the proof of the given row. Conditions: none. -/
import Derived.Test.YthifcapakfcfnaaGreatAI
set_option linter.unusedVariables false
set_option linter.unusedSimpArgs false
set_option maxRecDepth 100000
section
namespace Go.Lf
open Go Sm
theorem IY (cf:Cfg):Pu G3 [.agg #[I cf.A6,I cf.AB,I cf.AF]] (.bool (Az cf)):=by
 intro R;refine JR λF=>?_
 refine z_1 ?_;refine ja λb=>?_
 rw[show cl (.agg #[I cf.A6,I cf.AB,I cf.AF]) = [I cf.A6,I cf.AB,I cf.AF] from rfl];refine jan [Pt b] ((decide (cf.A6≥3)) && (decide (cf.A6≤12))) (λK' hK'=>?_) (λe c u ho he=>?_)
 ·refine jl rfl (jge (jgA hK' λh1 hN=>jl rfl (jle hN)))
 refine z_V ?_;refine jan [Pt b] ((decide (cf.A6≥3) && decide (cf.A6≤12)) && (decide (cf.AB≥1))) (λK' hK'=>?_) (λe c u ho he=>?_)
 ·rw[ho];refine jgA hK' λh1 hN=>jl rfl (jge hN)
 refine z_V ?_;refine jan [Pt b] ((decide (cf.A6≥3) && decide (cf.A6≤12) && decide (cf.AB≥1)) && (decide (cf.AB≤3))) (λK' hK'=>?_) (λe c u ho he=>?_)
 ·rw[ho];refine jgA hK' λh1 hN=>jl rfl (jle hN)
 refine z_V ?_;refine jan [Pt b] ((decide (cf.A6≥3) && decide (cf.A6≤12) && decide (cf.AB≥1) && decide (cf.AB≤3)) && (decide (cf.AF≥0))) (λK' hK'=>?_) (λe c u ho he=>?_)
 ·rw[ho];refine jgA hK' λh1 hN=>jl rfl (jge hN)
 refine z_V ?_;refine jan [] ((decide (cf.A6≥3) && decide (cf.A6≤12) && decide (cf.AB≥1) && decide (cf.AB≤3) && decide (cf.AF≥0)) && (decide (cf.AF≤100))) (λK' hK'=>?_) (λe c u ho he=>?_)
 ·rw[ho];refine jgA hK' λh1 hN=>jl rfl (jle hN)
 refine z_V ?_;rw[ho];exact BC (A:=[]) (RM.le.refl R) rfl
def QF (t:List Rg) (v:Value) (N:Chs):Prop:=if t = [] then v = .tuple #[SN,.bool false]∧N = [] else ∃sv,Qa t sv N∧v = .tuple #[sv,.bool true]
theorem Ie {R:RM} {D:Chs} (n:Int):Mk G8 [I n] R D (QF (AO n)):=by
 refine Jw λF=>?_
 refine z_1 ?_;refine jor [I n] ((decide (n < 2)) || (decide (n > 12))) (λK' hK'=>?_) (λe c u ho he=>?_)
 ·refine jlt (jgO hK' λh1 hN=>jgr hN)
 refine z_V ?_;rw[ho];refine jif (λh0=>?_) (λh0=>?_)
 ·have:AO n = []:=by
   unfold AO;rw[if_pos];simpa using h0
  rw[this];exact CS [] ⟨rfl,rfl⟩
 simp only[Tp,decide_eq_false_iff_not] at h0;obtain⟨k,rfl⟩:∃k:Nat,n = k:=⟨n.toNat,ω⟩;have ht:AO k = DY :: (List.range (k - 1)).map λ(i:Nat)=>DJ ((i:Int) + 1):=by
  unfold AO;rw[if_neg ω,Tj]
 have ht2:AO k = ((List.range k).map λj:Nat=>DJ (j:Int)).set 0 DY:=by
  rw[ht,show k = (k - 1) + 1 by omega,List.range_succ_eq_map];simp
 refine AY (λvs R' D'=>R' = R∧∃v A,SW AK 5 (((List.range k).map λj:Nat=>DJ (j:Int)).map eRg) v A∧D' = A ++ (D ++ F)∧vs = [v]) (λK hK=>?_) ?_
 ·refine jcI hK λK2 hK2=>?_
  refine jlp (λm vs R' D'=>R' = R∧∃(i:Nat) (v:Value) (A:Chs),i≤k∧SW AK 5 (((List.range i).map λj:Nat=>DJ (j:Int)).map eRg) v A∧D' = A ++ (D ++ F)∧vs = [I k,v,I i]∧m = k - i)
   (n:=k) ⟨rfl,0,SN,[],ω,.inl ⟨rfl,rfl,rfl⟩,rfl,rfl,ω⟩ ?_
  rintro m e R1 D1 K3 ⟨hR,i,v,A,hi,so,hD,he,hm⟩ hK3;subst hR;refine z_W ?_;refine jlt (jif (λhc=>?_) (λhc=>?_));rotate_left
  ·have hc:i = k:=by have:=z_g hc;omega
   subst hc;exact hK2 _ _ _ ⟨rfl,v,A,so,rfl,rfl⟩
  have hc:i < k:=by have:=z_f hc;omega
  refine jp (Ax i) (jp (Ax i) (jbd rfl rfl (jbs rfl rfl λb4=>(Aj U9.symm ?_))));have hx:Ay R1 (A ++ ((b4,C AK (eRg (DJ (i:Int)))) :: (D ++ F))) (some ⟨b4,0,none⟩) (1 * 5) [eRg (DJ (i:Int))].flatten:=Ay.held (cs:=eRg (DJ (i:Int))) (z_n 5);refine jaw so (P9 _) (by intro r hr;rw[U2.1 hr];rfl) rfl rfl rfl δ (by simp only[Tr,List.length_range,U0];omega) hx λv' A' so'=>(jad (B7 A' (G:=D ++ F) (hK3 (k - (i + 1)) _ _ _ ω ⟨rfl,i + 1,v',A',ω,?_,rfl,rfl,rfl⟩)))
  rw[List.range_succ,Uk,Uk];exact so'
 rintro e R1 D1 ⟨hR,v,A,so,hD,he⟩;subst hR;refine z_W ?_;rcases so with ⟨h1,_,_⟩ | ⟨b,c,sp,hc,hsp,rfl,rfl⟩
 ·have:=congrArg List.length h1;simp at this;omega
 rw[Tr] at hc ⊢;refine jbd rfl rfl ?_;have hlen:((List.range k).map λj:Nat=>DJ (j:Int)).length = k:=σ
 refine Aj (UV _) (Bk (r:=0) ω (HL (x:=DY) ω (CS [(b,C AK (Aa eRg (((List.range k).map λj:Nat=>DJ (j:Int)).set 0 DY) ++ sp))] ?_)));rw[ht2];unfold QF;rw[if_neg (by intro hn;have:=congrArg List.length hn;simp at this;omega)];exact⟨_,⟨b,c,sp,by rw[U3];exact hc,by rw[U3],rfl⟩,rfl⟩
theorem PQ {w:List Int} {n k:Nat} (h:n + k < w.length):(w.take n ++ List.replicate k 0 ++ w.drop (n + k)).set (n + k) 0 = w.take n ++ List.replicate (k + 1) 0 ++ w.drop (n + (k + 1)):=by
 have l1:(w.take n ++ List.replicate k (0:Int)).length = n + k:=by simp;omega
 rw[Uo _ _ ω,l1,Nat.sub_self,Ts h,List.set_cons_zero,List.replicate_succ',Tu,Tu,Tu,List.singleton_append,Nat.add_assoc]
def QMk (r:List Int × Bool) (v:Value) (A:Chs):Prop:=if r.2 then ∃sv,QZ r.1 sv A∧v = .tuple #[sv,.bool true] else v = .tuple #[SN,.bool false]∧A = []
theorem Js {w:List Int} {n z:Nat} {s:Shp} (h0:fits w.length n (AC s) = true) (hso:Ao s = true) (hz:AC s = z) :
  C0 w n s = ((((w.take n ++ List.replicate z 0 ++ w.drop (n + z)).set n (n:Int)).set (n + 1) (Ab s)),true):=by
 obtain⟨a0,a1,a2,a3⟩:=F2 h0;have hsz:AC s = 2 + s.refs + s.nums:=by unfold AC;rw[if_pos hso]
 have hrn:0≤s.refs∧0≤s.nums:=by
  unfold Ao at hso;simp only[z_b,z_d] at hso;omega
 unfold C0;rw[if_pos h0];congr 1;unfold Sm.put;obtain⟨z',rfl⟩:∃k,z = k + 2:=⟨z - 2,ω⟩;have e1:s.refs.toNat + s.nums.toNat = z':=ω
 have l1:(w.take n).length = n:=by simp;omega
 have e2:w.take n ++ List.replicate (z' + 2) 0 ++ w.drop (n + (z' + 2)) = w.take n ++ (0 :: 0 :: (List.replicate z' 0 ++ w.drop (n + (z' + 2)))):=by simp[List.replicate_succ]
 rw[e1,e2,Tj,Uo _ _ ω,l1,Nat.sub_self,List.set_cons_zero,Uo _ _ ω,l1,Nat.add_sub_cancel_left];simp[Nat.add_comm,Nat.add_left_comm]
theorem KP {R:RM} {wv:Value} {w:List Int} (a:Int) (s:Shp) (h:B9 R wv w) (hl:w.length < 1000000) :
  Fn P FB [wv,I a,eSh s] R [] (λv R' A=>R' = R∧QMk (C0 w a s) v A):=by
 refine In λF=>?_
 refine z_3 ?_;obtain⟨wa,wc,hwv,hr⟩:=Fz.reads (D:=[]) h;refine ja λb1=>?_
 rw[show cl (eSh s) = [I s.refs,I s.nums] from rfl];refine jla (l:=[I s.refs,I s.nums]) σ rfl (jp (Bm s) ?_);rw[hwv];refine jp (IV wa w.length wc a (AC s) ω) (jif (λh0=>?_) (λh0=>?_))
 ·have h0:fits w.length a (AC s) = false:=by simpa using h0
  refine BC (A:=[]) (RM.le.refl R) ⟨rfl,?_⟩;have:C0 w a s = ([],false):=by unfold C0;rw[h0];rfl
  rw[this];exact⟨rfl,rfl⟩
 have h0:fits w.length a (AC s) = true:=by simpa using h0
 obtain⟨a0,a1,a2,a3⟩:=F2 h0;have hso:Ao s = true:=by
  unfold AC at a2;split at a2
  ·assumption
  ·omega
 have hsz:AC s = 2 + s.refs + s.nums:=by unfold AC;rw[if_pos hso]
 have hrn:0≤s.refs∧0≤s.nums:=by
  unfold Ao at hso;simp only[z_b,z_d] at hso;omega
 obtain⟨n,rfl⟩:∃n:Nat,a = n:=⟨a.toNat,ω⟩;obtain⟨z,hz⟩:∃z:Nat,AC s = z:=⟨(AC s).toNat,ω⟩;have em:=Js h0 hso hz;rw[hz] at a1 a2 a3 ⊢;have fin:∀(b c:Nat) (sp:List Value) (E:Chs) (K:Value→M),w.length≤c→sp.length = c - w.length→Sf E F→True:=λ_ _ _ _ _ _ _ _=>trivial
 clear fin;refine jbs (cs:=[]) rfl rfl λb2=>?_
 have hl0:w.length≠0:=ω
 have rest:∀(b c:Nat) (sp:List Value) (E:Chs),w.length≤c→sp.length = c - w.length→At E b1 (C F6 [I s.refs,I s.nums])→Sf E F→
   J R ((b,C AZ (w.map I ++ sp)) :: E) (CUT [1,5,9] (λJe8=>CUT [1,5,9] (λJe14=>LP [1,5,8,9,10] (λKe15 e15=>BO .lss (e15 10) (e15 8) λx16=>IF x16 (BO .add (e15 1) (e15 10) λx17=>IA 1 (e15 9) x17 λx18=>ST 1 x18 (I 0)<|BO .add (e15 10) (I 1) λx19=>Ke15 [(e15 1),(e15 5),(e15 8),(e15 9),x19]) (Je14 [(e15 1),(e15 5),(e15 9)])) [I n,Pt b1,I z,S0 b w.length c,(I 0)]) λe14=>Je8 [(e14 1),(e14 5),(e14 9)]) λe8=>IA 1 (e8 9) (e8 1) λx9=>ST 1 x9 (e8 1)<|BO .add (e8 1) (I 1) λx10=>LA 2 (e8 5) λx11=>CA P 146 [x11] λx12=>IA 1 (e8 9) x10 λx13=>ST 1 x13 x12<|F8 R F (λv R' A=>R' = R∧QMk (C0 w n s) v A) (.tuple #[(e8 9),(.bool true)])):=by
  intro b c sp E hc hsp ea ef;refine AY (λvs R' D'=>R' = R∧∃cur:List Int,cur = w.take n ++ List.replicate z 0 ++ w.drop (n + z)∧D' = (b,C AZ (cur.map I ++ sp)) :: E∧vs = [I n,Pt b1,S0 b w.length c]) (λK hK=>?_) ?_
  ·refine jcI hK λK2 hK2=>?_
   refine jlp (λm vs R' D'=>R' = R∧∃(k:Nat) (cur:List Int),k≤z∧cur = w.take n ++ List.replicate k 0 ++ w.drop (n + k)∧D' = (b,C AZ (cur.map I ++ sp)) :: E∧vs = [I n,Pt b1,I z,S0 b w.length c,I k]∧m = z - k)
    (n:=z) ⟨rfl,0,w,ω,σ,rfl,rfl,ω⟩ ?_
   rintro m e R1 D1 K3 ⟨hR,k,cur,hk,hcur,hD,he,hm⟩ hK3;subst hR;refine z_W ?_;clear hD;have hcl:cur.length = w.length:=by rw[hcur];simp;omega
   refine jlt (jif (λhc=>?_) (λhc=>?_));rotate_left
   ·have hc:k = z:=by have:=z_g hc;omega
    subst hc;exact hK2 _ _ _ ⟨rfl,cur,hcur,rfl,rfl⟩
   have hc:k < z:=by have:=z_f hc;omega
   refine jad ?_;rw[show (n:Int) + k = ((n + k:Nat):Int) by omega];refine Bk ω (jsi ω (jad (hK3 (z - (k + 1)) _ _ _ ω ⟨rfl,k + 1,cur.set (n + k) 0,ω,by rw[hcur];exact PQ ω,rfl,rfl,rfl⟩)))
  rintro e R1 D1 ⟨hR,cur,hcur,hD,he⟩;subst hR;refine z_W ?_;clear hD;have hcl:cur.length = w.length:=by rw[hcur];simp;omega
  refine Bk ω (jsi ω (jad (jla (l:=[I s.refs,I s.nums]) σ rfl (jp (DU s) ?_))));rw[show (n:Int) + 1 = ((n + 1:Nat):Int) by omega];refine Bk ω (jsi (by rw[U3];omega) (BC (A:=[(b,C AZ (((cur.set n n).set (n + 1) (Ab s)).map I ++ sp))]) (RM.le.refl R1) ⟨rfl,?_⟩));rw[em,hcur];refine⟨_,⟨b,c,sp,?_,?_,?_,rfl⟩,rfl⟩
  all_goals simp only[U3,← hcur,hcl]
  ·exact hc
  ·exact hsp
 refine Rj (new:=w.map I) ?_ δ ω (λ_=>rfl) (λh0=>?_) (λb' c hc=>?_)
 ·intro h' hs';exact hr h' (St.drop (by simpa using hs'))
 ·omega
 ·exact rest b' c _ _ hc (by rw[BT (w:=1) (by intro x hx;rw[(Ue.1 hx).2];rfl)];simp) inferInstance inferInstance
theorem jnc {R:RM} {D:Chs} {b o:Nat} {k:Value→M} (H:J R D (k (.pointer (some ⟨b,o,none⟩)))):J R D (NC (.pointer (some ⟨b,o,none⟩)) k):=H
def wS (S:Sim) (g:Img):Value:=.slice (some ⟨g.wb,0,none⟩) S.A5.length g.wc
def tS (S:Sim) (g:Img):Value:=.slice (some ⟨g.tb,0,none⟩) S.A0.length g.tc
def mS (S:Sim) (g:Img):Value:=.slice (some ⟨g.mb,0,none⟩) S.AJ.length g.mc
def eVw (S:Sim) (g:Img) (av wv thv:Value):List Value:=[wS S g,tS S g,mS S g,I S.AW,.bool S.stop,.bool S.full,av,wv,thv,g.old,g.AI,I S.B8,I S.Be]
theorem Ki {R:RM} {S:Sim} {g:Img} (ok:Ok R S g) {av wv thv:Value} (h1:flat av = true) (h2:flat wv = true) (h3:flat thv = true):Bn (eVw S g av wv thv) = true:=by
 have h4:=Fz.flat ok.old;have h5:=Fz.flat ok.AI;show (true && (true && (true && (true && (true && (true && (flat av && (flat wv && (flat thv && (flat g.old && (flat g.AI && (true && (true && true))))))))))))) = true;rw[h1,h2,h3,h4,h5];rfl
def PT (t:Thr):Th:=⟨t.AA,t.next,t.pc != 0,t.BB⟩
theorem Qf {p:Nat} {S:Sim} {g:Img} {R:RM} (hok:Ok R S g) (hsz:S.sz = true) :
  Fn P FZ [Pt p] R (AU p S g) (λv R' A=>∃rows thv A',Rw (DB R') rows S.view.AB∧SW 83 4 rows thv A'∧A = A' ++ AU p S g∧v = .agg (eSt S.view (wS S g) (tS S g) (mS S g) thv g.old g.AI).toArray):=by
 refine M4 λF=>?_
 refine z_1 ?_;have hsz:=EU hsz;have hhl:=hok.hl;obtain⟨f1,f2,f3⟩:=hok.fl;refine ja λb1=>(jnc (jfo (jla (by show 4 + 13≤35;omega) rfl (ja λb2=>?_))))
 refine js (cs':=eVw S g g.Ai g.want g.AB) rfl (Ki hok f1 f2 f3) (by exact z_n 13) rfl (js rfl rfl (by simp[eVw]) rfl (Aj (UV _) (AY (λvs R' D'=>R.le R'∧∃rows v A,Rw (DB R') rows (S.th.map PT)∧SW 83 4 rows v A∧D' = A ++ (b2,C AT (eVw S g g.Ai g.want v)) :: (b1,C AT (cl z34)) :: (AU p S g ++ F)∧vs = [Pt p,Pt b1,Pt b2]) (λK hK=>?_) ?_)))
 ·refine jcI hK λK2 hK2=>?_
  refine jlp (λm vs R' D'=>R.le R'∧∃(i:Nat) (rows:List (List Value)) (v:Value) (A:Chs),i≤S.th.length∧Rw (DB R') rows ((S.th.take i).map PT)∧SW 83 4 rows v A∧D' = A ++ (b2,C AT (eVw S g g.Ai g.want v)) :: (b1,C AT (cl z34)) :: (AU p S g ++ F)∧vs = [Pt p,Pt b1,Pt b2,I i]∧m = S.th.length - i)
   (n:=S.th.length) ⟨RM.le.refl R,0,[],SN,[],ω,Rw.nil,.inl ⟨rfl,rfl,rfl⟩,rfl,rfl,ω⟩ ?_
  rintro m e R1 D1 K3 ⟨hR,i,rows,v,A,hi,hrw,so,hD,he,hm⟩ hK3;refine z_W ?_;have ok1:=hok.le hR;refine jl rfl (jln (jlt (jif (λhc=>?_) (λhc=>?_))));rotate_left
  ·have hc:=z_g hc;rw[UG ω] at hrw;exact hK2 _ _ _ ⟨hR,rows,v,A,hrw,so,rfl,rfl⟩
  have hc:i < S.th.length:=by have:=z_f hc;omega
  have hti:idx S.th i = some (S.th[i]):=by unfold idx;rw[if_pos ω,Tj,Tl hc]
  have hri:=hsz.2.2.2.2 _ (U6 hc);refine Es ok1 hti rfl λb a cap hv=>?_
  obtain⟨sa,sc,hsl⟩:=so.sl;subst hsl;have htk:(S.th.take (i + 1)).map PT = (S.th.take i).map PT ++ [PT S.th[i]]:=by
   rw[UL hc,Uk];rfl
  generalize S.th[i] = t at hti hri hv htk ⊢;refine jfo (jl rfl (jfo (jl rfl (jfo (jl rfl (jfo (jl rfl (jfo (jl rfl (jne (jc (Br hv hri) ?_)))))))))));rintro _ R2 _ hR2 ⟨b4,c4,sp4,hc4,hsp4,rfl,rfl⟩;refine Bc (b:=b4) λR3 hR3 hb4=>?_
  have hv2:=Bj hb4 hc4;refine jbd rfl rfl (Aq (jl rfl jev) (Aq (jl rfl jev) (Aq (jl rfl jev) (Aq (jl rfl jev) (jbs rfl rfl λb6=>(Aq (jl rfl jev) (Aj (D':=(b6,C 83 [S0 b4 t.AA.length c4,I t.next,.bool (t.pc != 0),I t.BB]) :: (b,C AS (Ac t (.slice a t.AA.length cap))) :: (A ++ ((b2,C AT (eVw S g g.Ai g.want (.slice sa rows.length sc))) :: (b1,C AT (cl z34)) :: (AU p S g ++ F)))) (UV _) (B7 A (G:=(b6,C 83 [S0 b4 t.AA.length c4,I t.next,.bool (t.pc != 0),I t.BB]) :: (b,C AS (Ac t (.slice a t.AA.length cap))) :: (b2,C AT (eVw S g g.Ai g.want (.slice sa rows.length sc))) :: (b1,C AT (cl z34)) :: (AU p S g ++ F)) ?_))))))));have hx:Ay R3 (A ++ ((b6,C 83 [S0 b4 t.AA.length c4,I t.next,.bool (t.pc != 0),I t.BB]) :: (b,C AS (Ac t (.slice a t.AA.length cap))) :: (b2,C AT (eVw S g g.Ai g.want (.slice sa rows.length sc))) :: (b1,C AT (cl z34)) :: (AU p S g ++ F))) (some ⟨b6,0,none⟩) (1 * 4) [[S0 b4 t.AA.length c4,I t.next,.bool (t.pc != 0),I t.BB]].flatten:=Ay.held (cs:=[S0 b4 t.AA.length c4,I t.next,.bool (t.pc != 0),I t.BB]) (z_n 4);have hrl:=hrw.1;rw[Tr,UA] at hrl;refine jaw so (hrw.all λ_ _=>DB.len) (by intro r hr;rw[U2.1 hr];rfl) rfl rfl rfl δ (by rw[U0];omega) hx λv' A' so'=>?_
  obtain⟨sa',sc',hsl'⟩:=so'.sl;subst hsl';refine jS (eVw S g g.Ai g.want (.slice sa' (rows ++ [[S0 b4 t.AA.length c4,I t.next,.bool (t.pc != 0),I t.BB]]).length sc')) (jad (B7 A' (G:=(b2,C AT (eVw S g g.Ai g.want (.slice sa' (rows ++ [[S0 b4 t.AA.length c4,I t.next,.bool (t.pc != 0),I t.BB]]).length sc'))) :: (b1,C AT (cl z34)) :: (AU p S g ++ F)) (hK3 (S.th.length - (i + 1)) _ _ _ ω ⟨(hR.trans hR2).trans hR3,i + 1,_,_,A',ω,?_,so',rfl,rfl,rfl⟩)));rw[htk];exact (hrw.mono λ_ _=>DB.le (hR2.trans hR3)).app (Rw.one ⟨_,rfl,hv2⟩)
 rintro e R1 D1 ⟨hR,rows,v,A,hrw,so,hD,he⟩;refine z_W ?_;obtain⟨sa,sc,hsl⟩:=so.sl;subst hsl;refine jl rfl (jS (eVw S g (.bool S.col.Ai) g.want (.slice sa rows.length sc)) (jl rfl (js rfl rfl (by simp[eVw]) rfl (jla (by exact z_n 13) rfl ?_))));refine js rfl (Ki hok rfl rfl rfl) (by exact z_n 13) rfl (jla (by exact z_n 13) rfl (Aj (D':=(A ++ AU p S g) ++ ((b2,C AT (eVw S g (.bool S.col.Ai) (I S.col.want) (.slice sa rows.length sc))) :: (b1,C AT (eVw S g (.bool S.col.Ai) (I S.col.want) (.slice sa rows.length sc))) :: F)) ?_ ?_))
 ·rw[Tu];exact (List.perm_append_comm_assoc [_,_] (AU p S g) F).append_left A
 exact BC hR ⟨rows,.slice sa rows.length sc,A,hrw,so,rfl,rfl⟩
theorem Rs {p:Nat} {S:Sim} {g:Img} {R:RM} (hok:Ok R S g) (hsz:S.sz = true) :
  Fn P FZ [Pt p] R (AU p S g) (λv R' A=>R.le R'∧A = AU p S g∧∃thv,Ths R' thv S.view.AB∧v = .agg (eSt S.view (wS S g) (tS S g) (mS S g) thv g.old g.AI).toArray):=by
 intro F h hs;refine F0 ?_ (Qf hok hsz F h hs);rintro v h' ⟨R',A,h1,h2,rows,thv,A',hrw,so,rfl,rfl⟩;rw[Tu] at h2;refine (jfw so (hrw.all λ_ _=>DB.len) λR2 hR2 hfz=>(BC (h1.trans hR2) ⟨h1.trans hR2,rfl,thv,⟨rows,hrw.mono λ_ _=>DB.le hR2,hfz⟩,rfl⟩)) h' h2
theorem Fs {R:RM} {D:Chs} {a:M} (h:J R D a):J R D (ALL [a]):=h
theorem Ii {R:RM} {D:Chs} {a b:M} {r:List M} (h:J R D a) (h2:J R D (ALL (b :: r))):J R D (ALL (a :: b :: r)):=λh' hs=>⟨h h' hs,h2 h' hs⟩
def eNw (w:Value) (tv:Value) (m:Value) (thv:Value):List Value:=[w,tv,m,I 0,.bool false,.bool false,.bool false,I 0,thv,SN,SN,I 0,I 0]
def BA (c:Cfg):List Int:=(C0 (List.replicate (c.A6.toNat * 16) 0) 16 Bf).1
theorem Hu {c:Cfg} (h:Az c = true):(C0 (List.replicate (c.A6.toNat * 16) 0) 16 Bf).2 = true∧(BA c).length = c.A6.toNat * 16:=by
 unfold Az at h;simp only[z_b,z_d] at h;have hf:fits (c.A6.toNat * 16) 16 (AC Bf) = true:=by
  have e:AC Bf = 8:=δ
  rw[e];unfold fits BW AQ;simp only[z_b,z_d,beq_iff_eq];refine⟨⟨⟨⟨⟨⟨⟨ω,ω⟩,ω⟩,ω⟩,ω⟩,ω⟩,ω⟩,δ⟩
 unfold BA C0;rw[Tz,if_pos hf];refine⟨rfl,?_⟩;unfold Sm.put;have:Bf.refs.toNat + Bf.nums.toNat = 6:=δ
 simp only[Tn,UA,Tz,Ud,U4,Ug,this];omega
theorem Lt {R:RM} {c:Cfg} (hc:Az c = true) :
  Fn P G9 [.agg #[I c.A6,I c.AB,I c.AF]] R [] (λv R' A=>∃bw cw wsp bt ct tsp bm thv,(BA c).length≤cw∧(AO c.A6).length≤ct∧Ths R' thv (List.replicate c.AB.toNat ⟨[16],0,false,0⟩)∧
   A = [(bw,C AZ ((BA c).map I ++ wsp)),(bt,C AK (Aa eRg (AM (AO c.A6) 1 ⟨3,-1,24,24,0⟩) ++ tsp)),(bm,C Au ((List.replicate (c.A6.toNat * 16) false).map Value.bool))]∧
   v = .tuple #[.agg (eNw (S0 bw (BA c).length cw) (S0 bt (AO c.A6).length ct) (S0 bm (c.A6.toNat * 16) (c.A6.toNat * 16)) thv).toArray,.bool true]):=by
 refine KE λF=>?_
 refine z_1 ?_;have hcc:=hc;unfold Az at hc;simp only[z_b,z_d] at hc;refine ja λb1=>?_
 rw[show cl (.agg #[I c.A6,I c.AB,I c.AF]) = [I c.A6,I c.AB,I c.AF] from rfl];refine ja λb2=>?_
 refine jla σ rfl ?_;refine jp (IY c) ?_;rw[hcc];refine DM (jfo (jl rfl ?_));refine jmk (Ie c.A6) ?_;intro v N hq;unfold QF at hq;have htl:(AO c.A6).length = c.A6.toNat:=by
  unfold AO;rw[if_neg ω];simp;omega
 rw[if_neg (by intro hn;rw[hn] at htl;simp at htl;omega)] at hq;obtain⟨sv,⟨bt,ct,tsp,hct,rfl,rfl⟩,rfl⟩:=hq;refine jex rfl (jex rfl ?_);have e16:(c.A6 * 16).toNat = c.A6.toNat * 16:=ω
 refine AY (λvs R' D'=>R' = R∧∃bw bm b6,D' = (b6,C AT (eNw (S0 bw (c.A6.toNat * 16) (c.A6.toNat * 16)) (S0 bt (AO c.A6).length ct) (S0 bm (c.A6.toNat * 16) (c.A6.toNat * 16)) (SN))) ::
   (bw,C AZ ((List.replicate (c.A6.toNat * 16) [I 0]).flatten)) :: (bm,C Au ((List.replicate (c.A6.toNat * 16) [Value.bool false]).flatten)) ::
   (bt,C AK (Aa eRg (AO c.A6) ++ tsp)) :: (b2,C AT (cl z34)) :: (b1,C 24 [I c.A6,I c.AB,I c.AF]) :: F∧vs = [Pt b1,Pt b2,Pt b6]) (λK hK=>?_) ?_
 ·refine jfo (jl rfl (FW ⟨ω,ω⟩ (jfo (jl rfl (FW ⟨ω,ω⟩ ?_)))));refine Ii ?_ (Ii ?_ (Fs ?_))
  ·refine jms ω ω ω λbw=>?_
   rw[e16];refine Aq (jl rfl jev) ?_;refine Ii ?_ (Fs ?_)
   ·refine jms ω ω ω λbm=>?_
    rw[e16];refine jbd rfl rfl ?_;refine ja λb6=>?_
    refine jS ((eNw (S0 bw (c.A6.toNat * 16) (c.A6.toNat * 16)) (S0 bt (AO c.A6).length ct) (S0 bm (c.A6.toNat * 16) (c.A6.toNat * 16)) (SN))) ?_;refine B7 [(b6,C AT (eNw (S0 bw (c.A6.toNat * 16) (c.A6.toNat * 16)) (S0 bt (AO c.A6).length ct) (S0 bm (c.A6.toNat * 16) (c.A6.toNat * 16)) (SN))),(bw,C AZ ((List.replicate (c.A6.toNat * 16) [I 0]).flatten)),(bm,C Au ((List.replicate (c.A6.toNat * 16) [Value.bool false]).flatten))] (G:=[(bt,C AK (Aa eRg (AO c.A6) ++ tsp))] ++ (b2,C AT (cl z34)) :: (b1,C 24 [I c.A6,I c.AB,I c.AF]) :: ([] ++ F)) ?_;exact hK _ _ _ ⟨rfl,bw,bm,b6,rfl,rfl⟩
   ·refine ja λb6=>?_
    refine Aq (jl rfl jev) ?_;refine jms ω ω ω λbm=>?_
    rw[e16];refine jbd rfl rfl ?_;refine jS ((eNw (S0 bw (c.A6.toNat * 16) (c.A6.toNat * 16)) (S0 bt (AO c.A6).length ct) (S0 bm (c.A6.toNat * 16) (c.A6.toNat * 16)) (SN))) ?_;refine B7 [(b6,C AT (eNw (S0 bw (c.A6.toNat * 16) (c.A6.toNat * 16)) (S0 bt (AO c.A6).length ct) (S0 bm (c.A6.toNat * 16) (c.A6.toNat * 16)) (SN))),(bw,C AZ ((List.replicate (c.A6.toNat * 16) [I 0]).flatten)),(bm,C Au ((List.replicate (c.A6.toNat * 16) [Value.bool false]).flatten))] (G:=[(bt,C AK (Aa eRg (AO c.A6) ++ tsp))] ++ (b2,C AT (cl z34)) :: (b1,C 24 [I c.A6,I c.AB,I c.AF]) :: ([] ++ F)) ?_;exact hK _ _ _ ⟨rfl,bw,bm,b6,rfl,rfl⟩
  ·refine jms ω ω ω λbm=>?_
   rw[e16];refine Aq (jl rfl jev) ?_;refine Ii ?_ (Fs ?_)
   ·refine jms ω ω ω λbw=>?_
    rw[e16];refine jbd rfl rfl ?_;refine ja λb6=>?_
    refine jS ((eNw (S0 bw (c.A6.toNat * 16) (c.A6.toNat * 16)) (S0 bt (AO c.A6).length ct) (S0 bm (c.A6.toNat * 16) (c.A6.toNat * 16)) (SN))) ?_;refine B7 [(b6,C AT (eNw (S0 bw (c.A6.toNat * 16) (c.A6.toNat * 16)) (S0 bt (AO c.A6).length ct) (S0 bm (c.A6.toNat * 16) (c.A6.toNat * 16)) (SN))),(bw,C AZ ((List.replicate (c.A6.toNat * 16) [I 0]).flatten)),(bm,C Au ((List.replicate (c.A6.toNat * 16) [Value.bool false]).flatten))] (G:=[(bt,C AK (Aa eRg (AO c.A6) ++ tsp))] ++ (b2,C AT (cl z34)) :: (b1,C 24 [I c.A6,I c.AB,I c.AF]) :: ([] ++ F)) ?_;exact hK _ _ _ ⟨rfl,bw,bm,b6,rfl,rfl⟩
   ·refine ja λb6=>?_
    refine Aq (jl rfl jev) ?_;refine jms ω ω ω λbw=>?_
    rw[e16];refine jbd rfl rfl ?_;refine jS ((eNw (S0 bw (c.A6.toNat * 16) (c.A6.toNat * 16)) (S0 bt (AO c.A6).length ct) (S0 bm (c.A6.toNat * 16) (c.A6.toNat * 16)) (SN))) ?_;refine B7 [(b6,C AT (eNw (S0 bw (c.A6.toNat * 16) (c.A6.toNat * 16)) (S0 bt (AO c.A6).length ct) (S0 bm (c.A6.toNat * 16) (c.A6.toNat * 16)) (SN))),(bw,C AZ ((List.replicate (c.A6.toNat * 16) [I 0]).flatten)),(bm,C Au ((List.replicate (c.A6.toNat * 16) [Value.bool false]).flatten))] (G:=[(bt,C AK (Aa eRg (AO c.A6) ++ tsp))] ++ (b2,C AT (cl z34)) :: (b1,C 24 [I c.A6,I c.AB,I c.AF]) :: ([] ++ F)) ?_;exact hK _ _ _ ⟨rfl,bw,bm,b6,rfl,rfl⟩
  ·refine ja λb6=>?_
   refine Aq (jl rfl jev) (Aq (jl rfl jev) ?_);refine Ii ?_ (Fs ?_)
   ·refine jms ω ω ω λbw=>?_
    rw[e16];refine Aq (jl rfl jev) ?_;refine jms ω ω ω λbm=>?_
    rw[e16];refine jbd rfl rfl ?_;refine jS ((eNw (S0 bw (c.A6.toNat * 16) (c.A6.toNat * 16)) (S0 bt (AO c.A6).length ct) (S0 bm (c.A6.toNat * 16) (c.A6.toNat * 16)) (SN))) ?_;refine B7 [(b6,C AT (eNw (S0 bw (c.A6.toNat * 16) (c.A6.toNat * 16)) (S0 bt (AO c.A6).length ct) (S0 bm (c.A6.toNat * 16) (c.A6.toNat * 16)) (SN))),(bw,C AZ ((List.replicate (c.A6.toNat * 16) [I 0]).flatten)),(bm,C Au ((List.replicate (c.A6.toNat * 16) [Value.bool false]).flatten))] (G:=[(bt,C AK (Aa eRg (AO c.A6) ++ tsp))] ++ (b2,C AT (cl z34)) :: (b1,C 24 [I c.A6,I c.AB,I c.AF]) :: ([] ++ F)) ?_;exact hK _ _ _ ⟨rfl,bw,bm,b6,rfl,rfl⟩
   ·refine jms ω ω ω λbm=>?_
    rw[e16];refine Aq (jl rfl jev) ?_;refine jms ω ω ω λbw=>?_
    rw[e16];refine jbd rfl rfl ?_;refine jS ((eNw (S0 bw (c.A6.toNat * 16) (c.A6.toNat * 16)) (S0 bt (AO c.A6).length ct) (S0 bm (c.A6.toNat * 16) (c.A6.toNat * 16)) (SN))) ?_;refine B7 [(b6,C AT (eNw (S0 bw (c.A6.toNat * 16) (c.A6.toNat * 16)) (S0 bt (AO c.A6).length ct) (S0 bm (c.A6.toNat * 16) (c.A6.toNat * 16)) (SN))),(bw,C AZ ((List.replicate (c.A6.toNat * 16) [I 0]).flatten)),(bm,C Au ((List.replicate (c.A6.toNat * 16) [Value.bool false]).flatten))] (G:=[(bt,C AK (Aa eRg (AO c.A6) ++ tsp))] ++ (b2,C AT (cl z34)) :: (b1,C 24 [I c.A6,I c.AB,I c.AF]) :: ([] ++ F)) ?_;exact hK _ _ _ ⟨rfl,bw,bm,b6,rfl,rfl⟩
 rintro e Rz D1 ⟨hR,bw0,bm,b6,hD,he⟩;subst hR;refine z_W ?_;have htk:(List.replicate (c.A6.toNat * 16) [I 0]).flatten = (List.replicate (c.A6.toNat * 16) (0:Int)).map I ++ []:=by simp[US]
 have hmk:(List.replicate (c.A6.toNat * 16) [Value.bool false]).flatten = (List.replicate (c.A6.toNat * 16) false).map Value.bool:=by simp[US]
 rw[htk,hmk];refine Bc (b:=bw0) λR2 hR2 hb0=>?_
 have hw0:B9 R2 (S0 bw0 (c.A6.toNat * 16) (c.A6.toNat * 16)) (List.replicate (c.A6.toNat * 16) 0):=by
  have:=Bj (c:=c.A6.toNat * 16) hb0 σ;rw[Tz] at this;exact this
 refine jbd rfl rfl (ja λb7=>?_);refine js (cs':=[I 4,I 2]) rfl rfl σ rfl ?_;refine jfo (jl rfl ?_);refine jla σ rfl ?_;refine jc (KP 16 Bf hw0 (by rw[Tz];omega)) ?_;rintro v3 R3 A3 hR3 ⟨hRR,hq⟩;subst hRR;obtain⟨sf1,sf2⟩:=Hu hcc;unfold QMk at hq;rw[if_pos sf1] at hq;obtain⟨sv,⟨bw,cw,wsp,hcw,hwsp,rfl,rfl⟩,rfl⟩:=hq;refine jex rfl (jex rfl ?_);refine jfo (js rfl rfl (by simp[eNw]) rfl ?_);refine jla (l:=[I 4,I 2]) σ rfl (jp (Bm Bf) (CF ⟨δ,δ⟩ ?_));rw[show (16:Int) + AC Bf = 24 by decide];refine jfo (jl rfl ?_);refine jbd rfl rfl ?_;refine Bk (r:=1) ω (HL (x:=⟨3,-1,24,24,0⟩) ω ?_);refine Aj (D':=(bw,C AZ ((BA c).map I ++ wsp)) :: (b7,C 52 [I 4,I 2]) :: (b6,C AT (eNw (S0 bw (BA c).length cw) (S0 bt (AO c.A6).length ct) (S0 bm (c.A6.toNat * 16) (c.A6.toNat * 16)) (SN))) :: (bm,C Au ((List.replicate (c.A6.toNat * 16) false).map Value.bool)) :: (bt,C AK (Aa eRg (AM (AO c.A6) 1 ⟨3,-1,24,24,0⟩) ++ tsp)) :: (b2,C AT (cl z34)) :: (b1,C 24 [I c.A6,I c.AB,I c.AF]) :: F) (UV _) ?_;refine B7 [(b6,C AT (eNw (S0 bw (BA c).length cw) (S0 bt (AO c.A6).length ct) (S0 bm (c.A6.toNat * 16) (c.A6.toNat * 16)) (SN))),(b1,C 24 [I c.A6,I c.AB,I c.AF]),(b2,C AT (cl z34)),(bw,C AZ ((BA c).map I ++ wsp)),(bt,C AK (Aa eRg (AM (AO c.A6) 1 ⟨3,-1,24,24,0⟩) ++ tsp)),(bm,C Au ((List.replicate (c.A6.toNat * 16) false).map Value.bool))] (G:=F) ?_;generalize hE:(b1,C 24 [I c.A6,I c.AB,I c.AF]) :: (b2,C AT (cl z34)) :: ([(bw,C AZ ((BA c).map I ++ wsp)),(bt,C AK (Aa eRg (AM (AO c.A6) 1 ⟨3,-1,24,24,0⟩) ++ tsp)),(bm,C Au ((List.replicate (c.A6.toNat * 16) false).map Value.bool))] ++ F) = E;have ea1:At E b1 (C 24 [I c.A6,I c.AB,I c.AF]):=by rw[← hE];exact inferInstance
 refine Aj (D':=(b6,C AT (eNw (S0 bw (BA c).length cw) (S0 bt (AO c.A6).length ct) (S0 bm (c.A6.toNat * 16) (c.A6.toNat * 16)) (SN))) :: E) (by rw[← hE];exact UV _) ?_;obtain⟨n,hn⟩:∃n:Nat,c.AB = n:=⟨c.AB.toNat,ω⟩;refine AY (λvs R' D'=>Rz.le R'∧∃rows v A,Rw (DB R') rows (List.replicate n ⟨[16],0,false,0⟩)∧SW 83 4 rows v A∧D' = A ++ (b6,C AT (eNw (S0 bw (BA c).length cw) (S0 bt (AO c.A6).length ct) (S0 bm (c.A6.toNat * 16) (c.A6.toNat * 16)) v)) :: E∧vs = [Pt b2,Pt b6]) (λK hK=>?_) ?_
 ·refine jcI hK λK2 hK2=>?_
  refine jlp (λm vs R' D'=>Rz.le R'∧∃(i:Nat) (rows:List (List Value)) (v:Value) (A:Chs),i≤n∧Rw (DB R') rows (List.replicate i ⟨[16],0,false,0⟩)∧SW 83 4 rows v A∧D' = A ++ (b6,C AT (eNw (S0 bw (BA c).length cw) (S0 bt (AO c.A6).length ct) (S0 bm (c.A6.toNat * 16) (c.A6.toNat * 16)) v)) :: E∧vs = [Pt b1,Pt b2,Pt b6,I i]∧m = n - i)
   (n:=n) ⟨hR2,0,[],SN,[],ω,Rw.nil,.inl ⟨rfl,rfl,rfl⟩,rfl,rfl,ω⟩ ?_
  rintro m e R1 D1 K3 ⟨hR,i,rows,v,A,hi,hrw,so,hD,he,hm⟩ hK3;refine z_W ?_;refine jfo (jl rfl (jlt (jif (λhd=>?_) (λhd=>?_))));rotate_left
  ·have hd:i = n:=by have:=z_g hd;omega
   subst hd;exact hK2 _ _ _ ⟨hR,rows,v,A,hrw,so,rfl,rfl⟩
  have hd:i < n:=by have:=z_f hd;omega
  obtain⟨sa,sc,hsl⟩:=so.sl;subst hsl;refine jfo (jl rfl ?_);refine jbs rfl rfl λb8=>?_
  refine Bc (b:=b8) λR3 hR3 hb8=>?_
  have hv2:B9 R3 (S0 b8 1 1) [16]:=Bj (l:=[16]) (sp:=[]) (c:=1) hb8 σ;refine jbd (cs:=[S0 b8 1 1,I 0,.bool false,I 0]) rfl rfl ?_;refine jbs (cs:=[S0 b8 1 1,I 0,.bool false,I 0]) rfl rfl λb9=>?_
  refine B7 A (G:=(b9,C 83 [S0 b8 1 1,I 0,.bool false,I 0]) :: (b6,C AT (eNw (S0 bw (BA c).length cw) (S0 bt (AO c.A6).length ct) (S0 bm (c.A6.toNat * 16) (c.A6.toNat * 16)) (.slice sa rows.length sc))) :: E) ?_;have hx:Ay R3 (A ++ ((b9,C 83 [S0 b8 1 1,I 0,.bool false,I 0]) :: (b6,C AT (eNw (S0 bw (BA c).length cw) (S0 bt (AO c.A6).length ct) (S0 bm (c.A6.toNat * 16) (c.A6.toNat * 16)) (.slice sa rows.length sc))) :: E)) (some ⟨b9,0,none⟩) (1 * 4) [[S0 b8 1 1,I 0,.bool false,I 0]].flatten:=Ay.held (t:=83) (cs:=[S0 b8 1 1,I 0,.bool false,I 0]) (o:=0) (n:=1 * 4) (z_n 4);have hrl:=hrw.1;rw[Tz] at hrl;refine jaw so (hrw.all λ_ _=>DB.len) (by intro r hr;rw[U2.1 hr];rfl) rfl rfl rfl δ (by rw[U0];omega) hx λv' A' so'=>?_
  obtain⟨sa',sc',hsl'⟩:=so'.sl;subst hsl';refine jfo (jS (eNw (S0 bw (BA c).length cw) (S0 bt (AO c.A6).length ct) (S0 bm (c.A6.toNat * 16) (c.A6.toNat * 16)) (.slice sa' (rows ++ [[S0 b8 1 1,I 0,.bool false,I 0]]).length sc')) ?_);refine jad ?_;refine B7 A' (G:=(b6,C AT (eNw (S0 bw (BA c).length cw) (S0 bt (AO c.A6).length ct) (S0 bm (c.A6.toNat * 16) (c.A6.toNat * 16)) (.slice sa' (rows ++ [[S0 b8 1 1,I 0,.bool false,I 0]]).length sc'))) :: E) ?_;refine hK3 (n - (i + 1)) _ _ _ ω ⟨hR.trans hR3,i + 1,_,_,A',ω,?_,so',rfl,rfl,rfl⟩;rw[List.replicate_succ'];exact (hrw.mono λ_ _=>DB.le hR3).app (Rw.one ⟨_,rfl,hv2⟩)
 rintro e R1 D1 ⟨hR,rows,v,A,hrw,so,hD,he⟩;refine z_W ?_;obtain⟨sa,sc,hsl⟩:=so.sl;subst hsl;refine jfw so (hrw.all λ_ _=>DB.len) λR3 hR3 hfz=>?_
 subst hE;refine jla (l:=eNw (S0 bw (BA c).length cw) (S0 bt (AO c.A6).length ct) (S0 bm (c.A6.toNat * 16) (c.A6.toNat * 16)) (.slice sa rows.length sc)) (by exact z_n 13) rfl ?_;refine jS (eNw (S0 bw (BA c).length cw) (S0 bt (AO c.A6).length ct) (S0 bm (c.A6.toNat * 16) (c.A6.toNat * 16)) (.slice sa rows.length sc)) ?_;refine jla (l:=eNw (S0 bw (BA c).length cw) (S0 bt (AO c.A6).length ct) (S0 bm (c.A6.toNat * 16) (c.A6.toNat * 16)) (.slice sa rows.length sc)) (by exact z_n 13) rfl ?_;refine BC (A:=[(bw,C AZ ((BA c).map I ++ wsp)),(bt,C AK (Aa eRg (AM (AO c.A6) 1 ⟨3,-1,24,24,0⟩) ++ tsp)),(bm,C Au ((List.replicate (c.A6.toNat * 16) false).map Value.bool))]) (hR.trans hR3) ⟨bw,cw,wsp,bt,ct,tsp,bm,.slice sa rows.length sc,hcw,hct,⟨rows,?_,hfz⟩,rfl,rfl⟩;rw[hn,Tj];exact hrw.mono λ_ _=>DB.le hR3
theorem N8 {α β γ:Type} {f:α→β→γ} {a:α}:∀(l:List β),List.zipWith f (List.replicate l.length a) l = l.map (f a)
 | []=>rfl
 | b :: r=>by rw[U4,List.replicate_succ,List.zipWith_cons_cons,N8 r,V6]
def eBg (c:Cfg) (pv w tv m thv v:Value):List Value:=I c.A6 :: I c.AB :: I c.AF :: pv :: (eNw w tv m thv ++ v :: (Ar (Cd false 0) (SN) ++ [SN,.bool false]))
theorem O0 {R:RM} {c:Cfg} {pv:Value} {AE:List (List Sm.Op)} (hc:Az c = true) (hp:Cy R pv AE) :
  Fn P Gs [.agg #[I c.A6,I c.AB,I c.AF],pv] R [] (λv R' A=>∃p g,v = Pt p∧A = AU p (Sm.start c AE) g∧Ok R' (Sm.start c AE) g):=by
 refine LD λF=>?_
 refine z_2 ?_;have hcc:=hc;unfold Az at hc;simp only[z_b,z_d] at hc;obtain⟨pvs,hpf,-,-⟩:=id hp;obtain⟨pa,pc,hpv⟩:=hpf.sl;refine ja λb1=>?_
 rw[show cl (.agg #[I c.A6,I c.AB,I c.AF]) = [I c.A6,I c.AB,I c.AF] from rfl];refine jla σ rfl ?_;refine jc (Lt hcc) ?_;rintro v1 R1 A1 hR1 ⟨bw,cw,wsp,bt,ct,tsp,bm,thv,hcw,hctn,hths,rfl,rfl⟩;obtain⟨ha,hcap,htv⟩:=hths.sl;subst hpv htv;refine jex rfl (jex rfl (ja λb2=>(jS (eNw (S0 bw (BA c).length cw) (S0 bt (AO c.A6).length ct) (S0 bm (c.A6.toNat * 16) (c.A6.toNat * 16)) (.slice ha (List.replicate c.AB.toNat (⟨[16],0,false,0⟩:Th)).length hcap)) (jla σ rfl (jla (by exact z_n 13) rfl (jbd (cs:=eBg c (.slice pa AE.length pc) (S0 bw (BA c).length cw) (S0 bt (AO c.A6).length ct) (S0 bm (c.A6.toNat * 16) (c.A6.toNat * 16)) (.slice ha (List.replicate c.AB.toNat (⟨[16],0,false,0⟩:Th)).length hcap) (SN)) rfl rfl (ja λp=>?_)))))));generalize hE:(b2,C AT (eNw (S0 bw (BA c).length cw) (S0 bt (AO c.A6).length ct) (S0 bm (c.A6.toNat * 16) (c.A6.toNat * 16)) (.slice ha (List.replicate c.AB.toNat (⟨[16],0,false,0⟩:Th)).length hcap))) :: ([(bw,C AZ ((BA c).map I ++ wsp)),(bt,C AK (Aa eRg (AM (AO c.A6) 1 ⟨3,-1,24,24,0⟩) ++ tsp)),(bm,C Au ((List.replicate (c.A6.toNat * 16) false).map Value.bool))] ++ (b1,C 24 [I c.A6,I c.AB,I c.AF]) :: ([] ++ F)) = E;have ea1:At E b1 (C 24 [I c.A6,I c.AB,I c.AF]):=by rw[← hE];exact inferInstance
 have ea2:At E b2 (C AT (eNw (S0 bw (BA c).length cw) (S0 bt (AO c.A6).length ct) (S0 bm (c.A6.toNat * 16) (c.A6.toNat * 16)) (.slice ha (List.replicate c.AB.toNat (⟨[16],0,false,0⟩:Th)).length hcap))):=by rw[← hE];exact inferInstance
 refine Aj (D':=(p,C BZ (eBg c (.slice pa AE.length pc) (S0 bw (BA c).length cw) (S0 bt (AO c.A6).length ct) (S0 bm (c.A6.toNat * 16) (c.A6.toNat * 16)) (.slice ha (List.replicate c.AB.toNat (⟨[16],0,false,0⟩:Th)).length hcap) (SN))) :: E) (by rw[← hE]) ?_;obtain⟨n,hn⟩:∃n:Nat,c.AB = n:=⟨c.AB.toNat,ω⟩;have e17:∀(l:List Value),∀r∈l.map (Ac (thr0 [16] 0 0)),r.length = 17:=λl r hr=>by
  obtain⟨x,_,rfl⟩:=UK.1 hr;rfl
 refine AY (λvs R' D'=>R1.le R'∧∃(rvs:List Value) (v:Value) (A:Chs),rvs.length = n∧(∀x∈rvs,B9 R' x [16])∧SW 132 17 (rvs.map (Ac (thr0 [16] 0 0))) v A∧D' = A ++ (p,C BZ (eBg c (.slice pa AE.length pc) (S0 bw (BA c).length cw) (S0 bt (AO c.A6).length ct) (S0 bm (c.A6.toNat * 16) (c.A6.toNat * 16)) (.slice ha (List.replicate c.AB.toNat (⟨[16],0,false,0⟩:Th)).length hcap) v)) :: E∧vs = [Pt p]) (λK hK=>?_) ?_
 ·refine jcI hK λK2 hK2=>?_
  refine jlp (λm vs R' D'=>∃i:Nat,i≤n∧m = n - i∧R1.le R'∧∃(rvs:List Value) (v:Value) (A:Chs),rvs.length = i∧(∀x∈rvs,B9 R' x [16])∧SW 132 17 (rvs.map (Ac (thr0 [16] 0 0))) v A∧D' = A ++ (p,C BZ (eBg c (.slice pa AE.length pc) (S0 bw (BA c).length cw) (S0 bt (AO c.A6).length ct) (S0 bm (c.A6.toNat * 16) (c.A6.toNat * 16)) (.slice ha (List.replicate c.AB.toNat (⟨[16],0,false,0⟩:Th)).length hcap) v)) :: E∧vs = [Pt b1,Pt b2,Pt p,I i])
   (n:=n) ⟨0,ω,ω,RM.le.refl R1,[],SN,[],rfl,(λx hx=>by cases hx),.inl ⟨rfl,rfl,rfl⟩,rfl,rfl⟩ ?_
  rintro m e R2 D1 K3 ⟨i,hi,hm,hR,rvs,v,A,hl,hrv,so,hD,he⟩ hK3;refine z_W ?_;refine jfo (jl rfl (jlt (jif (λhd=>?_) (λhd=>?_))));rotate_left
  ·have hd:i = n:=by have:=z_g hd;omega
   subst hd;exact hK2 _ _ _ ⟨hR,rvs,v,A,hl,hrv,so,rfl,rfl⟩
  have hd:i < n:=by have:=z_f hd;omega
  obtain⟨sa,sc,hsl⟩:=so.sl;subst hsl;rw[Tr];refine jnc (jfo (jl rfl (jfo (jl rfl (jtr (hths.le hR) (by rw[Tz];omega) λb3 o3 ty cs rv hrv3 hb3 ho3 hrow3=>?_)))));rw[List.getElem_replicate] at hrv3 hrow3;refine jfo (jlr hb3 (Bo hrow3 rfl) (jc (Br hrv3 δ) ?_));rintro _ R3 _ hR3 ⟨b8,c8,sp8,hc8,hsp8,rfl,rfl⟩;refine Bc (b:=b8) λR4 hR4 hb8=>?_
  have hv2:B9 R4 (S0 b8 1 c8) [16]:=Bj hb8 hc8;refine jbd rfl rfl (Aq (jl rfl jev) (jbs rfl rfl λb9=>(Aq (jl rfl jev) (Aj (D':=(b9,C 132 (Ac (thr0 [16] 0 0) (S0 b8 1 c8))) :: (A ++ (p,C BZ (eBg c (.slice pa AE.length pc) (S0 bw (BA c).length cw) (S0 bt (AO c.A6).length ct) (S0 bm (c.A6.toNat * 16) (c.A6.toNat * 16)) (.slice ha (List.replicate c.AB.toNat (⟨[16],0,false,0⟩:Th)).length hcap) (.slice sa rvs.length sc))) :: E)) (UV _) (B7 A (G:=(b9,C 132 (Ac (thr0 [16] 0 0) (S0 b8 1 c8))) :: (p,C BZ (eBg c (.slice pa AE.length pc) (S0 bw (BA c).length cw) (S0 bt (AO c.A6).length ct) (S0 bm (c.A6.toNat * 16) (c.A6.toNat * 16)) (.slice ha (List.replicate c.AB.toNat (⟨[16],0,false,0⟩:Th)).length hcap) (.slice sa rvs.length sc))) :: E) ?_)))));have hx:Ay R4 (A ++ ((b9,C 132 (Ac (thr0 [16] 0 0) (S0 b8 1 c8))) :: (p,C BZ (eBg c (.slice pa AE.length pc) (S0 bw (BA c).length cw) (S0 bt (AO c.A6).length ct) (S0 bm (c.A6.toNat * 16) (c.A6.toNat * 16)) (.slice ha (List.replicate c.AB.toNat (⟨[16],0,false,0⟩:Th)).length hcap) (.slice sa rvs.length sc))) :: E)) (some ⟨b9,0,none⟩) (1 * 17) [(Ac (thr0 [16] 0 0) (S0 b8 1 c8))].flatten:=Ay.held (cs:=(Ac (thr0 [16] 0 0) (S0 b8 1 c8))) (z_n 17);rw[Tr] at so;refine jaw so (e17 _) (by intro r hr;rw[U2.1 hr];rfl) rfl rfl rfl δ (by rw[U0,Tr];omega) hx λv' A' so'=>?_
  obtain⟨sa',sc',hsl'⟩:=so'.sl;have em:rvs.map (Ac (thr0 [16] 0 0)) ++ [(Ac (thr0 [16] 0 0) (S0 b8 1 c8))] = (rvs ++ [S0 b8 1 c8]).map (Ac (thr0 [16] 0 0)):=by rw[Uk];rfl
  rw[em] at so' hsl';subst hsl';refine jnc (jfo (js (cs':=eBg c (.slice pa AE.length pc) (S0 bw (BA c).length cw) (S0 bt (AO c.A6).length ct) (S0 bm (c.A6.toNat * 16) (c.A6.toNat * 16)) (.slice ha (List.replicate c.AB.toNat (⟨[16],0,false,0⟩:Th)).length hcap) (.slice sa' ((rvs ++ [S0 b8 1 c8]).map (Ac (thr0 [16] 0 0))).length sc')) rfl rfl (by simp[eBg,eNw,Ar]) rfl (jad (B7 A' (G:=(p,C BZ (eBg c (.slice pa AE.length pc) (S0 bw (BA c).length cw) (S0 bt (AO c.A6).length ct) (S0 bm (c.A6.toNat * 16) (c.A6.toNat * 16)) (.slice ha (List.replicate c.AB.toNat (⟨[16],0,false,0⟩:Th)).length hcap) (.slice sa' ((rvs ++ [S0 b8 1 c8]).map (Ac (thr0 [16] 0 0))).length sc'))) :: E) (hK3 (n - (i + 1)) _ _ _ ω ⟨i + 1,ω,rfl,(hR.trans hR3).trans hR4,rvs ++ [S0 b8 1 c8],_,A',by rw[Tn,hl];rfl,?_,so',rfl,rfl⟩)))));intro x hx;rcases U7.1 hx with hx | hx
  ·exact (hrv x hx).le (hR3.trans hR4)
  ·rw[U2.1 hx];exact hv2
 rintro e R2 D1 ⟨hR,rvs,v,A,hl,hrv,so,hD,he⟩;refine z_W ?_;rcases so with ⟨h1,_,_⟩ | ⟨hb,hc2,hsp,hcc2,hhsp,rfl,rfl⟩
 ·have:=congrArg List.length h1;rw[Tr,Ug] at this;omega
 rw[Tr] at hcc2 ⊢;subst hE
 let g:Img:={ AE:=.slice pa AE.length pc,wb:=bw,wc:=cw,wsp:=wsp,tb:=bt,tc:=ct,tsp:=tsp,mb:=bm,mc:=c.A6.toNat * 16,msp:=[],Ai:=.bool false,want:=I 0,AB:=.slice ha (List.replicate c.AB.toNat (⟨[16],0,false,0⟩:Th)).length hcap,old:=SN,AI:=SN,hb:=hb,hc:=hc2,hsp:=hsp,rv:=rvs,AD:=SN,ev:=none,esp:=[] }
 have hth:(Sm.start c AE).th = List.replicate rvs.length (thr0 [16] 0 0):=by
  rw[hl];show List.replicate c.AB.toNat _ = _;rw[hn,Tj]
 have ezs:Db (Sm.start c AE).th rvs = (rvs.map (Ac (thr0 [16] 0 0))).flatten:=by
  rw[hth];unfold Db;rw[N8]
 have etl:(AM (AO c.A6) 1 (⟨3,-1,24,24,0⟩:Rg)).length = (AO c.A6).length:=by simp[AM]
 have htl:(AO c.A6).length = c.A6.toNat:=by
  unfold AO;rw[if_neg ω];simp;omega
 have esim:Bx (Sm.start c AE) g = eBg c (.slice pa AE.length pc) (S0 bw (BA c).length cw) (S0 bt (AO c.A6).length ct) (S0 bm (c.A6.toNat * 16) (c.A6.toNat * 16)) (.slice ha (List.replicate c.AB.toNat (⟨[16],0,false,0⟩:Th)).length hcap) (S0 hb rvs.length hc2):=by
  have e1:(Sm.start c AE).th.length = rvs.length:=by rw[hth,Tz]
  have e2:(Sm.start c AE).A0.length = (AO c.A6).length:=etl;have e3:(Sm.start c AE).AJ.length = c.A6.toNat * 16:=by show (List.replicate _ _).length = _;rw[Tz]
  unfold Bx;rw[e1,e2,e3];rfl
 have esd:AU p (Sm.start c AE) g = (p,C BZ (eBg c (.slice pa AE.length pc) (S0 bw (BA c).length cw) (S0 bt (AO c.A6).length ct) (S0 bm (c.A6.toNat * 16) (c.A6.toNat * 16)) (.slice ha (List.replicate c.AB.toNat (⟨[16],0,false,0⟩:Th)).length hcap) (S0 hb rvs.length hc2))) :: (bw,C AZ ((BA c).map I ++ wsp)) :: (bt,C AK (Aa eRg (AM (AO c.A6) 1 ⟨3,-1,24,24,0⟩) ++ tsp)) :: (bm,C Au ((List.replicate (c.A6.toNat * 16) false).map Value.bool ++ [])) :: (hb,C AS ((rvs.map (Ac (thr0 [16] 0 0))).flatten ++ hsp)) :: []:=by
  unfold AU;rw[esim];show _ :: _ :: _ :: _ :: (hb,C AS (Db (Sm.start c AE).th rvs ++ hsp)) :: [] = _;rw[ezs];rfl
 refine B7 [(p,C BZ (eBg c (.slice pa AE.length pc) (S0 bw (BA c).length cw) (S0 bt (AO c.A6).length ct) (S0 bm (c.A6.toNat * 16) (c.A6.toNat * 16)) (.slice ha (List.replicate c.AB.toNat (⟨[16],0,false,0⟩:Th)).length hcap) (S0 hb rvs.length hc2))),(bw,C AZ ((BA c).map I ++ wsp)),(bt,C AK (Aa eRg (AM (AO c.A6) 1 ⟨3,-1,24,24,0⟩) ++ tsp)),(bm,C Au ((List.replicate (c.A6.toNat * 16) false).map Value.bool)),(hb,C AS ((rvs.map (Ac (thr0 [16] 0 0))).flatten ++ hsp))] (G:=F) (Aj (D':=AU p (Sm.start c AE) g ++ F) (by rw[esd,UP]) (BC (hR1.trans hR) ⟨p,g,rfl,rfl,?_⟩));have hle:=hR1.trans hR;refine⟨?_,.inl ⟨rfl,rfl,rfl⟩,.inl ⟨rfl,rfl,rfl⟩,.inl ⟨rfl,rfl,rfl⟩,?_,?_,λ_=>rfl,(λb c h=>by cases h),?_,?_,?_,?_,⟨rfl,rfl,rfl⟩,?_,?_,?_⟩
 ·obtain⟨vs,h1,h2,h3⟩:=hp;exact⟨vs,h1.le hle,h2,λi hi=>by obtain⟨x,hx,ho⟩:=h3 i hi;exact⟨x,hx,ho.le hle⟩⟩
 ·rw[hth,Tz]
 ·intro i h h';have e:((Sm.start c AE).th[i]).AA = [16]:=by
   simp only[hth,List.getElem_replicate];rfl
  rw[e];exact hrv _ (U6 h')
 ·show (BA c).length≤1000;rw[(Hu hcc).2];omega
 ·show (AM (AO c.A6) 1 (⟨3,-1,24,24,0⟩:Rg)).length≤1000;omega
 ·show (List.replicate _ _).length≤1000;rw[Tz];omega
 ·rw[hth,Tz];omega
 ·exact hcw
 ·show (AM (AO c.A6) 1 (⟨3,-1,24,24,0⟩:Rg)).length≤ct;omega
 ·show (List.replicate _ _).length≤c.A6.toNat * 16;simp
theorem Mb {p n:Nat} {S S' : Sim} {g:Img} {R:RM} (hok:Ok R S g) (hp:Pr S) (hT:TOk S.A0) (hf:S.full = false) (hS:S.pause n = some S') :
  Fn P Cm [Pt p] R (AU p S g) (CK p S' λ_=>True):=by
 refine Gi λF=>?_
 refine z_1 ?_;unfold Sim.pause at hS;split at hS
 ·cases hS
 rename_i hz;have hz:S.sz = true:=by simpa using hz
 rw[if_neg (by rw[hf];decide)] at hS;dsimp only at hS;have htl:=hok.tl;have n1:=hT.n1;refine jl rfl ?_;rw[hf];refine DM (jss { S with stop:=false } g rfl rfl δ τ τ ?_);have ok1:Ok R { S with stop:=false } g:={ hok with };refine jl rfl (jeq (jif (λh1=>?_) (λh1=>?_)))
 ·rw[if_pos (eq_of_beq h1)] at hS;simp only[Tq] at hS;subst hS;refine jcS (Lz ok1 hz) λ_ R2 g2 hR2 _ ok2=>(Ae hR2 trivial rfl ok2)
 rw[if_neg (ne_of_beq_false h1)] at hS;refine jeq (jif (λh2=>?_) (λh2=>?_))
 ·rw[if_pos (eq_of_beq h2)] at hS;refine jcS (OY ok1 hp hS) λ_ R2 g2 hR2 _ ok2=>(Ae hR2 trivial rfl ok2)
 rw[if_neg (ne_of_beq_false h2)] at hS;refine jeq (jif (λh3=>?_) (λh3=>?_));rotate_left
 ·rw[if_neg (ne_of_beq_false h3)] at hS;refine jcS (PN ok1 hz hT hS) λ_ R2 g2 hR2 _ ok2=>(Ae hR2 trivial rfl ok2)
 rw[if_pos (eq_of_beq h3)] at hS;unfold Sim.update at hS;obtain⟨_,-,hS⟩:=A7 hS;simp only[Tq] at hS;refine jss { S with stop:=false,AW:=3 } g rfl rfl δ τ τ ?_;generalize hfn:(λ(i:Int) (x:Rg)=>{ x with AH:=x.top - AG i }) = f at hS;have hfx:∀(k:Nat) (x:Rg),f k x = { x with AH:=x.top - AG k }:=λk x=>by rw[← hfn]
 refine AY (λvs R' D'=>R' = R∧D' = AU p { S with stop:=false,AW:=3,A0:=rows f S.A0 } g ++ F∧vs = [Pt p]) (λK hK=>?_) ?_;rotate_left
 ·rintro e R1 D1 ⟨hR,hD,he⟩;subst hR;refine z_W ?_;refine jl rfl (jl rfl (jbd rfl rfl (jss { S with stop:=false,AW:=3,A0:=rows f S.A0,col:={ Cd S.col.Ai S.col.want with pc:=6,r:=1,p:=16 } } { g with AD:=SN } rfl rfl δ τ τ ?_)));subst hS;refine Ae (RM.le.refl R1) trivial rfl ?_;exact { ok1 with AD:=.inl ⟨rfl,rfl,rfl⟩,tl:=by simpa [rows] using hok.tl,tk:=by simpa [rows] using hok.tk }
 refine jcI hK λK2 hK2=>?_
 refine jlp (λm vs R' D'=>R' = R∧∃k:Nat,1≤k∧k≤S.A0.length + 1∧D' = AU p { S with stop:=false,AW:=3,A0:=Ba f k S.A0 } g ++ F∧vs = [Pt p,I k]∧m = S.A0.length + 1 - k)
  (n:=S.A0.length) ⟨rfl,1,z_n 1,ω,by rw[FR],rfl,ω⟩ ?_
 rintro m e R4 D4 K3 ⟨hR4,k,k0,k1,hD,he,hm⟩ hK3;subst hR4;refine z_W ?_;refine jl rfl (jln (jlt (jif (λhc=>?_) (λhc=>?_))));rotate_left
 ·have hc:S.A0.length≤k:=by have:=z_g hc;rw[Bp] at this;omega
  refine hK2 _ _ _ ⟨rfl,?_,rfl⟩;rw[FS hc]
 have hc:k < S.A0.length:=by have:=z_f hc;rw[Bp] at this;omega
 have RR:=hT.row k ω ω;have t0:=RR.t0;have t1:=RR.t1;rw[E7 hc] at t0 t1;have hbase:=CT (r:=(k:Int)) ω ω;refine jl rfl (Bk (by rw[Bp];exact hc) (M2 (p:=p) (by simpa using hc) ?_));rw[show ({ S with stop:=false,AW:=3,A0:=Ba f k S.A0 }:Sim).A0[k]'(by simpa using hc) = S.A0[k] from Fb hc];refine ja λb5=>(js (cs':=eRg (S.A0[k])) rfl rfl σ rfl (jfo (jl rfl (jp (Ax k) (jsu (jfo (Aq (jl rfl jev) (js (cs':=eRg { S.A0[k] with AH:=(S.A0[k]).top - AG k }) rfl rfl σ rfl (jl rfl (jla σ rfl (Bk (by rw[Bp];exact hc) (Ng (p:=p) { S with stop:=false,AW:=3,A0:=Ba f (k + 1) S.A0 } (by simpa using hc) (by rw[← Fc k0 hc,hfx]) (jad (B7 (AU p { S with stop:=false,AW:=3,A0:=Ba f (k + 1) S.A0 } g) (G:=F) (hK3 (S.A0.length + 1 - (k + 1)) _ _ _ ω ⟨rfl,k + 1,ω,ω,rfl,rfl,rfl⟩)))))))))))))))
end Go.Lf
end
section
namespace Go.Lf
open Go Sm
theorem KU {p n:Nat} {S S' : Sim} {g:Img} {R:RM} (hok:Ok R S g) (hpz:∀R g S1,Ok R S g→S.pause n = some S1→Fn P Cm [Pt p] R (AU p S g) (CK p S1 λ_=>True)) (hS:S.collector n = some S') :
  Fn P EQ [Pt p] R (AU p S g) (CK p S' λ_=>True):=by
 refine HB λF=>?_
 refine z_1 ?_;unfold Sim.collector at hS;refine jl rfl (jif (λh0=>?_) (λh0=>?_))
 ·rw[if_pos h0] at hS;refine jcS (Ra hok) λ_ R2 g2 hR2 hr ok2=>?_
  subst hr;refine jif (λhc=>?_) (λhc=>?_)
  ·rw[if_pos hc] at hS;refine jcS (hpz R2 g2 S' ok2 hS) λ_ R3 g3 hR3 _ ok3=>(Ae (hR2.trans hR3) trivial rfl ok3)
  ·rw[if_neg (by rw[hc];decide)] at hS;simp only[Tq] at hS;subst hS;exact Ae hR2 trivial rfl ok2
 rw[if_neg (by rw[h0];decide)] at hS;refine jl rfl (jeq (jif (λh1=>?_) (λh1=>?_)))
 ·rw[if_pos (eq_of_beq h1)] at hS;refine jl rfl (jif (λh2=>?_) (λh2=>?_))
  ·rw[if_pos h2] at hS;refine GO hok λb=>?_
   obtain⟨a,cap,hsv,-⟩:=B9.reads (D:=[]) hok.AD;have hst0:=hok.AD;rw[hsv] at hst0 ⊢;refine jS (Ar { S.col with Ai:=false } (.slice a S.col.AD.length cap)) (jS (Ar { S.col with Ai:=false,want:=1 } (.slice a S.col.AD.length cap)) (G4 { S with col:={ S.col with Ai:=false,want:=1 } } hok (by exact hst0) τ λg3 ok3=>(jss { S with stop:=true,col:={ S.col with Ai:=false,want:=1 } } g3 rfl rfl δ τ τ ?_)));simp only[Tq] at hS;subst hS;exact Ae (RM.le.refl R) trivial rfl { ok3 with }
  ·rw[if_neg (by rw[h2];decide)] at hS;simp only[Tq] at hS;subst hS;exact Ae (RM.le.refl R) trivial rfl hok
 ·rw[if_neg (ne_of_beq_false h1)] at hS;refine jss { S with used:=false } g rfl rfl δ τ τ ?_;refine jlp (λm vs R' D'=>R.le R'∧∃S1 g1,Ok R' S1 g1∧Sim.cloop m S1 = some S'∧D' = AU p S1 g1 ++ F∧vs = [Pt p])
   ⟨RM.le.refl R,{ S with used:=false },g,{ hok with },hS,rfl,rfl⟩ ?_
  rintro m e R1 D1 K3 ⟨hR1,S1,g1,ok1,hdr,hD,he⟩ hK3;refine z_W ?_;cases m with
  | zero=>cases hdr
  | succ m=>
  unfold Sim.cloop at hdr;refine jan [Pt p] ((!S1.used) && (!S1.stop)) (λK' hK'=>?_) (λe c u ho he=>?_)
  ·refine jl rfl (Fj (λh1=>?_) (λh1=>?_))
   ·refine jl (v:=.bool S1.stop) rfl (hK' _ _ _ (h1▸Cw) (by rw[h1,UT]))
   ·exact hK' _ _ _ (h1▸DL) (by rw[h1,Ui])
  refine z_V ?_;rw[ho];refine jif (λhc=>?_) (λhc=>?_)
  ·rw[if_pos hc] at hdr;obtain⟨S2,h2,hdr⟩:=A7 hdr;refine jcS (Rb ok1 h2) λ_ R2 g2 hR2 _ ok2=>(hK3 m _ _ _ ω ⟨hR1.trans hR2,S2,g2,ok2,hdr,rfl,rfl⟩)
  ·rw[if_neg (by rw[hc];decide)] at hdr;simp only[Tq] at hdr;subst hdr;exact Ae hR1 trivial rfl ok1
theorem Sb {p:Nat} {S S' : Sim} {g:Img} {a:Int} {R:RM} (hok:Ok R S g) (ha:inR a) (hpz:∀R g S1,Ok R S g→S.pause S.fuel = some S1→Fn P Cm [Pt p] R (AU p S g) (CK p S1 λ_=>True)) (hS:S.pick a = some S') :
  Fn P IP [Pt p,I a] R (AU p S g) (CK p S' λ_=>True):=by
 refine Mc λF=>?_
 refine z_2 ?_;unfold Sim.pick at hS;have hhl:=hok.hl;refine jl rfl (jln (jan [Pt p,I a,I S.th.length] ((decide (a≥0)) && (decide (a < S.th.length))) (λK' hK'=>?_) (λe c u ho he=>?_)))
 ·refine jge (Fj (λh1=>?_) (λh1=>?_))
  ·refine jlt (hK' _ _ _ (h1▸Cw) (by rw[h1,UT]))
  ·exact hK' _ _ _ (h1▸DL) (by rw[h1,Ui])
 refine z_V ?_;rw[ho];refine jif (λhc=>?_) (λhc=>?_)
 ·simp only[z_b,z_d] at hc;rw[if_pos ⟨ω,ω⟩] at hS;refine jcS (PD hok hS) λ_ R2 g2 hR2 _ ok2=>(Ae hR2 trivial rfl ok2)
 have hc:¬ (0≤a∧a < S.th.length):=by
  intro h;simp[h.1,h.2] at hc
 rw[if_neg hc] at hS;refine jeq (jif (λh1=>?_) (λh1=>?_))
 ·rw[if_pos (eq_of_beq h1)] at hS;refine jcS (KU hok hpz hS) λ_ R2 g2 hR2 _ ok2=>(Ae hR2 trivial rfl ok2)
 rw[if_neg (ne_of_beq_false h1)] at hS;refine jad (jeq (jif (λh2=>?_) (λh2=>?_)))
 ·rw[if_pos (eq_of_beq h2)] at hS;simp only[Tq] at hS;refine jss { S with col:={ S.col with Ai:=true } } g rfl rfl δ τ τ ?_;subst hS;exact Ae (RM.le.refl R) trivial rfl { hok with }
 ·rw[if_neg (ne_of_beq_false h2)] at hS;simp only[Tq] at hS;subst hS;exact Ae (RM.le.refl R) trivial rfl hok
theorem jpg {R:RM} {D:Chs} {pv:Value} {AE:List (List Sm.Op)} {i:Nat} {k:Value→M} (hp:Cy R pv AE) (hi:i < AE.length) (H:∀x,Ops R x (AE[i])→J R D (k x)):J R D (IA 1 pv (I (i:Int)) λq=>L1 q k):=by
 obtain⟨vs,hf,hl,Bf⟩:=hp;obtain⟨x,hx,ho⟩:=Bf i hi;rcases hf with ⟨_,h2,_⟩ | ⟨b,o,cap,t,cs,rfl,h2,h3,h4,h5⟩
 ·omega
 ·refine jia ω ω ?_;rw[Tj,UY];exact jlr h2 (Bo h4 hx) (H x ho)
theorem JF {R:RM} {D:Chs} {c0:Cfg} {pv kv:Value} {AE:List (List Sm.Op)} {picks:List Int} (hp:Cy R pv AE) (hk:B9 R kv picks) :
  Ro Gq [.agg #[I c0.A6,I c0.AB,I c0.AF],pv,kv] (.bool (BH c0 AE picks)) R D:=by
 refine KV λF=>?_
 refine z_3 ?_;obtain⟨vs,hpf,-,-⟩:=id hp;have hps:=hpf.sl;refine ja λb=>?_
 rw[show cl (.agg #[I c0.A6,I c0.AB,I c0.AF]) = [I c0.A6,I c0.AB,I c0.AF] from rfl];refine jor [pv,kv] ((!Az c0) || (((AE.length:Int) != c0.AB))) (λK' hK'=>?_) (λe c u ho he=>?_)
 ·refine jla (l:=[I c0.A6,I c0.AB,I c0.AF]) σ rfl (jp (IY c0) (jgO hK' λh1 hN=>Cq hps (jfo (jl rfl (jne hN)))))
 refine z_V ?_;refine jor [pv] ((!Az c0 || ((AE.length:Int) != c0.AB)) || (decide ((picks.length:Int) > 4000))) (λK' hK'=>?_) (λe c u ho he=>?_)
 ·rw[ho];refine jgO hK' λh1 hN=>Cq hk.sl (jgr hN)
 refine z_V ?_;rw[ho];refine jif (λh0=>?_) (λh0=>?_)
 ·refine Bi ?_;have:BH c0 AE picks = false:=by
   unfold BH;simp only[U8,UC,bne_iff_ne,ne_eq,z_d] at h0;rcases h0 with (h0 | h0) | h0
   ·rw[h0];simp
   ·rw[decide_eq_false h0];simp
   ·rw[decide_eq_false (show ¬ picks.length≤4000 by omega)];simp
  rw[this]
 have e0:BH c0 AE picks = AE.all λp=>decide (p.length≤40):=by
  simp only[Tp,UR,bne_eq_false_iff_eq,decide_eq_false_iff_not] at h0;unfold BH;rw[h0.1.1,decide_eq_true h0.1.2,decide_eq_true (show picks.length≤4000 by omega)];simp
 rw[e0];have hpl:AE.length≤3:=by
  simp only[Tp,UR,bne_eq_false_iff_eq,decide_eq_false_iff_not] at h0;have h1:=h0.1.1;unfold Az at h1;simp only[z_b,z_d] at h1;omega
 refine jlp (λm vs R' D'=>R' = R∧D' = (b,C 24 [I c0.A6,I c0.AB,I c0.AF]) :: (D ++ F)∧∃i:Nat,i≤AE.length∧vs = [pv,I i]∧m = AE.length - i∧(AE.drop i).all (λp=>decide (p.length≤40)) = AE.all λp=>decide (p.length≤40))
  (n:=AE.length) ⟨rfl,rfl,0,ω,rfl,ω,by rw[Ur]⟩ ?_
 rintro m e R1 D1 K ⟨hR1,hD,i,hi,he,hm,Bf⟩ hK;subst hR1;refine z_W ?_;refine Cq hps (jlt (jif (λhc=>?_) (λhc=>?_)))
 ·have hc:i < AE.length:=by have:=z_f hc;omega
  rw[Ts hc,List.all_cons] at Bf;refine jpg hp hc λx hx=>Cq (Fz.sl hx) (jgr (jif (λhq=>?_) (λhq=>?_)))
  ·refine Bi ?_;have hq:=z_f hq;rw[← Bf,decide_eq_false ω,Ui]
  ·have hq:=z_g hq;rw[decide_eq_true ω,UT] at Bf;refine jad (hK (AE.length - (i + 1)) _ _ _ ω ⟨rfl,rfl,i + 1,ω,rfl,rfl,Bf⟩)
 ·have hc:=z_g hc;refine Bi ?_;rw[← Bf,Tx ω];rfl
theorem HU:∀(l:List Int) (a:Int) {S S1 S2:Sim},Sim.picks l S = some S1→S1.pick a = some S2→Sim.picks (l ++ [a]) S = some S2
 | [],a,S,S1,S2,h1,h2=>by
  unfold Sim.picks at h1;cases h1;show (S.pick a >>= λx=>Sim.picks [] x) = _;rw[h2];rfl
 | b :: l,a,S,S1,S2,h1,h2=>by
  unfold Sim.picks at h1;obtain⟨S3,h3,h1⟩:=A7 h1;show (S.pick b >>= λx=>Sim.picks (l ++ [a]) x) = _;rw[h3];exact HU l a h1 h2
def l7d (e24:Env) (K:Value→M):M:=
 CUT [2,19] (λJe25=>CUT [2,19] (λJe28=>LP [1,2,3,5,9,19,20] (λKe29 e29=>FO 8 (e29 1) λx30=>L1 x30 λx31=>LN x31 λx32=>BO .lss (e29 20) x32 λx33=>IF x33 (FO 8 (e29 1) λx34=>L1 x34 λx35=>IA 4 x35 (e29 20) λx36=>FO 1 x36 λx37=>L1 x37 λx38=>FO 8 (e29 1) λx39=>L1 x39 λx40=>IA 4 x40 (e29 20) λx41=>FO 3 x41 λx42=>L1 x42 λx43=>BD (cl z83) [(1,1,x38),(3,1,x43)] λx44=>AL 83 z83 λx45=>AND (L1 x34 λx46=>EV x46 x35)<|AND (L1 x37 λx47=>EV x47 x38)<|AND (L1 x39 λx48=>EV x48 x40)<|AND (L1 x42 λx49=>EV x49 x43)<|ST 4 x45 x44<|CUT [1,2,3,5,9,19,20,21] (λJe50=>FO 3 x45 λx94=>L1 x94 λx95=>BO .eql x95 (I 1) λx96=>IF x96 (FO 3 x45 λx97=>ST 1 x97 (I 2)<|Je50 [(e29 1),(e29 2),(e29 3),(e29 5),(e29 9),(e29 19),(e29 20),x45]) (Je50 [(e29 1),(e29 2),(e29 3),(e29 5),(e29 9),(e29 19),(e29 20),x45])) λe50=>CUT [1,2,3,5,9,19,20,21] (λJe51=>CUT [1,2,3,5,9,19,20,21] (λJe59=>LP [1,2,3,5,9,19,20,21,22] (λKe60 e60=>FO 8 (e60 1) λx61=>L1 x61 λx62=>IA 4 x62 (e60 20) λx63=>FO 0 x63 λx64=>L1 x64 λx65=>LN x65 λx66=>BO .lss (e60 22) x66 λx67=>IF x67 (CUT [1,2,3,5,9,19,20,21,22] (λJe68=>CUT [1,2,3,5,9,19,20,21,22] (λJe70=>FO 8 (e60 1) λx71=>L1 x71 λx72=>IA 4 x72 (e60 20) λx73=>FO 0 x73 λx74=>L1 x74 λx75=>IA 1 x75 (e60 22) λx76=>L1 x76 λx77=>CA P 218 [(e60 3),x77] λx78=>CA P 217 [(e60 5),x78] λx79=>BO .lss x79 (I 0) λx80=>IF x80 (FO 0 (e60 21) λx81=>L1 x81 λx82=>BS 3 1 (ZR 1 z3) [(0,1,(I 0))] λx83=>AP 3 1 8 (cl z3) x82 x83 λx84=>FO 0 (e60 21) λx85=>ST 1 x85 x84<|Je70 [(e60 1),(e60 2),(e60 3),(e60 5),(e60 9),(e60 19),(e60 20),(e60 21),(e60 22)]) (FO 0 (e60 21) λx86=>L1 x86 λx87=>IA 1 (e60 9) x79 λx88=>L1 x88 λx89=>BS 3 1 (ZR 1 z3) [(0,1,x89)] λx90=>AND (L1 x86 λx91=>EV x91 x87)<|AP 3 1 8 (cl z3) x87 x90 λx92=>FO 0 (e60 21) λx93=>ST 1 x93 x92<|Je70 [(e60 1),(e60 2),(e60 3),(e60 5),(e60 9),(e60 19),(e60 20),(e60 21),(e60 22)])) λe70=>Je68 [(e70 1),(e70 2),(e70 3),(e70 5),(e70 9),(e70 19),(e70 20),(e70 21),(e70 22)]) λe68=>BO .add (e68 22) (I 1) λx69=>Ke60 [(e68 1),(e68 2),(e68 3),(e68 5),(e68 9),(e68 19),(e68 20),(e68 21),x69]) (Je59 [(e60 1),(e60 2),(e60 3),(e60 5),(e60 9),(e60 19),(e60 20),(e60 21)])) [(e50 1),(e50 2),(e50 3),(e50 5),(e50 9),(e50 19),(e50 20),(e50 21),(I 0)]) λe59=>Je51 [(e59 1),(e59 2),(e59 3),(e59 5),(e59 9),(e59 19),(e59 20),(e59 21)]) λe51=>FO 8 (e51 19) λx52=>L1 x52 λx53=>LA 4 (e51 21) λx54=>BS 83 1 (ZR 1 z83) [(0,4,x54)] λx55=>AP 83 4 48 (cl z83) x53 x55 λx56=>FO 8 (e51 19) λx57=>ST 1 x57 x56<|BO .add (e51 20) (I 1) λx58=>Ke29 [(e51 1),(e51 2),(e51 3),(e51 5),(e51 9),(e51 19),x58]) (Je28 [(e29 2),(e29 19)])) [(e24 1),(e24 2),(e24 3),(e24 5),(e24 9),(e24 19),(I 0)]) λe28=>Je25 [(e28 2),(e28 19)]) λe25=>LA 13 (e25 19) λx26=>ST 13 (e25 2) x26<|LA 13 (e25 2) λx27=>K x27
theorem Ic {l:List AV} {AH to_:List Int} {t:Th} {r ths:List Th} (h:CY l AH to_ (t :: r) = some ths):∃AA rest,Cb l AH to_ t.AA = some AA∧CY l AH to_ r = some rest∧ths = ⟨AA,t.next,false,if t.BB = 1 then 2 else t.BB⟩ :: rest:=by
 unfold CY at h;obtain⟨AA,h1,h⟩:=A7 h;obtain⟨rest,h2,h⟩:=A7 h;simp only[Tq] at h;exact⟨AA,rest,h1,h2,h.symm⟩
theorem KD {l:List AV} {AH to_:List Int} {a:Int} {r out:List Int} (h:Cb l AH to_ (a :: r) = some out):∃z b rest,now l a = some z∧(if BV AH z < 0 then some 0 else idx to_ (BV AH z)) = some b∧Cb l AH to_ r = some rest∧out = b :: rest:=by
 unfold Cb at h;obtain⟨z,h1,h⟩:=A7 h;obtain⟨b,h2,h⟩:=A7 h;obtain⟨rest,h3,h⟩:=A7 h;simp only[Tq] at h;exact⟨z,b,rest,h1,h2,h3,h.symm⟩
theorem Rc {R:RM} {E:Chs} {s s' : Sm.Ah} {wv tv mv thv ov pv lv v9 v w t m pv' : Value} {l:List AV} {AH to_:List Int} {ths:List Th} {b1 b2 b19:Nat} {e:Env} {K:Value→M}
  (h:StC R s wv tv mv thv ov pv) (hlv:Tgs R lv l) (hll:l.length < 1000000) (hlive:B9 R v9 AH) (hlvl:AH.length < 1000000) (hto:B9 R v to_) (hths:CY l AH to_ s.AB = some ths) (hn:s.AB.length < 1000000) (hrl:∀t∈s.AB,t.AA.length < 1000000)
  (ea1:At E b1 (C AT (eSt s wv tv mv thv ov pv))) (he:[e 1,e 2,e 3,e 5,e 9,e 19] = [Pt b1,Pt b2,lv,v9,v,Pt b19])
  (hf:∀x,flat x = true→Bn (eSt s' w t m x (SN) pv') = true)
  (H:∀R' rows x A,R.le R'→Rw (DB R') rows ths→SW 83 4 rows x A→J R' (A ++ (b19,C AT (eSt s' w t m x (SN) pv')) :: (b2,C AT (eSt s' w t m x (SN) pv')) :: E) (K (.agg (eSt s' w t m x (SN) pv').toArray))) :
  J R ((b19,C AT (eSt s' w t m (SN) (SN) pv')) :: (b2,C AT (cl z34)) :: E) (l7d e K):=by
 unfold l7d;simp only[zj,z_t] at he;simp only[he];refine AY (λvs R' D'=>R.le R'∧∃rows x A,Rw (DB R') rows ths∧SW 83 4 rows x A∧D' = A ++ (b19,C AT (eSt s' w t m x (SN) pv')) :: (b2,C AT (cl z34)) :: E∧vs = [Pt b2,Pt b19]) (λK1 hK1=>?_) ?_;rotate_left
 ·rintro e R1 D1 ⟨hR,rows,x,A,hrw,so,hD,he⟩;refine z_W ?_;obtain⟨sa,sc,hsl⟩:=so.sl;subst hsl;refine jla (by exact z_n 13) rfl ?_;refine js rfl (hf _ rfl) (by exact z_n 13) rfl (jla (by exact z_n 13) rfl ?_);exact H R1 rows _ A hR hrw so
 refine jcI hK1 λK2 hK2=>?_
 refine jlp (λmm vs R' D'=>R.le R'∧∃(i:Nat) (done rest:List Th) (rows:List (List Value)) (x:Value) (A:Chs),i≤s.AB.length∧CY l AH to_ (s.AB.drop i) = some rest∧ths = done ++ rest∧done.length = i∧Rw (DB R') rows done∧SW 83 4 rows x A∧D' = A ++ (b19,C AT (eSt s' w t m x (SN) pv')) :: (b2,C AT (cl z34)) :: E∧vs = [Pt b1,Pt b2,lv,v9,v,Pt b19,I i]∧mm = s.AB.length - i)
  (n:=s.AB.length) ⟨RM.le.refl R,0,[],ths,[],SN,[],ω,hths,rfl,rfl,Rw.nil,.inl ⟨rfl,rfl,rfl⟩,rfl,rfl,ω⟩ ?_
 rintro mm e R1 D1 K3 ⟨hR,i,done,rest,rows,x,A,hi,hnt,hdr,hdl,hrw,so,hD,he,hm⟩ hK3;refine z_W ?_;have h1:=h.le hR;have hlv1:=hlv.le hR;have hlive1:=hlive.le hR;have hto1:=hto.le hR;refine jl rfl (Cq h1.th.sl (jlt (jif (λhc=>?_) (λhc=>?_))));rotate_left
 ·have hc:=z_g hc;rw[Tx ω] at hnt;have:rest = []:=by unfold CY at hnt;simpa using hnt.symm
  subst this;rw[UP] at hdr;subst hdr;exact hK2 _ _ _ ⟨hR,rows,x,A,hrw,so,rfl,rfl⟩
 have hc:i < s.AB.length:=by have:=z_f hc;omega
 rw[Ts hc] at hnt;obtain⟨AA,rest2,hroots,hrest2,rfl⟩:=Ic hnt;have hri:=hrl _ (U6 hc);refine jl rfl (jtr h1.th hc λb3 o3 ty cs rv hrv hb3 ho3 hrow3=>(jfo (jlr hb3 (Bo hrow3 rfl) (jl rfl (jtr h1.th hc λb4 o4 ty4 cs4 rv4 hrv4 hb4 ho4 hrow4=>(jfo (jlr hb4 (Bo hrow4 rfl) (jbd rfl rfl (ja λb21=>(Aq (jl rfl jev) (Aq (jlr hb3 (Bo hrow3 rfl) jev) (Aq (jl rfl jev) (Aq (jlr hb4 (Bo hrow4 rfl) jev) (jS ([SN,I (s.AB[i]).next,.bool false,I (s.AB[i]).BB]) ?_))))))))))))));generalize htr:(if (s.AB[i]).BB = 1 then 2 else (s.AB[i]).BB) = tr at hrw hdr;refine AY (λvs R' D'=>R' = R1∧D' = [] ++ (b21,C 83 [SN,I (s.AB[i]).next,.bool false,I tr]) :: (A ++ (b19,C AT (eSt s' w t m x (SN) pv')) :: (b2,C AT (cl z34)) :: E)∧vs = [Pt b1,Pt b2,lv,v9,v,Pt b19,I i,Pt b21]) (λK4 hK4=>?_) ?_
 ·refine jfo (jl rfl (jeq (jif (λh3=>?_) (λh3=>?_))))
  ·refine jfo (js rfl rfl σ rfl (hK4 _ _ _ ⟨rfl,?_,rfl⟩));rw[← htr,if_pos (eq_of_beq h3)];rfl
  ·refine hK4 _ _ _ ⟨rfl,?_,rfl⟩;rw[← htr,if_neg (ne_of_beq_false h3)];rfl
 rintro e Rx D1 ⟨hRx,hD,he⟩;subst hRx;refine z_W ?_;refine AY (λvs R' D'=>R' = Rx∧∃rv A2,SO AA rv A2∧D' = A2 ++ (b21,C 83 [rv,I (s.AB[i]).next,.bool false,I tr]) :: (A ++ (b19,C AT (eSt s' w t m x (SN) pv')) :: (b2,C AT (cl z34)) :: E)∧vs = [Pt b1,Pt b2,lv,v9,v,Pt b19,I i,Pt b21]) (λK5 hK5=>?_) ?_
 ·refine jcI hK5 λK6 hK6=>?_
  refine jlp (λmm vs R' D'=>R' = Rx∧∃(j:Nat) (done2 rest3:List Int) (rv:Value) (A2:Chs),j≤(s.AB[i]).AA.length∧Cb l AH to_ ((s.AB[i]).AA.drop j) = some rest3∧AA = done2 ++ rest3∧done2.length = j∧SO done2 rv A2∧D' = A2 ++ (b21,C 83 [rv,I (s.AB[i]).next,.bool false,I tr]) :: (A ++ (b19,C AT (eSt s' w t m x (SN) pv')) :: (b2,C AT (cl z34)) :: E)∧vs = [Pt b1,Pt b2,lv,v9,v,Pt b19,I i,Pt b21,I j]∧mm = (s.AB[i]).AA.length - j)
   (n:=(s.AB[i]).AA.length) ⟨rfl,0,[],AA,SN,[],ω,hroots,rfl,rfl,.inl ⟨rfl,rfl,rfl⟩,rfl,rfl,ω⟩ ?_
  rintro m5 e Ry D5 K7 ⟨hRy,j,done2,rest3,rv,A2,hj,hnr,hrr,hd2,so2,hD,he,hm5⟩ hK7;subst hRy;refine z_W ?_;refine jl rfl (jtr h1.th hc λb5 o5 ty5 cs5 rv5 hrv5 hb5 ho5 hrow5=>(jfo (jlr hb5 (Bo hrow5 rfl) (Cq hrv5.sl (jlt (jif (λhd=>?_) (λhd=>?_)))))));rotate_left
  ·have hd:=z_g hd;rw[Tx ω] at hnr;have:rest3 = []:=by unfold Cb at hnr;simpa using hnr.symm
   subst this;rw[UP] at hrr;subst hrr;exact hK6 _ _ _ ⟨rfl,rv,A2,so2,rfl,rfl⟩
  have hd:j < (s.AB[i]).AA.length:=by have:=z_f hd;omega
  rw[Ts hd] at hnr;obtain⟨z,bz,rest4,hz,hbz,hrest4,rfl⟩:=KD hnr;refine AY (λvs R' D'=>R' = Ry∧∃rv A2,SO (done2 ++ [bz]) rv A2∧D' = A2 ++ (b21,C 83 [rv,I (s.AB[i]).next,.bool false,I tr]) :: (A ++ (b19,C AT (eSt s' w t m x (SN) pv')) :: (b2,C AT (cl z34)) :: E)∧vs = [Pt b1,Pt b2,lv,v9,v,Pt b19,I i,Pt b21,I j]) (λK8 hK8=>?_) ?_;rotate_left
  ·rintro e R2 D2 ⟨hR2,rv,A2,so2,hD,he⟩;subst hR2;refine z_W ?_;refine jad (hK7 ((s.AB[i]).AA.length - (j + 1)) _ _ _ ω ⟨rfl,j + 1,done2 ++ [bz],rest4,rv,A2,ω,hrest4,by rw[hrr];simp,by rw[Tn,hd2];rfl,so2,rfl,rfl,rfl⟩)
  refine jcI hK8 λK9 hK9=>?_
  obtain⟨sa,sn,sc,rfl⟩:=so2.sl;refine jl rfl (jtr h1.th hc λb6 o6 ty6 cs6 rv6 hrv6 hb6 ho6 hrow6=>(jfo (jlr hb6 (Bo hrow6 rfl) (Ca hrv6 ω ω ?_))));rw[getElem_congr_idx (Tj j)];refine jro (HD hlv1 ω hz) (jro (GC z (B9.rd hlive1) ω) (jlt (jif (λh0=>?_) (λh0=>?_))))
  ·rw[if_pos (z_f h0)] at hbz;simp only[Tq] at hbz;subst hbz;refine jfo (jl rfl (jbs rfl rfl λb7=>(HR so2 ω λv' A' so'=>?_)));obtain⟨sa',sn',sc',rfl⟩:=so'.sl;refine jfo (js rfl rfl σ rfl (hK9 _ _ _ ⟨rfl,_,A',so',rfl,rfl⟩))
  ·rw[if_neg (z_g h0)] at hbz;obtain⟨y0,y1,y2,y3⟩:=Ad hbz;refine jfo (jl rfl (Ca hto1 y0 y1 ?_));rw[y3];refine jbs rfl rfl λb7=>(Aq (jl rfl jev) (HR so2 ω λv' A' so'=>?_))
   obtain⟨sa',sn',sc',rfl⟩:=so'.sl;refine jfo (js rfl rfl σ rfl (hK9 _ _ _ ⟨rfl,_,A',so',rfl,rfl⟩))
 rintro e R2 D2 ⟨hR2,rv2,A2,so2,hD,he⟩;subst hR2;refine z_W ?_;refine IN so2 λR3 hR3 hint=>?_
 obtain⟨ua,uc,rfl⟩:=hint.sl;obtain⟨sa,sc,hsl⟩:=so.sl;subst hsl;refine jfo (jl rfl (jla (by exact z_n 4) rfl (jbs (cs:=[.slice ua AA.length uc,I (s.AB[i]).next,.bool false,I tr]) rfl rfl λb9=>(B7 A (G:=(b9,C 83 [.slice ua AA.length uc,I (s.AB[i]).next,.bool false,I tr]) :: (b21,C 83 [.slice ua AA.length uc,I (s.AB[i]).next,.bool false,I tr]) :: ((b19,C AT (eSt s' w t m (.slice sa rows.length sc) (SN) pv')) :: (b2,C AT (cl z34)) :: E)) ?_))));have hx:Ay R3 (A ++ ((b9,C 83 [.slice ua AA.length uc,I (s.AB[i]).next,.bool false,I tr]) :: (b21,C 83 [.slice ua AA.length uc,I (s.AB[i]).next,.bool false,I tr]) :: ((b19,C AT (eSt s' w t m (.slice sa rows.length sc) (SN) pv')) :: (b2,C AT (cl z34)) :: E))) (some ⟨b9,0,none⟩) (1 * 4) [[.slice ua AA.length uc,I (s.AB[i]).next,.bool false,I tr]].flatten:=Ay.held (cs:=[.slice ua AA.length uc,I (s.AB[i]).next,.bool false,I tr]) (z_n 4);have hrl:=hrw.1;refine jaw so (hrw.all λ_ _=>DB.len) (by intro r hr;rw[U2.1 hr];rfl) rfl rfl rfl δ (by rw[U0];omega) hx λv' A' so'=>?_
 obtain⟨sa',sc',hsl'⟩:=so'.sl;subst hsl';refine jfo (jS (eSt s' w t m (.slice sa' (rows ++ [[.slice ua AA.length uc,I (s.AB[i]).next,.bool false,I tr]]).length sc') (SN) pv') (jad (B7 A' (G:=(b19,C AT (eSt s' w t m (.slice sa' (rows ++ [[.slice ua AA.length uc,I (s.AB[i]).next,.bool false,I tr]]).length sc') (SN) pv')) :: (b2,C AT (cl z34)) :: E) (hK3 (s.AB.length - (i + 1)) _ _ _ ω ⟨hR.trans hR3,i + 1,done ++ [⟨AA,(s.AB[i]).next,false,tr⟩],rest2,_,_,A',ω,hrest2,by rw[hdr];simp,by rw[Tn,hdl];rfl,(hrw.mono λ_ _=>DB.le hR3).app (Rw.one ⟨_,rfl,hint⟩),so',rfl,rfl,rfl⟩))))
end Go.Lf
end
