/- A part of the proof of the given row: the walk of the law and of all that it calls. Conditions: none. -/
import Derived.Test.YtlagojobcbkpdaaGreatDF
set_option linter.unusedVariables false
set_option linter.unusedSimpArgs false
set_option maxRecDepth 100000
section
namespace Go.Lf
open Go Sm
def SO (l:List Int) (v:Value) (A:Chs):Prop:=(l = []∧v = SN∧A = [])∨UR l v A
theorem SO.flat {l:List Int} {v:Value} {A:Chs} (h:SO l v A):flat v = true:=by
 rcases h with ⟨_,rfl,_⟩ | ⟨b,c,sp,_,_,rfl,_⟩<;>rfl
theorem SO.sl {l:List Int} {v:Value} {A:Chs} (h:SO l v A):∃a n c,v = .slice a n c:=by
 rcases h with ⟨_,rfl,_⟩ | ⟨b,c,sp,_,_,rfl,_⟩<;>exact⟨_,_,_,rfl⟩
theorem jas {R:RM} {A E:Chs} {l l2:List Int} {v:Value} {xa:Option Addr} {m cx:Nat} {k:Value→M} (so:SO l v A) (hm:m = l2.length) (hl:l.length + l2.length < 1000000000000) (hx:BY R (A ++ E) xa (m * 1) (l2.map I))
  (H:∀v' A',SO (l ++ l2) v' A'→J R (A' ++ E) (k v')):J R (A ++ E) (AP AX 1 8 [I 0] v (.slice xa m cx) k):=by
 subst hm;have hfl:Br (l2.map I) = true:=by
  unfold Br;rw[ZC];intro x hx;obtain⟨y,_,rfl⟩:=ZK.1 hx;rfl
 have fl:∀n,(List.replicate n [I 0]).flatten.length = n:=λn=>by
  rw[Bw (w:=1) (by intro x hx;rw[(ZT.1 hx).2];rfl)];simp
 rcases so with ⟨rfl,rfl,rfl⟩ | ⟨b,c,sp,hc,hsp,rfl,rfl⟩
 ·refine jap hx (sl:=0) (old:=[]) (by rw[aa];exact BY.none_) δ (by simp at hl;omega) (λhc h hst=>?_) (λb c hc=>?_)
  ·have h0:l2 = []:=ZL.1 ω;subst h0;have:=H (SN) [] (.inl ⟨rfl,rfl,rfl⟩) h hst;simpa using this
  ·have:=H (S0 b l2.length c) [(b,C AX (l2.map I ++ (List.replicate (c - l2.length) [I 0]).flatten))] (.inr ⟨b,c,(List.replicate (c - l2.length) [I 0]).flatten,by simpa using hc,by rw[fl];simp,σ,σ⟩);simpa using this
 ·refine Tx hx (E:=E) (tk:=⟨ZU _⟩) (by simp;omega) hc σ hfl δ ω (λh=>?_) (λb' c' h=>?_)
  ·have el:lay (l.map I ++ sp) (l.length * 1) (l2.map I) = (l ++ l2).map I ++ sp.drop l2.length:=by
    rw[Gr σ];simp[lay]
   rw[el];have:=H (S0 b (l ++ l2).length c) [(b,C AX ((l ++ l2).map I ++ sp.drop l2.length))] (.inr ⟨b,c,_,by simpa using h,by simp;omega,rfl,rfl⟩);simpa using this
  ·refine BI (aI _ _ _) (Bn ?_);have:=H (.slice (some ⟨b',0,none⟩) (l ++ l2).length c') [(b',C AX ((l ++ l2).map I ++ (List.replicate (c' - (l.length + l2.length)) [I 0]).flatten))] (.inr ⟨b',c',_,by simpa using h,by simp[fl],rfl,rfl⟩);rw[ZZ σ,Ys σ];simpa using this
theorem FG {R:RM} {A E:Chs} {l:List Int} {v:Value} {m:M} (so:SO l v A) (H:∀R',R.le R'→BG R' v l→J R' E m):J R (A ++ E) m:=by
 rcases so with ⟨rfl,rfl,rfl⟩ | ⟨b,c,sp,hc,hsp,rfl,rfl⟩
 ·exact H R (RM.le.refl _) (.inl ⟨rfl,rfl,rfl⟩)
 ·refine BQ (b:=b) (E:=E) (t:=⟨ZU _⟩) λR2 hR2 hb=>?_
  exact H R2 hR2 (CH hb hc)
theorem jrv {R:RM} {D G:Chs} {p:Nat} {S:Sim} {g:Img} {i:Int} {t:Thr} {k:Value→M} [w:Fd D p S g G] (hok:Ok R S g) (ht:idx S.th i = some t) (H:∀v,BG R v t.AC→J R D (k v)) :
  J R D (L1 (.pointer (some ⟨p,17,none⟩)) λx=>IA 17 x (I i) λy=>FO 0 y λz=>L1 z k):=by
 obtain⟨h0,h1,h2,h3⟩:=Av ht;have h2' : i.toNat < g.rv.length:=by have:=hok.rvl;omega
 have hv:=hok.rv i.toNat h2 h2';rw[h3] at hv;have H' : J R (Ab p S g ++ G) (k (g.rv[i.toNat])):=BI w.ex.symm (H _ hv);have l1:J R (Ab p S g ++ G) (L1 (.pointer (some ⟨p,17,none⟩)) λx=>IA 17 x (I i) λy=>FO 0 y λz=>L1 z k):=by
  refine jl rfl (jia h0 h1 (jl (v:=g.rv[i.toNat]) ?_ H'));rw[Z6];exact O6 h2 h2' (by rw[h3];rfl)
 exact BI w.ex l1
theorem W2 {l:List Thr} (h:∀t∈l,t.AC.length < 1000000):(l.flatMap λt=>t.AC.filter (·≠0)).length≤1000000 * l.length:=by
 induction l with
 | nil=>simp
 | cons t r ih=>
  rw[List.flatMap_cons,Yk,Yt];have h1:=ih λt ht=>h t (by simp[ht])
  have h2:=h t σ;have h3:=List.length_filter_le (λx=>decide (x≠0)) t.AC;omega
theorem PV {p:Nat} {S:Sim} {g:Img} {R:RM} (hok:Ok R S g) (hsz:S.sz = true) :
  Fn P GV [Pt p] R (Ab p S g) (D0 p S.snapshot λ_=>True):=by
 refine KX λF=>?_
 refine z_1 ?_;have hsz:=G5 hsz;have htl:=hok.tl;have hhl:=hok.hl;have hml:=hok.ml;refine jcS (p:=p) (by exact OA hok) λ_ R1 g1 hR1 hr ok1=>?_
 refine jss (p:=p) { S with AK:=List.replicate S.AK.length false,old:=[] } { g1 with old:=SN } rfl rfl δ τ τ ?_;refine jss (p:=p) { S with AK:=List.replicate S.AK.length false,old:=[],Ad:=1 } { g1 with old:=SN } rfl rfl δ τ τ ?_;have ok2:Ok R1 { S with AK:=List.replicate S.AK.length false,old:=[],Ad:=1 } { g1 with old:=SN }:={ ok1 with old:=.inl ⟨rfl,rfl,rfl⟩ };generalize hS2:({ S with AK:=List.replicate S.AK.length false,old:=[],Ad:=1 }:Sim) = S2 at ok2 ⊢;generalize hg2:({ g1 with old:=SN }:Img) = g2 at ok2 ⊢;have e1:S2.col = S.col:=by rw[← hS2]
 have e2:S2.th = S.th:=by rw[← hS2]
 have e3:S2.AG = S.AG:=by rw[← hS2]
 have e4:S2.A0 = S.A0:=by rw[← hS2]
 refine jl (v:=.bool S2.col.Ae) rfl (jl (v:=I S2.col.want) rfl ?_);refine jbd (cs:=BF { Cd S2.col.Ae S2.col.want with pc:=1 } (SN)) rfl rfl ?_;refine ja λb=>?_
 refine Af (jl (v:=.bool S2.col.Ae) rfl jev) (Af (jl (v:=I S2.col.want) rfl jev) ?_);refine jS (BF { Cd S2.col.Ae S2.col.want with pc:=1 } (SN)) ?_;have hth:∀i:Nat,(S2.th.take i).flatMap (λt=>t.AC.filter (·≠0)) = (S2.th.take i).flatMap (λt=>t.AC.filter (·≠0)):=λ_=>rfl
 have hlen:∀l:List Int,l.length≤1000000 * 1000 + 1000000→l.length + 1 < 1000000000000:=λl h=>ω
 have hroots:∀t∈S2.th,t.AC.length < 1000000:=λt ht=>hsz.2.2.2.2 t (e2▸ht)
 have htl2:S2.th.length≤1000:=by rw[e2];exact hhl
 have tk:∀i:Nat,((S2.th.take i).flatMap λt=>t.AC.filter (·≠0)).length≤1000000 * 1000:=λi=>by
  have h1:=W2 (l:=S2.th.take i) λt ht=>hroots t (ZO ht)
  have h2:(S2.th.take i).length≤1000:=by rw[Z5];omega
  omega
 refine AR (λvs R' D'=>R' = R1∧∃v A,SO (S2.th.flatMap λt=>t.AC.filter (·≠0)) v A∧D' = A ++ ((b,C BC (BF { Cd S2.col.Ae S2.col.want with pc:=1 } v)) :: (Ab p S2 g2 ++ F))∧vs = [Pt p,Pt b]) (λK hK=>?_) ?_
 ·refine AR (λvs R' D'=>R' = R1∧∃v A,SO (S2.th.flatMap λt=>t.AC.filter (·≠0)) v A∧D' = A ++ ((b,C BC (BF { Cd S2.col.Ae S2.col.want with pc:=1 } v)) :: (Ab p S2 g2 ++ F))∧vs = [Pt p,Pt b]) (λK2 hK2=>?_) ?_;rotate_left
  ·rintro e R2 D2 ⟨hR2,v,A,so,hD,he⟩;subst hR2;refine z_W ?_;exact hK _ _ _ ⟨rfl,v,A,so,rfl,rfl⟩
  refine jlp (λm vs R' D'=>R' = R1∧∃(i:Nat) (v:Value) (A:Chs),i≤S2.th.length∧SO ((S2.th.take i).flatMap λt=>t.AC.filter (·≠0)) v A∧D' = A ++ ((b,C BC (BF { Cd S2.col.Ae S2.col.want with pc:=1 } v)) :: (Ab p S2 g2 ++ F))∧vs = [Pt p,Pt b,I i]∧m = S2.th.length - i)
   (n:=S2.th.length) ⟨rfl,0,SN,[],ω,.inl ⟨σ,rfl,rfl⟩,rfl,rfl,ω⟩ ?_
  rintro m e R2 D2 K3 ⟨hR2,i,v,A,hi,so,hD,he,hm⟩ hK3;subst hR2;refine z_W ?_;refine jl (v:=.slice (some ⟨g2.hb,0,none⟩) S2.th.length g2.hc) rfl (jln (jlt (jif (λhc=>?_) (λhc=>?_))));rotate_left
  ·have hc:=z_g hc;rw[Ys (show S2.th.length≤i by omega)] at so;exact hK2 _ _ _ ⟨rfl,v,A,so,rfl,rfl⟩
  have hc:i < S2.th.length:=by have:=z_f hc;omega
  have hti:idx S2.th i = some (S2.th[i]):=by unfold idx;rw[if_pos ω,Yj,Yi hc]
  have htk:(S2.th.take (i + 1)).flatMap (λt=>t.AC.filter (·≠0)) = (S2.th.take i).flatMap (λt=>t.AC.filter (·≠0)) ++ (S2.th[i]).AC.filter (·≠0):=by
   rw[Yp hc,List.flatMap_append];simp
  have hri:=hroots _ (Yq hc);have done:∀(K4:List Value→M),(∀v A,SO ((S2.th.take (i + 1)).flatMap λt=>t.AC.filter (·≠0)) v A→J R2 (A ++ ((b,C BC (BF { Cd S2.col.Ae S2.col.want with pc:=1 } v)) :: (Ab p S2 g2 ++ F))) (K4 [Pt p,Pt b,I i]))→True:=λ_ _=>trivial
  refine AR (λvs R' D'=>R' = R2∧∃v A,SO ((S2.th.take (i + 1)).flatMap λt=>t.AC.filter (·≠0)) v A∧D' = A ++ ((b,C BC (BF { Cd S2.col.Ae S2.col.want with pc:=1 } v)) :: (Ab p S2 g2 ++ F))∧vs = [Pt p,Pt b,I i]) (λK4 hK4=>?_) ?_;rotate_left
  ·rintro e R3 D3 ⟨hR3,v,A,so,hD,he⟩;subst hR3;refine z_W ?_;refine jad ?_;exact hK3 (S2.th.length - (i + 1)) _ _ _ ω ⟨rfl,i + 1,v,A,ω,so,rfl,rfl,rfl⟩
  refine AR (λvs R' D'=>R' = R2∧∃v A,SO ((S2.th.take (i + 1)).flatMap λt=>t.AC.filter (·≠0)) v A∧D' = A ++ ((b,C BC (BF { Cd S2.col.Ae S2.col.want with pc:=1 } v)) :: (Ab p S2 g2 ++ F))∧vs = [Pt p,Pt b,I i]) (λK5 hK5=>?_) ?_;rotate_left
  ·rintro e R3 D3 ⟨hR3,v,A,so,hD,he⟩;subst hR3;refine z_W ?_;exact hK4 _ _ _ ⟨rfl,v,A,so,rfl,rfl⟩
  refine AR (λvs R' D'=>R' = R2∧∃v A,SO ((S2.th.take (i + 1)).flatMap λt=>t.AC.filter (·≠0)) v A∧D' = A ++ ((b,C BC (BF { Cd S2.col.Ae S2.col.want with pc:=1 } v)) :: (Ab p S2 g2 ++ F))∧vs = [Pt p,Pt b,I i]) (λK6 hK6=>?_) ?_;rotate_left
  ·rintro e R3 D3 ⟨hR3,v,A,so,hD,he⟩;subst hR3;refine z_W ?_;exact hK5 _ _ _ ⟨rfl,v,A,so,rfl,rfl⟩
  refine jlp (λm vs R' D'=>R' = R2∧∃(k:Nat) (v:Value) (A:Chs),k≤(S2.th[i]).AC.length∧SO ((S2.th.take i).flatMap (λt=>t.AC.filter (·≠0)) ++ ((S2.th[i]).AC.take k).filter (·≠0)) v A∧D' = A ++ ((b,C BC (BF { Cd S2.col.Ae S2.col.want with pc:=1 } v)) :: (Ab p S2 g2 ++ F))∧vs = [Pt p,Pt b,I i,I k]∧m = (S2.th[i]).AC.length - k)
   (n:=(S2.th[i]).AC.length) ⟨rfl,0,v,A,ω,by simpa using so,rfl,rfl,ω⟩ ?_
  rintro m e R3 D3 K7 ⟨hR3,k,v,A,hk,so,hD,he,hm⟩ hK7;subst hR3;refine z_W ?_;refine jrv (p:=p) ok2 hti λrv1 hrv1=>?_
  refine In hrv1 (jlt (jif (λhd=>?_) (λhd=>?_)));rotate_left
  ·have hd:=z_g hd;rw[Ys (show (S2.th[i]).AC.length≤k by omega),← htk] at so;exact hK6 _ _ _ ⟨rfl,v,A,so,rfl,rfl⟩
  have hd:k < (S2.th[i]).AC.length:=by have:=z_f hd;omega
  have hrk:((S2.th[i]).AC.take (k + 1)).filter (·≠0) = ((S2.th[i]).AC.take k).filter (·≠0) ++ (if (S2.th[i]).AC[k]≠0 then [(S2.th[i]).AC[k]] else []):=by
   rw[Yp hd,List.filter_append];congr 1;by_cases c:(S2.th[i]).AC[k] = 0<;>simp[c]
  refine AR (λvs R' D'=>R' = R3∧∃v A,SO ((S2.th.take i).flatMap (λt=>t.AC.filter (·≠0)) ++ ((S2.th[i]).AC.take (k + 1)).filter (·≠0)) v A∧D' = A ++ ((b,C BC (BF { Cd S2.col.Ae S2.col.want with pc:=1 } v)) :: (Ab p S2 g2 ++ F))∧vs = [Pt p,Pt b,I i,I k]) (λK8 hK8=>?_) ?_;rotate_left
  ·rintro e R4 D4 ⟨hR4,v,A,so,hD,he⟩;subst hR4;refine z_W ?_;refine jad ?_;exact hK7 ((S2.th[i]).AC.length - (k + 1)) _ _ _ ω ⟨rfl,k + 1,v,A,ω,so,rfl,rfl,rfl⟩
  refine AR (λvs R' D'=>R' = R3∧∃v A,SO ((S2.th.take i).flatMap (λt=>t.AC.filter (·≠0)) ++ ((S2.th[i]).AC.take (k + 1)).filter (·≠0)) v A∧D' = A ++ ((b,C BC (BF { Cd S2.col.Ae S2.col.want with pc:=1 } v)) :: (Ab p S2 g2 ++ F))∧vs = [Pt p,Pt b,I i,I k]) (λK9 hK9=>?_) ?_;rotate_left
  ·rintro e R4 D4 ⟨hR4,v,A,so,hD,he⟩;subst hR4;refine z_W ?_;exact hK8 _ _ _ ⟨rfl,v,A,so,rfl,rfl⟩
  refine jrv (p:=p) ok2 hti λrv2 hrv2=>?_
  refine CE hrv2 ω ω ?_;have e0:(S2.th[i]).AC[((k:Nat):Int).toNat]'(ω) = (S2.th[i]).AC[k]:=σ
  rw[e0];refine jne (jif (λhz=>?_) (λhz=>?_))
  ·have hz:(S2.th[i]).AC[k]≠0:=by simpa using hz
   obtain⟨sa,sn,sc,rfl⟩:=so.sl;refine jl (v:=.slice sa sn sc) rfl ?_;refine jrv (p:=p) ok2 hti λrv3 hrv3=>?_
   refine CE hrv3 ω ω ?_;rw[e0];refine jbs (cs:=[I (S2.th[i]).AC[k]]) rfl rfl λb1=>?_
   refine Af (jl (v:=.slice sa sn sc) rfl jev) ?_;refine BI ZH.symm ?_;have hx:BY R3 (A ++ (b1,C 3 [I (S2.th[i]).AC[k]]) :: (b,C BC (BF { Cd S2.col.Ae S2.col.want with pc:=1 } (.slice sa sn sc))) :: (Ab p S2 g2 ++ F)) (some ⟨b1,0,none⟩) (1 * 1) ([(S2.th[i]).AC[k]].map I):=BY.held (t:=AX) (cs:=[I (S2.th[i]).AC[k]]) (o:=0) (n:=1 * 1) (z_n 1);refine jas so rfl (by
    have h1:=tk i
    have h2:=List.length_filter_le (λx=>decide (x≠0)) ((S2.th[i]).AC.take k)
    have h3:((S2.th[i]).AC.take k).length≤(S2.th[i]).AC.length:=by rw[Z5];omega
    rw[Yk,Z7];omega) hx λv' A' so'=>?_
   obtain⟨sa',sn',sc',rfl⟩:=so'.sl;refine jS (BF { Cd S2.col.Ae S2.col.want with pc:=1 } (.slice sa' sn' sc')) ?_;refine Aw A' (G:=(b,C BC (BF { Cd S2.col.Ae S2.col.want with pc:=1 } (.slice sa' sn' sc'))) :: (Ab p S2 g2 ++ F)) ?_;refine hK9 _ _ _ ⟨rfl,_,A',?_,rfl,rfl⟩;rw[hrk,if_pos hz,← Yr];exact so'
  ·have hz:¬ (S2.th[i]).AC[k]≠0:=by simpa using hz
   refine hK9 _ _ _ ⟨rfl,v,A,?_,rfl,rfl⟩;rw[hrk,if_neg hz,ZN];exact so
 ·rintro e R2 D2 ⟨hR2,v,A,so,hD,he⟩;subst hR2;refine z_W ?_;obtain⟨sa,sn,sc,rfl⟩:=so.sl;refine jl (v:=.slice sa sn sc) rfl (jl (v:=g2.AG) rfl ?_);obtain⟨xa,cx,hpv,hx⟩:=BG.reads (D:=A ++ ((b,C BC (BF { Cd S2.col.Ae S2.col.want with pc:=1 } (.slice sa sn sc))) :: (Ab p S2 g2 ++ F))) ok2.AG;rw[hpv];refine jas so rfl (by
   have h1:=tk S2.th.length
   rw[List.take_length] at h1
   have h2:=hsz.2.2.2.1
   rw[e3];omega) hx λv' A' so'=>?_
  obtain⟨sa',sn',sc',rfl⟩:=so'.sl;refine jS (BF { Cd S2.col.Ae S2.col.want with pc:=1 } (.slice sa' sn' sc')) ?_;refine FG so' λR3 hR3 hint=>?_
  generalize hst:((S2.th.flatMap λt=>t.AC.filter (·≠0)) ++ S2.AG) = st at hint;refine BI (D':=(b,C BC (BF { Cd S2.col.Ae S2.col.want with pc:=1,AM:=st } (.slice sa' sn' sc'))) :: (Ab p S2 g2 ++ F)) (ZU _) ?_;refine Hf (p:=p) { S2 with col:={ Cd S2.col.Ae S2.col.want with pc:=1,AM:=st } } (by exact ok2.le hR3) (by exact hint) τ λg3 ok3=>?_
  refine Aw (Ab p { S2 with col:={ Cd S2.col.Ae S2.col.want with pc:=1,AM:=st } } g3) (G:=F) ?_;have htl3:S2.A0.length≤1000:=by rw[e4];exact htl
  refine jlp (λm vs R' D'=>R' = R3∧∃k:Nat,1≤k∧k≤S2.A0.length + 1∧D' = Ab p { S2 with col:={ Cd S2.col.Ae S2.col.want with pc:=1,AM:=st },A0:=Bk (λ_ x=>{ x with BE:=x.top,AO:=0 }) k S2.A0 } g3 ++ F∧vs = [Pt p,I k]∧m = S2.A0.length + 1 - k)
   (n:=S2.A0.length) ⟨rfl,1,z_n 1,ω,by rw[HX],rfl,ω⟩ ?_
  rintro m e R4 D4 K ⟨hR4,k,k0,k1,hD,he,hm⟩ hK;subst hR4;refine z_W ?_;refine jl (v:=.slice (some ⟨g3.tb,0,none⟩) (Bk (λ_ x=>{ x with BE:=x.top,AO:=0 }) k S2.A0).length g3.tc) rfl (jln (jlt (jif (λhc=>?_) (λhc=>?_))))
  ·have hc:k < S2.A0.length:=by have:=z_f hc;rw[CS] at this;omega
   refine jl (v:=.slice (some ⟨g3.tb,0,none⟩) (Bk (λ_ x=>{ x with BE:=x.top,AO:=0 }) k S2.A0).length g3.tc) rfl (C5 (by rw[CS];exact hc) ?_);refine QH (p:=p) (by simpa using hc) ?_;rw[show ({ S2 with col:={ Cd S2.col.Ae S2.col.want with pc:=1,AM:=st },A0:=Bk (λ_ x=>{ x with BE:=x.top,AO:=0 }) k S2.A0 }:Sim).A0[k]'(by simpa using hc) = S2.A0[k] from HF (f:=λ_ x=>{ x with BE:=x.top,AO:=0 }) hc];refine ja λb5=>?_
   refine js (cs':=eRg (S2.A0[k])) rfl rfl σ rfl ?_;refine jl (v:=I (S2.A0[k]).top) rfl ?_;refine js (cs':=eRg { S2.A0[k] with BE:=(S2.A0[k]).top }) rfl rfl σ rfl ?_;refine js (cs':=eRg { S2.A0[k] with BE:=(S2.A0[k]).top,AO:=0 }) rfl rfl σ rfl ?_;refine jl (v:=.slice (some ⟨g3.tb,0,none⟩) (Bk (λ_ x=>{ x with BE:=x.top,AO:=0 }) k S2.A0).length g3.tc) rfl ?_;refine jla (l:=eRg { S2.A0[k] with BE:=(S2.A0[k]).top,AO:=0 }) σ rfl ?_;refine C5 (by rw[CS];exact hc) ?_;refine SZ (p:=p) (x:={ S2.A0[k] with BE:=(S2.A0[k]).top,AO:=0 }) { S2 with col:={ Cd S2.col.Ae S2.col.want with pc:=1,AM:=st },A0:=Bk (λ_ x=>{ x with BE:=x.top,AO:=0 }) (k + 1) S2.A0 } (by simpa using hc) (by rw[← HM k0 hc]) ?_;refine jad ?_;refine Aw (Ab p { S2 with col:={ Cd S2.col.Ae S2.col.want with pc:=1,AM:=st },A0:=Bk (λ_ x=>{ x with BE:=x.top,AO:=0 }) (k + 1) S2.A0 } g3) (G:=F) ?_;exact hK (S2.A0.length + 1 - (k + 1)) _ _ _ ω ⟨rfl,k + 1,ω,ω,rfl,rfl,rfl⟩
  ·have hc:S2.A0.length≤k:=by have:=z_g hc;rw[CS] at this;omega
   have efin:({ S2 with col:={ Cd S2.col.Ae S2.col.want with pc:=1,AM:=st },A0:=Bk (λ_ x=>{ x with BE:=x.top,AO:=0 }) k S2.A0 }:Sim) = S.snapshot:=by
    rw[HJ hc,← hst,← hS2];rfl
   refine Ay (hR1.trans hR3) trivial efin ?_;rw[← efin];exact { ok3 with tl:=by simpa using htl3,tk:=by simpa using ok3.tk }
theorem V4 {R:RM} {D:Chs} {v:Value} {l:List Int} (n:Int) (h:BG R v l) (hl:l.length < 1000000000000):Ro M9 [v,I n] (.bool (l.contains n)) R D:=by
 refine Ra λF=>?_
 refine z_2 ?_;refine jlp (λm vs R' D'=>R' = R∧D' = D ++ F∧∃i:Nat,i≤l.length∧vs = [v,I n,I i]∧m = l.length - i∧∀k (hk:k < l.length),k < i→l[k]≠n)
  (n:=l.length) ⟨rfl,rfl,0,ω,rfl,ω,λk _ h=>ω⟩ ?_
 rintro m e R1 D1 K ⟨hR1,hD,i,hi,he,hm,Bx⟩ hK;subst hR1;refine z_W ?_;refine In h (jlt (jif (λhc=>?_) (λhc=>?_)))
 ·have hc:i < l.length:=by have:=z_f hc;omega
  refine CE h ω ω (jeq (jif (λhq=>?_) (λhq=>?_)))
  ·refine BU ?_;have hq:=eq_of_beq hq;simp only[Yj] at hq;have:l.contains n = true:=by rw[List.contains_eq_mem,z_d,← hq];exact Yq hc
   rw[this]
  ·have hq:=ne_of_beq_false hq;simp only[Yj] at hq;refine jad ?_;refine hK (l.length - (i + 1)) _ _ _ ω ⟨rfl,rfl,i + 1,ω,rfl,rfl,λk hk hki=>?_⟩;by_cases c:k = i
   ·subst c;exact hq
   ·exact Bx k hk ω
 ·have hc:¬ i < l.length:=by have:=z_g hc;omega
  refine BU ?_;have:l.contains n = false:=by
   rw[List.contains_eq_mem,decide_eq_false_iff_not];intro hm;obtain⟨k,hk,hkn⟩:=ZF hm;exact Bx k hk ω hkn
  rw[this]
section choose
variable {t:List Rg} {sp:List Value} {b cap:Nat} {R:RM} {D:Chs}
def InC (t:List Rg) (held:List Int) (AS:Int) (n i:Nat) (left:Int) (fr fe:List Int):Prop:=
 (n = 0→fr = []∧left = AS∧fe ++ DA held i (t.drop i) = DA held 1 t.tail)∧
 (1≤n→fe = DA held 1 t.tail∧fr ++ ((CX held n i (t.drop i) left).2 ++ Bo t held (16 - n) (n + 1) (CX held n i (t.drop i) left).1) = Bo t held 16 1 AS)
def OuC (t:List Rg) (held:List Int) (AS:Int) (n:Nat) (left:Int) (fr fe:List Int):Prop:=
 (n = 0→fr = []∧left = AS∧fe = [])∧(1≤n→fe = DA held 1 t.tail∧fr ++ Bo t held (17 - n) n left = Bo t held 16 1 AS)
theorem InC.step {held:List Int} {AS:Int} {n i:Nat} {left:Int} {fr fe:List Int} (h:InC t held AS n i left fr fe) (hi:i < t.length) :
  (Bu held n i t[i] = false→InC t held AS n (i + 1) left fr fe)∧(Bu held n i t[i] = true→n = 0→InC t held AS n (i + 1) left fr (fe ++ [(i:Int)]))∧
  (Bu held n i t[i] = true→1≤n→(n:Int)≤left→InC t held AS n (i + 1) (left - n) (fr ++ [(i:Int)]) fe)∧(1≤n→¬ (n:Int)≤left→InC t held AS n (i + 1) left fr fe):=by
 have hd:t.drop i = t[i] :: t.drop (i + 1):=Yv hi;obtain⟨h0,h1⟩:=h;rw[hd] at h0 h1;refine⟨λhc=>⟨λhn=>?_,λhn=>?_⟩,λhc hn=>⟨λ_=>?_,λhn'=>ω⟩,λhc hn hl=>⟨λhn'=>ω,λ_=>?_⟩,λhn hl=>⟨λhn'=>ω,λ_=>?_⟩⟩
 ·obtain⟨a1,a2,a3⟩:=h0 hn;subst hn;simp only[DA] at a3;rw[if_neg (by rw[show Bu held 0 i t[i] = false from hc];decide)] at a3;exact⟨a1,a2,a3⟩
 ·obtain⟨a1,a2⟩:=h1 hn;simp only[CX,hc,Z3,ZE,if_false] at a2;exact⟨a1,a2⟩
 ·obtain⟨a1,a2,a3⟩:=h0 hn;subst hn;simp only[DA] at a3;rw[if_pos (show Bu held 0 i t[i] = true from hc)] at a3;exact⟨a1,a2,by rw[Yr];exact a3⟩
 ·obtain⟨a1,a2⟩:=h1 hn;simp only[CX,hc,Z2,decide_eq_true hl,if_true] at a2;refine⟨a1,?_⟩;rw[Yr];exact a2
 ·obtain⟨a1,a2⟩:=h1 hn;simp only[CX,decide_eq_false hl,Bool.and_false,ZE,if_false] at a2;exact⟨a1,a2⟩
theorem OuC.inner {held:List Int} {AS:Int} {n:Nat} {left:Int} {fr fe:List Int} (h:OuC t held AS n left fr fe) (hn:n≤16):InC t held AS n 1 left fr fe:=by
 obtain⟨h0,h1⟩:=h;refine⟨λhz=>?_,λhz=>?_⟩
 ·obtain⟨a1,a2,a3⟩:=h0 hz;exact⟨a1,a2,by rw[a3,List.drop_one];rfl⟩
 ·obtain⟨a1,a2⟩:=h1 hz;refine⟨a1,?_⟩;rw[show 17 - n = (16 - n) + 1 from ω] at a2;simp only[Bo] at a2;rw[List.drop_one];exact a2
theorem InC.outer {held:List Int} {AS:Int} {n i:Nat} {left:Int} {fr fe:List Int} (h:InC t held AS n i left fr fe) (hi:t.length≤i):OuC t held AS (n + 1) left fr fe:=by
 obtain⟨h0,h1⟩:=h;rw[Yz hi] at h0 h1;refine⟨λhz=>ω,λ_=>?_⟩;by_cases c:n = 0
 ·obtain⟨a1,a2,a3⟩:=h0 c;subst c;refine⟨by simpa [DA] using a3,?_⟩;rw[a1,a2];rfl
 ·obtain⟨a1,a2⟩:=h1 ω;refine⟨a1,?_⟩;simp only[CX,zl] at a2;rw[show 17 - (n + 1) = 16 - n from ω]
  exact_mod_cast a2
end choose
theorem Fp (held:List Int) (n:Int):∀(l:List Rg) (i:Nat) (left:Int),(CX held n i l left).2.length≤l.length
 | [],_,_=>z_n 0
 | x :: r,i,left=>by
  unfold CX;split
  ·simp only[Yt];have:=Fp held n r (i + 1) (left - n);omega
  ·simp only[Yt];have:=Fp held n r (i + 1) left;omega
theorem Ez (t:List Rg) (held:List Int):∀(k:Nat) (n left:Int),(Bo t held k n left).length≤k * t.length
 | 0,_,_=>by simp[Bo]
 | k + 1,n,left=>by
  unfold Bo;simp only[Yk];have h1:=Fp held n t.tail 1 left;have h2:=Ez t held k (n + 1) (CX held n 1 t.tail left).1;rw[aD] at h1;rw[Nat.succ_mul];omega
theorem HS (held:List Int):∀(l:List Rg) (i:Nat),(DA held i l).length≤l.length
 | [],_=>z_n 0
 | x :: r,i=>by
  unfold DA;have:=HS held r (i + 1);split<;>simp only[Yt]<;>omega
theorem InC.len {t:List Rg} {held:List Int} {AS:Int} {n i:Nat} {left:Int} {fr fe:List Int} (h:InC t held AS n i left fr fe):fr.length≤16 * t.length∧fe.length≤t.length:=by
 obtain⟨h0,h1⟩:=h;have f:=HS held t.tail 1;rw[aD] at f;by_cases c:n = 0
 ·obtain⟨a1,a2,a3⟩:=h0 c;have:=congrArg List.length a3;rw[Yk] at this;rw[a1];constructor
  ·simp
  ·omega
 ·obtain⟨a1,a2⟩:=h1 ω;have:=congrArg List.length a2;rw[Yk] at this;have g:=Ez t held 16 1 AS;rw[a1];constructor<;>omega
def Q2I (l1 l2:List Int) (v:Value) (N:Chs):Prop:=∃v1 v2 A1 A2,SO l1 v1 A1∧SO l2 v2 A2∧v = .tuple #[v1,v2]∧N = A1 ++ A2
theorem VL {A1 A2 D:Chs} (x:Nat × Obj):(x :: (A1 ++ (A2 ++ D))).Perm (A2 ++ (x :: (A1 ++ D))):=
 (Zs x (by rw[← Yr,← Yr];exact List.perm_append_comm.append_right D)).trans ZH.symm
theorem W1 {A1 A2 D:Chs}:(A2 ++ (A1 ++ D)).Perm (A1 ++ (A2 ++ D)):=by
 rw[← Yr,← Yr];exact List.perm_append_comm.append_right D
section A0
variable {t:List Rg} {sp:List Value} {b cap:Nat} {R:RM} {D:Chs}
theorem LX {held:List Int} {hv:Value} (AS:Int) (hr:inR AS) (hl:t.length < 1000000) (hi:BG R hv held) (hhl:held.length < 1000000000000) [a:At D b (C AI (Ac eRg t ++ sp))] :
  Mk G9 [S0 b t.length cap,I AS,hv] R D (Q2I (Ag t AS held).1 (Ag t AS held).2):=by
 refine Jc λF=>?_
 refine z_3 ?_;refine jro (Ej hl) ?_;cases hok:BT t with
 | false=>
  refine DI (DN [] ?_);have:Ag t AS held = ([],[]):=by unfold Ag;rw[hok];rfl
  rw[this];exact⟨_,_,[],[],.inl ⟨rfl,rfl,rfl⟩,.inl ⟨rfl,rfl,rfl⟩,rfl,rfl⟩
 | true=>
 have eqc:Ag t AS held = (Bo t held 16 1 AS,DA held 1 t.tail):=by unfold Ag;rw[hok];rfl
 have T:=Bm.1 hok;refine CL ?_;refine AR (λvs R' D'=>R' = R∧∃v1 A1 v2 A2,SO (Bo t held 16 1 AS) v1 A1∧SO (DA held 1 t.tail) v2 A2∧D' = A1 ++ (A2 ++ (D ++ F))∧vs = [v1,v2]) (λK hK=>?_) ?_;rotate_left
 ·rintro e R1 D1 ⟨hR,v1,A1,v2,A2,so1,so2,hD,he⟩;subst hR;refine z_W ?_;clear hD;refine BI (D':=(A1 ++ A2) ++ (D ++ F)) (by rw[Yr]) ?_;refine DN (A1 ++ A2) ?_;rw[eqc];exact⟨v1,v2,A1,A2,so1,so2,rfl,rfl⟩
 refine AR (λvs R' D'=>R' = R∧∃v1 A1 v2 A2,SO (Bo t held 16 1 AS) v1 A1∧SO (DA held 1 t.tail) v2 A2∧D' = A1 ++ (A2 ++ (D ++ F))∧vs = [v1,v2]) (λK2 hK2=>?_) ?_;rotate_left
 ·rintro e R1 D1 ⟨hR,v1,A1,v2,A2,so1,so2,hD,he⟩;subst hR;refine z_W ?_;clear hD;exact hK _ _ _ ⟨rfl,v1,A1,v2,A2,so1,so2,rfl,rfl⟩
 refine jlp (λm vs R' D'=>R' = R∧∃(n:Nat) (left:Int) (fr fe:List Int) (v1 v2:Value) (A1 A2:Chs),n≤17∧inR left∧OuC t held AS n left fr fe∧SO fr v1 A1∧SO fe v2 A2∧D' = A1 ++ (A2 ++ (D ++ F))∧vs = [S0 b t.length cap,hv,v1,v2,I left,I n]∧m = 17 - n)
  (n:=17) ⟨rfl,0,AS,[],[],SN,SN,[],[],ω,hr,⟨λ_=>⟨rfl,rfl,rfl⟩,λh=>ω⟩,.inl ⟨rfl,rfl,rfl⟩,.inl ⟨rfl,rfl,rfl⟩,rfl,rfl,rfl⟩ ?_
 rintro m e R1 D1 K3 ⟨hR,n,left,fr,fe,v1,v2,A1,A2,hn,hleft,ou,so1,so2,hD,he,hm⟩ hK3;subst hR;refine z_W ?_;clear hD;refine jle (jif (λhc=>?_) (λhc=>?_));rotate_left
 ·have hc:n = 17:=by have:=z_g hc;omega
  subst hc;obtain⟨o1,o2⟩:=ou.2 ω;have o2:fr ++ [] = Bo t held 16 1 AS:=o2;rw[ZN] at o2;exact hK2 _ _ _ ⟨rfl,v1,A1,v2,A2,o2▸so1,o1▸so2,rfl,rfl⟩
 have hc:n≤16:=by have:=z_f hc;omega
 refine AR (λvs R' D'=>R' = R1∧∃(left:Int) (fr fe:List Int) (v1 v2:Value) (A1 A2:Chs),inR left∧OuC t held AS (n + 1) left fr fe∧SO fr v1 A1∧SO fe v2 A2∧D' = A1 ++ (A2 ++ (D ++ F))∧vs = [S0 b t.length cap,hv,v1,v2,I left,I n]) (λK4 hK4=>?_) ?_;rotate_left
 ·rintro e R2 D2 ⟨hR,left,fr,fe,v1,v2,A1,A2,hleft,ou,so1,so2,hD,he⟩;subst hR;refine z_W ?_;clear hD;refine jad ?_;exact hK3 (17 - (n + 1)) _ _ _ ω ⟨rfl,n + 1,left,fr,fe,v1,v2,A1,A2,ω,hleft,ou,so1,so2,rfl,rfl,rfl⟩
 refine AR (λvs R' D'=>R' = R1∧∃(left:Int) (fr fe:List Int) (v1 v2:Value) (A1 A2:Chs),inR left∧OuC t held AS (n + 1) left fr fe∧SO fr v1 A1∧SO fe v2 A2∧D' = A1 ++ (A2 ++ (D ++ F))∧vs = [S0 b t.length cap,hv,v1,v2,I left,I n]) (λK5 hK5=>?_) ?_;rotate_left
 ·rintro e R2 D2 ⟨hR,left,fr,fe,v1,v2,A1,A2,hleft,ou,so1,so2,hD,he⟩;subst hR;refine z_W ?_;clear hD;exact hK4 _ _ _ ⟨rfl,left,fr,fe,v1,v2,A1,A2,hleft,ou,so1,so2,rfl,rfl⟩
 refine AR (λvs R' D'=>R' = R1∧∃(left:Int) (fr fe:List Int) (v1 v2:Value) (A1 A2:Chs),inR left∧OuC t held AS (n + 1) left fr fe∧SO fr v1 A1∧SO fe v2 A2∧D' = A1 ++ (A2 ++ (D ++ F))∧vs = [S0 b t.length cap,hv,v1,v2,I left,I n]) (λK6 hK6=>?_) ?_;rotate_left
 ·rintro e R2 D2 ⟨hR,left,fr,fe,v1,v2,A1,A2,hleft,ou,so1,so2,hD,he⟩;subst hR;refine z_W ?_;clear hD;exact hK5 _ _ _ ⟨rfl,left,fr,fe,v1,v2,A1,A2,hleft,ou,so1,so2,rfl,rfl⟩
 refine jlp (λm vs R' D'=>R' = R1∧∃(i:Nat) (left:Int) (fr fe:List Int) (v1 v2:Value) (A1 A2:Chs),1≤i∧i≤t.length + 1∧inR left∧InC t held AS n i left fr fe∧SO fr v1 A1∧SO fe v2 A2∧D' = A1 ++ (A2 ++ (D ++ F))∧vs = [S0 b t.length cap,hv,v1,v2,I left,I n,I i]∧m = t.length + 1 - i)
  (n:=t.length) ⟨rfl,1,left,fr,fe,v1,v2,A1,A2,ω,ω,hleft,ou.inner hc,so1,so2,rfl,rfl,ω⟩ ?_
 clear ou so1 so2 hleft;rintro m e R2 D2 K7 ⟨hR,i,left,fr,fe,v1,v2,A1,A2,hi1,hi2,hleft,ic,so1,so2,hD,he,hm⟩ hK7;subst hR;refine z_W ?_;clear hD;refine jln (jlt (jif (λhd=>?_) (λhd=>?_)));rotate_left
 ·have hd:=z_g hd;exact hK6 _ _ _ ⟨rfl,left,fr,fe,v1,v2,A1,A2,hleft,ic.outer ω,so1,so2,rfl,rfl⟩
 have hd:i < t.length:=by have:=z_f hd;omega
 have n1:=T.n1;obtain⟨s1,s2,s3,s4⟩:=ic.step hd;obtain⟨len1,len2⟩:=ic.len;refine AR (λvs R' D'=>R' = R2∧∃(left:Int) (fr fe:List Int) (v1 v2:Value) (A1 A2:Chs),inR left∧InC t held AS n (i + 1) left fr fe∧SO fr v1 A1∧SO fe v2 A2∧D' = A1 ++ (A2 ++ (D ++ F))∧vs = [S0 b t.length cap,hv,v1,v2,I left,I n,I i]) (λK8 hK8=>?_) ?_;rotate_left
 ·rintro e R3 D3 ⟨hR,left,fr,fe,v1,v2,A1,A2,hleft,ou,so1,so2,hD,he⟩;subst hR;refine z_W ?_;clear hD;refine jad ?_;exact hK7 (t.length + 1 - (i + 1)) _ _ _ ω ⟨rfl,i + 1,left,fr,fe,v1,v2,A1,A2,ω,ω,hleft,ou,so1,so2,rfl,rfl,rfl⟩
 refine AR (λvs R' D'=>R' = R2∧∃(left:Int) (fr fe:List Int) (v1 v2:Value) (A1 A2:Chs),inR left∧InC t held AS n (i + 1) left fr fe∧SO fr v1 A1∧SO fe v2 A2∧D' = A1 ++ (A2 ++ (D ++ F))∧vs = [S0 b t.length cap,hv,v1,v2,I left,I n,I i]) (λK9 hK9=>?_) ?_;rotate_left
 ·rintro e R3 D3 ⟨hR,left,fr,fe,v1,v2,A1,A2,hleft,ou,so1,so2,hD,he⟩;subst hR;refine z_W ?_;clear hD;exact hK8 _ _ _ ⟨rfl,left,fr,fe,v1,v2,A1,A2,hleft,ou,so1,so2,rfl,rfl⟩
 have RR:=T.row i ω ω;have t0:=RR.t0;have t1:=RR.t1;rw[E5 hd] at t0 t1;have hbase:=CO (r:=(i:Int)) ω ω;refine C5 hd (MI hd (ja λb2=>?_));refine js (cs':=eRg (t[i])) rfl rfl σ rfl ?_;refine AR (λvs R' D'=>R' = R2∧D' = A1 ++ (A2 ++ (D ++ F))∧vs = [S0 b t.length cap,hv,v1,v2,I left,I n,I i,.bool (!Bu held n i t[i])]) (λK10 hK10=>?_) ?_;rotate_left
 ·rintro e R3 D3 ⟨hR,hD,he⟩;subst hR;refine z_W ?_;clear hD;cases hch:Bu held n i t[i] with
  | false=>exact DI (hK9 _ _ _ ⟨rfl,left,fr,fe,v1,v2,A1,A2,hleft,s1 hch,so1,so2,rfl,rfl⟩)
  | true=>
  refine CL (jeq (jif (λh0=>?_) (λh0=>?_)))
  ·have h0:n = 0:=by have:=eq_of_beq h0;omega
   refine jbs (cs:=[I i]) rfl rfl λb1=>?_
   refine BI (VL _) ?_;have hx:BY R3 (A2 ++ ((b1,C 3 [I i]) :: (A1 ++ (D ++ F)))) (some ⟨b1,0,none⟩) (1 * 1) ([(i:Int)].map I):=BY.held (t:=AX) (cs:=[I i]) (o:=0) (n:=1 * 1) (z_n 1);refine jas so2 rfl (by simp only[Z7];omega) hx λv' A' so'=>?_
   refine Aw A' (G:=A1 ++ (D ++ F)) (BI W1 ?_);exact hK9 _ _ _ ⟨rfl,left,fr,fe ++ [(i:Int)],v1,v',A1,A',hleft,s2 hch h0,so1,so',rfl,rfl⟩
  ·have h0:1≤n:=by have:=ne_of_beq_false h0;omega
   refine jle (jif (λh2=>?_) (λh2=>?_))
   ·have h2:=z_f h2;refine jbs (cs:=[I i]) rfl rfl λb1=>?_
    refine BI ZH.symm ?_;have hx:BY R3 (A1 ++ ((b1,C 3 [I i]) :: (A2 ++ (D ++ F)))) (some ⟨b1,0,none⟩) (1 * 1) ([(i:Int)].map I):=BY.held (t:=AX) (cs:=[I i]) (o:=0) (n:=1 * 1) (z_n 1);refine jas so1 rfl (by simp only[Z7];omega) hx λv' A' so'=>?_
    have hleft' : inR (left - n):=by have:=hleft.1;have:=hleft.2;constructor<;>omega
    refine Pk hleft' (Aw A' (G:=A2 ++ (D ++ F)) ?_);exact hK9 _ _ _ ⟨rfl,left - n,fr ++ [(i:Int)],fe,v',v2,A',A2,hleft',s3 hch h0 h2,so',so2,rfl,rfl⟩
   ·have h2:=z_g h2;exact hK9 _ _ _ ⟨rfl,left,fr,fe,v1,v2,A1,A2,hleft,s4 h0 h2,so1,so2,rfl,rfl⟩
 refine jor [S0 b t.length cap,hv,v1,v2,I left,I n,I i,Pt b2] ((t[i].kind != 3) || (t[i].top != t[i].BE)) (λK' hK'=>?_) (λe c u ho he=>?_)
 ·refine jl (v:=I t[i].kind) rfl (jne (BR (λh1=>?_) (λh1=>?_)))
  ·refine jl (v:=I t[i].top) rfl (jl (v:=I t[i].BE) rfl (jne (hK' _ _ _ (h1▸Ah) (by rw[h1,Yl]))))
  ·exact hK' _ _ _ (h1▸Am) (by rw[h1,Yo])
 refine z_V ?_;refine jor [S0 b t.length cap,hv,v1,v2,I left,I n,I i,Pt b2] ((t[i].kind != 3) || (t[i].top != t[i].BE) || (t[i].AO != n)) (λK' hK'=>?_) (λe c u ho he=>?_)
 ·rw[ho];refine BR (λh1=>?_) (λh1=>?_)
  ·refine jl (v:=I t[i].AO) rfl (jne (hK' _ _ _ (h1▸Ah) (by rw[h1,Yl])))
  ·exact hK' _ _ _ (h1▸Am) (by rw[h1,Yo])
 refine z_V ?_;generalize hf3:((t[i].kind != 3) || (t[i].top != t[i].BE) || (t[i].AO != n)) = f3 at ho;have ech:Bu held n i t[i] = (!f3 && decide (t[i].AO < t[i].top - AH i) && !(held.contains (i:Int))):=by
  unfold Bu;rw[← hf3];simp only[bne,Bool.not_or,Bool.not_not,Bool.and_assoc]
 cases f3 with
 | true=>
  rw[an,Z3,Z3] at ech;refine CQ ?_;rw[ho];refine jtf (Bv λe he=>?_);refine z_V ?_;refine jtf (CQ (jtf (Bv λe he=>?_)));refine z_V ?_;refine CQ (EA (jtf (Bv λe he=>?_)));refine z_V ?_;refine Af (jtf jev) (Af (jtf jev) (jtf (EA ?_)));refine Bn ?_;exact hK10 _ _ _ ⟨rfl,rfl,by rw[ech];rfl⟩
 | false=>
  rw[Bool.not_false,Z2] at ech;refine CQ ?_;rw[ho];refine jff (jl (v:=I t[i].AO) rfl (jl (v:=I t[i].top) rfl (Bv λe he=>?_)));refine z_V ?_;refine jff (jp (Bc i) (CQ (jff (jsu (jge (Bv λe he=>?_))))));refine z_V ?_;refine CQ (EI ?_);by_cases c4:t[i].AO < t[i].top - AH i
  ·rw[decide_eq_false (show ¬ t[i].AO≥t[i].top - AH i by omega)];rw[decide_eq_true c4,Z2] at ech;refine jff (Bv λe he=>?_);refine z_V ?_;refine Af (jff (jl (v:=I t[i].AO) rfl jev)) (Af (jff (jl (v:=I t[i].top) rfl jev)) (jff ?_));refine jro (V4 i hi hhl) (EI ?_);refine Bn ?_;exact hK10 _ _ _ ⟨rfl,rfl,by rw[ech,Bool.not_not]⟩
  ·rw[decide_eq_true (show t[i].AO≥t[i].top - AH i by omega)];rw[decide_eq_false c4,Z3] at ech;refine jtf (Bv λe he=>?_);refine z_V ?_;refine Af (jff (jl (v:=I t[i].AO) rfl jev)) (Af (jff (jl (v:=I t[i].top) rfl jev)) (jtf (EA ?_)));refine Bn ?_;exact hK10 _ _ _ ⟨rfl,rfl,by rw[ech];rfl⟩
end A0
end Go.Lf
end
section
namespace Sm
def shp (w:List Int) (a:Int):Shp:=(AJ (wv w (a + 1))).1
def sz (w:List Int) (a:Int):Int:=AF (shp w a)
def BZ (t:List Rg) (a:Int):Prop:=0≤a∧(rv t (a / 16)).kind = 4
theorem SC (v:Int):0≤(AJ v).1.refs∧(AJ v).1.refs≤4∧0≤(AJ v).1.nums∧(AJ v).1.nums≤4:=by
 unfold AJ;split
 ·simp only[];omega
 ·simp[Ss]
theorem Jt {s:Shp} (h:0≤s.refs∧s.refs≤4∧0≤s.nums∧s.nums≤4):AF s = 2 + s.refs + s.nums:=by
 unfold AF;rw[if_pos (by simp[BP];omega)]
theorem FP (w:List Int) (a:Int):sz w a = 2 + (shp w a).refs + (shp w a).nums∧0≤(shp w a).refs∧(shp w a).refs≤4∧0≤(shp w a).nums∧(shp w a).nums≤4:=by
 have h:=SC (wv w (a + 1));exact⟨Jt h,h⟩
theorem Du {w w' : List Int} {a:Int} (h:wv w' (a + 1) = wv w (a + 1)):shp w' a = shp w a:=by unfold shp;rw[h]
theorem Gf {w w' : List Int} {a:Int} (h:wv w' (a + 1) = wv w (a + 1)):sz w' a = sz w a:=by unfold sz;rw[Du h]
structure Geo (w:List Int) (t:List Rg) (B:Int→Prop):Prop where
 len:(w.length:Int) = 16 * t.length
 ok:TOk t
 at_:∀a,B a→16≤a∧a + sz w a≤(rv t (a / 16)).top∧(AJ (wv w (a + 1))).2 = true
 nx:∀a,B a→a + sz w a = (rv t (a / 16)).top∨B (a + sz w a)
 bs:∀r:Int,1≤r→r < t.length→(rv t r).top = 16 * r∨B (16 * r)
 dj:∀a b,B a→B b→a < b→a + sz w a≤b
theorem Geo.inn {w:List Int} {t:List Rg} {B:Int→Prop} (G:Geo w t B) {a:Int} (h:B a):16≤a∧1≤a / 16∧a / 16 < t.length∧a + sz w a≤(rv t (a / 16)).top∧(rv t (a / 16)).top≤16 * (a / 16) + 16∧a + sz w a≤w.length∧2≤sz w a∧sz w a≤10:=by
 obtain⟨h1,h2,_⟩:=G.at_ a h;have hs:=FP w a;have hl:=G.len;by_cases c:a / 16 < t.length
 ·have:=(G.ok.row (a / 16) ω c).t1;exact⟨h1,ω,c,h2,this,ω,ω,ω⟩
 ·rw[DU ω ω] at h2;simp only[DO] at h2;omega
structure X where
 w:List Int
 t:List Rg
 m:List Bool
 ph:Int
 sk:List Int
 old:List Int
 AG:List Int
 B:Int→Prop
 L:Int→Prop
 q:Int→Int
 r0:Int→Prop
def X.tm (x:X) (a:Int):Int:=(rv x.t (a / 16)).BE
def Lg (x:X) (v:Int):Prop:=v = 0∨mv x.m v = true∨v∈x.sk∨v∈x.old∨(0≤v∧x.tm v≤v)
open Classical in
noncomputable def cnt (x:X) (r:Int):Nat:=(List.range 16).countP λ(k:Nat)=>decide (∃a,0≤a∧mv x.m a = true∧a≤16 * r + (k:Int)∧16 * r + (k:Int) < a + sz x.w a)
structure Mp (x:X):Prop where
 sk:∀a∈x.sk,x.L a
 old:∀a∈x.old,x.L a
 mn:∀Y:Int→Prop,(∀a,x.r0 a→Y a)→(∀a j,x.L a→a < x.tm a→Y a→0≤j→j < (shp x.w a).refs→x.q (a + 2 + j)≠0→Y (x.q (a + 2 + j)))→∀a,x.L a→a < x.tm a→Y a
 l0:∀a,x.r0 a→x.L a∧a < x.tm a∧Lg x a
 ql:∀a j,x.L a→a < x.tm a→0≤j→j < (shp x.w a).refs→x.q (a + 2 + j)≠0→x.L (x.q (a + 2 + j))∧x.q (a + 2 + j) < x.tm (x.q (a + 2 + j))
 un:∀a j,x.L a→a < x.tm a→0≤j→j < (shp x.w a).refs→wv x.w (a + 2 + j) = x.q (a + 2 + j)∨Lg x (x.q (a + 2 + j))
 cov:∀r:Int,1≤r→r < x.t.length→(rv x.t r).AO = cnt x r
structure Sh (x:X):Prop where
 g:Geo x.w x.t x.B
 lb:∀a,x.L a→x.B a
 rf:∀a j,x.L a→0≤j→j < (shp x.w a).refs→wv x.w (a + 2 + j)≠0→x.L (wv x.w (a + 2 + j))
 st:∀a,x.B a→¬ BZ x.t a→wv x.w a = a
 fw:∀a,x.B a→BZ x.t a→wv x.w a≠a→x.L (wv x.w a)∧¬ BZ x.t (wv x.w a)∧wv x.w (wv x.w a + 1) = wv x.w (a + 1)
 ml:x.m.length = x.w.length
 mt:∀a,0≤a→mv x.m a = true→x.L a∧a < x.tm a
 ph:0≤x.ph∧x.ph≤3
 nf:x.ph≤1→∀r:Int,0≤r→(rv x.t r).kind≠4
 lm:2≤x.ph→∀a,x.L a→a < x.tm a→mv x.m a = true
 pl:∀a∈x.AG,x.L a∧¬ BZ x.t a
 fm:∀a,x.L a→BZ x.t a→mv x.m a = true
 nb:1≤x.ph→∀a,x.B a→x.tm a≤a→x.L a
 af:x.ph = 3→∀a,x.L a→BZ x.t a→wv x.w a≠a
 mp:x.ph = 1→Mp x
structure Kp (o:Int) (x y:X):Prop where
 wl:y.w.length = x.w.length
 tl:y.t.length = x.t.length
 ph:y.ph = x.ph
 l:∀a,x.L a→y.L a
 b:∀a,x.B a→y.B a
 lf:∀a,y.L a→BZ y.t a→x.L a
 fr:∀r:Int,0≤r→((rv y.t r).kind = 4↔(rv x.t r).kind = 4)
 tm:∀r:Int,0≤r→(rv y.t r).BE = (rv x.t r).BE
 own:∀r:Int,0≤r→(rv x.t r).kind = 2→(rv x.t r).AV≠o→((rv y.t r).kind = 2∧(rv y.t r).AV = (rv x.t r).AV∧(rv y.t r).top = (rv x.t r).top)∧∀z,(rv x.t r).top≤z→z < 16 * r + 16→wv y.w z = wv x.w z
 sh:∀a,x.B a→wv y.w (a + 1) = wv x.w (a + 1)
 bd:∀a z,x.L a→BZ x.t a→a < z→z < a + sz x.w a→wv y.w z = wv x.w z
 fwd:∀a,x.B a→wv x.w a≠a→wv y.w a = wv x.w a
 lg:x.ph = 1→∀v,Lg x v→Lg y v
 q:y.q = x.q
 cl:x.ph = 3→∀a j,y.L a→¬ BZ y.t a→0≤j→j < (shp y.w a).refs→BZ y.t (wv y.w (a + 2 + j))→x.L a∧wv x.w (a + 2 + j) = wv y.w (a + 2 + j)
theorem Kp.refl (o:Int) (x:X):Kp o x x:=
 ⟨rfl,rfl,rfl,λ_ h=>h,λ_ h=>h,λ_ h _=>h,λ_ _=>Iff.rfl,λ_ _=>rfl,λ_ _ h _=>⟨⟨h,rfl,rfl⟩,λ_ _ _=>rfl⟩,λ_ _=>rfl,λ_ _ _ _ _ _=>rfl,λ_ _ _=>rfl,λ_ _ h=>h,rfl,λ_ _ _ h _ _ _ _=>⟨h,rfl⟩⟩
theorem Kp.frm {o:Int} {x y:X} (K:Kp o x y) {a:Int}:BZ y.t a↔BZ x.t a:=
 ⟨λh=>⟨h.1,(K.fr (a / 16) (by have:=h.1;omega)).1 h.2⟩,λh=>⟨h.1,(K.fr (a / 16) (by have:=h.1;omega)).2 h.2⟩⟩
theorem Kp.trans {o:Int} {x y z:X} (K:Kp o x y) (K' : Kp o y z) (H:Sh x) (H' : Sh y):Kp o x z where
 wl:=by rw[K'.wl,K.wl]
 tl:=by rw[K'.tl,K.tl]
 ph:=by rw[K'.ph,K.ph]
 l a h:=K'.l a (K.l a h)
 b a h:=K'.b a (K.b a h)
 lf a h h':=K.lf a (K'.lf a h h') (K'.frm.1 h')
 fr r h:=(K'.fr r h).trans (K.fr r h)
 tm r h:=(K'.tm r h).trans (K.tm r h)
 own r h hk ho:=by
  obtain⟨⟨e1,e2,e3⟩,f⟩:=K.own r h hk ho;obtain⟨⟨e1',e2',e3'⟩,f'⟩:=K'.own r h e1 (by rw[e2];exact ho);refine⟨⟨e1',by rw[e2',e2],by rw[e3',e3]⟩,λu h1 h2=>?_⟩;rw[f' u (by rw[e3];exact h1) h2,f u h1 h2]
 sh a h:=(K'.sh a (K.b a h)).trans (K.sh a h)
 bd a u h hf h1 h2:=by
  rw[K'.bd a u (K.l a h) (K.frm.2 hf) h1 (by rw[Gf (K.sh a (H.lb a h))];exact h2)];exact K.bd a u h hf h1 h2
 fwd a h h':=by
  have e:=K.fwd a h h';rw[K'.fwd a (K.b a h) (by rw[e];exact h'),e]
 lg hp v hv:=K'.lg (by rw[K.ph];exact hp) v (K.lg hp v hv)
 q:=by rw[K'.q,K.q]
 cl hp a j h1 h2 h3 h4 h5:=by
  obtain⟨g1,g2⟩:=K'.cl (by rw[K.ph];exact hp) a j h1 h2 h3 h4 h5;have e:=Du (K'.sh a (H'.lb a g1));rw[e] at h4;rw[← g2] at h5;obtain⟨f1,f2⟩:=K.cl hp a j g1 (λh=>h2 (K'.frm.2 h)) h3 h4 (K'.frm.1 h5);exact⟨f1,by rw[f2,g2]⟩
end Sm
end
section
namespace Sm
structure Ow (x:X) (o dst size:Int):Prop where
 d0:16≤dst
 k:(rv x.t (dst / 16)).kind = 2
 o:(rv x.t (dst / 16)).AV = o
 top:(rv x.t (dst / 16)).top = dst
 fit:dst + size≤16 * (dst / 16) + 16
theorem Ow.inn {x:X} {o dst size:Int} (O:Ow x o dst size):dst / 16 < x.t.length:=by
 by_cases c:dst / 16 < x.t.length
 ·exact c
 ·have:=O.k;rw[DU (by have:=O.d0;omega) ω] at this;cases this
theorem Ow.wl {x:X} {o dst size:Int} (O:Ow x o dst size) (G:Geo x.w x.t x.B):dst + size≤x.w.length:=by
 have h1:=O.inn;have h2:=G.len;have h3:=O.fit;omega
theorem Ow.stable {o p:Int} {x y:X} {dst size:Int} (O:Ow x o dst size) (K:Kp p x y) (hp:p≠o):Ow y o dst size∧∀z,dst≤z→z < dst + size→wv y.w z = wv x.w z:=by
 have h0:=O.d0;obtain⟨⟨e1,e2,e3⟩,f⟩:=K.own (dst / 16) ω O.k (by rw[O.o];exact hp.symm);refine⟨⟨O.d0,e1,by rw[e2];exact O.o,by rw[e3];exact O.top,O.fit⟩,λz h1 h2=>f z (by rw[O.top];exact h1) ?_⟩;have:=O.fit;omega
theorem sep {w:List Int} {t:List Rg} {B:Int→Prop} (G:Geo w t B) {a b k l:Int} (ha:B a) (hb:B b) (k0:0≤k) (k1:k < sz w a) (l0:0≤l) (l1:l < sz w b) (h:a + k = b + l):a = b∧k = l:=by
 rcases Int.lt_trichotomy a b with c | c | c
 ·have:=G.dj a b ha hb c;omega
 ·omega
 ·have:=G.dj b a hb ha c;omega
theorem Ow.sep {x:X} {o dst size z:Int} (O:Ow x o dst size) (G:Geo x.w x.t x.B) (h1:dst≤z) (h2:z < dst + size) {a k:Int} (ha:x.B a) (k0:0≤k) (k1:k < sz x.w a):a + k≠z:=by
 intro h;obtain⟨g1,g2,g3,g4,g5,g6,g7,g8⟩:=G.inn ha;have e1:=O.fit;have e0:=O.d0;have:a / 16 = dst / 16:=ω
 rw[this,O.top] at g4;omega
theorem RQ {x y:X} (hm:y.m = x.m) (hs:∀a,0≤a→mv x.m a = true→sz y.w a = sz x.w a) (r:Int):cnt y r = cnt x r:=by
 unfold cnt;congr 1;funext k;congr 1;apply propext;constructor
 ·rintro⟨a,h0,h1,h2,h3⟩;rw[hm] at h1;exact⟨a,h0,h1,h2,by rw[← hs a h0 h1];exact h3⟩
 ·rintro⟨a,h0,h1,h2,h3⟩;exact⟨a,h0,by rw[hm];exact h1,h2,by rw[hs a h0 h1];exact h3⟩
theorem Sh.wr {x:X} {w' : List Int} (H:Sh x) (hl:w'.length = x.w.length) (hs:∀a,x.B a→wv w' (a + 1) = wv x.w (a + 1)) (hst:∀a,x.B a→¬ BZ x.t a→wv w' a = a)
  (hfw:∀a,x.B a→BZ x.t a→wv w' a≠a→x.L (wv w' a)∧¬ BZ x.t (wv w' a)∧wv x.w (wv w' a + 1) = wv x.w (a + 1))
  (hrf:∀a j,x.L a→0≤j→j < (shp x.w a).refs→wv w' (a + 2 + j)≠0→x.L (wv w' (a + 2 + j)))
  (hun:x.ph = 1→∀a j,x.L a→a < x.tm a→0≤j→j < (shp x.w a).refs→wv w' (a + 2 + j) = x.q (a + 2 + j)∨Lg x (x.q (a + 2 + j)))
  (haf:x.ph = 3→∀a,x.L a→BZ x.t a→wv w' a≠a):Sh { x with w:=w' }:=by
 have hz:∀a,x.B a→sz w' a = sz x.w a:=λa h=>Gf (hs a h)
 have hp:∀a,x.B a→shp w' a = shp x.w a:=λa h=>Du (hs a h)
 have g:=H.g;refine⟨⟨by rw[hl];exact g.len,g.ok,λa h=>?_,λa h=>?_,g.bs,λa b h h' hab=>?_⟩,H.lb,λa j h h0 h1 h2=>?_,hst,λa h hf hne=>?_,by rw[hl];exact H.ml,H.mt,H.ph,H.nf,H.lm,H.pl,H.fm,H.nb,haf,λh1=>?_⟩
 ·obtain⟨a1,a2,a3⟩:=g.at_ a h;exact⟨a1,by rw[hz a h];exact a2,by rw[hs a h];exact a3⟩
 ·rw[hz a h];exact g.nx a h
 ·rw[hz a h];exact g.dj a b h h' hab
 ·exact hrf a j h h0 (by rw[← hp a (H.lb a h)];exact h1) h2
 ·obtain⟨b1,b2,b3⟩:=hfw a h hf hne;refine⟨b1,b2,?_⟩;show wv w' (wv w' a + 1) = wv w' (a + 1);rw[hs a h,hs _ (H.lb _ b1)];exact b3
 ·have M:=H.mp h1;refine⟨M.sk,M.old,λY h2 h3=>M.mn Y h2 λa j ha ht hy j0 j1 hq=>h3 a j ha ht hy j0 (by show j < (shp w' a).refs;rw[hp a (H.lb a ha)];exact j1) hq,M.l0,λa j ha ht j0 j1=>M.ql a j ha ht j0 (by have j1:j < (shp w' a).refs:=j1;rw[← hp a (H.lb a ha)];exact j1),λa j ha ht j0 j1=>?_,λr r0 r1=>?_⟩
  ·exact hun h1 a j ha ht j0 (by have j1:j < (shp w' a).refs:=j1;rw[← hp a (H.lb a ha)];exact j1)
  ·show (rv x.t r).AO = _;rw[M.cov r r0 r1,RQ (x:=x) (y:={ x with w:=w' }) rfl λa a0 ha=>hz a (H.lb a (H.mt a a0 ha).1)]
theorem Tv {x:X} {o dst size z v:Int} (H:Sh x) (O:Ow x o dst size) (h1:dst≤z) (h2:z < dst + size):Sh { x with w:=AT x.w z v }∧Kp o x { x with w:=AT x.w z v }:=by
 have d0:=O.d0;have wl:=O.wl H.g;have e:∀u,0≤u→wv (AT x.w z v) u = if u = z then v else wv x.w u:=λu hu=>Cb ω ω hu
 have hw:∀a k,x.B a→0≤k→k < sz x.w a→wv (AT x.w z v) (a + k) = wv x.w (a + k):=λa k h k0 k1=>by
  have:=(H.g.at_ a h).1;rw[e _ ω,if_neg (O.sep H.g h1 h2 h k0 k1)]
 have hh:∀a,x.B a→wv (AT x.w z v) a = wv x.w a:=λa h=>by
  have:=hw a 0 h ω (by have:=H.g.inn h;omega);rwa [Int.add_zero] at this
 have hs:∀a,x.B a→wv (AT x.w z v) (a + 1) = wv x.w (a + 1):=λa h=>hw a 1 h ω (by have:=H.g.inn h;omega)
 have hr:∀a j,x.L a→0≤j→j < (shp x.w a).refs→wv (AT x.w z v) (a + 2 + j) = wv x.w (a + 2 + j):=λa j h j0 j1=>by
  have:=hw a (2 + j) (H.lb a h) ω (by have:=FP x.w a;omega);rwa [← Int.add_assoc] at this
 refine⟨H.wr σ hs (λa h hf=>by rw[hh a h];exact H.st a h hf) (λa h hf hne=>by rw[hh a h] at hne ⊢;exact H.fw a h hf hne) (λa j h j0 j1=>by rw[hr a j h j0 j1];exact H.rf a j h j0 j1) (λh1 a j h ht j0 j1=>by rw[hr a j h j0 j1];exact (H.mp h1).un a j h ht j0 j1) (λh3 a h hf=>by rw[hh a (H.lb a h)];exact H.af h3 a h hf),?_⟩;refine⟨σ,rfl,rfl,λ_ h=>h,λ_ h=>h,λ_ h _=>h,λ_ _=>Iff.rfl,λ_ _=>rfl,λr r0 hk ho=>⟨⟨hk,rfl,rfl⟩,λu hu hu2=>?_⟩,hs,λa u h hf u0 u1=>?_,λa h _=>hh a h,λ_ _ h=>h,rfl,λ_ a j h hf j0 j1 _=>⟨h,?_⟩⟩
 ·show wv (AT x.w z v) u = wv x.w u;have hne:r≠dst / 16:=λc=>by subst c;exact ho O.o
  by_cases c:0≤u
  ·rw[e u c,if_neg];intro c2;subst c2;have:=O.fit;have t0:16 * r≤(rv x.t r).top:=by
    by_cases c3:r < x.t.length
    ·by_cases c4:1≤r
     ·exact (H.g.ok.row r c4 c3).t0
     ·have:r = 0:=ω
      subst this;rw[H.g.ok.e] at hk;cases hk
    ·rw[DU r0 ω] at hk;cases hk
   omega
  ·by_cases c3:r < x.t.length
   ·by_cases c4:1≤r
    ·have:=(H.g.ok.row r c4 c3).t0;omega
    ·have:r = 0:=ω
     subst this;rw[H.g.ok.e] at hk;cases hk
   ·rw[DU r0 ω] at hk;cases hk
 ·have:=hw a (u - a) (H.lb a h) ω ω;rwa [show a + (u - a) = u from ω] at this
 ·have j1:j < (shp (AT x.w z v) a).refs:=j1;rw[Du (hs a (H.lb a h))] at j1;exact (hr a j h j0 j1).symm
theorem WN {x:X} (H:Sh x) {r:Int} (r0:0≤r) (hk:(rv x.t r).kind≠0):1≤r∧r < x.t.length:=by
 by_cases c3:r < x.t.length
 ·by_cases c4:1≤r
  ·exact⟨c4,c3⟩
  ·have:r = 0:=ω
   subst this;rw[H.g.ok.e] at hk;exact absurd rfl hk
 ·rw[DU r0 ω] at hk;exact absurd rfl hk
theorem room {x:X} {t' : List Rg} {o size d:Int} (H:Sh x) (P:Qz x.t o size t' d):Sh { x with t:=t' }∧Kp o x { x with t:=t' }∧Ow { x with t:=t' } o d size:=by
 have hf:∀a,BZ t' a↔BZ x.t a:=λa=>⟨λh=>⟨h.1,(P.frm (a / 16) (by have:=h.1;omega)).1 h.2⟩,λh=>⟨h.1,(P.frm (a / 16) (by have:=h.1;omega)).2 h.2⟩⟩
 have g:=H.g;have p0:∀a,x.B a→0≤a / 16:=λa h=>by have:=g.inn h;omega
 have tmb:∀a,x.B a→X.tm { x with t:=t' } a = x.tm a:=λa h=>P.BE _ (p0 a h)
 have tm:∀a,x.L a→X.tm { x with t:=t' } a = x.tm a:=λa h=>tmb a (H.lb a h)
 have lg:∀v,Lg x v→Lg { x with t:=t' } v:=λv h=>h.imp id λh=>h.imp id λh=>h.imp id λh=>h.imp id λh=>⟨h.1,by have:=P.BE (v / 16) (by have:=h.1;omega);have h2:x.tm v≤v:=h.2;show (rv t' (v / 16)).BE≤v;rw[this];exact h2⟩
 refine⟨⟨⟨by rw[P.len];exact g.len,P.ok,λa h=>?_,λa h=>?_,λr r0 r1=>?_,g.dj⟩,H.lb,H.rf,λa h hn=>H.st a h λc=>hn ((hf a).2 c),λa h hfr hne=>?_,H.ml,λa a0 h=>?_,H.ph,λhp r r0 hk=>H.nf hp r r0 ((P.frm r r0).1 hk),λhp a h ht=>?_,λa h=>⟨(H.pl a h).1,λc=>(H.pl a h).2 ((hf a).1 c)⟩,λa h hfr=>H.fm a h ((hf a).1 hfr),λh1 a h ht=>H.nb h1 a h (by rw[← tmb a h];exact ht),λh3 a h hfr=>H.af h3 a h ((hf a).1 hfr),λhp=>?_⟩,?_,P.d0,P.dk,P.do_,P.dt,P.fit⟩
 ·rw[P.top _ (p0 a h)];exact g.at_ a h
 ·rw[P.top _ (p0 a h)];exact g.nx a h
 ·rw[P.top r ω];exact g.bs r r0 (by rw[← P.len];exact r1)
 ·obtain⟨b1,b2,b3⟩:=H.fw a h ((hf a).1 hfr) hne;exact⟨b1,λc=>b2 ((hf _).1 c),b3⟩
 ·obtain⟨b1,b2⟩:=H.mt a a0 h;exact⟨b1,by rw[tm a b1];exact b2⟩
 ·rw[tm a h] at ht;exact H.lm hp a h ht
 ·have M:=H.mp hp;refine⟨M.sk,M.old,λY h2 h3 a ha ht=>M.mn Y h2 (λa j ha ht hy j0 j1 hq=>h3 a j ha (by rw[tm a ha];exact ht) hy j0 j1 hq) a ha (by rw[tm a ha] at ht;exact ht),λa h=>⟨(M.l0 a h).1,by rw[tm a (M.l0 a h).1];exact (M.l0 a h).2.1,lg a (M.l0 a h).2.2⟩,λa j ha ht j0 j1 hq=>by
   obtain⟨q1,q2⟩:=M.ql a j ha (by rw[tm a ha] at ht;exact ht) j0 j1 hq
   exact⟨q1,by rw[tm _ q1];exact q2⟩,λa j ha ht j0 j1=>(M.un a j ha (by rw[tm a ha] at ht;exact ht) j0 j1).imp id (lg _),λr r0 r1=>?_⟩
  show (rv t' r).AO = _;rw[P.AO r ω];exact M.cov r r0 (by rw[← P.len];exact r1)
 ·refine⟨rfl,P.len,rfl,λ_ h=>h,λ_ h=>h,λ_ h _=>h,P.frm,P.BE,λr r0 hk ho=>⟨by rw[show rv ({ x with t:=t' }:X).t r = rv x.t r from P.oth r r0 hk ho];exact⟨hk,rfl,rfl⟩,λ_ _ _=>rfl⟩,λ_ _=>rfl,λ_ _ _ _ _ _=>rfl,λ_ _ _=>rfl,λ_=>lg,rfl,λ_ a j h _ _ _ _=>⟨h,rfl⟩⟩
def X.pub (x:X) (dst size:Int):X:={ x with t:=AT x.t (dst / 16) { rv x.t (dst / 16) with top:=dst + size },B:=λa=>x.B a∨a = dst,L:=λa=>x.L a∨a = dst }
theorem pub {x:X} {o dst size:Int} (H:Sh x) (O:Ow x o dst size) (hz:sz x.w dst = size) (h2:(AJ (wv x.w (dst + 1))).2 = true) (hh:wv x.w dst = dst)
  (hr:∀j,0≤j→j < (shp x.w dst).refs→wv x.w (dst + 2 + j)≠0→x.L (wv x.w (dst + 2 + j)))
  (hc:x.ph = 3→∀j,0≤j→j < (shp x.w dst).refs→¬ BZ x.t (wv x.w (dst + 2 + j))):Sh (x.pub dst size)∧Kp o x (x.pub dst size):=by
 have d0:=O.d0;have inn:=O.inn;have fit:=O.fit;have s2:=FP x.w dst;have g:=H.g;have R:=g.ok.row (dst / 16) ω inn;have top:=O.top;have e:∀r,0≤r→rv (x.pub dst size).t r = if r = dst / 16 then { rv x.t (dst / 16) with top:=dst + size } else rv x.t r:=λr r0=>DS ω inn r0
 have ek:∀r,0≤r→(rv (x.pub dst size).t r).kind = (rv x.t r).kind:=λr r0=>by
  rw[e r r0];split
  ·subst r;rfl
  ·rfl
 have et:∀r,0≤r→(rv (x.pub dst size).t r).BE = (rv x.t r).BE:=λr r0=>by
  rw[e r r0];split
  ·subst r;rfl
  ·rfl
 have el:∀r,0≤r→(rv (x.pub dst size).t r).AO = (rv x.t r).AO:=λr r0=>by
  rw[e r r0];split
  ·subst r;rfl
  ·rfl
 have eo:∀r,0≤r→(rv (x.pub dst size).t r).AV = (rv x.t r).AV:=λr r0=>by
  rw[e r r0];split
  ·subst r;rfl
  ·rfl
 have ep:∀r,0≤r→(rv (x.pub dst size).t r).top = if r = dst / 16 then dst + size else (rv x.t r).top:=λr r0=>by
  rw[e r r0];split
  ·rfl
  ·rfl
 have hf:∀a,BZ (x.pub dst size).t a↔BZ x.t a:=λa=>⟨λh=>⟨h.1,by have:=h.1;have:=h.2;rw[ek _ ω] at this;exact this⟩,λh=>⟨h.1,by have:=h.1;rw[ek _ ω];exact h.2⟩⟩
 have nfd:¬ BZ x.t dst:=λc=>by have:=c.2;rw[O.k] at this;cases this
 have lt:x.tm dst≤dst:=by have:=R.s1;rw[top] at this;exact this
 have tm:∀a,0≤a→(x.pub dst size).tm a = x.tm a:=λa h=>et _ ω
 have lg:∀v,Lg x v→Lg (x.pub dst size) v:=λv h=>h.imp id λh=>h.imp id λh=>h.imp id λh=>h.imp id λh=>⟨h.1,by rw[tm v h.1];exact h.2⟩
 have len:(x.pub dst size).t.length = x.t.length:=by simp[X.pub]
 have nb:∀a,x.B a→a / 16 = dst / 16→a + sz x.w a≤dst:=λa h c=>by
  have:=(g.at_ a h).2.1;rw[c,top] at this;exact this
 refine⟨⟨⟨by rw[len];exact g.len,?_,?_,?_,?_,?_⟩,?_,?_,?_,?_,H.ml,?_,H.ph,λhp r r0 hk=>H.nf hp r r0 (by rw[ek r r0] at hk;exact hk),?_,?_,?_,?_,?_,?_⟩,?_⟩
 ·refine TOk.set g.ok ω inn ⟨R.k0,R.k1,?_,?_,R.s0,?_,R.l0,?_,λh=>?_,R.ow,R.o0,R.o1⟩ λs s0 s1 hne ho he=>hne (g.ok.own s (dst / 16) s0 s1 ω inn (by rw[he];exact ho) he)
  ·show 16 * (dst / 16)≤dst + size;omega
  ·show dst + size≤_;omega
  ·have:=R.s1;show (rv x.t (dst / 16)).BE≤dst + size;omega
  ·have:=R.l1;show (rv x.t (dst / 16)).AO≤dst + size - 16 * (dst / 16);omega
  ·exact absurd (O.k.symm.trans h) δ
 ·rintro a (h | h)
  ·obtain⟨a1,a2,a3⟩:=g.at_ a h;refine⟨a1,?_,a3⟩;rw[ep _ ω];show a + sz x.w a≤_;split
   ·have:=nb a h (by assumption);omega
   ·exact a2
  ·subst h;refine⟨d0,?_,h2⟩;rw[ep _ ω,if_pos rfl];show a + sz x.w a≤_;omega
 ·rintro a (h | h)
  ·have a1:=(g.at_ a h).1;rw[ep _ ω];show a + sz x.w a = _∨(x.B (a + sz x.w a)∨a + sz x.w a = dst);rcases g.nx a h with c | c
   ·split
    ·rename_i c2;rw[c2,top] at c;exact .inr (.inr c)
    ·exact .inl c
   ·exact .inr (.inl c)
  ·subst h;left;rw[ep _ ω,if_pos rfl];show a + sz x.w a = _;rw[hz]
 ·intro r r0 r1;rw[len] at r1;rw[ep r ω];rcases g.bs r r0 r1 with c | c
  ·split
   ·rename_i c2;rw[c2,top] at c;right;right;rw[c2];omega
   ·exact .inl c
  ·exact .inr (.inl c)
 ·rintro a b (h | h) (h' | h') hab
  ·exact g.dj a b h h' hab
  ·subst h';show a + sz x.w a≤b;by_cases c:a / 16 = b / 16
   ·exact nb a h c
   ·have:=g.inn h;omega
  ·subst h;show a + sz x.w a≤b;by_cases c:b / 16 = a / 16
   ·have:=nb b h' c;have:=g.inn h';omega
   ·omega
  ·omega
 ·rintro a (h | h)
  ·exact .inl (H.lb a h)
  ·exact .inr h
 ·rintro a j (h | h) j0 j1 hne
  ·exact .inl (H.rf a j h j0 j1 hne)
  ·subst h;exact .inl (hr j j0 j1 hne)
 ·rintro a (h | h) hn
  ·exact H.st a h λc=>hn ((hf a).2 c)
  ·subst h;exact hh
 ·rintro a (h | h) hfr hne
  ·obtain⟨b1,b2,b3⟩:=H.fw a h ((hf a).1 hfr) hne;exact⟨.inl b1,λc=>b2 ((hf _).1 c),b3⟩
  ·subst h;exact absurd ((hf a).1 hfr) nfd
 ·intro a a0 h;obtain⟨b1,b2⟩:=H.mt a a0 h;exact⟨.inl b1,by rw[tm a a0];exact b2⟩
 ·rintro hp a (h | h) ht
  ·rw[tm a (by have:=(g.at_ a (H.lb a h)).1;omega)] at ht;exact H.lm hp a h ht
  ·subst h;rw[tm a ω] at ht;omega
 ·intro a h;exact⟨.inl (H.pl a h).1,λc=>(H.pl a h).2 ((hf a).1 c)⟩
 ·rintro a (h | h) hfr
  ·exact H.fm a h ((hf a).1 hfr)
  ·subst h;exact absurd ((hf a).1 hfr) nfd
 ·rintro h1 a (h | h) ht
  ·left;rw[tm a (by have:=(g.at_ a h).1;omega)] at ht;exact H.nb h1 a h ht
  ·exact .inr h
 ·rintro h3 a (h | h) hfr
  ·exact H.af h3 a h ((hf a).1 hfr)
  ·subst h;exact absurd ((hf a).1 hfr) nfd
 ·intro hp;have M:=H.mp hp;have back:∀a,(x.pub dst size).L a→a < (x.pub dst size).tm a→x.L a∧a < x.tm a:=by
   rintro a (h | h) ht
   ·rw[tm a (by have:=(g.at_ a (H.lb a h)).1;omega)] at ht;exact⟨h,ht⟩
   ·subst h;rw[tm a ω] at ht;omega
  refine⟨λa h=>.inl (M.sk a h),λa h=>.inl (M.old a h),λY h2 h3 a ha ht=>?_,λa h=>⟨.inl (M.l0 a h).1,by rw[tm a (by have:=(g.at_ a (H.lb a (M.l0 a h).1)).1;omega)];exact (M.l0 a h).2.1,lg a (M.l0 a h).2.2⟩,λa j ha ht j0 j1 hq=>?_,λa j ha ht j0 j1=>(M.un a j (back a ha ht).1 (back a ha ht).2 j0 j1).imp id (lg _),λr r0 r1=>?_⟩
  ·exact M.mn Y h2 (λa j ha ht hy j0 j1 hq=>h3 a j (.inl ha) (by rw[tm a (by have:=(g.at_ a (H.lb a ha)).1;omega)];exact ht) hy j0 j1 hq) a (back a ha ht).1 (back a ha ht).2
  ·obtain⟨q1,q2⟩:=M.ql a j (back a ha ht).1 (back a ha ht).2 j0 j1 hq;have q0:16≤x.q (a + 2 + j):=(g.at_ _ (H.lb _ q1)).1;exact⟨.inl q1,by rw[show (x.pub dst size).tm ((x.pub dst size).q (a + 2 + j)) = x.tm (x.q (a + 2 + j)) from tm (x.q (a + 2 + j)) ω];exact q2⟩
  ·rw[el r ω];exact M.cov r r0 (by rw[← len];exact r1)
 ·refine⟨rfl,len,rfl,λ_ h=>.inl h,λ_ h=>.inl h,?_,λr r0=>by rw[ek r r0],et,λr r0 hk ho=>⟨⟨by rw[ek r r0];exact hk,eo r r0,?_⟩,λ_ _ _=>rfl⟩,λ_ _=>rfl,λ_ _ _ _ _ _=>rfl,λ_ _ _=>rfl,λ_=>lg,rfl,?_⟩
  ·rintro a (h | h) hfr
   ·exact h
   ·subst h;exact absurd ((hf a).1 hfr) nfd
  ·rw[ep r r0,if_neg];intro c;subst c;exact ho O.o
  ·rintro hp a j (h | h) hn j0 j1 hfr
   ·exact⟨h,rfl⟩
   ·subst h;exact absurd ((hf _).1 hfr) (hc hp j j0 j1)
theorem Qq {x:X} (H:Sh x) {r z:Int} (r0:0≤r) (hk:(rv x.t r).kind = 2) (h1:(rv x.t r).top≤z) (h2:z < 16 * r + 16):16≤z∧z / 16 = r∧∀a k,x.B a→0≤k→k < sz x.w a→a + k≠z:=by
 obtain⟨c1,c2⟩:=WN H r0 (by rw[hk];decide);have t0:=(H.g.ok.row r c1 c2).t0;refine⟨ω,ω,λa k ha k0 k1 h=>?_⟩;obtain⟨g1,g2,g3,g4,g5,g6,g7,g8⟩:=H.g.inn ha;have:a / 16 = r:=ω
 rw[this] at g4;omega
theorem fwd {x:X} {o src dst:Int} (H:Sh x) (hs:x.L src) (hf:BZ x.t src) (hw:wv x.w src = src) (hd:x.L dst) (hn:¬ BZ x.t dst) (he:wv x.w (dst + 1) = wv x.w (src + 1)) (h3:x.ph≠3):Sh { x with w:=AT x.w src dst }∧Kp o x { x with w:=AT x.w src dst }:=by
 obtain⟨g1,g2,g3,g4,g5,g6,g7,g8⟩:=H.g.inn (H.lb _ hs);have e:∀u,0≤u→wv (AT x.w src dst) u = if u = src then dst else wv x.w u:=λu hu=>Cb ω ω hu
 have hk:∀a k,x.B a→1≤k→k < sz x.w a→wv (AT x.w src dst) (a + k) = wv x.w (a + k):=λa k h k0 k1=>by
  have:=(H.g.at_ a h).1;rw[e _ ω,if_neg];intro c;have:=sep H.g h (H.lb _ hs) (k:=k) (l:=0) ω k1 ω ω ω;omega
 have hz:∀a,x.B a→wv (AT x.w src dst) (a + 1) = wv x.w (a + 1):=λa h=>hk a 1 h ω (by have:=H.g.inn h;omega)
 have hr:∀a j,x.L a→0≤j→j < (shp x.w a).refs→wv (AT x.w src dst) (a + 2 + j) = wv x.w (a + 2 + j):=λa j h j0 j1=>by
  have:=hk a (2 + j) (H.lb a h) ω (by have:=FP x.w a;omega);rwa [← Int.add_assoc] at this
 have hh:∀a,x.B a→a≠src→wv (AT x.w src dst) a = wv x.w a:=λa h c=>by
  have:=(H.g.at_ a h).1;rw[e _ ω,if_neg c]
 refine⟨H.wr σ hz (λa h hn'=>?_) (λa h hfr hne=>?_) (λa j h j0 j1=>by rw[hr a j h j0 j1];exact H.rf a j h j0 j1) (λh1 a j h ht j0 j1=>by rw[hr a j h j0 j1];exact (H.mp h1).un a j h ht j0 j1) (λhp=>absurd hp h3),?_⟩
 ·by_cases c:a = src
  ·subst c;exact absurd hf hn'
  ·rw[hh a h c];exact H.st a h hn'
 ·by_cases c:a = src
  ·subst c;rw[e _ ω,if_pos rfl];exact⟨hd,hn,he⟩
  ·rw[hh a h c] at hne ⊢;exact H.fw a h hfr hne
 ·refine⟨σ,rfl,rfl,λ_ h=>h,λ_ h=>h,λ_ h _=>h,λ_ _=>Iff.rfl,λ_ _=>rfl,λr r0 hk2 ho=>⟨⟨hk2,rfl,rfl⟩,λu hu hu2=>?_⟩,hz,λa u h _ u0 u1=>?_,λa h hne=>?_,λ_ _ h=>h,rfl,λhp=>absurd hp h3⟩
  ·obtain⟨c1,_,c3⟩:=Qq H r0 hk2 hu hu2;show wv (AT x.w src dst) u = wv x.w u;rw[e u ω,if_neg];intro c;exact c3 src 0 (H.lb _ hs) ω ω ω
  ·have:=hk a (u - a) (H.lb a h) ω ω;rwa [show a + (u - a) = u from ω] at this
  ·refine hh a h λc=>?_
   subst c;exact hne hw
theorem Um {x:X} {a k v:Int} (H:Sh x) (ha:x.L a) (k0:2≤k) (k1:k < sz x.w a) :
  (∀b,x.B b→wv (AT x.w (a + k) v) b = wv x.w b)∧(∀b,x.B b→wv (AT x.w (a + k) v) (b + 1) = wv x.w (b + 1))∧
  (∀b l,x.B b→0≤l→l < sz x.w b→wv (AT x.w (a + k) v) (b + l) = if b = a∧l = k then v else wv x.w (b + l))∧
  (∀r u:Int,0≤r→(rv x.t r).kind = 2→(rv x.t r).top≤u→u < 16 * r + 16→wv (AT x.w (a + k) v) u = wv x.w u):=by
 obtain⟨g1,g2,g3,g4,g5,g6,g7,g8⟩:=H.g.inn (H.lb _ ha);have e:∀u,0≤u→wv (AT x.w (a + k) v) u = if u = a + k then v else wv x.w u:=λu hu=>Cb ω ω hu
 have hk:∀b l,x.B b→0≤l→l < sz x.w b→wv (AT x.w (a + k) v) (b + l) = if b = a∧l = k then v else wv x.w (b + l):=λb l hb l0 l1=>by
  have:=(H.g.at_ b hb).1;rw[e _ ω];by_cases c:b + l = a + k
  ·obtain⟨c1,c2⟩:=sep H.g hb (H.lb _ ha) l0 l1 ω k1 c;rw[if_pos c,if_pos ⟨c1,c2⟩]
  ·rw[if_neg c,if_neg (by rintro⟨rfl,rfl⟩;exact c rfl)]
 refine⟨λb hb=>?_,λb hb=>?_,hk,λr u r0 hk2 hu hu2=>?_⟩
 ·have:=hk b 0 hb ω (by have:=H.g.inn hb;omega);rw[if_neg ω,Int.add_zero] at this;exact this
 ·have:=hk b 1 hb ω (by have:=H.g.inn hb;omega);rw[if_neg ω] at this;exact this
 ·obtain⟨c1,_,c3⟩:=Qq H r0 hk2 hu hu2;rw[e u ω,if_neg];intro c;exact c3 a k (H.lb _ ha) ω ω c.symm
theorem num {x:X} {o a k v:Int} (H:Sh x) (ha:x.L a) (hn:¬ BZ x.t a) (k0:2 + (shp x.w a).refs≤k) (k1:k < sz x.w a):Sh { x with w:=AT x.w (a + k) v }∧Kp o x { x with w:=AT x.w (a + k) v }:=by
 have s:=FP x.w a;obtain⟨hh,hz,hk,ho⟩:=Um (v:=v) H ha ω k1;have hr:∀b j,x.L b→0≤j→j < (shp x.w b).refs→wv (AT x.w (a + k) v) (b + 2 + j) = wv x.w (b + 2 + j):=λb j h j0 j1=>by
  have:=hk b (2 + j) (H.lb b h) ω (by have:=FP x.w b;omega);rw[← Int.add_assoc] at this;rw[this,if_neg];rintro⟨rfl,c⟩;omega
 refine⟨H.wr σ hz (λb h hf=>by rw[hh b h];exact H.st b h hf) (λb h hf hne=>by rw[hh b h] at hne ⊢;exact H.fw b h hf hne) (λb j h j0 j1=>by rw[hr b j h j0 j1];exact H.rf b j h j0 j1) (λh1 b j h ht j0 j1=>by rw[hr b j h j0 j1];exact (H.mp h1).un b j h ht j0 j1) (λhp b h hf=>by rw[hh b (H.lb b h)];exact H.af hp b h hf),?_⟩;refine⟨σ,rfl,rfl,λ_ h=>h,λ_ h=>h,λ_ h _=>h,λ_ _=>Iff.rfl,λ_ _=>rfl,λr r0 hk2 _=>⟨⟨hk2,rfl,rfl⟩,λu hu hu2=>ho r u r0 hk2 hu hu2⟩,hz,λb u h hf u0 u1=>?_,λb h _=>hh b h,λ_ _ h=>h,rfl,λ_ b j h hf j0 j1 _=>⟨h,?_⟩⟩
 ·have:=hk b (u - b) (H.lb b h) ω ω;rw[show b + (u - b) = u from ω,if_neg] at this
  ·exact this
  ·rintro⟨rfl,_⟩;exact hn hf
 ·have j1:j < (shp (AT x.w (a + k) v) b).refs:=j1;rw[Du (hz b (H.lb b h))] at j1;exact (hr b j h j0 j1).symm
theorem ref {x:X} {o a j v:Int} (H:Sh x) (ha:x.L a) (hn:¬ BZ x.t a) (j0:0≤j) (j1:j < (shp x.w a).refs) (hv:v≠0→x.L v) (h1:x.ph = 1→a < x.tm a→Lg x (x.q (a + 2 + j))) (h3:x.ph = 3→¬ BZ x.t v) :
  Sh { x with w:=AT x.w (a + 2 + j) v }∧Kp o x { x with w:=AT x.w (a + 2 + j) v }:=by
 have s:=FP x.w a;rw[Int.add_assoc];obtain⟨hh,hz,hk,ho⟩:=Um (k:=2 + j) (v:=v) H ha ω ω;have hr:∀b i,x.L b→0≤i→i < (shp x.w b).refs→wv (AT x.w (a + (2 + j)) v) (b + 2 + i) = if b = a∧i = j then v else wv x.w (b + 2 + i):=λb i h i0 i1=>by
  have:=hk b (2 + i) (H.lb b h) ω (by have:=FP x.w b;omega);rw[show b + (2 + i) = b + 2 + i from ω] at this;rw[this];by_cases c:b = a∧i = j
  ·rw[if_pos c,if_pos ⟨c.1,ω⟩]
  ·rw[if_neg c,if_neg (λc'=>c ⟨c'.1,ω⟩)]
 refine⟨H.wr σ hz (λb h hf=>by rw[hh b h];exact H.st b h hf) (λb h hf hne=>by rw[hh b h] at hne ⊢;exact H.fw b h hf hne) (λb i h i0 i1=>?_) (λhp b i h ht i0 i1=>?_) (λhp b h hf=>by rw[hh b (H.lb b h)];exact H.af hp b h hf),?_⟩
 ·rw[hr b i h i0 i1];split
  ·exact hv
  ·exact H.rf b i h i0 i1
 ·rw[hr b i h i0 i1];split
  ·rename_i c;obtain⟨rfl,rfl⟩:=c;exact .inr (h1 hp ht)
  ·exact (H.mp hp).un b i h ht i0 i1
 ·refine⟨σ,rfl,rfl,λ_ h=>h,λ_ h=>h,λ_ h _=>h,λ_ _=>Iff.rfl,λ_ _=>rfl,λr r0 hk2 _=>⟨⟨hk2,rfl,rfl⟩,λu hu hu2=>ho r u r0 hk2 hu hu2⟩,hz,λb u h hf u0 u1=>?_,λb h _=>hh b h,λ_ _ h=>h,rfl,λhp b i h hf i0 i1 hfr=>⟨h,?_⟩⟩
  ·have:=hk b (u - b) (H.lb b h) ω ω;rw[show b + (u - b) = u from ω,if_neg] at this
   ·exact this
   ·rintro⟨rfl,_⟩;exact hn hf
  ·have i1:i < (shp (AT x.w (a + (2 + j)) v) b).refs:=i1;rw[Du (hz b (H.lb b h))] at i1;have e:=hr b i h i0 i1;show wv x.w (b + 2 + i) = wv (AT x.w (a + (2 + j)) v) (b + 2 + i);have hfr:BZ x.t (wv (AT x.w (a + (2 + j)) v) (b + 2 + i)):=hfr;rw[e] at hfr ⊢;split
   ·rename_i c;rw[if_pos c] at hfr;exact absurd hfr (h3 hp)
   ·rfl
theorem YT {x:X} {o:Int} {l:List Int} (H:Sh x) (hl:∀v∈l,x.L v) (hi:∀v∈x.old,v∈l):Sh { x with old:=l }∧Kp o x { x with old:=l }:=by
 have lg:∀v,Lg x v→Lg { x with old:=l } v:=λv h=>by
  rcases h with h | h | h | h | h
  ·exact .inl h
  ·exact .inr (.inl h)
  ·exact .inr (.inr (.inl h))
  ·exact .inr (.inr (.inr (.inl (hi v h))))
  ·exact .inr (.inr (.inr (.inr h)))
 refine⟨⟨H.g,H.lb,H.rf,H.st,H.fw,H.ml,H.mt,H.ph,H.nf,H.lm,H.pl,H.fm,H.nb,H.af,λhp=>?_⟩,?_⟩
 ·have M:=H.mp hp;exact⟨M.sk,hl,M.mn,λa h=>⟨(M.l0 a h).1,(M.l0 a h).2.1,lg _ (M.l0 a h).2.2⟩,M.ql,λa j h ht j0 j1=>(M.un a j h ht j0 j1).imp id (lg _),M.cov⟩
 ·exact⟨rfl,rfl,rfl,λ_ h=>h,λ_ h=>h,λ_ h _=>h,λ_ _=>Iff.rfl,λ_ _=>rfl,λ_ _ h _=>⟨⟨h,rfl,rfl⟩,λ_ _ _=>rfl⟩,λ_ _=>rfl,λ_ _ _ _ _ _=>rfl,λ_ _ _=>rfl,λ_=>lg,rfl,λ_ _ _ h _ _ _ _=>⟨h,rfl⟩⟩
theorem YZ {x:X} {o:Int} {l:List Int} (H:Sh x) (hl:∀v∈l,x.L v∧¬ BZ x.t v):Sh { x with AG:=l }∧Kp o x { x with AG:=l }:=by
 refine⟨⟨H.g,H.lb,H.rf,H.st,H.fw,H.ml,H.mt,H.ph,H.nf,H.lm,hl,H.fm,H.nb,H.af,λhp=>?_⟩,?_⟩
 ·have M:=H.mp hp;exact⟨M.sk,M.old,M.mn,M.l0,M.ql,M.un,M.cov⟩
 ·exact⟨rfl,rfl,rfl,λ_ h=>h,λ_ h=>h,λ_ h _=>h,λ_ _=>Iff.rfl,λ_ _=>rfl,λ_ _ h _=>⟨⟨h,rfl,rfl⟩,λ_ _ _=>rfl⟩,λ_ _=>rfl,λ_ _ _ _ _ _=>rfl,λ_ _ _=>rfl,λ_ _ h=>h,rfl,λ_ _ _ h _ _ _ _=>⟨h,rfl⟩⟩
end Sm
end
section
namespace Sm
variable {P:List (List Op)}
structure Bs (x:X) (o:Op) (t:Thr) (pc:Int):Prop where
 p:1≤pc∧pc≤16∧pc≠13
 k:2≤o.kind∧o.kind≤11∧o.kind≠8∧o.kind≠9
 h:t.h≠0→x.L t.h
 g:t.g≠0→x.L t.g
 kk:t.k≠0→x.L t.k
 h0:o.kind≠6→t.h≠0
 nh:2≤pc→¬ BZ x.t t.h
 ng:3≤pc→¬ BZ x.t t.g
 nk:4≤pc→¬ BZ x.t t.k
 s:5≤pc→t.sh = shp x.w t.h∧t.h≠0
 f:5≤pc→0≤o.f∧(o.kind = 4∨o.kind = 5→o.f < t.sh.nums)∧(o.kind≠4→o.kind≠5→o.f < t.sh.refs)
 k5:pc = 5∨pc = 11∨pc = 12→o.kind = 2
 k6:pc = 6∨pc = 7→o.kind = 3
 k8:pc = 8→o.kind = 4
 k9:pc = 9→o.kind = 5
 k10:pc = 10∨pc = 14∨pc = 15∨pc = 16→o.kind = 7
 l7:pc = 7→x.ph = 1→t.h < x.tm t.h→Lg x (x.q (t.h + 2 + o.f))
 l14:pc = 14→x.ph = 1→Lg x t.u
 v:11≤pc→pc≠14→t.v≠0→x.L t.v
 nv:pc = 12∨pc = 16→¬ BZ x.t t.v
 p15:pc = 15∨pc = 16→x.ph≠1
structure Cp (x:X) (o src dst size i word pc:Int):Prop where
 p:20≤pc∧pc≤24
 ls:x.L src
 fs:BZ x.t src
 p2:x.ph = 2
 sz:21≤pc→size = sz x.w src
 ow:21≤pc→Ow x o dst size
 i0:21≤pc→1≤i∧i≤size
 i1:pc = 21∨pc = 22→i < size
 cp:21≤pc→∀j,1≤j→j < i→wv x.w (dst + j) = wv x.w (src + j)
 wd:pc = 22→word = wv x.w (src + i)
 dn:23≤pc→i = size
 hd:pc = 24→wv x.w dst = dst
structure Mg (x:X) (o:Int) (op:Op) (t:Thr):Prop where
 p:30≤t.pc∧t.pc≤33
 k:op.kind = 1
 sh:BP op.sh = true
 sz:31≤t.pc→t.size = AF op.sh
 ow:31≤t.pc→Ow x o t.dst t.size
 i2:31≤t.pc→t.pc≤32→t.i = 2
 i3:t.pc = 33→2≤t.i∧t.i < t.size
 hd:32≤t.pc→wv x.w t.dst = t.dst
 sp:33≤t.pc→wv x.w (t.dst + 1) = AZ op.sh
 z:33≤t.pc→∀j,2≤j→j < t.i→wv x.w (t.dst + j) = 0
def Gu (r:Int):Prop:=r = 1∨r = 2∨r = 3∨r = 11∨r = 15
inductive Run (x:X) (i:Int) (o:Op) (t:Thr):Prop
 | bs (h:Bs x o t t.pc)
 | cp (h:Bs x o t t.ret) (r:Gu t.ret) (e:Bp t t.ret = t.src) (c:Cp x i t.src t.dst t.size t.i t.word t.pc)
 | mg (h:Mg x i o t)
structure TI (x:X) (i:Int) (po:Option Op) (t:Thr):Prop where
 rt:∀a∈t.AC,a≠0→x.L a
 rl:t.AC.length≤8
 nx:0≤t.next
 r8:∀o,po = some o→t.pc≠0→o.kind = 1∨o.kind = 2→t.AC.length < 8
 run:(t.pc = 0∧t.g = 0∧t.k = 0)∨∃o,po = some o∧Run x i o t
theorem Kp.shp {o:Int} {x y:X} (K:Kp o x y) {a:Int} (h:x.B a):shp y.w a = shp x.w a:=Du (K.sh a h)
theorem Kp.sz {o:Int} {x y:X} (K:Kp o x y) {a:Int} (h:x.B a):sz y.w a = sz x.w a:=Gf (K.sh a h)
theorem Kp.tma {o:Int} {x y:X} (K:Kp o x y) {a:Int} (h:0≤a):y.tm a = x.tm a:=K.tm (a / 16) ω
theorem Bs.stable {p:Int} {x y:X} {o:Op} {t:Thr} {pc:Int} (H:Sh x) (K:Kp p x y) (b:Bs x o t pc):Bs y o t pc:=by
 refine⟨b.p,b.k,λh=>K.l _ (b.h h),λh=>K.l _ (b.g h),λh=>K.l _ (b.kk h),b.h0,λh c=>b.nh h (K.frm.1 c),λh c=>b.ng h (K.frm.1 c),λh c=>b.nk h (K.frm.1 c),λh=>?_,b.f,b.k5,b.k6,b.k8,b.k9,b.k10,λh hp ht=>?_,λh hp=>?_,λh h' h0=>K.l _ (b.v h h' h0),λh c=>b.nv h (K.frm.1 c),λh=>by rw[K.ph];exact b.p15 h⟩
 ·obtain⟨h1,h2⟩:=b.s h;exact⟨by rw[K.shp (H.lb _ (b.h h2))];exact h1,h2⟩
 ·have hp' : x.ph = 1:=by rw[← K.ph];exact hp
  have h2:=(b.s ω).2;have hL:=b.h h2;rw[K.tma (by have:=H.g.inn (H.lb _ hL);omega)] at ht;rw[K.q];exact K.lg hp' _ (b.l7 h hp' ht)
 ·have hp' : x.ph = 1:=by rw[← K.ph];exact hp
  exact K.lg hp' _ (b.l14 h hp')
theorem Cp.stable {p o:Int} {x y:X} {src dst size i word pc:Int} (H:Sh x) (K:Kp p x y) (hp:p≠o) (c:Cp x o src dst size i word pc):Cp y o src dst size i word pc:=by
 refine⟨c.p,K.l _ c.ls,K.frm.2 c.fs,by rw[K.ph];exact c.p2,λh=>by rw[K.sz (H.lb _ c.ls)];exact c.sz h,λh=>((c.ow h).stable K hp).1,c.i0,c.i1,λh j j0 j1=>?_,λh=>?_,c.dn,λh=>?_⟩
 ·have h1:=c.i0 h;rw[((c.ow h).stable K hp).2 (dst + j) ω ω,K.bd src (src + j) c.ls c.fs ω (by have:=c.sz h;omega)];exact c.cp h j j0 j1
 ·have h1:=c.i0 ω;have h2:=c.i1 (.inr h);rw[K.bd src (src + i) c.ls c.fs ω (by have:=c.sz ω;omega)];exact c.wd h
 ·have h1:=c.i0 ω;rw[((c.ow ω).stable K hp).2 dst ω ω];exact c.hd h
theorem Mg.stable {p o:Int} {x y:X} {op:Op} {t:Thr} (K:Kp p x y) (hp:p≠o) (c:Mg x o op t):Mg y o op t:=by
 have h2:31≤t.pc→2≤t.size:=λh=>by
  rw[c.sz h];have:=c.sh;rw[Jt (by simpa [BP,and_assoc] using this)];simp only[BP,z_b,z_d] at this;omega
 refine⟨c.p,c.k,c.sh,c.sz,λh=>((c.ow h).stable K hp).1,c.i2,c.i3,λh=>?_,λh=>?_,λh j j0 j1=>?_⟩
 ·rw[((c.ow ω).stable K hp).2 t.dst ω (by have:=h2 ω;omega)];exact c.hd h
 ·rw[((c.ow ω).stable K hp).2 (t.dst + 1) ω (by have:=h2 ω;omega)];exact c.sp h
 ·have:=c.i3 (by have:=c.p;omega);rw[((c.ow ω).stable K hp).2 (t.dst + j) ω ω];exact c.z h j j0 j1
theorem TI.stable {p i:Int} {x y:X} {po:Option Op} {t:Thr} (H:Sh x) (K:Kp p x y) (hp:p≠i) (T:TI x i po t):TI y i po t:=by
 refine⟨λa h h0=>K.l a (T.rt a h h0),T.rl,T.nx,T.r8,?_⟩;rcases T.run with h | ⟨o,h,r⟩
 ·exact .inl h
 ·refine .inr ⟨o,h,?_⟩;cases r with
  | bs b=>exact .bs (b.stable H K)
  | cp b r e c=>exact .cp (b.stable H K) r e (c.stable H K hp)
  | mg m=>exact .mg (m.stable K hp)
structure C1 (x:X) (c:Col):Prop where
 pc:c.pc = 1∨c.pc = 2
 p2:c.pc = 2→mv x.m c.p = true∧0≤c.p∧c.sh = shp x.w c.p∧0≤c.i∧c.i < c.sh.refs
 sc:∀a j,0≤a→mv x.m a = true→0≤j→j < (shp x.w a).refs→(c.pc = 2∧a = c.p∧c.i≤j)∨Lg x (x.q (a + 2 + j))
structure C2 (x:X) (n:Int) (c:Col):Prop where
 r0:1≤c.r
 r1:c.r≤x.t.length
 p0:16 * c.r≤c.p
 p1:c.p≤16 * c.r + 16
 wk:∀a,x.L a→BZ x.t a→a < c.p→wv x.w a≠a∨(c.pc≠5∧a = c.src)
 pc:c.pc = 5∨Cp x n c.src c.dst c.size c.i c.word c.pc
def lim (x:X) (r:Int):Int:=16 * r + (rv x.t r).AO
structure C3 (x:X) (c:Col):Prop where
 pc:6≤c.pc∧c.pc≤9
 r0:1≤c.r
 r1:c.r≤x.t.length
 p0:16 * c.r≤c.p
 at_:c.r < x.t.length→c.p < lim x c.r→x.B c.p
 f:7≤c.pc→x.L c.f∧¬ BZ x.t c.f∧c.sh = shp x.w c.f∧0≤c.i∧c.i < c.sh.refs∧c.f < c.p
 v:8≤c.pc→x.L c.v∧BZ x.t c.v
 w:c.pc = 9→c.word = wv x.w c.v
 u:8≤c.pc→BZ x.t (wv x.w (c.f + 2 + c.i))→wv x.w (c.f + 2 + c.i) = c.v
 cl:∀a j,x.L a→¬ BZ x.t a→0≤j→j < (shp x.w a).refs→BZ x.t (wv x.w (a + 2 + j))→(c.p≤a∧a < lim x (a / 16))∨(7≤c.pc∧a = c.f∧c.i≤j)
def Wt (x:X) (want:Int):Prop:=(x.ph = 0∧want = 1)∨(x.ph = 1∧want = 2)∨(x.ph = 2∧want = 3∧∀a,x.L a→BZ x.t a→wv x.w a≠a)∨
 (x.ph = 3∧want = 0∧∀a j,x.L a→¬ BZ x.t a→0≤j→j < (shp x.w a).refs→¬ BZ x.t (wv x.w (a + 2 + j)))
theorem C1.stable {p:Int} {x y:X} {c:Col} (H:Sh x) (K:Kp p x y) (hm:y.m = x.m) (h1:x.ph = 1) (C:C1 x c):C1 y c:=by
 have hb:∀a,0≤a→mv x.m a = true→shp y.w a = shp x.w a:=λa a0 h=>K.shp (H.lb _ (H.mt a a0 h).1)
 refine⟨C.pc,λh=>?_,λa j a0 h j0 j1=>?_⟩
 ·obtain⟨h2,h3,h4,h5⟩:=C.p2 h;exact⟨by rw[hm];exact h2,h3,by rw[hb _ h3 h2];exact h4,h5⟩
 ·rw[hm] at h;rw[hb a a0 h] at j1;rcases C.sc a j a0 h j0 j1 with d | d
  ·exact .inl d
  ·rw[K.q];exact .inr (K.lg h1 _ d)
theorem C2.stable {p n:Int} {x y:X} {c:Col} (H:Sh x) (K:Kp p x y) (hp:p≠n) (C:C2 x n c):C2 y n c:=by
 refine⟨C.r0,by rw[K.tl];exact C.r1,C.p0,C.p1,λa h hf hl=>?_,C.pc.imp id λd=>d.stable H K hp⟩;have hL:=K.lf a h hf;rcases C.wk a hL (K.frm.1 hf) hl with d | d
 ·left;rw[K.fwd a (H.lb _ hL) d];exact d
 ·exact .inr d
theorem C3.stable {p:Int} {x y:X} {c:Col} (H:Sh x) (K:Kp p x y) (hl:∀r:Int,0≤r→(rv y.t r).AO = (rv x.t r).AO) (h3:x.ph = 3) (C:C3 x c):C3 y c:=by
 have el:∀r,0≤r→lim y r = lim x r:=λr r0=>by unfold lim;rw[hl r r0]
 refine⟨C.pc,C.r0,by rw[K.tl];exact C.r1,C.p0,λh h'=>K.b _ (C.at_ (by rw[← K.tl];exact h) (by rw[el _ (by have:=C.r0;omega)] at h';exact h')),λh=>?_,λh=>?_,λh=>?_,λh hf=>?_,λa j h hn j0 j1 hf=>?_⟩
 ·obtain⟨f1,f2,f3,f4⟩:=C.f h;exact⟨K.l _ f1,λc=>f2 (K.frm.1 c),by rw[K.shp (H.lb _ f1)];exact f3,f4⟩
 ·exact⟨K.l _ (C.v h).1,K.frm.2 (C.v h).2⟩
 ·obtain⟨v1,v2⟩:=C.v ω;rw[K.fwd _ (H.lb _ v1) (H.af h3 _ v1 v2)];exact C.w h
 ·obtain⟨f1,f2,f3,f4,f5,_⟩:=C.f ω;obtain⟨_,g2⟩:=K.cl h3 c.f c.i (K.l _ f1) (λc=>f2 (K.frm.1 c)) f4 (by rw[K.shp (H.lb _ f1),← f3];exact f5) hf;rw[← g2] at hf ⊢;exact C.u h (K.frm.1 hf)
 ·obtain⟨g1,g2⟩:=K.cl h3 a j h hn j0 j1 hf;rw[K.shp (H.lb _ g1)] at j1;rw[← g2] at hf;rw[el _ (by have:=H.g.inn (H.lb _ g1);omega)];exact C.cl a j g1 (λc=>hn (K.frm.2 c)) j0 j1 (K.frm.1 hf)
theorem Wt.stable {p want:Int} {x y:X} (H:Sh x) (K:Kp p x y) (W:Wt x want):Wt y want:=by
 rcases W with ⟨h,h'⟩ | ⟨h,h'⟩ | ⟨h,h',h2⟩ | ⟨h,h',h2⟩
 ·exact .inl ⟨by rw[K.ph];exact h,h'⟩
 ·exact .inr (.inl ⟨by rw[K.ph];exact h,h'⟩)
 ·refine .inr (.inr (.inl ⟨by rw[K.ph];exact h,h',λa ha hf=>?_⟩));have hL:=K.lf a ha hf;have:=h2 a hL (K.frm.1 hf);rw[K.fwd a (H.lb _ hL) this];exact this
 ·refine .inr (.inr (.inr ⟨by rw[K.ph];exact h,h',λa j ha hn j0 j1 hf=>?_⟩));obtain⟨g1,g2⟩:=K.cl h a j ha hn j0 j1 hf;rw[K.shp (H.lb _ g1)] at j1;rw[← g2] at hf;exact h2 a j g1 (λc=>hn (K.frm.2 c)) j0 j1 (K.frm.1 hf)
structure Gh where
 B:Int→Prop
 L:Int→Prop
 q:Int→Int
 r0:Int→Prop
@[reducible] def xof (S:Sim) (g:Gh):X:=⟨S.AA,S.A0,S.AK,S.Ad,S.col.AM,S.old,S.AG,g.B,g.L,g.q,g.r0⟩
structure Bd (c:Nat) (S:Sim):Prop where
 ev:S.ev.length≤c
 old:S.old.length≤c
 cy:0≤S.Aj∧S.Aj≤c
 fu:0≤S.BA∧S.BA≤c
 st:S.col.AM.length + S.old.length + 5 * S.AK.countP (λb=>!b) + (if S.col.pc = 2 then (S.col.sh.refs - S.col.i).toNat else 0)≤3000 + c
 pn:S.AG.length≤8
structure IG (P:List (List Op)) (S:Sim) (g:Gh):Prop where
 pg:S.Aa = P
 sh:Sh (xof S g)
 n0:1≤S.th.length
 n1:S.th.length≤3
 pl:S.Aa.length = S.th.length
 pp:∀p∈S.Aa,p.length≤40
 ti:∀i t,idx S.th i = some t→TI (xof S g) i (S.opOf i t) t
 c1:S.Ad = 1→C1 (xof S g) S.col
 c2:S.Ad = 2→C2 (xof S g) S.th.length S.col
 c3:S.Ad = 3→C3 (xof S g) S.col
 wt:S.stop = true→S.full = false→Wt (xof S g) S.col.want
 rs:0≤S.c.AS∧S.c.AS≤100
theorem VU {α:Type} {l:List α} {i j:Int} {v u:α} (h:idx (AT l i v) j = some u) (hi:0≤i):(j = i∧u = v)∨(j≠i∧idx l j = some u):=by
 unfold idx AT at h;split at h
 ·rw[aV] at h;split at h
  ·split at h
   ·left;exact⟨ω,by simpa using h.symm⟩
   ·cases h
  ·right;refine⟨λc=>by subst c;simp at *,?_⟩;unfold idx;rw[if_pos (by assumption)];exact h
 ·cases h
theorem IG.step {S S' : Sim} {g g' : Gh} {i:Int} {t t' : Thr} (I:IG P S g) (ht:idx S.th i = some t) (hth:S'.th = AT S.th i t') (hsh:Sh (xof S' g')) (K:Kp i (xof S g) (xof S' g')) (hc:S'.col = S.col) (hm:S'.AK = S.AK)
  (hlv:∀r:Int,0≤r→(rv S'.A0 r).AO = (rv S.A0 r).AO) (hpc:(S'.Aa,S'.c) = (S.Aa,S.c)) (hT:TI (xof S' g') i (S'.opOf i t') t') (hst:S'.stop = true→S'.full = false→S.stop = true∧S.full = false):IG P S' g':=by
 have hpg:S'.Aa = S.Aa:=congrArg Prod.fst hpc;have hcc:S'.c = S.c:=congrArg Prod.snd hpc;obtain⟨i0,i1,_⟩:=FJ t ht;have hph:S'.Ad = S.Ad:=K.ph;have hin:i≠S.th.length:=ω
 refine⟨by rw[hpg];exact I.pg,hsh,by rw[hth,DG];exact I.n0,by rw[hth,DG];exact I.n1,by rw[hth,DG,hpg];exact I.pl,by rw[hpg];exact I.pp,λj u hu=>?_,λh=>?_,λh=>?_,λh=>?_,λh h'=>?_,by rw[hcc];exact I.rs⟩
 ·rw[hth] at hu;rcases VU hu i0 with ⟨rfl,rfl⟩ | ⟨hne,hu⟩
  ·exact hT
  ·have:S'.opOf j u = S.opOf j u:=by unfold Sim.opOf;rw[hpg]
   rw[this];exact (I.ti j u hu).stable I.sh K hne.symm
 ·rw[hc];rw[hph] at h;exact (I.c1 h).stable I.sh K hm h
 ·rw[hc,hth,DG];rw[hph] at h;exact (I.c2 h).stable I.sh K hin
 ·rw[hc];rw[hph] at h;exact (I.c3 h).stable I.sh K hlv h
 ·rw[hc];obtain⟨h1,h2⟩:=hst h h';exact (I.wt h1 h2).stable I.sh K
end Sm
end
section
namespace Sm
variable {P:List (List Op)}
theorem Ic {α:Type} {l:List α} {i:Int} {a b:α}:AT (AT l i a) i b = AT l i b:=by simp[AT]
theorem Fi {α:Type} {l:List α} {i:Int} {a u:α} (h:idx l i = some u):idx (AT l i a) i = some a:=by
 obtain⟨h0,h1,_⟩:=FJ u h;unfold idx AT;rw[if_pos h0,List.getElem?_set_self ω]
theorem Uj {c:Nat} {S:Sim} (B:Bd c S) (hc:c < 900000) (h:∀t∈S.th,t.AC.length < 1000000):S.sz = true:=by
 have h1:=B.ev;have h2:=B.old;have h3:=B.st;have h4:=B.pn;simp only[Sim.sz,z_b,z_d,ZC];exact⟨⟨⟨⟨ω,ω⟩,ω⟩,ω⟩,h⟩
theorem N0 {α:Type} {l:List α} {t:α} (h:t∈l):∃i:Int,0≤i∧i < l.length∧idx l i = some t:=by
 obtain⟨n,hn,rfl⟩:=ZF h;refine⟨n,ω,ω,?_⟩;unfold idx;rw[if_pos ω];simp[hn]
theorem IG.AC {S:Sim} {g:Gh} (I:IG P S g):∀t∈S.th,t.AC.length≤8:=λt h=>by
 obtain⟨i,_,_,hi⟩:=N0 h;exact (I.ti i t hi).rl
theorem IG.szok {c:Nat} {S S1:Sim} {g:Gh} (I:IG P S g) (hth:S1.th = S.th) (B:Bd c S1) (hc:c < 900000):S1.sz = true:=
 Uj B hc λt h=>by have:=I.AC t (hth▸h);omega
theorem IG.next {S:Sim} {g:Gh} {i:Int} {t:Thr} {o:Op} (I:IG P S g) (ht:idx S.th i = some t) (ho:S.opOf i t = some o):0≤t.next∧t.next < 40:=by
 refine⟨(I.ti i t ht).nx,?_⟩;unfold Sim.opOf at ho;split at ho
 ·rename_i p hp;obtain⟨_,h1,_⟩:=FJ default ho;have:p∈S.Aa:=by
   unfold idx at hp;split at hp
   ·exact List.mem_of_getElem? hp
   ·cases hp
  have:=I.pp p this;omega
 ·cases ho
structure BK (S S1:Sim):Prop where
 th:S1.th = S.th
 col:S1.col = S.col
 AK:S1.AK = S.AK
 pc_:(S1.Aa,S1.c) = (S.Aa,S.c)
 stop:S1.stop = S.stop
 full:S1.full = S.full
 AO:∀r:Int,0≤r→(rv S1.A0 r).AO = (rv S.A0 r).AO
theorem BK.Aa {S S1:Sim} (E:BK S S1):S1.Aa = S.Aa:=congrArg Prod.fst E.pc_
theorem BK.refl (S:Sim):BK S S:=⟨rfl,rfl,rfl,rfl,rfl,rfl,λ_ _=>rfl⟩
theorem Bd.mono {c d:Nat} {S:Sim} (B:Bd c S) (h:c≤d):Bd d S:=
 ⟨by have:=B.ev;omega,by have:=B.old;omega,⟨B.cy.1,by have:=B.cy.2;omega⟩,⟨B.fu.1,by have:=B.fu.2;omega⟩,by have:=B.st;omega,B.pn⟩
theorem Cu {c:Nat} {S S1:Sim} {g g' : Gh} {i:Int} {t t' : Thr} (I:IG P S g) (B:Bd c S1) (ht:idx S.th i = some t) (hsh:Sh (xof S1 g')) (K:Kp i (xof S g) (xof S1 g')) (E:BK S S1) (hT:TI (xof S1 g') i (S.opOf i t') t') :
  IG P (S1.setT i t') g'∧Bd c (S1.setT i t')∧idx (S1.setT i t').th i = some t':=by
 refine⟨I.step ht (t':=t') (by show AT S1.th i t' = _;rw[E.th]) hsh K E.col E.AK E.AO E.pc_ ?_ λh h'=>?_,⟨B.ev,B.old,B.cy,B.fu,B.st,B.pn⟩,?_⟩
 ·have:(S1.setT i t').opOf i t' = S.opOf i t':=by unfold Sim.opOf Sim.setT;simp only[show S1.Aa = S.Aa from congrArg Prod.fst E.pc_]
  rw[this];exact hT
 ·rw[← E.stop,← E.full];exact⟨h,h'⟩
 ·show idx (AT S1.th i t') i = _;rw[E.th];exact Fi ht
def Sim.evd (S:Sim) (i ans code:Int) (t:Thr) (AC:List Int):Sim:={ S with ev:=S.ev ++ [⟨i,t.next,ans,code⟩],th:=AT S.th i (thr0 AC (t.next + 1) 0) }
theorem EK {S:Sim} {i ans code:Int} {t:Thr} (hz:S.sz = true) (ht:idx S.th i = some t) (hn:0≤t.next∧t.next < 40):S.event i ans code = some (S.evd i ans code t t.AC):=by
 unfold Sim.event;rw[hz,ht];simp only[an,ZE,if_false,Cf];rw[if_pos ω];rfl
theorem RN {S:Sim} {i a:Int} {t:Thr} (hz:S.sz = true) (hl:t.AC.length < 1000) (ht:idx S.th i = some t) (hn:0≤t.next∧t.next < 40):S.push i a = some (S.evd i 0 0 t (t.AC ++ [a])):=by
 unfold Sim.push;rw[hz,ht];simp only[an,ZE,if_false];rw[EK (t:={ t with AC:=t.AC ++ [a] }) ?_ (Fi ht) hn]
 ·unfold Sim.evd Sim.setT;simp only[Ic]
 ·unfold Sim.sz at hz ⊢;rw[z_b,ZC] at hz ⊢;refine⟨hz.1,λu hu=>?_⟩;rcases Zm hu with h | h
  ·exact hz.2 u h
  ·subst h;exact decide_eq_true (by simp;omega)
theorem Fy {c:Nat} {S S1:Sim} {g g' : Gh} {i ans code:Int} {t:Thr} {o:Op} (I:IG P S g) (B:Bd c S1) (ht:idx S.th i = some t) (ho:S.opOf i t = some o) (hsh:Sh (xof S1 g')) (K:Kp i (xof S g) (xof S1 g')) (E:BK S S1) (AC:List Int) (hr:∀a∈AC,a≠0→g'.L a) (hl:AC.length≤8) :
  IG P (S1.evd i ans code t AC) g'∧Bd (c + 1) (S1.evd i ans code t AC)∧idx (S1.evd i ans code t AC).th i = some (thr0 AC (t.next + 1) 0):=by
 have hn:=I.next ht ho;refine⟨I.step ht (t':=thr0 AC (t.next + 1) 0) (by show AT S1.th i _ = _;rw[E.th]) hsh K E.col E.AK E.AO E.pc_ ?_ λh h'=>?_,?_,?_⟩
 ·exact⟨hr,hl,by show 0≤t.next + 1;omega,λ_ _ h=>absurd rfl h,.inl ⟨rfl,rfl,rfl⟩⟩
 ·rw[← E.stop,← E.full];exact⟨h,h'⟩
 ·have B':=B.mono (ZW c);exact⟨by have:=B.ev;show (S1.ev ++ [_]).length≤c + 1;simp;omega,B'.old,B'.cy,B'.fu,B'.st,B'.pn⟩
 ·show idx (AT S1.th i _) i = _;rw[E.th];exact Fi ht
theorem OT {c:Nat} {S S1:Sim} {g:Gh} {i:Int} {t:Thr} (I:IG P S g) (B:Bd c S1) (ht:idx S.th i = some t) (hsh:Sh (xof S1 g)) (K:Kp i (xof S g) (xof S1 g)) (E:BK S S1) :
  ∃S',S1.back i = some S'∧IG P S' g∧Bd c S'∧idx S'.th i = some (thr0 t.AC t.next 1):=by
 have T:=I.ti i t ht;unfold Sim.back;rw[E.th,ht];refine⟨_,rfl,I.step ht (t':=thr0 t.AC t.next 1) (by show AT S1.th i _ = _;rw[E.th]) hsh K E.col E.AK E.AO E.pc_ ?_ λh h'=>?_,⟨B.ev,B.old,B.cy,B.fu,B.st,B.pn⟩,?_⟩
 ·exact⟨λa h h0=>K.l a (T.rt a h h0),T.rl,T.nx,λ_ _ h=>absurd rfl h,.inl ⟨rfl,rfl,rfl⟩⟩
 ·cases h'
 ·show idx (AT S1.th i _) i = _;rw[E.th];exact Fi ht
theorem TI.upd {x y:X} {i:Int} {po:Option Op} {t t' : Thr} {o:Op} (T:TI x i po t) (K:Kp i x y) (hr:t'.AC = t.AC) (hn:t'.next = t.next) (hpc:t.pc≠0) (ho:po = some o) (R:Run y i o t'):TI y i po t':=
 ⟨λa h h0=>K.l a (T.rt a (hr▸h) h0),by rw[hr];exact T.rl,by rw[hn];exact T.nx,λo' h _ hk=>by rw[hr];exact T.r8 o' h hpc hk,.inr ⟨o,ho,R⟩⟩
theorem Bs.eqv {x:X} {o:Op} {t t' : Thr} {pc:Int} (b:Bs x o t pc) (h:t'.h = t.h) (g:t'.g = t.g) (k:t'.k = t.k) (u:t'.u = t.u) (v:t'.v = t.v) (s:t'.sh = t.sh):Bs x o t' pc:=by
 refine⟨b.p,b.k,?_,?_,?_,?_,?_,?_,?_,?_,?_,b.k5,b.k6,b.k8,b.k9,b.k10,?_,?_,?_,?_,b.p15⟩
 ·rw[h];exact b.h
 ·rw[g];exact b.g
 ·rw[k];exact b.kk
 ·rw[h];exact b.h0
 ·rw[h];exact b.nh
 ·rw[g];exact b.ng
 ·rw[k];exact b.nk
 ·rw[h,s];exact b.s
 ·rw[s];exact b.f
 ·rw[h];exact b.l7
 ·rw[u];exact b.l14
 ·rw[v];exact b.v
 ·rw[v];exact b.nv
theorem Gu.le {r:Int} (h:Gu r):1≤r∧r≤15:=by rcases h with rfl | rfl | rfl | rfl | rfl<;>decide
theorem Bs.held {x:X} {o:Op} {t:Thr} {pc:Int} (b:Bs x o t pc) (r:Gu pc) (h0:Bp t pc≠0):x.L (Bp t pc):=by
 rcases r with rfl | rfl | rfl | rfl | rfl
 ·exact b.h h0
 ·exact b.g h0
 ·exact b.kk h0
 ·exact b.v δ δ h0
 ·exact b.v δ δ h0
theorem Bs.go {x:X} {o:Op} {t:Thr} {pc:Int} (b:Bs x o t pc) (r:Gu pc) (hn:¬ BZ x.t (Bp t pc)):Bs x o t (E4 pc):=by
 rcases r with rfl | rfl | rfl | rfl | rfl
 ·exact⟨δ,b.k,b.h,b.g,b.kk,b.h0,λ_=>hn,λh=>absurd h δ,λh=>absurd h δ,λh=>absurd h δ,λh=>absurd h δ,λh=>absurd h δ,λh=>absurd h δ,λh=>absurd h δ,λh=>absurd h δ,λh=>absurd h δ,λh=>absurd h δ,λh=>absurd h δ,λh=>absurd h δ,λh=>absurd h δ,λh=>absurd h δ⟩
 ·exact⟨δ,b.k,b.h,b.g,b.kk,b.h0,λ_=>b.nh δ,λ_=>hn,λh=>absurd h δ,λh=>absurd h δ,λh=>absurd h δ,λh=>absurd h δ,λh=>absurd h δ,λh=>absurd h δ,λh=>absurd h δ,λh=>absurd h δ,λh=>absurd h δ,λh=>absurd h δ,λh=>absurd h δ,λh=>absurd h δ,λh=>absurd h δ⟩
 ·exact⟨δ,b.k,b.h,b.g,b.kk,b.h0,λ_=>b.nh δ,λ_=>b.ng δ,λ_=>hn,λh=>absurd h δ,λh=>absurd h δ,λh=>absurd h δ,λh=>absurd h δ,λh=>absurd h δ,λh=>absurd h δ,λh=>absurd h δ,λh=>absurd h δ,λh=>absurd h δ,λh=>absurd h δ,λh=>absurd h δ,λh=>absurd h δ⟩
 ·exact⟨δ,b.k,b.h,b.g,b.kk,b.h0,λ_=>b.nh δ,λ_=>b.ng δ,λ_=>b.nk δ,λ_=>b.s δ,λ_=>b.f δ,λ_=>b.k5 δ,λh=>absurd h δ,λh=>absurd h δ,λh=>absurd h δ,λh=>absurd h δ,λh=>absurd h δ,λh=>absurd h δ,λ_ _=>b.v δ δ,λ_=>hn,λh=>absurd h δ⟩
 ·exact⟨δ,b.k,b.h,b.g,b.kk,b.h0,λ_=>b.nh δ,λ_=>b.ng δ,λ_=>b.nk δ,λ_=>b.s δ,λ_=>b.f δ,λh=>absurd h δ,λh=>absurd h δ,λh=>absurd h δ,λh=>absurd h δ,λ_=>b.k10 δ,λh=>absurd h δ,λh=>absurd h δ,λ_ _=>b.v δ δ,λ_=>hn,λ_=>b.p15 δ⟩
theorem Bs.hold {x:X} {o:Op} {t:Thr} {pc f:Int} (b:Bs x o t pc) (r:Gu pc) (hL:x.L f) (h0:f≠0) (hn:¬ BZ x.t f):Bs x o (Bj t pc f) (E4 pc):=by
 rcases r with rfl | rfl | rfl | rfl | rfl
 ·have b1:Bs x o { t with h:=f } 1:=⟨b.p,b.k,λ_=>hL,b.g,b.kk,λ_=>h0,λh=>absurd h δ,λh=>absurd h δ,λh=>absurd h δ,λh=>absurd h δ,λh=>absurd h δ,b.k5,b.k6,b.k8,b.k9,b.k10,λh=>absurd h δ,b.l14,b.v,b.nv,b.p15⟩;exact (b1.go (.inl rfl) hn).eqv rfl rfl rfl rfl rfl rfl
 ·have b1:Bs x o { t with g:=f } 2:=⟨b.p,b.k,b.h,λ_=>hL,b.kk,b.h0,b.nh,λh=>absurd h δ,λh=>absurd h δ,λh=>absurd h δ,λh=>absurd h δ,b.k5,b.k6,b.k8,b.k9,b.k10,λh=>absurd h δ,b.l14,b.v,b.nv,b.p15⟩;exact (b1.go (.inr (.inl rfl)) hn).eqv rfl rfl rfl rfl rfl rfl
 ·have b1:Bs x o { t with k:=f } 3:=⟨b.p,b.k,b.h,b.g,λ_=>hL,b.h0,b.nh,b.ng,λh=>absurd h δ,λh=>absurd h δ,λh=>absurd h δ,b.k5,b.k6,b.k8,b.k9,b.k10,λh=>absurd h δ,b.l14,b.v,b.nv,b.p15⟩;exact (b1.go (.inr (.inr (.inl rfl))) hn).eqv rfl rfl rfl rfl rfl rfl
 ·have b1:Bs x o { t with v:=f } 11:=⟨b.p,b.k,b.h,b.g,b.kk,b.h0,b.nh,b.ng,b.nk,b.s,b.f,b.k5,b.k6,b.k8,b.k9,b.k10,λh=>absurd h δ,b.l14,λ_ _ _=>hL,λh=>absurd h δ,b.p15⟩;exact (b1.go (.inr (.inr (.inr (.inl rfl)))) hn).eqv rfl rfl rfl rfl rfl rfl
 ·have b1:Bs x o { t with v:=f } 15:=⟨b.p,b.k,b.h,b.g,b.kk,b.h0,b.nh,b.ng,b.nk,b.s,b.f,b.k5,b.k6,b.k8,b.k9,b.k10,λh=>absurd h δ,b.l14,λ_ _ _=>hL,λh=>absurd h δ,b.p15⟩;exact (b1.go (.inr (.inr (.inr (.inr rfl)))) hn).eqv rfl rfl rfl rfl rfl rfl
theorem IU (t:Thr) (pc f:Int):(Bj t pc f).AC = t.AC∧(Bj t pc f).next = t.next∧(Bj t pc f).pc = E4 pc:=by
 unfold Bj;refine⟨?_,?_,rfl⟩<;>(simp only[];split<;>(try split)<;>(try split)<;>rfl)
theorem Cp.start {x:X} {o src dst size i word:Int} (h1:x.L src) (h2:BZ x.t src) (h3:x.ph = 2):Cp x o src dst size i word 20:=
 ⟨δ,h1,h2,h3,λh=>absurd h δ,λh=>absurd h δ,λh=>absurd h δ,λh=>absurd h δ,λh=>absurd h δ,λh=>absurd h δ,λh=>absurd h δ,λh=>absurd h δ⟩
def rk (pc:Int):Nat:=if pc = 1 then 4 else if pc = 2 then 3 else if pc = 3 then 2 else if pc = 4 then 1 else if pc = 11 then 1 else if pc = 15 then 2 else if pc = 16 then 1 else if pc = 30 then 1 else 0
def Wz (i pc:Int) (S' : Sim):Prop:=S'.used = true∨∃t',idx S'.th i = some t'∧(t'.pc = 0∨rk t'.pc < rk pc)
def Out (P:List (List Op)) (c:Nat) (i pc:Int) (r:Option Sim):Prop:=∃S' g',r = some S'∧IG P S' g'∧Bd (c + 1) S'∧Wz i pc S'
theorem Bq {a:Int} (h:0≤a):AN a = a / 16:=by unfold AN;rw[if_neg ω]
theorem IG.in_ {S:Sim} {g:Gh} (I:IG P S g) {a:Int} (h:g.L a):16≤a∧1≤a / 16∧a / 16 < S.A0.length∧a + sz S.AA a≤S.AA.length∧2≤sz S.AA a∧sz S.AA a≤10:=by
 obtain⟨g1,g2,g3,g4,g5,g6,g7,g8⟩:=I.sh.g.inn (I.sh.lb a h);exact⟨g1,g2,g3,g6,g7,g8⟩
theorem IG.frm {S:Sim} {g:Gh} (I:IG P S g) {a:Int} (h:a≠0→g.L a):∃b,S.from_ a = some b∧(b = true↔BZ S.A0 a):=by
 unfold Sim.from_;by_cases c:a = 0
 ·subst c;refine⟨false,σ,?_⟩;have:=I.sh.g.ok.e;unfold BZ;have e:rv S.A0 0 = DO:=this;rw[show (0:Int) / 16 = 0 from rfl,e];simp[DO]
 ·obtain⟨h1,h2,h3,_⟩:=I.in_ (h c);rw[if_neg c,Bq ω,DB ω h3];refine⟨_,rfl,?_⟩;unfold BZ;simp only[beq_iff_eq];exact⟨λh=>⟨ω,h⟩,λh=>h.2⟩
theorem CI {S:Sim} {a:Int} (h0:0≤a) (h1:a < S.AA.length):S.read a = some (wv S.AA a,{ S with used:=true }):=by
 unfold Sim.read;rw[Uq h0 h1]
theorem DE {S:Sim} {a v:Int} (h0:0≤a) (h1:a < S.AA.length):S.write a v = some { S with used:=true,AA:=AT S.AA a v }:=by
 unfold Sim.write;rw[if_pos ⟨h0,h1⟩]
theorem BV {a b:Int} (h:-1000000≤a + b) (h' : a + b≤1000000):Cf a b = some (a + b):=by
 unfold Cf;rw[if_pos ω]
theorem IG.wl {S:Sim} {g:Gh} (I:IG P S g):S.AA.length≤192:=by
 have h1:=I.sh.g.len;have h2:=I.sh.g.ok.n1;simp only at h1 h2;omega
theorem Vu {pc:Int} (r:Gu pc):rk (E4 pc) < rk pc:=by rcases r with rfl | rfl | rfl | rfl | rfl<;>decide
theorem Qd {c:Nat} {S:Sim} {g:Gh} {i:Int} {t:Thr} {o:Op} (I:IG P S g) (B:Bd c S) (ht:idx S.th i = some t) (ho:S.opOf i t = some o) (b:Bs (xof S g) o t t.pc) (r:Gu t.pc):Out P c i t.pc (S.resolve i):=by
 have T:=I.ti i t ht;have hpc:t.pc≠0:=by have:=r.le;omega
 unfold Sim.resolve;rw[ht];simp only[Yn,z_o];rw[if_neg (by have:=r.le;omega)];obtain⟨d,hd,hdf⟩:=I.frm (a:=Bp t t.pc) (λh=>b.held r h);rw[hd];simp only[z_o];cases d with
 | false=>
  have hn:¬ BZ S.A0 (Bp t t.pc):=λh=>by have:=hdf.2 h;cases this
  rw[if_pos τ];obtain⟨I',B',ht'⟩:=Cu (t':={ t with pc:=E4 t.pc }) I B ht I.sh (Kp.refl i _) (BK.refl S) (T.upd (Kp.refl i _) rfl rfl hpc ho (.bs ((b.go r hn).eqv rfl rfl rfl rfl rfl rfl)));exact⟨_,g,rfl,I',B'.mono (ZW c),.inr ⟨_,ht',.inr (Vu r)⟩⟩
 | true=>
  have hf:BZ S.A0 (Bp t t.pc):=hdf.1 rfl;have h0:Bp t t.pc≠0:=λh=>by
   rw[h] at hf;have:=hf.2;have e:rv S.A0 0 = DO:=I.sh.g.ok.e;rw[show (0:Int) / 16 = 0 from rfl,e] at this;cases this
  have hL:=b.held r h0;obtain⟨a1,a2,a3,a4,a5,_⟩:=I.in_ hL;rw[if_neg σ,CI ω ω];simp only[z_o];split
  ·rename_i hc;obtain⟨I',B',ht'⟩:=Cu (S1:={ S with used:=true }) (t':={ t with src:=Bp t t.pc,ret:=t.pc,pc:=20 }) I (c:=c) ⟨B.ev,B.old,B.cy,B.fu,B.st,B.pn⟩ ht I.sh (Kp.refl i _) ⟨rfl,rfl,rfl,rfl,rfl,rfl,λ_ _=>rfl⟩
    (T.upd (Kp.refl i _) rfl rfl hpc ho (.cp (b.eqv rfl rfl rfl rfl rfl rfl) r τ (Cp.start hL hf hc.2)))
   exact⟨_,g,rfl,I',B'.mono (ZW c),.inl rfl⟩
  ·rename_i hc;have hne:wv S.AA (Bp t t.pc)≠Bp t t.pc:=λhe=>by
    have h2:S.Ad≠2:=λh=>hc ⟨he,h⟩
    have hp:=I.sh.ph;simp only at hp;by_cases h3:S.Ad = 3
    ·exact I.sh.af h3 _ hL hf he
    ·exact I.sh.nf (by show S.Ad≤1;omega) _ ω hf.2
   obtain⟨f1,f2,_⟩:g.L (wv S.AA (Bp t t.pc))∧¬ BZ S.A0 (wv S.AA (Bp t t.pc))∧_:=I.sh.fw _ (I.sh.lb _ hL) hf hne;have hs:=IU t t.pc (wv S.AA (Bp t t.pc));obtain⟨I',B',ht'⟩:=Cu (S1:={ S with used:=true }) (t':=Bj t t.pc (wv S.AA (Bp t t.pc))) I (c:=c) ⟨B.ev,B.old,B.cy,B.fu,B.st,B.pn⟩ ht I.sh (Kp.refl i _) ⟨rfl,rfl,rfl,rfl,rfl,rfl,λ_ _=>rfl⟩
    (by
     have:S.opOf i (Bj t t.pc (wv S.AA (Bp t t.pc))) = S.opOf i t:=by unfold Sim.opOf;rw[hs.2.1]
     rw[this]
     exact T.upd (Kp.refl i _) hs.1 hs.2.1 hpc ho (.bs (by rw[hs.2.2];exact b.hold r f1 (by have:=I.in_ f1;omega) f2)))
   exact⟨_,g,rfl,I',B'.mono (ZW c),.inl rfl⟩
end Sm
end
section
namespace Sm
variable {P:List (List Op)}
theorem Xj {x:X} {o src d word:Int} {t' : List Rg} (H:Sh x) (hL:x.L src) (hf:BZ x.t src) (h2:x.ph = 2) (P:Qz x.t o (sz x.w src) t' d) :
  Sh { x with t:=t' }∧Kp o x { x with t:=t' }∧Cp { x with t:=t' } o src d (sz x.w src) 1 word 21:=by
 obtain⟨h1,K,O⟩:=room H P;have g:=H.g.inn (H.lb _ hL);refine⟨h1,K,⟨δ,hL,K.frm.2 hf,h2,λ_=>rfl,λ_=>O,λ_=>ω,λ_=>ω,λ_ j j0 j1=>ω,λh=>absurd h δ,λh=>absurd h δ,λh=>absurd h δ⟩⟩
theorem Xe {x:X} {o src d size i word:Int} (c:Cp x o src d size i word 21):Cp x o src d size i (wv x.w (src + i)) 22:=
 ⟨δ,c.ls,c.fs,c.p2,λ_=>c.sz δ,λ_=>c.ow δ,λ_=>c.i0 δ,λ_=>c.i1 δ,λ_=>c.cp δ,λ_=>rfl,λh=>absurd h δ,λh=>absurd h δ⟩
theorem Xh {x:X} {o src d size i word:Int} (H:Sh x) (c:Cp x o src d size i word 22):Sh { x with w:=AT x.w (d + i) word }∧Kp o x { x with w:=AT x.w (d + i) word }∧Cp { x with w:=AT x.w (d + i) word } o src d size (i + 1) word (if i + 1 = size then 23 else 21):=by
 have O:=c.ow δ;have h1:=c.i0 δ;have h2:=c.i1 (.inr rfl);obtain⟨h3,K⟩:=Tv (z:=d + i) (v:=word) H O ω ω;have g:=H.g.inn (H.lb _ c.ls);have hs:=c.sz δ;have wl:=O.wl H.g;have d0:=O.d0;have e:∀u,0≤u→wv (AT x.w (d + i) word) u = if u = d + i then word else wv x.w u:=λu hu=>Cb ω ω hu
 have es:∀j,0≤j→j < sz x.w src→wv (AT x.w (d + i) word) (src + j) = wv x.w (src + j):=λj j0 j1=>by
  rw[e _ ω,if_neg (O.sep H.g ω ω (H.lb _ c.ls) j0 j1)]
 refine⟨h3,K,?_⟩;have hp:∀q:Int,(q = 21∨q = 23)→(q = 23→i + 1 = size)→(q = 21→i + 1≠size)→Cp { x with w:=AT x.w (d + i) word } o src d size (i + 1) word q:=λq hq h5 h6=>by
  refine⟨ω,c.ls,c.fs,c.p2,λ_=>?_,λ_=>⟨O.d0,O.k,O.o,O.top,O.fit⟩,λ_=>ω,λh=>ω,λ_ j j0 j1=>?_,λh=>ω,λh=>ω,λh=>ω⟩
  ·show size = sz (AT x.w (d + i) word) src;rw[Gf (es 1 ω ω)];exact hs
  ·show wv (AT x.w (d + i) word) (d + j) = wv (AT x.w (d + i) word) (src + j);rw[es j ω ω,e _ ω];by_cases h:j = i
   ·subst h;rw[if_pos rfl];exact c.wd rfl
   ·rw[if_neg ω];exact c.cp δ j j0 ω
 split
 ·exact hp 23 (.inr rfl) (λ_=>by assumption) (λh=>absurd h δ)
 ·exact hp 21 (.inl rfl) (λh=>absurd h δ) (λ_=>by assumption)
theorem Y0 {x:X} {o src d size i word:Int} (H:Sh x) (c:Cp x o src d size i word 23):Sh { x with w:=AT x.w d d }∧Kp o x { x with w:=AT x.w d d }∧Cp { x with w:=AT x.w d d } o src d size i word 24:=by
 have O:=c.ow δ;have h1:=c.i0 δ;have h2:=c.dn δ;obtain⟨h3,K⟩:=Tv (z:=d) (v:=d) H O ω ω;have g:=H.g.inn (H.lb _ c.ls);have hs:=c.sz δ;have wl:=O.wl H.g;have d0:=O.d0;have e:∀u,0≤u→wv (AT x.w d d) u = if u = d then d else wv x.w u:=λu hu=>Cb ω ω hu
 have es:∀j,0≤j→j < sz x.w src→wv (AT x.w d d) (src + j) = wv x.w (src + j):=λj j0 j1=>by
  rw[e _ ω,if_neg (O.sep H.g ω ω (H.lb _ c.ls) j0 j1)]
 refine⟨h3,K,⟨δ,c.ls,c.fs,c.p2,λ_=>?_,λ_=>⟨O.d0,O.k,O.o,O.top,O.fit⟩,λ_=>h1,λh=>absurd h δ,λ_ j j0 j1=>?_,λh=>absurd h δ,λ_=>h2,λ_=>?_⟩⟩
 ·show size = sz (AT x.w d d) src;rw[Gf (es 1 ω ω)];exact hs
 ·show wv (AT x.w d d) (d + j) = wv (AT x.w d d) (src + j);rw[es j ω ω,e _ ω,if_neg ω];exact c.cp δ j j0 j1
 ·show wv (AT x.w d d) d = d;rw[e _ ω,if_pos rfl]
theorem Xy {x:X} {o src d size i word:Int} (H:Sh x) (c:Cp x o src d size i word 24) (hw:wv x.w src = src) :
  Sh { x.pub d size with w:=AT x.w src d }∧Kp o x { x.pub d size with w:=AT x.w src d }∧¬ BZ (x.pub d size).t d∧16≤d∧d≠src:=by
 have O:=c.ow δ;have h1:=c.i0 δ;have h2:=c.dn δ;have g:=H.g.inn (H.lb _ c.ls);have hs:=c.sz δ;have d0:=O.d0;have sb:=FP x.w src;have e1:wv x.w (d + 1) = wv x.w (src + 1):=c.cp δ 1 δ ω;have ez:sz x.w d = size:=by
  unfold sz;rw[Du (a:=d) (w:=x.w) (w':=x.w) rfl];have:shp x.w d = shp x.w src:=by unfold shp;rw[e1]
  rw[this];exact hs.symm
 have es:shp x.w d = shp x.w src:=by unfold shp;rw[e1]
 have nd:d≠src:=by
  intro h;have:=O.sep H.g (z:=d) ω ω (H.lb _ c.ls) (k:=0) ω ω;omega
 obtain⟨P,K⟩:=pub H O ez (by rw[e1];exact (H.g.at_ _ (H.lb _ c.ls)).2.2) (c.hd rfl) (λj j0 j1=>by
  rw[es] at j1
  rw[show d + 2 + j = d + (2 + j) from ω,c.cp δ (2 + j) ω ω,show src + (2 + j) = src + 2 + j from ω]
  exact H.rf src j c.ls j0 j1) (λh=>absurd h (by rw[c.p2];decide))
 have nf:¬ BZ (x.pub d size).t d:=λh=>by
  have:=(K.frm.1 h).2;rw[O.k] at this;cases this
 obtain⟨P2,K2⟩:=fwd (o:=o) (x:=x.pub d size) P (K.l _ c.ls) (K.frm.2 c.fs) hw (.inr rfl) nf e1 (by rw[K.ph,c.p2];decide);exact⟨P2,K.trans K2 H P,nf,d0,nd⟩
theorem PO {c:Nat} {S:Sim} {g:Gh} {i:Int} {t:Thr} {o:Op} (I:IG P S g) (B:Bd c S) (ht:idx S.th i = some t) (ho:S.opOf i t = some o) (b:Bs (xof S g) o t t.ret) (r:Gu t.ret) (e:Bp t t.ret = t.src) (cp:Cp (xof S g) i t.src t.dst t.size t.i t.word t.pc):Out P c i t.pc (S.copying i):=by
 have T:=I.ti i t ht;have p:=cp.p;have hpc:t.pc≠0:=ω
 have hwl:=I.wl;obtain⟨a1,a2,a3,a4,a5,a6⟩:=I.in_ cp.ls;obtain⟨i0,i1,_⟩:=FJ t ht;have hn1:=I.n1;have B1:Bd c { S with used:=true }:=⟨B.ev,B.old,B.cy,B.fu,B.st,B.pn⟩;unfold Sim.copying;rw[ht];simp only[Yn,z_o];by_cases c20:t.pc = 20
 ·rw[if_pos c20,BV ω ω];simp only[z_o];rw[CI ω ω];simp only[z_o];have es:AF (AJ (wv S.AA (t.src + 1))).1 = sz S.AA t.src:=rfl;rw[es];rcases Fk (o:=i) (size:=sz S.AA t.src) I.sh.g.ok ω ω ω ω with h | ⟨t',d,h,P⟩
  ·have h' : BX S.A0 i (sz S.AA t.src) = none:=h;simp only[h'];obtain⟨S',h1,I',B',ht'⟩:=OT (S1:={ S with used:=true }) I B1 ht I.sh (Kp.refl i _) ⟨rfl,rfl,rfl,rfl,rfl,rfl,λ_ _=>rfl⟩;exact⟨S',g,h1,I',B'.mono (ZW c),.inr ⟨_,ht',.inl rfl⟩⟩
  ·have h' : BX S.A0 i (sz S.AA t.src) = some (t',d):=h;simp only[h'];obtain⟨h1,K,C⟩:=Xj (word:=t.word) I.sh cp.ls cp.fs cp.p2 P;obtain⟨I',B',ht'⟩:=Cu (S1:={ S with used:=true,A0:=t' }) (g':=g) (t':={ t with size:=sz S.AA t.src,dst:=d,i:=1,pc:=21 }) I (c:=c) ⟨B.ev,B.old,B.cy,B.fu,B.st,B.pn⟩ ht h1 K ⟨rfl,rfl,rfl,rfl,rfl,rfl,P.AO⟩
    (T.upd K rfl rfl hpc ho (.cp ((b.stable I.sh K).eqv rfl rfl rfl rfl rfl rfl) r (by show Bp _ t.ret = t.src;rw[← e];rfl) C))
   exact⟨_,g,rfl,I',B'.mono (ZW c),.inl rfl⟩
 rw[if_neg c20];have j0:=cp.i0 ω;have hs:=cp.sz ω;have O:=cp.ow ω;have ow:=O.wl I.sh.g;have d0:=O.d0;simp only at hs ow;by_cases c21:t.pc = 21
 ·rw[if_pos c21];have j1:=cp.i1 (.inl c21);rw[BV ω ω];simp only[z_o];rw[CI ω ω];simp only[z_o];rw[c21] at cp;obtain⟨I',B',ht'⟩:=Cu (S1:={ S with used:=true }) (t':={ t with word:=wv S.AA (t.src + t.i),pc:=22 }) I B1 ht I.sh (Kp.refl i _) ⟨rfl,rfl,rfl,rfl,rfl,rfl,λ_ _=>rfl⟩
   (T.upd (Kp.refl i _) rfl rfl hpc ho (.cp (b.eqv rfl rfl rfl rfl rfl rfl) r (by show Bp _ t.ret = t.src;rw[← e];rfl) (Xe cp)))
  exact⟨_,g,rfl,I',B'.mono (ZW c),.inl rfl⟩
 rw[if_neg c21];by_cases c22:t.pc = 22
 ·rw[if_pos c22];have j1:=cp.i1 (.inr c22);rw[BV ω ω];simp only[z_o];rw[DE ω ω];simp only[z_o];rw[BV ω ω];simp only[z_o];rw[c22] at cp;obtain⟨h1,K,C⟩:=Xh I.sh cp;obtain⟨I',B',ht'⟩:=Cu (S1:={ S with used:=true,AA:=AT S.AA (t.dst + t.i) t.word }) (g':=g) (t':={ t with i:=t.i + 1,pc:=if t.i + 1 = t.size then 23 else 21 }) I (c:=c) ⟨B.ev,B.old,B.cy,B.fu,B.st,B.pn⟩ ht h1 K ⟨rfl,rfl,rfl,rfl,rfl,rfl,λ_ _=>rfl⟩
   (T.upd K rfl rfl hpc ho (.cp ((b.stable I.sh K).eqv rfl rfl rfl rfl rfl rfl) r (by show Bp _ t.ret = t.src;rw[← e];rfl) C))
  exact⟨_,g,rfl,I',B'.mono (ZW c),.inl rfl⟩
 rw[if_neg c22];by_cases c23:t.pc = 23
 ·rw[if_pos c23];rw[DE ω ω];simp only[z_o];rw[c23] at cp;obtain⟨h1,K,C⟩:=Y0 I.sh cp;obtain⟨I',B',ht'⟩:=Cu (S1:={ S with used:=true,AA:=AT S.AA t.dst t.dst }) (g':=g) (t':={ t with pc:=24 }) I (c:=c) ⟨B.ev,B.old,B.cy,B.fu,B.st,B.pn⟩ ht h1 K ⟨rfl,rfl,rfl,rfl,rfl,rfl,λ_ _=>rfl⟩
   (T.upd K rfl rfl hpc ho (.cp ((b.stable I.sh K).eqv rfl rfl rfl rfl rfl rfl) r (by show Bp _ t.ret = t.src;rw[← e];rfl) C))
  exact⟨_,g,rfl,I',B'.mono (ZW c),.inl rfl⟩
 rw[if_neg c23,if_pos ω,if_neg (by have:=r.le;omega)];have c24:t.pc = 24:=ω
 rw[c24] at cp;rw[CI ω ω];simp only[z_o];by_cases hw:wv S.AA t.src = t.src
 ·rw[if_pos hw,DE (by show (0:Int)≤_;omega) (by show _ < (S.AA.length:Int);omega)];simp only[z_o];obtain⟨h1,K,nf,_,_⟩:=Xy I.sh cp hw;have htop:Sim.top { S with used:=true,AA:=AT S.AA t.src t.dst } t.dst t.size = some { S with used:=true,AA:=AT S.AA t.src t.dst,A0:=AT S.A0 (t.dst / 16) { rv S.A0 (t.dst / 16) with top:=t.dst + t.size } }:=by
   unfold Sim.top;rw[Bq ω];show (match idx S.A0 (t.dst / 16) with | some x=>_ | none=>_) = _;rw[DB ω O.inn];simp only[];rw[BV ω ω]
  simp only[htop,z_o];have hs2:=IU t t.ret t.dst;obtain⟨I',B',ht'⟩:=Cu (S1:={ S with used:=true,AA:=AT S.AA t.src t.dst,A0:=AT S.A0 (t.dst / 16) { rv S.A0 (t.dst / 16) with top:=t.dst + t.size } }) (g':={ g with B:=λa=>g.B a∨a = t.dst,L:=λa=>g.L a∨a = t.dst }) (t':=Bj t t.ret t.dst) I (c:=c) ⟨B.ev,B.old,B.cy,B.fu,B.st,B.pn⟩ ht h1 K ⟨rfl,rfl,rfl,rfl,rfl,rfl,λq q0=>by
    show (rv (AT S.A0 (t.dst / 16) _) q).AO = _
    rw[DS ω O.inn q0];split
    ·subst q;rfl
    ·rfl⟩
   (by
    have:S.opOf i (Bj t t.ret t.dst) = S.opOf i t:=by unfold Sim.opOf;rw[hs2.2.1]
    rw[this]
    exact T.upd K hs2.1 hs2.2.1 hpc ho (.bs (by rw[hs2.2.2];exact (b.stable I.sh K).hold r (.inr rfl) ω nf)))
  exact⟨_,_,rfl,I',B'.mono (ZW c),.inl rfl⟩
 ·rw[if_neg hw];obtain⟨f1,f2,_⟩:g.L (wv S.AA t.src)∧¬ BZ S.A0 (wv S.AA t.src)∧_:=I.sh.fw _ (I.sh.lb _ cp.ls) cp.fs hw;have hs2:=IU t t.ret (wv S.AA t.src);obtain⟨I',B',ht'⟩:=Cu (S1:={ S with used:=true }) (t':=Bj t t.ret (wv S.AA t.src)) I B1 ht I.sh (Kp.refl i _) ⟨rfl,rfl,rfl,rfl,rfl,rfl,λ_ _=>rfl⟩
   (by
    have:S.opOf i (Bj t t.ret (wv S.AA t.src)) = S.opOf i t:=by unfold Sim.opOf;rw[hs2.2.1]
    rw[this]
    exact T.upd (Kp.refl i _) hs2.1 hs2.2.1 hpc ho (.bs (by rw[hs2.2.2];exact b.hold r f1 (by have:=I.in_ f1;omega) f2)))
  exact⟨_,g,rfl,I',B'.mono (ZW c),.inl rfl⟩
end Sm
end
