/- A part of the proof of the given row: the walk of the law and of all that it calls. Conditions: none. -/
import Derived.Test.YtlagojobcbkpdaaGreatDO
set_option linter.unusedVariables false
set_option linter.unusedSimpArgs false
set_option maxRecDepth 100000
section
namespace Sm
open Go.Lf
end Sm
namespace Go.Lf
open Go Sm
section st
variable {R:RM} {s:Sm.Al} {wv tv mv thv ov pv:Value}
theorem Y3 {l:List AU} {met:List Int} (hf:HpF s l met):BJ s = some l:=by
 have h1:=hf.ths;unfold Ee at h1;split at h1
 ·exact h1
 ·cases h1
theorem TR {l:List AU} {met:List Int} (hf:HpF s l met) {a:Int} (ha:a∈met):∃t,BL l a = some t∧Ap s.AA a = (t,true):=by
 obtain⟨t,ht⟩:=hf.M.th a ha;obtain⟨h1,h2⟩:=Bh ht;have h3:=Y3 hf;unfold BJ at h3;have:=((EZ h3).2 t h1).2.2.1;rw[h2] at this;exact⟨t,ht,this⟩
theorem WA {D:Chs} {v:Value} {l:List Int} {i:Int} {B:Value→Value→M} (h:BG R v l) (h0:0≤i) (h1:i < l.length)
  (H:∀p,(∀{D' : Chs} {k:Value→M},(∀(R' : RM) (D'' : Chs),J R D' (k (I (l[i.toNat]'(ω)))))→J R D' (L1 p k))→J R D (B p (I (l[i.toNat]'(ω))))):J R D (IA 1 v (I i) λp=>L1 p λx=>B p x):=by
 rcases h with ⟨_,h2,_⟩ | ⟨b,o,cap,t,cs,rfl,h2,h3,h4,h5⟩
 ·omega
 ·have hcell:cs[o + i.toNat * 1]? = some (I (l[i.toNat]'(ω))):=by
   have e:((cs.drop o).take (l.length * 1))[i.toNat]? = (l.map I)[i.toNat]?:=by rw[h4]
   rw[ao ω,ZY,ZQ,Yi (l:=l) (i:=i.toNat) ω] at e;rw[Zo];exact e
  refine jia h0 h1 (jlr h2 hcell (H _ λ{D'} {k} hk=>jlr h2 hcell (hk R D')))
end st
end Go.Lf
end
section
namespace Go.Lf
open Go Sm
theorem YV {x:Value} {R:RM} {F:Chs} {k:Value→M} (h:DSF x R) (H:∀(b:Nat) (s:Sm.Al) (wv tv mv thv ov pv:Value),x = .agg (eSt s wv tv mv thv ov pv).toArray→SF R s wv tv mv thv ov pv→J R ((b,C 28 (eSt s wv tv mv thv ov pv)) :: F) (k (Pt b))) :
  J R F (AL 28 z28 λp=>ST 13 p x (k p)):=by
 obtain⟨s,wa,wc,tb,tc,ma,mc,tha,thc,oa,oc,pa,pc,rfl,h2⟩:=h.cut;refine ja λb=>?_
 refine jS (eSt s (.slice wa s.AA.length wc) (S0 tb s.A0.length tc) (.slice ma s.AK.length mc) (.slice tha s.A6.length thc) (.slice oa s.old.length oc) (.slice pa s.AG.length pc)) ?_;exact H b s _ _ _ _ _ _ rfl h2
theorem XW {R:RM} {v:Value} (hc:Cod R v):∃n:Nat,∃a c,v = .slice a n c:=by
 obtain⟨n,hf⟩:=hc;exact⟨n,hf.sl⟩
section rules
variable {R:RM} {D:Chs} {k:Value→M}
end rules
end Go.Lf
end
section
namespace Sm
open Go.Lf
theorem TS {had:List Int} {a x:Int}:x∈had→x∈CZ had a:=λh=>by
 unfold CZ;split
 ·exact h
 ·exact ZP _ h
theorem Rq {had:List Int} {a:Int}:a = 0∨a∈CZ had a:=by
 unfold CZ;split
 ·rename_i h;rcases h with h | h
  ·exact .inl h
  ·exact .inr h
 ·exact .inr σ
theorem FA {l:List AU}:∀{xs acc r:List Int},Au l xs acc = some r→∀x∈acc,x∈r
 | [],acc,r,h,x,hx=>by cases h;exact hx
 | a :: xs,acc,r,h,x,hx=>by
  rw[Ca] at h;cases hn:now l a with
  | none=>rw[hn] at h;cases h
  | some y=>rw[hn] at h;exact FA (xs:=xs) h x (TS hx)
theorem FN {l:List AU}:∀{xs acc r:List Int},Au l xs acc = some r→∀a∈xs,∃x,now l a = some x∧(x = 0∨x∈r)
 | [],acc,r,h,a,ha=>by cases ha
 | b :: xs,acc,r,h,a,ha=>by
  rw[Ca] at h;cases hn:now l b with
  | none=>rw[hn] at h;cases h
  | some y=>
   rw[hn] at h;have h:Au l xs (CZ acc y) = some r:=h;rcases Yx.1 ha with rfl | ha
   ·refine⟨y,hn,?_⟩;rcases Rq (had:=acc) (a:=y) with e | e
    ·exact .inl e
    ·exact .inr (FA h _ e)
   ·exact FN (xs:=xs) h a ha
theorem JC {l:List AU}:∀{n i:Nat} {out r:List Int},BW l n i out = some r→(∀j (h:j < out.length),j < i→∀t,BL l out[j] = some t→∀a∈t.refs,∃x,now l a = some x∧(x = 0∨x∈r))→
  (∀x∈out,x∈r)∧∀b∈r,∀t,BL l b = some t→∀a∈t.refs,∃x,now l a = some x∧(x = 0∨x∈r)
 | 0,i,out,r,h,_=>by cases h
 | n + 1,i,out,r,h,hj=>by
  by_cases c:i < out.length
  ·cases ht:BL l out[i] with
   | none=>
    unfold BW at h;rw[Yi c] at h;dsimp only at h;rw[ht] at h;cases h
   | some t=>
    rw[DF c ht] at h;cases hn:Au l t.refs out with
    | none=>rw[hn] at h;cases h
    | some o=>
     rw[hn,z_o] at h;have hpre:∀{xs acc r:List Int},Au l xs acc = some r→∃e,r = acc ++ e:=by
      intro xs;induction xs with
      | nil=>intro acc r h;cases h;exact⟨[],σ⟩
      | cons a xs ih=>
       intro acc r h;rw[Ca] at h;cases hn:now l a with
       | none=>rw[hn] at h;cases h
       | some y=>
        rw[hn] at h;obtain⟨e,he⟩:=ih h;unfold CZ at he;split at he
        ·exact⟨e,he⟩
        ·exact⟨[y] ++ e,by rw[he,Yr]⟩
     obtain⟨e,he⟩:=hpre hn;have mono:∀{n i:Nat} {out r:List Int},BW l n i out = some r→∀x∈out,x∈r:=by
      intro n;induction n with
      | zero=>intro i out r h;cases h
      | succ n ih=>
       intro i out r h x hx;by_cases c:i < out.length
       ·cases ht:BL l out[i] with
        | none=>
         unfold BW at h;rw[Yi c] at h;dsimp only at h;rw[ht] at h;cases h
        | some t=>
         rw[DF c ht] at h;cases hn:Au l t.refs out with
         | none=>rw[hn] at h;cases h
         | some o=>rw[hn] at h;exact ih h x (FA hn x hx)
       ·rw[DP ω] at h;cases h;exact hx
     have hm:=mono h;have:=JC h λj hjl hji t' ht' a ha=>?_
     ·exact⟨λx hx=>this.1 x (FA hn x hx),this.2⟩
     ·have hjo:j < out.length:=ω
      have e1:o[j] = out[j]:=by subst he;rw[aE hjo]
      rw[e1] at ht';by_cases cj:j = i
      ·subst cj;rw[ht] at ht';cases ht';obtain⟨x,h1,h2⟩:=FN hn a ha;exact⟨x,h1,h2.elim .inl λh=>.inr (hm x h)⟩
      ·exact hj j hjo ω t' ht' a ha
  ·rw[DP ω] at h;cases h;refine⟨λx hx=>hx,λb hb t ht a ha=>?_⟩;obtain⟨j,hj',rfl⟩:=ZF hb;exact hj j hj' ω t ht a ha
theorem HpF.closed {s:Al} {l:List AU} {met:List Int} (hf:HpF s l met):(∀a∈Da s,∃x,now l a = some x∧(x = 0∨x∈met))∧∀b∈met,∀t,BL l b = some t→∀a∈t.refs,∃x,now l a = some x∧(x = 0∨x∈met):=by
 have hh:=hf.head;unfold CU at hh;simp only[z_b] at hh;have hr:=hf.re;rw[EF hh.2] at hr;cases hn:Au l (Da s) [] with
 | none=>rw[hn] at hr;cases hr
 | some out=>
  rw[hn,z_o] at hr;obtain⟨h1,h2⟩:=JC hr λj h hj=>absurd hj ω
  refine⟨λa ha=>?_,h2⟩;obtain⟨x,e1,e2⟩:=FN hn a ha;exact⟨x,e1,e2.elim .inl λh=>.inr (h1 x h)⟩
end Sm
end
section
namespace Go.Lf
open Go Sm
section st
variable {R:RM} {s:Sm.Al} {wv tv mv thv ov pv:Value} {l:List AU} {met:List Int}
theorem Vh {hb mb:Nat} {v:Value} {a x:Int} (hv:HpV R s wv tv mv thv ov pv l met hb mb v) (hx:now l a = some x):Ro Fl [Pt hb,I a] (I x) R []:=by
 refine Hr λF=>?_
 refine z_2 ?_;obtain⟨o,h1,h2,h3,h4⟩:=hv;unfold now at hx;refine jeq (jif (λh=>?_) (λh=>?_))
 ·rw[if_pos (by simpa using h)] at hx;cases hx;exact BU rfl
 have h:a≠0:=by simpa using h
 rw[if_neg h] at hx;refine jnc (jfo (jlr (v:=.map (some mb)) h1 rfl ?_));refine @Pm _ _ _ mb o l a false (Li.fz h2) h3 (λe=>?_) (λt v e hv=>?_)
 ·rw[e] at hx;cases hx
 ·rw[e] at hx;obtain⟨rv,nv,rfl,_,_⟩:=hv;cases hx;exact jfd (v:=I t.moved) rfl (BU rfl)
end st
end Go.Lf
end
section
namespace Sm
structure PG where
 nodes:List (List Int × List Int)
 AC:List (List Int)
 pinned:List Int
end Sm
namespace Go.Lf
open Go Sm
section rules
variable {R:RM} {D:Chs}
theorem jci {ι:Type} {lv:List Nat} {B:(List Value→M)→M} {K:Env→M} (V:ι→List Value) (E:ι→Chs) (p:RM→ι→Prop)
  (H1:∀K' : List Value→M,(∀R' i,p R' i→J R' (E i) (K' (V i)))→J R D (B K')) (H2:∀e R' i,p R' i→lv.map e = V i→J R' (E i) (K e)):J R D (CUT lv B K):=
 AR (λvs R' D'=>∃i,p R' i∧D' = E i∧vs = V i) (λK' h=>H1 K' λ_ i hp=>h _ _ _ ⟨i,hp,rfl,rfl⟩) λe R' D' ⟨i,hp,h2,h3⟩=>by
  rw[h2];exact H2 e R' i hp h3
theorem jli {ι:Type} {lv:List Nat} {B:(List Value→M)→Env→M} {vs:List Value} (n:ι→Nat) (V:ι→List Value) (E:ι→Chs) (p:RM→ι→Prop) (i:ι) (h0:p R i) (hv:vs = V i) (hD:D = E i)
  (H:∀K e R' i,p R' i→lv.map e = V i→(∀R'' i',n i' < n i→p R'' i'→J R'' (E i') (K (V i')))→J R' (E i) (B K e)):J R D (LP lv B vs):=by
 subst hv;refine jlp (λm vs R' D'=>∃i,p R' i∧D' = E i∧vs = V i∧m = n i) (n:=n i) ⟨i,h0,hD,rfl,rfl⟩ ?_;rintro m e R1 D1 K ⟨i,hp,h2,h3,h4⟩ hK;rw[h2];exact H K e R1 i hp h3 λR'' i' hn hp'=>hK (n i') _ _ _ ω ⟨i',hp',rfl,rfl,rfl⟩
end rules
def NdC (R:RM) (row:List Value) (n:List Int × List Int):Prop:=∃rv nv,row = [rv,nv]∧BG R rv n.1∧BG R nv n.2
theorem NdC.le {R R' : RM} {row:List Value} {n:List Int × List Int} (h:R.le R') (H:NdC R row n):NdC R' row n:=by
 obtain⟨a,b,h1,h2,h3⟩:=H;exact⟨a,b,h1,h2.le h,h3.le h⟩
theorem NdC.len {R:RM} {row:List Value} {n:List Int × List Int} (H:NdC R row n):row.length = 2:=by obtain⟨a,b,rfl,_⟩:=H;rfl
def RwC (R:RM) (row:List Value) (l:List Int):Prop:=∃v,row = [v]∧BG R v l
theorem RwC.le {R R' : RM} {row:List Value} {l:List Int} (h:R.le R') (H:RwC R row l):RwC R' row l:=by
 obtain⟨a,h1,h2⟩:=H;exact⟨a,h1,h2.le h⟩
theorem RwC.len {R:RM} {row:List Value} {l:List Int} (H:RwC R row l):row.length = 1:=by obtain⟨a,rfl,_⟩:=H;rfl
def GrF (R:RM) (v:Value) (g:PG):Prop:=∃r1 r2 nv rv pv,v = .agg #[nv,rv,pv]∧Rw (NdC R) r1 g.nodes∧Fz R nv 2 r1.length r1.flatten∧Rw (RwC R) r2 g.AC∧Fz R rv 1 r2.length r2.flatten∧BG R pv g.pinned
theorem GrF.le {R R' : RM} {v:Value} {g:PG} (h:R.le R') (H:GrF R v g):GrF R' v g:=by
 obtain⟨r1,r2,nv,rv,pv,h1,h2,h3,h4,h5,h6⟩:=H;exact⟨r1,r2,nv,rv,pv,h1,h2.mono λ_ _=>NdC.le h,h3.le h,h4.mono λ_ _=>RwC.le h,h5.le h,h6.le h⟩
section st
variable {R:RM} {s:Sm.Al} {wv tv mv thv ov pv:Value} {l:List AU} {met:List Int}
theorem HpV.le {R R' : RM} {hb mb:Nat} {v:Value} (h:R.le R') (H:HpV R s wv tv mv thv ov pv l met hb mb v):HpV R' s wv tv mv thv ov pv l met hb mb v:=by
 obtain⟨o,h1,h2,h3,h4⟩:=H;exact⟨o,h _ _ h1,h _ _ h2,h3.le h,h4.le h⟩
theorem SO.frz {l:List Int} {v:Value} {A:Chs} (so:SO l v A):∃a c,v = .slice a l.length c:=by
 obtain⟨a,c,h⟩:=so.sln;exact⟨a,c,h⟩
end st
end Go.Lf
end
section
namespace Sm
open Go.Lf
theorem GM {l:List AU} {q:Int→Prop} (hq:∀x y,now l x = some y→y = 0∨q y):∀{xs acc r:List Int},(∀a∈acc,q a)→Au l xs acc = some r→∀a∈r,q a
 | [],acc,r,h0,h=>by cases h;exact h0
 | b :: xs,acc,r,h0,h=>by
  rw[Ca] at h;cases hn:now l b with
  | none=>rw[hn] at h;cases h
  | some y=>
   rw[hn] at h;refine GM hq (xs:=xs) (λa ha=>?_) h;unfold CZ at ha;split at ha
   ·exact h0 a ha
   ·rename_i c;rcases ZB.1 ha with ha | ha
    ·exact h0 a ha
    ·rw[Z8.1 ha];exact (hq _ _ hn).resolve_left λe=>c (.inl e)
theorem MP {l:List AU} {q:Int→Prop} (hq:∀x y,now l x = some y→y = 0∨q y):∀{n i:Nat} {out r:List Int},(∀a∈out,q a)→BW l n i out = some r→∀a∈r,q a
 | 0,i,out,r,h0,h=>by cases h
 | n + 1,i,out,r,h0,h=>by
  by_cases c:i < out.length
  ·cases ht:BL l out[i] with
   | none=>
    unfold BW at h;rw[Yi c] at h;dsimp only at h;rw[ht] at h;cases h
   | some t=>
    rw[DF c ht] at h;cases hn:Au l t.refs out with
    | none=>rw[hn] at h;cases h
    | some o=>rw[hn] at h;exact MP hq (GM hq h0 hn) h
  ·rw[DP ω] at h;cases h;exact h0
theorem HpF.nw {s:Al} {l:List AU} {met:List Int} (hf:HpF s l met):∀a∈met,∀t,BL l a = some t→t.moved = a:=by
 have hh:=hf.head;unfold CU at hh;simp only[z_b] at hh;have ES:=hh.1.1.1.1.1.1.1;unfold CY at ES;rw[ZC] at ES;have hq:∀x y,now l x = some y→y = 0∨∀t,BL l y = some t→t.moved = y:=λx y h=>by
  unfold now at h;split at h
  ·cases h;exact .inl rfl
  ·obtain⟨t,ht,rfl⟩:=Option.map_eq_some_iff.1 h;refine .inr λn hn=>?_
   obtain⟨hm,_⟩:=Bh ht;have:=ES t hm;unfold CD at this;rw[hn] at this;simp only[ZD,z_b,beq_iff_eq] at this;have hna:=(Bh hn).2;rcases this with e | e
   ·have h1:=Dn hf.S.nd hm;rw[← e,hn] at h1;cases h1;rfl
   ·rw[e.1.1.2,hna]
 have hr:=hf.re;rw[EF hh.2] at hr;cases hn:Au l (Da s) [] with
 | none=>rw[hn] at hr;cases hr
 | some out=>
  rw[hn,z_o] at hr;exact MP hq (GM hq (λa h=>by cases h) hn) hr
theorem HpF.tp {s:Al} {l:List AU} {met:List Int} (hf:HpF s l met):∀t∈l,∃k:Nat,∃h:k < s.A0.length,AN t.at_ = k∧t.at_ + AF t.sh≤(s.A0[k]).top:=by
 intro t ht;have h1:=hf.ths;unfold Ee at h1;split at h1;rotate_left
 ·cases h1
 unfold BJ at h1;obtain⟨g1,g2,g3,k,hk,g4,g5,g6⟩:=(EZ h1).2 t ht;rw[aD] at hk;refine⟨k + 1,ω,?_,?_⟩
 ·unfold AN;rw[if_neg ω];omega
 ·rw[List.getElem_tail] at g5;exact g5
end Sm
namespace Go.Lf
open Go Sm
end Go.Lf
end
section
namespace Sm
open Go.Lf
theorem Ko {w:List Int}:∀{n:Nat} {a top:Int} {l:List AU},As w n a top = some l→a≤top→(a = top∨∃y∈l,y.at_ = a)∧∀x∈l,x.at_ + AF x.sh = top∨∃y∈l,y.at_ = x.at_ + AF x.sh
 | 0,a,top,l,h,hle=>by
  unfold As at h;split at h
  ·cases h
  ·cases h;exact⟨.inl ω,λt ht=>by cases ht⟩
 | n + 1,a,top,l,h,hle=>by
  unfold As at h;split at h;rotate_left
  ·cases h;exact⟨.inl ω,λt ht=>by cases ht⟩
  dsimp only at h;split at h;rotate_left
  ·cases h
  rename_i h1 h2;simp only[z_b,z_d] at h2;have ha:(Ap w a).1.at_ = a:=by
   have:=h2.1;unfold Ap at this ⊢;split at this
   ·rename_i c1;rw[if_pos c1];dsimp only at this ⊢;split at this
    ·rename_i c2;rw[if_pos c2]
    ·cases this
   ·cases this
  cases ht:As w n (a + AF (Ap w a).1.sh) top with
  | none=>rw[ht] at h;cases h
  | some l2=>
   rw[ht] at h;cases h;obtain⟨i1,i2⟩:=Ko ht h2.2;refine⟨.inr ⟨_,aK,ha⟩,λx hx=>?_⟩;rcases Yx.1 hx with rfl | hx
   ·rw[ha];exact i1.imp id λ⟨y,h1,h2⟩=>⟨y,ZG _ h1,h2⟩
   ·exact (i2 x hx).imp id λ⟨y,h1,h2⟩=>⟨y,ZG _ h1,h2⟩
theorem MB {w:List Int}:∀{t:List Rg} {r:Nat} {l:List AU},Be w r t = some l→(∀x∈l,(∃k:Nat,∃h:k < t.length,x.at_ / 16 = r + k∧x.at_ + AF x.sh = (t[k]).top)∨∃y∈l,y.at_ = x.at_ + AF x.sh)∧∀(k:Nat) (h:k < t.length),(t[k]).top = 16 * (r + k)∨∃y∈l,y.at_ = 16 * (r + k)
 | [],r,l,h=>by cases h;exact⟨λt ht=>(by cases ht),λk h=>absurd h σ⟩
 | x :: t,r,l,h=>by
  unfold Be at h;cases h1:BN w r x.top with
  | none=>rw[h1] at h;cases h
  | some a=>
   rw[h1] at h;dsimp only at h;cases h2:Be w (r + 1) t with
   | none=>rw[h2] at h;cases h
   | some b=>
    rw[h2] at h;cases h;obtain⟨j1,j2⟩:=MB h2;have h3:=Mw h1;unfold BN at h1;split at h1;rotate_left
    ·cases h1
    rename_i c;simp only[z_b,z_d] at c;obtain⟨⟨⟨⟨c1,c2⟩,c3⟩,c4⟩,c5⟩:=c;have:(r:Int) < 12:=by
     unfold BM at c1;simp only[z_b,z_d] at c1;omega
    have hb:=CO (r:=(r:Int)) ω this;rw[hb] at h1 c4 c5;obtain⟨i1,i2⟩:=Ko h1 c4;refine⟨λy hy=>?_,λk hk=>?_⟩
    ·rcases ZB.1 hy with hy | hy
     ·rcases i2 y hy with e | ⟨z,z1,z2⟩
      ·have:=h3.2 y hy;exact .inl ⟨0,σ,ω,by simpa using e⟩
      ·exact .inr ⟨z,ZP _ z1,z2⟩
     ·rcases j1 y hy with ⟨k,hk,e1,e2⟩ | ⟨z,z1,z2⟩
      ·exact .inl ⟨k + 1,by simp;omega,ω,by simpa using e2⟩
      ·exact .inr ⟨z,Za _ z1,z2⟩
    ·cases k with
     | zero=>
      rcases i1 with e | ⟨z,z1,z2⟩
      ·exact .inl (by simp only[List.getElem_cons_zero];omega)
      ·exact .inr ⟨z,ZP _ z1,ω⟩
     | succ k=>
      rcases j2 k (by simpa using hk) with e | ⟨z,z1,z2⟩
      ·exact .inl (by simp only[ab];omega)
      ·exact .inr ⟨z,Za _ z1,ω⟩
theorem M5 {w:List Int} {x:AU} (h:Ap w x.at_ = (x,true)):AF x.sh = sz w x.at_∧(AJ (wv w (x.at_ + 1))).2 = true∧x = thg w x.at_:=by
 have h0:16≤x.at_:=by
  unfold Ap at h;split at h
  ·rename_i c;exact (Eg c).1
  ·cases h
 have e:wv w (x.at_ + 1) = w.getD (x.at_.toNat + 1) 0:=by
  unfold wv gv;rw[show (x.at_ + 1).toNat = x.at_.toNat + 1 from ω]
 unfold Ap at h;split at h;rotate_left
 ·cases h
 dsimp only at h;split at h;rotate_left
 ·cases h
 rename_i c1 c2;rw[z_b] at c2;have h1:=congrArg Prod.fst h;dsimp only at h1;have hs:x.sh = shp w x.at_:=by rw[← h1];unfold shp;rw[e]
 refine⟨by unfold sz;rw[hs],by rw[e];exact c2.1,?_⟩;rw[← h1];unfold thg shp;simp only[e];rfl
def bgs (l:List AU) (a:Int):Prop:=∃t∈l,t.at_ = a
theorem Ih {s:Al} {l:List AU} (h:Ee s = some l):Geo s.AA s.A0 (bgs l)∧Thn s.AA (bgs l) l∧BJ s = some l:=by
 unfold Ee at h;split at h;rotate_left
 ·cases h
 rename_i hf;unfold Eb at hf;simp only[z_b,beq_iff_eq] at hf;obtain⟨⟨⟨f1,f2⟩,f3⟩,f4⟩:=hf;have T:=Bm.1 f2;have hth:=h;unfold BJ at h;obtain⟨a1,a2⟩:=EZ h;obtain⟨c1,c2⟩:=MB h;have n0:=T.n0;unfold BM at f1;simp only[z_b,z_d,beq_iff_eq] at f1;have hrv:∀(k:Nat) (hk:k < s.A0.tail.length),rv s.A0 (1 + (k:Int)) = s.A0.tail[k]:=λk hk=>by
  have:=Hv (t:=s.A0) hk;rw[this];congr 1
 have hnd:=K0 a1 λx hx=>(a2 x hx).2.1
 refine⟨⟨ω,T,?_,?_,?_,?_⟩,⟨λx hx=>⟨⟨x,hx,rfl⟩,(M5 (a2 x hx).2.2.1).2.2⟩,?_⟩,hth⟩
 ·rintro a ⟨x,hx,rfl⟩;obtain⟨g1,g2,g3,k,hk,g4,g5,g6⟩:=a2 x hx;obtain⟨e1,e2,_⟩:=M5 g3;refine⟨ω,?_,e2⟩;rw[← e1,g4,show ((1:Nat):Int) + k = 1 + (k:Int) from rfl,hrv k hk];exact g5
 ·rintro a ⟨x,hx,rfl⟩;obtain⟨e1,_,_⟩:=M5 (a2 x hx).2.2.1;rw[← e1];rcases c1 x hx with ⟨k,hk,g4,g5⟩ | ⟨y,y1,y2⟩
  ·left;rw[g4,show ((1:Nat):Int) + k = 1 + (k:Int) from rfl,hrv k hk];exact g5
  ·exact .inr ⟨y,y1,y2⟩
 ·intro r r0 r1;obtain⟨k,rfl⟩:∃k:Nat,r = 1 + (k:Int):=⟨(r - 1).toNat,ω⟩;have hk:k < s.A0.tail.length:=by rw[aD];omega
  rw[hrv k hk];rcases c2 k hk with e | ⟨y,y1,y2⟩
  ·exact .inl ω
  ·exact .inr ⟨y,y1,ω⟩
 ·rintro a b ⟨x,hx,rfl⟩ ⟨y,hy,rfl⟩ hlt;obtain⟨e1,_,_⟩:=M5 (a2 x hx).2.2.1;rw[← e1];obtain⟨i,hi,rfl⟩:=ZF hx;obtain⟨j,hj,rfl⟩:=ZF hy;rw[List.pairwise_iff_getElem] at a1;by_cases c:i < j
  ·exact a1 i j hi hj c
  ·by_cases c' : i = j
   ·subst c';omega
   ·have:=a1 j i hj hi ω;have:=(a2 _ (Yq hj)).2.1;omega
 ·rintro a ⟨x,hx,rfl⟩;rw[← (M5 (a2 x hx).2.2.1).2.2];exact hx
end Sm
end
section
namespace Go.Lf
open Go Sm
def E0:Nat→List Th→Int
 | _,[]=>-1
 | i,t :: r=>if t.busy = true then i else E0 (i + 1) r
theorem LR {i:Nat} {t:Th} {r:List Th}:E0 i (t :: r) = if t.busy = true then (i:Int) else E0 (i + 1) r:=rfl
theorem IK:∀(l:List Th) (i:Nat),decide (E0 i l≥0) = l.any (·.busy)
 | [],i=>by simp[E0]
 | t :: r,i=>by
  unfold E0;cases h:t.busy with
  | true=>simp[h]
  | false=>simp only[List.any_cons,h,Yl];exact IK r (i + 1)
section
variable {R:RM} {D:Chs}
theorem TC {x:Value} {n t:Int} {b:Bool} (hx:flat x = true) (hx2:cl x = [x]):Ro EH [.agg #[x,I n,.bool b,I t]] (.bool b) R D:=by
 refine Nz λF=>?_
 refine z_1 ?_;exact ja λb1=>jfo (jl (v:=.bool b) rfl (Bn (BU rfl)))
theorem SI {v:Value} {l:List Th} (h:Ths R v l) (hl:l.length < 1000000):Ro E7 [v,.func (.func EH) #[] #[]] (I (E0 0 l)) R D:=by
 refine Fw λF=>?_
 refine z_2 ?_;obtain⟨a,c,hv⟩:=h.sl;refine C4 ⟨a,c,hv⟩ ?_;refine jli (λi:Nat=>l.length - i) (λi=>[v,.func (.func EH) #[] #[],I l.length,I i]) (λ_=>D ++ F) (λR' i=>R' = R∧i≤l.length∧E0 0 l = E0 i (l.drop i)) 0 ⟨rfl,ω,by rw[Zr]⟩ rfl rfl ?_;rintro K e R' i ⟨hR,hi,hinv⟩ he hK;subst hR;refine z_V ?_;refine jlt (jif (λc=>?_) (λc=>?_));rotate_left
 ·have c:=z_g c;refine BU ?_;rw[hinv,Yz ω];rfl
 have c:i < l.length:=by have:=z_f c;omega
 refine jtr h c λb o ty cs rv hrv hb ho hrow=>F0 hb ho hrow ?_
 obtain⟨ra,rc,rfl⟩:=hrv.sl;refine PT (by kernel_rfl) ?_;refine jro (TC rfl rfl) ?_;rw[Yv c,LR] at hinv;refine jif (λg=>?_) (λg=>?_)
 ·rw[if_pos g] at hinv;exact BU (by rw[hinv])
 ·rw[if_neg (by rw[g];decide)] at hinv;exact jad (hK R' (i + 1) ω ⟨rfl,ω,hinv⟩)
theorem RW {v:Value} {l:List Th} (h:Ths R v l) (hl:l.length < 1000000):Ro De [v,.func (.func EH) #[] #[]] (.bool (l.any (·.busy))) R D:=by
 refine F4 λF=>?_
 refine z_2 ?_;refine jro (SI h hl) (jge ?_);rw[IK];exact BU rfl
end
def Dj (s:Sm.Al):Option (List AU × List Int):=if s.A6.any (·.busy) then none else Ci s
section st
variable {R:RM} {s:Sm.Al} {wv tv mv thv ov pv:Value}
def Mn (r:Option (List AU × List Int)) (s:Sm.Al) (wv tv mv thv ov pv:Value) (x:Value) (R:RM):Prop:=match r with
 | none=>x = .pointer none
 | some (l,met)=>∃hb mb v,x = Pt hb∧HpV R s wv tv mv thv ov pv l met hb mb v
set_option maxRecDepth 4000 in
theorem SD (h:SF R s wv tv mv thv ov pv):Fn P MH [.agg (eSt s wv tv mv thv ov pv).toArray] R [] (λr R' A=>A = []∧Mn (Dj s) s wv tv mv thv ov pv r R'):=by
 refine Rr λF=>?_
 refine z_1 ?_;refine ja λsb=>BQ (b:=sb) λR0 hR0 hsb=>F0 hsb (by exact z_n 13) rfl ?_
 have h:=h.le hR0;refine jc (A:=[]) (Pz h) ?_;rintro x R1 _ hR1 ⟨rfl,hq⟩;have h:=h.le hR1;have hsb:=hR1 _ _ hsb;have hR1:=hR0.trans hR1;have fu:=h.b.fu;have n1:=h.b.n1;have fin:∀(t:Bool),(t = true→Dj s = none)→(t = false→Mn (Dj s) s wv tv mv thv ov pv x R1)→J R1 ([] ++ F) (IF (.bool t) (Ey R F (λr R' A=>A = []∧Mn (Dj s) s wv tv mv thv ov pv r R') (.pointer none)) (Ey R F (λr R' A=>A = []∧Mn (Dj s) s wv tv mv thv ov pv r R') x)):=λt g1 g2=>by
  refine jif (λg=>B9 (A:=[]) hR1 ⟨rfl,?_⟩) (λg=>B9 (A:=[]) hR1 ⟨rfl,g2 g⟩);rw[g1 g];rfl
 obtain⟨bn,hbn,hx⟩:∃bn:Bool,(bn = (Ci s).isNone)∧∀(y z:Operand) (w:World),(do eqGuard .eql 86 y z x (.pointer none);binOp .eql 86 x (.pointer none):Sem Value).run P w = .ok (.bool bn) w:=by
  cases hh:Ci s with
  | none=>
   rw[hh] at hq;obtain rfl:x = _:=hq;exact⟨true,rfl,λy z w=>WE w y z⟩
  | some q=>
   obtain⟨l,met⟩:=q;rw[hh] at hq;obtain⟨hb,mb,v,rfl,hv⟩:=hq;exact⟨false,rfl,λy z w=>WH w y z hb⟩
 refine jor [Pt sb,x] bn (λK' hK'=>?_) (λe c u ho he=>?_)
 ·refine jxr (hx _ _) (BR (λg=>?_) (λg=>?_))
  ·rw[g];exact jfo (jlr (v:=I s.BA) hsb rfl (jlt (hK' _ _ _ Ah (by rw[g];exact decide_eq_false ω))))
  ·rw[g];exact hK' _ _ _ Am g.symm
 refine z_V ?_;refine jor [Pt sb,x] bn (λK' hK'=>?_) (λe c u ho2 he=>?_)
 ·rw[ho];refine BR (λg=>?_) (λg=>?_)
  ·rw[g];exact jfo (jlr (v:=I s.BA) hsb rfl (jgr (hK' _ _ _ Ah (by rw[g];exact decide_eq_false ω))))
  ·rw[g];exact hK' _ _ _ Am g.symm
 refine z_V ?_;refine jor [x] (bn || s.A6.any (·.busy)) (λK' hK'=>?_) (λe c u ho3 he=>?_)
 ·rw[ho2];refine BR (λg=>?_) (λg=>?_)
  ·rw[g];exact jfo (jlr (v:=thv) hsb rfl (jro (RW h.c.th ω) (hK' _ _ _ Ah (by rw[g,Yl]))))
  ·rw[g];exact hK' _ _ _ Am (by rw[g,Yo])
 refine z_V ?_;rw[ho3];refine fin _ (λg=>?_) (λg=>?_)
 ·unfold Dj;rw[ZD] at g;rcases g with g | g
  ·rw[hbn] at g;split
   ·rfl
   ·exact Option.isNone_iff_eq_none.1 g
  ·rw[if_pos g]
 ·rw[Z4] at g;unfold Dj;rw[if_neg (by rw[g.2];decide)];cases hh:Ci s with
  | none=>rw[hbn,hh] at g;exact absurd g.1 δ
  | some q=>
   obtain⟨l,met⟩:=q;rw[hh] at hq;exact hq
theorem Sr {hb mb:Nat} {v:Value} {l:List AU} {met:List Int} (h:SF R s wv tv mv thv ov pv) (hv:HpV R s wv tv mv thv ov pv l met hb mb v):Fn P GK [Pt hb] R [] (λr R' A=>R' = R∧∃b o,r = .map (some b)∧MpI o (λr=>Ao s.AG r = true)∧A = [(b,o)]):=by
 refine Ke λF=>?_
 refine z_1 ?_;obtain⟨o,h1,h2,h3,h4⟩:=hv;have pl:=h.b.pl;have pvv:=h.b.pv;refine Wy λb o0 ho0=>?_
 refine jci (λ_:Obj=>[.map (some b)]) (λo=>(b,o) :: ([] ++ F)) (λR' o=>R' = R∧MpI o (λr=>Ao s.AG r = true)) (λK1 k1=>?_) ?_
 ·obtain⟨pa,pc,hpv⟩:=h.c.p.sl;refine jnc (jfo (jfo (jlr (v:=pv) h1 rfl (C4 ⟨pa,pc,hpv⟩ ?_))));refine jci (λ_:Obj=>[.map (some b)]) (λo=>(b,o) :: ([] ++ F)) (λR' o=>R' = R∧MpI o (λr=>Ao s.AG r = true)) (λK2 k2=>?_) ?_;rotate_left
  ·rintro e R' o hp he;refine z_V ?_;exact k1 R' o hp
  refine jli (λi:Nat × Obj=>s.AG.length - i.1) (λi=>[.map (some b),pv,I s.AG.length,I i.1]) (λi=>(b,i.2) :: ([] ++ F)) (λR' i=>R' = R∧i.1≤s.AG.length∧MpI i.2 (λr=>Ao (s.AG.take i.1) r = true)) (0,o0) ⟨rfl,σ,by simpa [Ao] using ho0⟩ rfl rfl ?_;rintro K e R' ⟨i,o⟩ ⟨hR,hi,hm⟩ he hK;subst hR;dsimp only at hi hm he;refine z_V ?_;refine jlt (jif (λc=>?_) (λc=>?_));rotate_left
  ·have c:=z_g c;rw[Ys ω] at hm;exact k2 R' o ⟨rfl,hm⟩
  have c:i < s.AG.length:=by have:=z_f c;omega
  have hpi:=pvv _ (Yq c);refine CE h.c.p ω ω ?_;simp only[Yj];refine jp (Ef hpi.1 ω) (@jmu _ _ _ _ _ _ _ _ _ hm λo' hm'=>?_);refine jad (hK R' (i + 1,o') (by dsimp only;omega) ⟨rfl,c,?_⟩);have e:(λr=>Ao (s.AG.take (i + 1)) r = true) = λy=>Ao (s.AG.take i) y = true∨y = AN s.AG[i]:=by
   funext r;rw[Yp c];unfold Ao;simp only[List.any_append,List.any_cons,List.any_nil,Bool.or_false,ZD,beq_iff_eq];exact propext ⟨λh=>h.imp id Eq.symm,λh=>h.imp id Eq.symm⟩
  dsimp only;rw[e];exact hm'
 rintro e R' o ⟨hR,hm⟩ he;subst hR;refine z_V ?_;exact B9 (A:=[(b,o)]) (RM.le.refl _) ⟨rfl,b,o,rfl,hm,rfl⟩
end st
end Go.Lf
end
section
namespace Sm
open Go.Lf
def nxt (AG tops:List Int) (n:Int):Nat→Nat→Nat
 | 0,r=>r
 | f + 1,r=>if r < tops.length∧(Ao AG r = true∨AH r + 16 < tops.getD r 0 + n) then nxt AG tops n f (r + 1) else r
def EW (l:List AU) (a:Int):Int:=match BL l a with | some t=>AF t.sh | none=>2
def Dd (AG:List Int) (l:List AU):List Int→List Int→Nat→Option (List Int × List Int)
 | [],tops,_=>some ([],tops)
 | a :: rest,tops,r=>if Ao AG (AN a) = true then (Dd AG l rest tops r).map λq=>(a :: q.1,q.2) else
  if nxt AG tops (EW l a) (tops.length + 1) r = tops.length then none else
  (Dd AG l rest (tops.set (nxt AG tops (EW l a) (tops.length + 1) r) (tops.getD (nxt AG tops (EW l a) (tops.length + 1) r) 0 + EW l a)) (nxt AG tops (EW l a) (tops.length + 1) r)).map λq=>(tops.getD (nxt AG tops (EW l a) (tops.length + 1) r) 0 :: q.1,q.2)
def Rel (tops:List Int) (t:List Rg):Prop:=tops.length = t.length∧∀q:Nat,1≤q→q < t.length→tops.getD q 0 = (rv t q).top
theorem QS {AG tops:List Int} {t:List Rg} {size:Int} (hl:t.length≤12) (h:Rel tops t):∀(n:Nat) (r r' : Int),Er AG t size n r = some r'→1≤r→r' < t.length→∀f:Nat,r' - r < f→nxt AG tops size f r.toNat = r'.toNat∧r≤r'
 | 0,r,r',e,_,_,f,_=>by cases e
 | n + 1,r,r',e,h1,h2,f,hf=>by
  unfold Er at e;have key:Er AG t size n (r + 1) = some r'→(Ao AG r = true∨AH r + 16 < (rv t r).top + size)→nxt AG tops size f r.toNat = r'.toNat∧r≤r':=λe1 hc=>by
   have hle:=(QS hl h n (r + 1) _ e1 ω h2 (r' - r).toNat.succ ω).2;cases f with
   | zero=>omega
   | succ f=>
    obtain⟨g1,g2⟩:=QS hl h n (r + 1) _ e1 ω h2 f ω;refine⟨?_,ω⟩;unfold nxt;rw[if_pos]
    ·rw[← g1];congr 1;omega
    ·refine⟨by rw[h.1];omega,?_⟩;rw[show ((r.toNat:Nat):Int) = r from ω,h.2 r.toNat ω ω,show ((r.toNat:Nat):Int) = r from ω];exact hc
  by_cases hh:Ao AG r = true
  ·rw[if_pos hh] at e;exact key e (.inl hh)
  ·rw[if_neg hh] at e;obtain⟨x,hx,e⟩:=AD e;obtain⟨p,hp,e⟩:=AD e;obtain⟨x0,x1,x2⟩:=FJ DO hx;have hxr:x = rv t r:=x2.symm;have hp:p = x.top + size:=by unfold Cf at hp;split at hp<;>cases hp;rfl
   by_cases c:AH r + 16 < p
   ·rw[if_pos c] at e;exact key e (.inr (by rw[← hxr,← hp];exact c))
   ·rw[if_neg c] at e;cases e;refine⟨?_,ZI _⟩;cases f with
    | zero=>omega
    | succ f=>
     unfold nxt;rw[if_neg];rintro⟨_,c2⟩;rw[show ((r.toNat:Nat):Int) = r from ω,h.2 r.toNat ω ω,show ((r.toNat:Nat):Int) = r from ω] at c2;rcases c2 with c2 | c2
     ·exact hh c2
     ·rw[← hxr,← hp] at c2;exact c c2
def LY (AG:List Int) (r:Int) (top:Int):Rg:=if AH r < top∨Ao AG r = true then ⟨3,-1,top,top,0⟩ else DH r
theorem HQ {AG:List Int} {l:List AU}:∀(la:List Int) (t t' : List Rg) (r:Int) (to out tops:List Int),slide AG l la t r to = some (t',out)→t.length≤12→1≤r→Rel tops t→(∀q:Int,1≤q→q < t.length→rv t q = LY AG q (rv t q).top∧AH q≤(rv t q).top)→(∀a∈la,∀x,BL l a = some x→0 < AF x.sh)→
  ∃to' tops',out = to ++ to'∧Dd AG l la tops r.toNat = some (to',tops')∧Rel tops' t'∧t'.length = t.length∧(∀q:Int,1≤q→q < t.length→rv t' q = LY AG q (rv t' q).top∧AH q≤(rv t' q).top)∧to'.length = la.length
 | [],t,t',r,to,out,tops,h,hl,h1,hr,hf,_=>by
  cases h;exact⟨[],tops,σ,rfl,hr,rfl,hf,rfl⟩
 | a :: la,t,t',r,to,out,tops,h,hl,h1,hr,hf,hs=>by
  unfold slide at h;obtain⟨x,hx,h⟩:=AD h;have hsz:EW l a = AF x.sh:=by unfold EW;rw[hx]
  have hs':=λb hb=>hs b (ZG _ hb)
  by_cases hh:Ao AG (AN a) = true
  ·rw[if_pos hh] at h;obtain⟨to',tops',g1,g2,g3,g4,g5,g6⟩:=HQ la t t' r (to ++ [a]) out tops h hl h1 hr hf hs';refine⟨a :: to',tops',by rw[g1];simp,?_,g3,g4,g5,by simp[g6]⟩;unfold Dd;rw[if_pos hh,g2];rfl
  ·rw[if_neg hh] at h;obtain⟨r',hr',h⟩:=AD h;obtain⟨row,hrow,h⟩:=AD h;obtain⟨top,htop,h⟩:=AD h;obtain⟨x0,x1,x2⟩:=FJ DO hrow;have hxr:row = rv t r':=x2.symm;have ht:top = row.top + AF x.sh:=by unfold Cf at htop;split at htop<;>cases htop;rfl
   obtain⟨n1,n2⟩:=QS hl hr _ _ _ hr' h1 x1 (tops.length + 1) (by rw[hr.1];omega);have h0:=hs a σ x hx;have et:∀q:Int,0≤q→rv (AT t r' { row with kind:=3,top:=top,BE:=top }) q = if q = r' then { row with kind:=3,top:=top,BE:=top } else rv t q:=λq q0=>DS ω x1 q0
   have hrowf:=hf r' ω x1;have hnf:rv t r' = { rv t r' with AV:=-1,AO:=0 }:=by
    rw[hrowf.1];unfold LY;split<;>rfl
   have hrel:Rel (tops.set r'.toNat (tops.getD r'.toNat 0 + AF x.sh)) (AT t r' { row with kind:=3,top:=top,BE:=top }):=by
    refine⟨by rw[ZV,hr.1];simp[AT],λq q1 q2=>?_⟩;have q2:q < t.length:=by simpa [AT] using q2
    rw[et q ω,Ym,aV];by_cases c:r'.toNat = q
    ·rw[if_pos c,if_pos (by rw[hr.1];omega),if_pos ω];show tops.getD r'.toNat 0 + AF x.sh = top;rw[hr.2 _ ω ω,show ((r'.toNat:Nat):Int) = r' from ω,ht,hxr]
    ·rw[if_neg c,if_neg ω,← Ym];exact hr.2 q q1 q2
   obtain⟨to',tops',g1,g2,g3,g4,g5,g6⟩:=HQ la _ t' r' (to ++ [row.top]) out _ h (by simpa [AT] using hl) ω hrel (λq q1 q2=>by
     have q2:q < t.length:=by simpa [AT] using q2
     rw[et q ω]
     by_cases c:q = r'
     ·subst c
      simp only[if_true]
      have e1:=hrowf.2
      have e2:AH q < top:=by rw[ht,hxr];omega
      refine⟨?_,ω⟩
      unfold LY
      rw[if_pos (.inl e2)]
      rw[hnf] at hxr
      rw[hxr]
     ·rw[if_neg c];exact hf q q1 q2) hs'
   refine⟨row.top :: to',tops',by rw[g1];simp,?_,g3,by rw[g4];simp[AT],λq q1 q2=>g5 q q1 (by simpa [AT] using q2),by simp[g6]⟩;unfold Dd;rw[if_neg hh,hsz,n1,if_neg (by rw[hr.1];omega),g2];show some (tops.getD r'.toNat 0 :: to',tops') = _;rw[hr.2 _ ω ω,show ((r'.toNat:Nat):Int) = r' from ω,← hxr]
def By:List Int→Int→List Int→List Int
 | w,_,[]=>w
 | w,a,v :: c=>By (AT w a v) (a + 1) c
theorem Dh:∀{c w:List Int} {a:Int},(By w a c).length = w.length
 | [],_,_=>rfl
 | v :: c,w,a=>by unfold By;rw[Dh];simp[AT]
theorem Ga:∀{c w:List Int} {a x:Int},0≤a→a + c.length≤w.length→0≤x→wv (By w a c) x = if a≤x∧x < a + c.length then c.getD (x - a).toNat 0 else wv w x
 | [],w,a,x,h0,h1,hx=>by unfold By;rw[if_neg σ]
 | v :: c,w,a,x,h0,h1,hx=>by
  unfold By;simp only[Yt] at h1;rw[Ga ω (by simp[AT];omega) hx,Cb ω ω hx];simp only[Yt];by_cases c1:a + 1≤x∧x < a + 1 + c.length
  ·rw[if_pos c1,if_pos ω,show (x - a).toNat = (x - (a + 1)).toNat + 1 from ω];rfl
  ·rw[if_neg c1];by_cases c2:x = a
   ·subst c2;rw[if_pos rfl,if_pos ω,Int.sub_self];rfl
   ·rw[if_neg c2,if_neg ω]
theorem PF:∀{vs w:List Int} {a:Int},0≤a→a + vs.length≤w.length→wrs w a vs = some (By w a vs)
 | [],w,a,_,_=>rfl
 | v :: vs,w,a,h0,h1=>by
  simp only[Yt] at h1;unfold wrs By;rw[GB h0 ω];exact PF ω (by simp[AT];omega)
theorem Ge:∀{c d w:List Int} {a:Int},By w a (c ++ d) = By (By w a c) (a + c.length) d
 | [],d,w,a=>by simp[By]
 | v :: c,d,w,a=>by
  show By (AT w a v) (a + 1) (c ++ d) = By (By (AT w a v) (a + 1) c) (a + ((v :: c).length:Nat)) d;rw[Ge,show a + 1 + (c.length:Int) = a + ((v :: c).length:Nat) from by simp only[Yt];omega]
theorem Sz {w1 w2:List Int} (hl:w1.length = w2.length) (h:∀x,0≤x→wv w1 x = wv w2 x):w1 = w2:=by
 apply aM hl;intro i h1 h2;have:=h i ω;unfold wv gv at this;simp only[Yj,Ym,Yi h1,Yi h2,Zi] at this;exact this
theorem MG {w:List Int} {a:Int} (h0:0≤a) (h1:a < w.length):AT w a (wv w a) = w:=
 Sz (by simp[AT]) λx hx=>by
  rw[Cb h0 h1 hx];by_cases c:x = a
  ·rw[if_pos c,c]
  ·rw[if_neg c]
def plc (l:List AU) (AO to:List Int) (v:Int):Int:=match now l v with
 | some u=>if u∈AO then to.getD (AO.idxOf u) 0 else 0
 | none=>0
theorem Oc {l:List AU} {AO to:List Int} (hlen:to.length = AO.length):∀(vs w:List Int) (a:Int),(∀v∈vs,∃u,now l v = some u)→0≤a→a + vs.length≤w.length→(∀x,a≤x→x < a + vs.length→wv w x = 0)→
  FC l AO to w a vs = some (By w a (vs.map (plc l AO to)))
 | [],w,a,_,_,_,_=>rfl
 | v :: r,w,a,hv,h0,h1,hz=>by
  simp only[Yt] at h1 hz;obtain⟨u,hu⟩:=hv v σ;unfold FC;rw[hu,ZX];simp only[Yn,z_o];unfold By;have e:(if 0≤Bl AO u then (idx to (Bl AO u)).bind λx=>wr w a x else some w) = some (AT w a (plc l AO to v)):=by
   unfold plc;rw[hu];dsimp only;by_cases c:u∈AO
   ·have hp:=(Cv (l:=AO) (n:=u)).1 c;have e1:Bl AO u = (AO.idxOf u:Nat):=by unfold Bl;rw[if_pos c]
    rw[if_pos hp.1,if_pos c,e1];have hk:AO.idxOf u < to.length:=by rw[hlen];exact ad c
    unfold idx;rw[if_pos ω];simp only[Yj,Yi hk,z_o,Ym,Zi];exact GB h0 ω
   ·rw[(Cv (l:=AO) (n:=u)).2 c,if_neg δ,if_neg c];have:=MG (w:=w) h0 ω;rw[hz a (ZI _) ω] at this;rw[this]
  rw[e];simp only[z_o];exact Oc hlen r _ (a + 1) (λv hv'=>hv v (ZG _ hv')) ω (by simp[AT];omega) λx hx1 hx2=>by
   rw[Cb h0 ω ω,if_neg ω];exact hz x ω ω
def Bi (w:List Int) (bl:List (Int × List Int)):List Int:=bl.foldl (λw b=>By w b.1 b.2) w
theorem C8:∀{bl:List (Int × List Int)} {w:List Int},(Bi w bl).length = w.length
 | [],_=>rfl
 | b :: bl,w=>by
  show (Bi (By w b.1 b.2) bl).length = _;rw[C8,Dh]
def inB (b:Int × List Int) (x:Int):Prop:=b.1≤x∧x < b.1 + b.2.length
theorem EC:∀{bl:List (Int × List Int)} {w:List Int} {x:Int},(∀b∈bl,0≤b.1∧b.1 + b.2.length≤w.length)→0≤x→(∀b∈bl,¬ inB b x)→wv (Bi w bl) x = wv w x
 | [],_,_,_,_,_=>rfl
 | b :: bl,w,x,h,hx,hn=>by
  show wv (Bi (By w b.1 b.2) bl) x = _;rw[EC (λc hc=>by rw[Dh];exact h c (ZG _ hc)) hx λc hc=>hn c (ZG _ hc)];have hb:=h b σ;rw[Ga hb.1 hb.2 hx];exact if_neg (hn b σ)
theorem Ek:∀{bl:List (Int × List Int)} {w:List Int} {x:Int} {b:Int × List Int},(∀b∈bl,0≤b.1∧b.1 + b.2.length≤w.length)→bl.Pairwise (λb c=>∀x,¬ (inB b x∧inB c x))→b∈bl→inB b x→wv (Bi w bl) x = b.2.getD (x - b.1).toNat 0
 | [],_,_,_,_,_,hb,_=>by cases hb
 | c :: bl,w,x,b,h,hp,hb,hx=>by
  rw[aL] at hp;show wv (Bi (By w c.1 c.2) bl) x = _;have h' : ∀d∈bl,0≤d.1∧d.1 + d.2.length≤(By w c.1 c.2).length:=λd hd=>by rw[Dh];exact h d (ZG _ hd)
  have hc:=h c σ;rcases Yx.1 hb with rfl | hb
  ·have x0:0≤x:=by have:=hx.1;omega
   rw[EC h' x0 λd hd hdx=>hp.1 d hd x ⟨hx,hdx⟩,Ga hc.1 hc.2 x0];exact if_pos hx
  ·exact Ek h' hp.2 hb hx
def DY (l:List AU) (AO to:List Int) (a d:Int):Int × List Int:=(d,match BL l a with
 | some t=>d :: AZ t.sh :: (t.refs.map (plc l AO to) ++ t.nums)
 | none=>[])
theorem P1 {l:List AU} {AO to:List Int} (hlen:to.length = AO.length):∀(la ld w:List Int),la.length = ld.length→
  (∀p∈la.zip ld,∃t,BL l p.1 = some t∧(∀v∈t.refs,∃u,now l v = some u)∧0≤p.2∧p.2 + (2 + t.refs.length + t.nums.length:Nat)≤w.length∧∀x,p.2 + 2≤x→x < p.2 + 2 + t.refs.length→wv w x = 0)→
  ((la.zip ld).map λp=>DY l AO to p.1 p.2).Pairwise (λb c=>∀x,¬ (inB b x∧inB c x))→
  FU l AO to la ld w = some (Bi w ((la.zip ld).map λp=>DY l AO to p.1 p.2))
 | [],[],w,_,_,_=>rfl
 | [],_ :: _,w,h,_,_=>by simp at h
 | _ :: _,[],w,h,_,_=>by simp at h
 | a :: la,d :: ld,w,h,hp,hd=>by
  rw[aT] at hp hd ⊢;rw[ZX,aL] at hd;obtain⟨t,ht,hr,d0,d1,hz⟩:=hp (a,d) σ;dsimp only at ht d0 d1 hz;have eb:DY l AO to a d = (d,d :: AZ t.sh :: (t.refs.map (plc l AO to) ++ t.nums)):=by unfold DY;rw[ht]
  have eset:∀x:Int,0≤x→wv (AT (AT w d d) (d + 1) (AZ t.sh)) x = if x = d + 1 then AZ t.sh else if x = d then d else wv w x:=λx hx=>by
   rw[Cb ω (by simp[AT];omega) hx];split
   ·rfl
   ·rw[Cb ω ω hx]
  have e:(do
    let w ← wr w d d
    let w ← wr w (d + 1) (AZ t.sh)
    let w ← FC l AO to w (d + 2) t.refs
    wrs w (d + 2 + t.refs.length) t.nums) = some (By w d (d :: AZ t.sh :: (t.refs.map (plc l AO to) ++ t.nums))):=by
   rw[GB d0 ω];simp only[Yn,z_o];rw[GB ω (by simp[AT];omega)];simp only[z_o];rw[Oc hlen t.refs _ (d + 2) hr ω (by simp[AT];omega) λx h1 h2=>by
    rw[eset x ω,if_neg ω,if_neg ω];exact hz x h1 h2]
   simp only[z_o];rw[PF ω (by rw[Dh];simp[AT];omega)];have e9:By w d (d :: AZ t.sh :: (t.refs.map (plc l AO to) ++ t.nums)) = By (By (AT (AT w d d) (d + 1) (AZ t.sh)) (d + 1 + 1) (t.refs.map (plc l AO to))) (d + 1 + 1 + ((t.refs.map (plc l AO to)).length:Nat)) t.nums:=Ge;rw[e9,Z1,show d + 1 + 1 = d + 2 from ω]
  unfold FU;rw[ht];simp only[Yn,z_o] at e ⊢;have:=P1 hlen la ld (By w d (d :: AZ t.sh :: (t.refs.map (plc l AO to) ++ t.nums))) (by simpa using h) (λp hpm=>by
   obtain⟨t2,h1,h2,h3,h4,h5⟩:=hp p (ZG _ hpm)
   refine⟨t2,h1,h2,h3,by rw[Dh];exact h4,λx hx1 hx2=>?_⟩
   rw[Ga d0 (by simp;omega) ω,if_neg]
   ·exact h5 x hx1 hx2
   ·intro hc
    refine hd.1 _ (Zw hpm) x ⟨by rw[eb];exact hc,?_⟩
    unfold DY inB
    rw[h1]
    dsimp only
    refine⟨ω,?_⟩
    simp only[Yt,Yk,Z1];omega) hd.2
  rw[ZX];show _ = some (Bi (By w (DY l AO to a d).1 (DY l AO to a d).2) _);rw[eb,← this];revert e;cases wr w d d with
  | none=>intro e;cases e
  | some w1=>
   simp only[z_o];cases wr w1 (d + 1) (AZ t.sh) with
   | none=>intro e;cases e
   | some w2=>
    simp only[z_o];cases FC l AO to w2 (d + 2) t.refs with
    | none=>intro e;cases e
    | some w3=>
     simp only[z_o];intro e;rw[e];rfl
theorem MC:∀{n:Nat} {w:List Int} {a:Int},0≤a→a + n≤w.length→(∀x,a≤x→x < a + n→wv w x = 0)→By w a (List.replicate n 0) = w
 | 0,w,a,_,_,_=>rfl
 | n + 1,w,a,h0,h1,hz=>by
  have e:=MG (w:=w) h0 ω;rw[hz a (ZI _) ω] at e;show By (AT w a 0) (a + 1) (List.replicate n 0) = w;rw[e];exact MC ω ω λx h2 h3=>hz x ω ω
def EQ (x:AU):Int × List Int:=(x.at_,x.at_ :: AZ x.sh :: (List.replicate x.refs.length 0 ++ x.nums))
theorem HY {s:Al}:∀(l:List AU) (w:List Int) (t:List Rg) (w' : List Int) (t' : List Rg),stay s l w t = some (w',t')→
  (∀x∈l,Ao s.AG (AN x.at_) = true→0≤x.at_∧x.at_ + (2 + x.refs.length + x.nums.length:Nat)≤w.length∧∀y,x.at_ + 2≤y→y < x.at_ + 2 + x.refs.length→wv w y = 0)→
  ((l.filter λx=>Ao s.AG (AN x.at_)).map EQ).Pairwise (λb c=>∀x,¬ (inB b x∧inB c x))→
  w' = Bi w ((l.filter λx=>Ao s.AG (AN x.at_)).map EQ)
 | [],w,t,w',t',h,_,_=>by cases h;rfl
 | x :: l,w,t,w',t',h,hp,hd=>by
  unfold stay at h;dsimp only at h;by_cases hh:Ao s.AG (AN x.at_) = true
  ·rw[if_pos hh] at h;rw[List.filter_cons_of_pos (by simpa using hh),ZX,aL] at hd;obtain⟨a0,a1,a2⟩:=hp x σ hh;rw[GB a0 ω] at h;simp only[Yn,z_o] at h;rw[GB ω (by simp[AT];omega)] at h;simp only[z_o] at h;rw[PF ω (by simp[AT];omega)] at h;simp only[z_o] at h;obtain⟨row,_,h⟩:=AD h;obtain⟨_,_,h⟩:=AD h;have e:By (AT (AT w x.at_ x.at_) (x.at_ + 1) (AZ x.sh)) (x.at_ + 2 + x.refs.length) x.nums = By w x.at_ (x.at_ :: AZ x.sh :: (List.replicate x.refs.length 0 ++ x.nums)):=by
    have e9:By w x.at_ (x.at_ :: AZ x.sh :: (List.replicate x.refs.length 0 ++ x.nums)) = By (By (AT (AT w x.at_ x.at_) (x.at_ + 1) (AZ x.sh)) (x.at_ + 1 + 1) (List.replicate x.refs.length 0)) (x.at_ + 1 + 1 + ((List.replicate x.refs.length (0:Int)).length:Nat)) x.nums:=Ge;rw[e9,Yy,show x.at_ + 1 + 1 = x.at_ + 2 from ω,MC ω (by simp[AT];omega)];intro y h1 h2;rw[Cb ω (by simp[AT];omega) ω,if_neg ω,Cb a0 ω ω,if_neg ω];exact a2 y h1 h2
   rw[e] at h;rw[List.filter_cons_of_pos (by simpa using hh),ZX];exact HY l _ _ _ _ h (λy hy hyh=>by
    obtain⟨b0,b1,b2⟩:=hp y (ZG _ hy) hyh
    refine⟨b0,by show _≤((By w x.at_ _).length:Int);rw[Dh];exact b1,λz h1 h2=>?_⟩
    show wv (By w x.at_ (x.at_ :: AZ x.sh :: (List.replicate x.refs.length 0 ++ x.nums))) z = 0
    rw[Ga a0 (by simp;omega) ω,if_neg]
    ·exact b2 z h1 h2
    ·intro hc
     refine hd.1 _ (Zw (Ze.2 ⟨hy,by simpa using hyh⟩)) z ⟨hc,?_⟩
     unfold EQ inB
     dsimp only
     refine⟨ω,?_⟩
     simp only[Yt,Yk,Yy];omega) hd.2
  ·rw[if_neg hh] at h;rw[List.filter_cons_of_neg (by simpa using hh)] at hd ⊢;exact HY l w t w' t' h (λy hy=>hp y (ZG _ hy)) hd
theorem Kx {AG:List Int} {t:List Rg} {size:Int} (hl:t.length≤12):∀(n:Nat) (r r' : Int),Er AG t size n r = some r'→1≤r→r≤r'∧Ao AG r' = false∧r' < t.length∧(rv t r').top + size≤16 * r' + 16
 | 0,r,r',e,_=>by cases e
 | n + 1,r,r',e,h1=>by
  unfold Er at e;by_cases hh:Ao AG r = true
  ·rw[if_pos hh] at e;obtain⟨g1,g2⟩:=Kx hl n (r + 1) r' e ω;exact⟨ω,g2⟩
  ·rw[if_neg hh] at e;obtain⟨x,hx,e⟩:=AD e;obtain⟨p,hp,e⟩:=AD e;obtain⟨x0,x1,x2⟩:=FJ DO hx;have hxr:x = rv t r:=x2.symm;have hp:p = x.top + size:=by unfold Cf at hp;split at hp<;>cases hp;rfl
   by_cases c:AH r + 16 < p
   ·rw[if_pos c] at e;obtain⟨g1,g2⟩:=Kx hl n (r + 1) r' e ω;exact⟨ω,g2⟩
   ·rw[if_neg c] at e;cases e;rw[CO ω ω] at c;exact⟨ZI _,by simpa using hh,x1,by rw[← hxr];omega⟩
theorem LK {AG:List Int} {l:List AU}:∀(la:List Int) (t t' : List Rg) (r:Int) (to out:List Int),slide AG l la t r to = some (t',out)→t.length≤12→1≤r→(∀q:Int,1≤q→q < t.length→16 * q≤(rv t q).top)→(∀a∈la,0≤a∧∀x,BL l a = some x→0 < AF x.sh)→la.Nodup→
  ∃to',out = to ++ to'∧to'.length = la.length∧to'.Nodup∧∀p∈la.zip to',(Ao AG (AN p.1) = true∧p.2 = p.1)∨(Ao AG (AN p.1) = false∧Ao AG (p.2 / 16) = false∧1≤p.2 / 16∧p.2 / 16 < t.length∧(rv t (p.2 / 16)).top≤p.2)
 | [],t,t',r,to,out,h,_,_,_,_,_=>by
  cases h;exact⟨[],σ,rfl,List.nodup_nil,λp hp=>by simp at hp⟩
 | a :: la,t,t',r,to,out,h,hl,h1,ht,hs,nd=>by
  rw[Zj] at nd;unfold slide at h;obtain⟨x,hx,h⟩:=AD h;have hs':=λb hb=>hs b (ZG _ hb)
  obtain⟨ha0,hsz⟩:=hs a σ;by_cases hh:Ao AG (AN a) = true
  ·rw[if_pos hh] at h;obtain⟨to',g1,g2,g3,g4⟩:=LK la t t' r (to ++ [a]) out h hl h1 ht hs' nd.2;refine⟨a :: to',by rw[g1];simp,by simp[g2],Zj.2 ⟨λhm=>?_,g3⟩,λp hp=>?_⟩
   ·obtain⟨b,hb⟩:=Mv g2.symm hm;rcases g4 _ hb with ⟨_,e⟩ | ⟨_,e,_⟩
    ·dsimp only at e;exact nd.1 (e▸(aC hb).1)
    ·dsimp only at e;rw[Bq ha0] at hh;rw[hh] at e;cases e
   ·rw[aT] at hp;rcases Yx.1 hp with rfl | hp
    ·exact .inl ⟨hh,rfl⟩
    ·exact g4 p hp
  ·rw[if_neg hh] at h;obtain⟨r',hr',h⟩:=AD h;obtain⟨row,hrow,h⟩:=AD h;obtain⟨top,htop,h⟩:=AD h;obtain⟨x0,x1,x2⟩:=FJ DO hrow;have hxr:row = rv t r':=x2.symm;have htp:top = row.top + AF x.sh:=by unfold Cf at htop;split at htop<;>cases htop;rfl
   obtain⟨n1,n2,n3,n4⟩:=Kx hl _ _ _ hr' h1;have h0:=hsz x hx;have hb:=ht r' ω x1;have et:∀q:Int,0≤q→rv (AT t r' { row with kind:=3,top:=top,BE:=top }) q = if q = r' then { row with kind:=3,top:=top,BE:=top } else rv t q:=λq q0=>DS ω x1 q0
   obtain⟨to',g1,g2,g3,g4⟩:=LK la _ t' r' (to ++ [row.top]) out h (by simpa [AT] using hl) ω (λq q1 q2=>by
    rw[et q ω]
    by_cases c:q = r'
    ·subst c
     rw[if_pos rfl]
     show 16 * q≤top
     rw[htp,hxr];omega
    ·rw[if_neg c];exact ht q q1 (by simpa [AT] using q2)) hs' nd.2
   have ed:row.top / 16 = r':=by rw[hxr];omega
   refine⟨row.top :: to',by rw[g1];simp,by simp[g2],Zj.2 ⟨λhm=>?_,g3⟩,λp hp=>?_⟩
   ·obtain⟨b,hb'⟩:=Mv g2.symm hm;rcases g4 _ hb' with ⟨e1,e2⟩ | ⟨_,_,_,_,e⟩
    ·dsimp only at e1 e2;have hb0:=(hs' b (aC hb').1).1;rw[← e2,Bq ω,ed,n2] at e1;cases e1
    ·dsimp only at e;rw[ed,et r' ω,if_pos rfl] at e;have e:top≤row.top:=e;omega
   ·rw[aT] at hp;rcases Yx.1 hp with rfl | hp
    ·exact .inr ⟨by simpa using hh,by dsimp only;rw[ed];exact n2,by dsimp only;rw[ed];omega,by dsimp only;rw[ed];exact n3,by dsimp only;rw[ed,hxr];exact ZI _⟩
    ·rcases g4 p hp with e | ⟨e1,e2,e3,e4,e5⟩
     ·exact .inl e
     ·refine .inr ⟨e1,e2,e3,by simpa [AT] using e4,?_⟩;rw[et _ ω] at e5;by_cases c:p.2 / 16 = r'
      ·rw[if_pos c] at e5;have e5:top≤p.2:=e5;rw[c,← hxr];omega
      ·rw[if_neg c] at e5;exact e5
def CG (s:Al):List Int:=(List.range s.A0.length).map λ(r:Nat)=>if Ao s.AG r = true then (rv s.A0 r).top else AH r
structure JJ (s s' : Al) (l:List AU) (AO to tops:List Int):Prop where
 st:Ex s = some s'
 ld:Dd s.AG l AO (CG s) 1 = some (to,tops)
 wd:s'.AA = Bi (Bi (List.replicate s.AA.length 0) ((l.filter λx=>Ao s.AG (AN x.at_)).map EQ)) ((AO.zip to).map λp=>DY l AO to p.1 p.2)
 tl:Rel tops s'.A0
 tn:s'.A0.length = s.A0.length
 e0:rv s'.A0 0 = DO
 rw_:∀q:Int,1≤q→q < s.A0.length→rv s'.A0 q = LY s.AG q (rv s'.A0 q).top
 th:DT l AO to s.A6 = some s'.A6
 eq:s' = ⟨s'.AA,s'.A0,List.replicate s.AA.length false,0,false,false,s.Ae,0,s'.A6,[],s.AG,s.Aj,s.BA + 1⟩
 hlen:to.length = AO.length
 hd:((AO.zip to).map λp=>DY l AO to p.1 p.2).Pairwise (λb c=>∀x,¬ (inB b x∧inB c x))
 dd:((l.filter λx=>Ao s.AG (AN x.at_)).map EQ).Pairwise (λb c=>∀x,¬ (inB b x∧inB c x))
 rg:∀p∈AO.zip to,(Ao s.AG (p.1 / 16) = true∧p.2 = p.1)∨(Ao s.AG (p.1 / 16) = false∧Ao s.AG (p.2 / 16) = false)
 rn:∀p∈AO.zip to,16≤p.2∧∀t,BL l p.1 = some t→p.2 + (2 + t.refs.length + t.nums.length:Nat)≤s.AA.length∧p.2 + (2 + t.refs.length + t.nums.length:Nat)≤16 * (p.2 / 16) + 16
theorem FF {w:List Int} {t:List Rg} {B:Int→Prop} (G:Geo w t B) {a:Int} (h:B a):((thg w a).refs.length:Int) = (shp w a).refs∧((thg w a).nums.length:Int) = (shp w a).nums∧((2 + (thg w a).refs.length + (thg w a).nums.length:Nat):Int) = sz w a:=by
 have i:=G.inn h;have o:=Ec (L7 w a);have es:AF (shp w a) = sz w a:=rfl;have h1:((thg w a).refs.length:Int) = (shp w a).refs:=Gl ω ω ω;have h2:((thg w a).nums.length:Int) = (shp w a).nums:=Gl ω ω ω;exact⟨h1,h2,ω⟩
theorem Ji {s:Al} {l:List AU} {met:List Int} (hf:HpF s l met) (hfu:-900000≤s.BA∧s.BA≤900000):∃s' to tops,JJ s s' l (Aq met) to tops:=by
 obtain⟨G,T,hth⟩:=Ih hf.ths;have To:=G.ok;have n0:=To.n0;have n1:=To.n1;have len:=G.len;have b16:∀a,bgs l a→16≤a:=λa h=>(G.at_ a h).1
 obtain⟨sp,sm⟩:=Cx hf.M.nd;have hlive:∀a∈Aq met,bgs l a:=λa h=>by
  obtain⟨t,ht⟩:=hf.M.th a ((sm a).1 h);obtain⟨h1,h2⟩:=Bh ht;exact⟨t,h1,h2⟩
 have pinB:∀p∈s.AG,bgs l p:=λp hp=>by
  have hh:=hf.head;unfold CU at hh;simp only[z_b] at hh;have:=ZC.1 hh.2 p hp;unfold Dl at this;cases ht:BL l p with
  | none=>rw[ht] at this;cases this
  | some t=>obtain⟨h1,h2⟩:=Bh ht;exact⟨t,h1,h2⟩
 have heldB:∀r:Int,Ao s.AG r = true→∃x,bgs l x∧x / 16 = r:=λr h=>by
  unfold Ao at h;rw[List.any_eq_true] at h;obtain⟨p,hp,e⟩:=h;have h16:=b16 p (pinB p hp);exact⟨p,pinB p hp,by rw[← Bq ω];simpa using e⟩
 obtain⟨hc1,hc2⟩:=hf.closed;obtain⟨tn0,tn1,tn2⟩:=FK (n:=s.A0.length) ω ω;obtain⟨w1,t1,e3,l1,tl1,s1,s2,s3,s4⟩:=MM (s:=s) (B0:=bgs l) G l (List.replicate s.AA.length 0) (AW s.A0.length) T.all σ ω;have z0:∀x,wv (List.replicate s.AA.length 0) x = 0:=λx=>by
  unfold wv gv;rw[Ym,List.getElem?_replicate];split<;>rfl
 have t1r:∀r:Int,1≤r→r < s.A0.length→(rv t1 r = ⟨3,-1,(rv s.A0 r).top,(rv s.A0 r).top,0⟩∧Ao s.AG r = true)∨(rv t1 r = ⟨1,-1,16 * r,16 * r,0⟩∧Ao s.AG r = false):=λr r0 r1=>by
  rw[s4 r ω];cases hh:Ao s.AG r with
  | true=>
   obtain⟨x,⟨t,h1,h2⟩,h3⟩:=heldB r hh;exact .inl ⟨by rw[if_pos ⟨rfl,t,h1,by rw[h2];exact h3⟩],rfl⟩
  | false=>
   exact .inr ⟨by rw[if_neg (λh=>by cases h.1),tn2 r r0 r1,(DC r0 ω).2],rfl⟩
 have To1:TOk t1:=by
  refine⟨ω,ω,?_,λr r0 r1=>?_,λr q r0 r1 q0 q1 ho _=>?_⟩
  ·rw[s4 0 ω,if_neg,tn1];rintro⟨_,x,hx,h⟩;have:=b16 _ (T.all x hx).1;omega
  ·have R:=To.row r r0 ω;rcases t1r r r0 ω with ⟨h,_⟩ | ⟨h,_⟩
   ·rw[h];exact⟨σ,σ,R.t0,R.t1,R.t0,ZI _,ZI 0,by show 0≤(rv s.A0 r).top - 16 * r;have:=R.t0;omega,λh=>by simp at h,σ,σ,σ⟩
   ·rw[h];exact⟨σ,σ,ZI _,by show 16 * r≤16 * r + 16;omega,ZI _,ZI _,ZI 0,by show 0≤16 * r - 16 * r;omega,λ_=>rfl,σ,σ,σ⟩
  ·rcases t1r r r0 ω with ⟨h,_⟩ | ⟨h,_⟩<;>rw[h] at ho<;>simp at ho
 have kept:∀b,(bgs l b∧Ao s.AG (b / 16) = true)→(rv t1 (b / 16)).top = (rv s.A0 (b / 16)).top:=λb hb=>by
  have i:=G.inn hb.1;rcases t1r (b / 16) i.2.1 i.2.2.1 with ⟨h,_⟩ | ⟨_,h⟩
  ·rw[h]
  ·rw[hb.2] at h;cases h
 have G1:Lw (shp s.AA) t1 (λb=>bgs l b∧Ao s.AG (b / 16) = true):=by
  refine⟨To1,λa ha=>?_,λa ha=>?_,λr r0 r1=>?_,λa b ha hb h=>G.dj a b ha.1 hb.1 h⟩
  ·rw[kept a ha];obtain⟨h1,h2,_⟩:=G.at_ a ha.1;exact⟨h1,h2,L7 s.AA a⟩
  ·rw[kept a ha];have i:=G.inn ha.1;have es:AF (shp s.AA a) = sz s.AA a:=rfl;rw[es];by_cases h0:a + sz s.AA a = (rv s.A0 (a / 16)).top
   ·exact .inl h0
   ·right;rcases G.nx a ha.1 with h | h
    ·exact absurd h h0
    ·exact⟨h,by rw[show (a + sz s.AA a) / 16 = a / 16 from ω];exact ha.2⟩
  ·rcases t1r r r0 ω with ⟨h,h2⟩ | ⟨h,_⟩
   ·rw[h];rcases G.bs r r0 ω with h3 | h3
    ·exact .inl h3
    ·exact .inr ⟨h3,by rw[show 16 * r / 16 = r from ω];exact h2⟩
   ·rw[h];exact .inl rfl
 have t1f:∀q:Int,1≤q→q < s.A0.length→Ao s.AG q = false→(rv t1 q).top = 16 * q:=λq q0 q1 hq=>by
  rcases t1r q q0 q1 with ⟨_,h⟩ | ⟨h,_⟩
  ·rw[hq] at h;cases h
  ·rw[h]
 have t1t:∀q:Int,1≤q→q < s.A0.length→16 * q≤(rv t1 q).top:=λq q0 q1=>(To1.row q q0 ω).t0
 obtain⟨t2,to,f,B',e4,k1,G2,k3,k4,k5,k6,k7⟩:=Jm (AG:=s.AG) T G (Aq met) t1 1 [] (shp s.AA) _ hlive sp G1 tl1 (ZI 1)
  (λq q0 q1=>by rcases t1r q q0 ω with ⟨h,_⟩ | ⟨h,_⟩<;>rw[h])
  (λq q0=>by
   by_cases c1:q < s.A0.length
   ·by_cases c2:1≤q
    ·rcases t1r q c2 c1 with ⟨h,_⟩ | ⟨h,_⟩<;>rw[h]<;>simp
    ·rw[show q = 0 from ω,To1.e];simp[DO]
   ·rw[DU q0 ω];simp[DO])
  (λq q0 q1 hq=>t1f q ω ω hq)
  (λa ha hq=>by
   have i:=G.inn (hlive a ha)
   refine⟨i.2.1,λh1=>?_⟩
   rw[t1f 1 ω ω (by rw[h1];exact hq)];omega)
  (λa ha hq=>⟨⟨hlive a ha,hq⟩,rfl⟩)
 simp only[zl] at e4;have tl2:t2.length = s.A0.length:=by rw[k3,tl1]
 have szp:∀a∈Aq met,∀x,BL l a = some x→0 < AF x.sh:=λa ha x hx=>by
  rw[T.find (hlive a ha)] at hx;cases hx;have:=(G.inn (hlive a ha)).2.2.2.2.2.2.1;show 0 < sz s.AA a;omega
 have rel1:Rel (CG s) t1:=by
  refine⟨by unfold CG;simp[tl1],λq q0 q1=>?_⟩;unfold CG;rw[Ym,ZQ,List.getElem?_range ω];show (if Ao s.AG q = true then (rv s.A0 q).top else AH q) = _;rcases t1r q ω ω with ⟨h,h2⟩ | ⟨h,h2⟩
  ·rw[if_pos h2,h]
  ·rw[if_neg (by rw[h2];decide),h,CO ω ω]
 obtain⟨to',tops,g1,g2,g3,g4,g5,g6⟩:=HQ (AG:=s.AG) (Aq met) t1 t2 1 [] to (CG s) e4 ω (ZI 1) rel1 (λq q0 q1=>by
   have q1:q < s.A0.length:=ω
   refine⟨?_,by rw[CO ω ω];exact t1t q q0 q1⟩
   unfold LY
   rcases t1r q q0 q1 with ⟨h,h2⟩ | ⟨h,h2⟩
   ·rw[if_pos (.inr h2),h]
   ·rw[if_neg,h,(DC q0 ω).2]
    rintro (c | c)
    ·rw[h,CO ω ω] at c;simp at c
    ·rw[h2] at c;cases c) szp
 have g1:to = to':=by simpa using g1
 subst g1;obtain⟨to',d1,d2,d3,d4⟩:=LK (AG:=s.AG) (Aq met) t1 t2 1 [] to e4 ω (ZI 1) (λq q0 q1=>t1t q q0 ω) (λa ha=>⟨by have:=b16 a (hlive a ha);omega,szp a ha⟩) (sp.imp (λh=>ω));have d1:to = to':=by simpa using d1
 subst d1;have rg:∀p∈(Aq met).zip to,(Ao s.AG (p.1 / 16) = true∧p.2 = p.1)∨(Ao s.AG (p.1 / 16) = false∧Ao s.AG (p.2 / 16) = false):=λp hp=>by
  have h16:=b16 _ (hlive p.1 (aC hp).1);rw[← Bq (a:=p.1) ω];rcases d4 p hp with ⟨h1,h2⟩ | ⟨h1,h2,_⟩
  ·exact .inl ⟨h1,h2⟩
  ·exact .inr ⟨h1,h2⟩
 have pz:∀p∈(Aq met).zip to,B' p.2∧AF (f p.2) = sz s.AA p.1∧BL l p.1 = some (thg s.AA p.1)∧bgs l p.1:=λp hp=>by
  obtain⟨q1,q2,_⟩:=k7 p hp;have hb:=hlive p.1 (aC hp).1;exact⟨q1,by rw[q2];rfl,T.find hb,hb⟩
 have bl:∀p∈(Aq met).zip to,∀x,inB (DY l (Aq met) to p.1 p.2) x↔p.2≤x∧x < p.2 + sz s.AA p.1:=λp hp x=>by
  obtain⟨_,_,h3,h4⟩:=pz p hp;have:=(FF G h4).2.2;unfold inB DY;rw[h3];simp only[Yt,Yk,Z1];constructor
  ·rintro⟨a,b⟩;exact⟨a,ω⟩
  ·rintro⟨a,b⟩;exact⟨a,ω⟩
 have hd:(((Aq met).zip to).map λp=>DY l (Aq met) to p.1 p.2).Pairwise (λb c=>∀x,¬ (inB b x∧inB c x)):=by
  rw[am];have hnd:((Aq met).zip to).Pairwise (λp q=>p.2≠q.2):=by
   have:(((Aq met).zip to).map Prod.snd).Nodup:=by rw[List.map_snd_zip ω];exact d3
   rw[List.Nodup,am] at this;exact this
  refine hnd.imp_of_mem λ{p q} hp hq hne x hx=>?_
  rw[bl p hp,bl q hq] at hx;obtain⟨p1,p2,_⟩:=pz p hp;obtain⟨q1,q2,_⟩:=pz q hq;rcases Int.lt_or_gt_of_ne hne with c | c
  ·have:=G2.dj _ _ p1 q1 c;omega
  ·have:=G2.dj _ _ q1 p1 c;omega
 have dd:((l.filter λx=>Ao s.AG (AN x.at_)).map EQ).Pairwise (λb c=>∀x,¬ (inB b x∧inB c x)):=by
  rw[am];refine (hf.asc.filter _).imp_of_mem λ{x y} hx hy hlt z hz=>?_
  obtain⟨x1,x2⟩:=T.all x (Ze.1 hx).1;obtain⟨y1,y2⟩:=T.all y (Ze.1 hy).1;have h1:=(FF G x1).2.2;rw[← x2] at h1;have es:AF x.sh = sz s.AA x.at_:=by
   have:=congrArg (λt=>AF t.sh) x2;exact this
  unfold inB EQ at hz;simp only[Yt,Yk,Yy] at hz;omega
 have hw1:=HY (s:=s) l _ _ _ _ e3 (λx hx _=>by
  obtain⟨x1,x2⟩:=T.all x hx
  have i:=G.inn x1
  have h1:=(FF G x1).2.2
  rw[← x2] at h1
  exact⟨ω,by rw[Yy];omega,λy _ _=>z0 y⟩) dd
 have e5:=P1 (l:=l) (AO:=Aq met) (to:=to) k1 (Aq met) to w1 k1.symm (λp hp=>by
  obtain⟨h1,h2,h3,h4⟩:=pz p hp
  have i2:=G2.inn h1
  have h5:=FF G h4
  refine⟨_,h3,λv hv=>?_,ω,by rw[l1];omega,λx hx1 hx2=>?_⟩
  ·obtain⟨u,hu,_⟩:=hc2 p.1 ((sm _).1 (aC hp).1) _ h3 v hv
   exact⟨u,hu⟩
  ·rcases rg p hp with ⟨g1,g2⟩ | ⟨g1,g2⟩
   ·rw[show x = p.1 + 2 + (x - p.1 - 2) from ω,s2 p.1 _ h4 ω ω]
    exact z0 _
   ·rw[s3 x ω (by rw[show x / 16 = p.2 / 16 from ω];exact g2)]
    exact z0 _) hd
 obtain⟨ths,e6,l6,m6⟩:=Iy (l:=l) (AO:=Aq met) (to:=to) k1 s.A6 (λt ht a ha=>by
  obtain⟨u,hu,_⟩:=hc1 a (ZP _ (List.mem_flatMap.2 ⟨t,ht,ha⟩))
  exact⟨u,hu⟩)
 have hfu:Cf s.BA 1 = some (s.BA + 1):=BV ω ω;have l2:(Bi w1 (((Aq met).zip to).map λp=>DY l (Aq met) to p.1 p.2)).length = s.AA.length:=by rw[C8];exact l1
 refine⟨⟨Bi w1 (((Aq met).zip to).map λp=>DY l (Aq met) to p.1 p.2),t2,List.replicate s.AA.length false,0,false,false,s.Ae,0,ths,[],s.AG,s.Aj,s.BA + 1⟩,to,tops,?_,g2,by show Bi w1 _ = _;rw[← hw1],g3,tl2,?_,λq q0 q1=>(g5 q q0 ω).1,e6,rfl,k1,hd,dd,rg,λp hp=>?_⟩
 ·unfold Ex;rw[hth];simp only[Zi,Yn];rw[hf.re];simp only[z_o];rw[e3];simp only[z_o];rw[e4];simp only[z_o];rw[e5];simp only[z_o];rw[e6];simp only[z_o];rw[hfu];simp only[z_o];rw[l2]
 ·exact G2.ok.e
 ·obtain⟨h1,h2,h3,h4⟩:=pz p hp;have i2:=G2.inn h1;refine⟨ω,λt ht=>?_⟩;rw[h3] at ht;cases ht;have h5:=(FF G h4).2.2;exact⟨ω,ω⟩
end Sm
end
section
namespace Go.Lf
open Go Sm
theorem KC {R:RM} {b t n w cap:Nat} {cells sp:List Value} (hb:R b = some (C t (cells ++ sp))) (hl:cells.length = n * w) (hc:n≤cap):Fz R (S0 b n cap) w n cells:=
 .inr ⟨b,0,cap,t,_,rfl,hb,by rw[Yk,hl];omega,by rw[Zr,← hl,ZZ (z_n _),Ys (z_n _)],hc⟩
def fdO (s:Sm.Al):Option Sm.Al:=match Dj s with | none=>none | some _=>Ex s
def QFd (r:Option Sm.Al) (v:Value) (R:RM):Prop:=match r with
 | none=>v = .tuple #[z28,.bool false]
 | some s'=>∃wv tv mv thv ov pv,StC R s' wv tv mv thv ov pv∧RgZ R tv s'.A0∧v = .tuple #[.agg (eSt s' wv tv mv thv ov pv).toArray,.bool true]
section st
variable {R:RM} {s:Sm.Al} {wv tv mv thv ov pv:Value}
theorem Tq (h:SF R s wv tv mv thv ov pv):Ro KP [.agg (eSt s wv tv mv thv ov pv).toArray] (.bool (!s.A6.any (·.busy))) R []:=by
 refine Q6 λF=>?_
 refine z_1 ?_;have n1:=h.b.n1;obtain⟨ta,tc,hta⟩:=h.c.th.sl;refine ja λb=>?_
 refine jli (λi:Nat=>s.A6.length - i) (λi=>[Pt b,I i]) (λ_=>(b,C 28 (eSt s wv tv mv thv ov pv)) :: ([] ++ F)) (λR' i=>R' = R∧i≤s.A6.length∧s.A6.any (·.busy) = (s.A6.drop i).any (·.busy)) 0 ⟨rfl,ω,by rw[Zr]⟩ rfl rfl ?_;rintro K e R' i ⟨hR,hi,hinv⟩ he hK;subst hR;refine z_V ?_;refine jfo (jl (v:=thv) rfl (C4 ⟨ta,tc,hta⟩ (jlt (jif (λc=>?_) (λc=>?_)))));rotate_left
 ·have c:=z_g c;refine Bn (BU ?_);rw[hinv,Yz ω];rfl
 have c:i < s.A6.length:=by have:=z_f c;omega
 rw[Yv c,List.any_cons] at hinv;refine jfo (jl (v:=thv) rfl (jtr h.c.th c λb2 o ty cs rv hrv hb ho hrow=>jfo (jlr (v:=.bool (s.A6[i]).busy) hb (CB hrow (f:=2) rfl) (jif (λg=>?_) (λg=>?_)))))
 ·refine Bn (BU ?_);rw[hinv,g];rfl
 ·exact jad (hK R' (i + 1) ω ⟨rfl,ω,by rw[hinv,g,Yl]⟩)
set_option maxRecDepth 4000 in
theorem U1 (h:SF R s wv tv mv thv ov pv):Fn P Ky [.agg (eSt s wv tv mv thv ov pv).toArray] R [] (λv R' A=>A = []∧QFd (fdO s) v R'):=by
 refine Qc λF=>?_
 refine z_1 ?_;have fu:=h.b.fu;have t0:=h.b.t0;have t1:=h.b.t1;have wl:=h.b.wl;have n1:=h.b.n1;have rl:=h.b.rl;have pl:=h.b.pl;have pvv:=h.b.pv;refine ja λsb=>BQ (b:=sb) λR0 hR0 hsb=>ja λgb=>?_
 have h:=h.le hR0;have hsb:R0 sb = some (C 28 (eSt s wv tv mv thv ov pv)):=hsb;refine jor [Pt sb,Pt gb] (Dj s).isNone (λK' hK'=>?_) (λe c u ho he=>?_)
 ·refine F0 (l:=eSt s wv tv mv thv ov pv) hsb (by exact z_n 13) rfl (jrp (Sx h) ?_);cases hh:Ci s with
  | none=>
   refine jtf (hK' _ _ _ Am ?_);unfold Dj;rw[hh];split<;>rfl
  | some q=>
   refine jff (F0 (l:=eSt s wv tv mv thv ov pv) hsb (by exact z_n 13) rfl (jrp (Tq h) (hK' _ _ _ Ah ?_)));unfold Dj;rw[hh,Bool.not_not];cases s.A6.any (·.busy)<;>rfl
 refine z_V ?_;refine jor [Pt sb,Pt gb] (Dj s).isNone (λK' hK'=>?_) (λe c u ho2 he=>?_)
 ·rw[ho];refine BR (λg=>?_) (λg=>?_)
  ·rw[g];exact jfo (jlr (v:=I s.BA) hsb rfl (jlt (hK' _ _ _ Ah (by rw[g];exact decide_eq_false ω))))
  ·rw[g];exact hK' _ _ _ Am g.symm
 refine z_V ?_;refine jor [Pt sb,Pt gb] (Dj s).isNone (λK' hK'=>?_) (λe c u ho3 he=>?_)
 ·rw[ho2];refine BR (λg=>?_) (λg=>?_)
  ·rw[g];exact jfo (jlr (v:=I s.BA) hsb rfl (jgr (hK' _ _ _ Ah (by rw[g];exact decide_eq_false ω))))
  ·rw[g];exact hK' _ _ _ Am g.symm
 refine z_V ?_;rw[ho3];cases hc:Dj s with
 | none=>
  refine DI (jbd (cs:=cl z28) rfl rfl (jS (cl z28) (jla (l:=cl z28) (Z0 rfl) rfl ?_)));refine B9 (A:=[]) hR0 ⟨rfl,?_⟩;unfold fdO;rw[hc];rfl
 | some q=>
  obtain⟨l,met⟩:=q;have hh:Ci s = some (l,met):=by
   unfold Dj at hc;split at hc
   ·cases hc
   ·exact hc
  obtain⟨s',to,tops,F1⟩:=Ji (EL hh) ω;refine CL (F0 (l:=eSt s wv tv mv thv ov pv) hsb (by exact z_n 13) rfl ?_);refine jc (A:=[]) (O0 h.c ω t0 t1 ω (λt ht=>by have:=rl t ht;omega) ω (λa ha=>by have:=pvv a ha;unfold AN;split<;>omega) F1.st) ?_;rintro v R1 A1 hR1 ⟨bw,wsp,cw,bt,tsp,ct,bm,thv',pv',e1,e2,e3,e4,e5,hth,hpv,rfl,rfl⟩;obtain⟨ta,tc,rfl⟩:=hth.sl;obtain⟨pa,pc,rfl⟩:=hpv.sl;refine BQ (b:=bw) λR2 hR2 hbw=>BQ (b:=bt) λR3 hR3 hbt=>BQ (b:=bm) λR4 hR4 hbm=>?_
  refine jS (eSt s' (S0 bw s'.AA.length cw) (S0 bt s'.A0.length ct) (S0 bm s'.AK.length s'.AK.length) (.slice ta s'.A6.length tc) (SN) (.slice pa s'.AG.length pc)) ?_;refine jla (l:=eSt s' (S0 bw s'.AA.length cw) (S0 bt s'.A0.length ct) (S0 bm s'.AK.length s'.AK.length) (.slice ta s'.A6.length tc) (SN) (.slice pa s'.AG.length pc)) (Z0 rfl) rfl ?_;refine B9 (A:=[]) (hR0.trans (hR1.trans (hR2.trans (hR3.trans hR4)))) ⟨rfl,?_⟩;unfold fdO;rw[hc];show QFd (Ex s) _ _;rw[F1.st];have hle:=hR2.trans (hR3.trans hR4);refine⟨_,_,_,_,_,_,⟨KC ((hR3.trans hR4) _ _ hbw) σ e4,?_,?_,hth.le hle,?_,hpv.le hle⟩,⟨bt,ct,tsp,rfl,hR4 _ _ hbt,e5⟩,rfl⟩
  ·exact KC (hR4 _ _ hbt) (by rw[DL (w:=5) (λ_=>rfl)]) e5
  ·exact KC (sp:=[]) (by rw[ZN];exact hbm) σ (z_n _)
  ·have:s'.old = []:=by rw[F1.eq]
   rw[this];exact .inl ⟨rfl,rfl,rfl⟩
end st
end Go.Lf
end
section
namespace Sm
open Go.Lf
theorem Jn {AG tops:List Int} {n:Int} {f r:Nat} (h:r < tops.length∧(Ao AG r = true∨AH r + 16 < tops.getD r 0 + n)):nxt AG tops n (f + 1) r = nxt AG tops n f (r + 1):=by
 conv=>lhs;unfold nxt
 rw[if_pos h]
theorem Kh {AG tops:List Int} {n:Int} {f r:Nat} (h:¬ (r < tops.length∧(Ao AG r = true∨AH r + 16 < tops.getD r 0 + n))):nxt AG tops n f r = r:=by
 cases f with
 | zero=>rfl
 | succ f=>unfold nxt;rw[if_neg h]
theorem UN {AG tops:List Int} {n:Int}:∀{f r:Nat},r≤tops.length→nxt AG tops n f r≤tops.length∧r≤nxt AG tops n f r
 | 0,r,h=>⟨h,z_n _⟩
 | f + 1,r,h=>by
  by_cases c:r < tops.length∧(Ao AG r = true∨AH r + 16 < tops.getD r 0 + n)
  ·rw[Jn c];have:=UN (AG:=AG) (n:=n) (f:=f) (r:=r + 1) (tops:=tops) ω;omega
  ·rw[Kh c];exact⟨h,z_n _⟩
theorem Pc {AG:List Int} {l:List AU} {a:Int} {rest tops:List Int} {r:Nat}:Dd AG l (a :: rest) tops r = if Ao AG (AN a) = true then (Dd AG l rest tops r).map λq=>(a :: q.1,q.2) else
  if nxt AG tops (EW l a) (tops.length + 1) r = tops.length then none else
  (Dd AG l rest (tops.set (nxt AG tops (EW l a) (tops.length + 1) r) (tops.getD (nxt AG tops (EW l a) (tops.length + 1) r) 0 + EW l a)) (nxt AG tops (EW l a) (tops.length + 1) r)).map λq=>(tops.getD (nxt AG tops (EW l a) (tops.length + 1) r) 0 :: q.1,q.2):=rfl
end Sm
namespace Go.Lf
open Go Sm
theorem Ie:P.underlying 144 = some (.map 3 3):=by kernel_rfl
theorem VJ (w:World):(zeroValue 3).run P w = .ok (I 0) w:=by kernel_rfl
theorem YD (w:World):(Instr.makeMap 144 none).run P w = .ok (.map (some w.heap.size)) (w.alloc (.map #[] 0)):=rfl
theorem UF {l:List (Int × Value)} {x:Int} {v:Value} (h:∀p∈l,p.1≠x):up l x v = l ++ [(x,v)]:=by
 unfold up;rw[Ma.2 h];rfl
def prs (xs ys:List Int):List (Int × Value):=(xs.zip ys).map λp=>(p.1,I p.2)
theorem W6 {xs ys:List Int} {p:Int × Value} (h:p∈prs xs ys):p.1∈xs:=by
 obtain⟨q,hq,rfl⟩:=ZK.1 h;exact (aC hq).1
theorem V6 {xs ys:List Int} {x y:Int} (h:xs.length = ys.length):prs (xs ++ [x]) (ys ++ [y]) = prs xs ys ++ [(x,I y)]:=by
 unfold prs;rw[List.zip_append h,Zf];rfl
def Xo (r:Option (List Int × List Int)) (order:List Int) (sb:Nat) (so:Obj) (v:Value) (A:Chs):Prop:=match r with
 | none=>v = .tuple #[.map none,SN,.bool false]∧A = [(sb,so)]
 | some (to,tops)=>to.length = order.length∧∃mb o tb,v = .tuple #[.map (some mb),S0 tb tops.length tops.length,.bool true]∧Mg o (prs order to)∧A = [(tb,C AX (tops.map I ++ [])),(mb,o),(sb,so)]
section st
variable {R:RM} {s:Sm.Al} {wv tv mv thv ov pv:Value} {l:List AU} {met:List Int}
set_option maxHeartbeats 2000000 in
set_option maxRecDepth 8000 in
theorem Uc {hb mb sb:Nat} {so:Obj} {v rv:Value} {order:List Int} (h:SF R s wv tv mv thv ov pv) (hv:HpV R s wv tv mv thv ov pv l met hb mb v) (hrv:BG R rv order) (hol:order.length≤192) (hth:∀a∈order,∃t,BL l a = some t) (hnd:order.Nodup) (hst:MpI so (λr=>Ao s.AG r = true)) (h16:∀a∈order,0≤a∧a < 1000000) (htz:∀t∈l,0≤AF t.sh∧AF t.sh≤10) :
  Fn P H4 [Pt hb,rv,.map (some sb)] R [(sb,so)] (λv R' A=>R' = R∧Xo (Dd s.AG l order (CG s) 1) order sb so v A):=by
 refine Lq λF=>?_
 refine z_3 ?_;obtain⟨o,g1,g2,g3,-⟩:=hv;obtain⟨tb0,tc,sp,rfl,hbt,htc⟩:=h.z;have t0:=h.b.t0;have t1:=h.b.t1;have tp:=h.b.tp;obtain⟨ra,rc,hra⟩:=hrv.sl;refine WG YD λm2 o0 ho0=>jnc (jfo (jfo (jlr (v:=S0 tb0 s.A0.length tc) g1 rfl (jln (jms ω ω ω λtb=>?_)))))
 have e0:(List.replicate (s.A0.length:Int).toNat (cl z3)).flatten = (List.replicate s.A0.length (0:Int)).map I ++ []:=by
  rw[Yj,ZN,List.map_replicate];show (List.replicate s.A0.length [I 0]).flatten = _;rw[← List.map_replicate (f:=λx=>[x])];simp
 rw[e0];have lt0:(CG s).length = s.A0.length:=by unfold CG;simp
 have gt0:∀(i:Nat) (hi:i < (CG s).length),(CG s)[i] = if Ao s.AG i = true then (Sm.rv s.A0 i).top else AH i:=λi hi=>by
  have e:(CG s)[i]? = some (if Ao s.AG i = true then (Sm.rv s.A0 i).top else AH i):=by
   unfold CG;rw[ZQ,List.getElem?_range ω];rfl
  rw[Yi hi] at e;exact Zc e
 have hb0:∀x∈CG s,-1000≤x∧x≤1000:=λx hx=>by
  obtain⟨i,hi,rfl⟩:=ZF hx;rw[gt0 i hi];split
  ·have e:Sm.rv s.A0 i = s.A0[i]'(ω):=by
    unfold Sm.rv gv;rw[Yj,Ym,Yi ω];rfl
   rw[e];have:=tp _ (Yq (l:=s.A0) (n:=i) ω);omega
  ·unfold AH;split<;>omega
 refine jci (λ_:Unit=>[Pt hb,rv,.map (some sb),.map (some m2),S0 tb s.A0.length s.A0.length]) (λ_=>(tb,C AX ((CG s).map I ++ [])) :: (m2,o0) :: ([(sb,so)] ++ F)) (λR' _=>R' = R) (λK1 k1=>?_) ?_
 ·refine jln ?_;refine jci (λ_:Unit=>[Pt hb,rv,.map (some sb),.map (some m2),S0 tb s.A0.length s.A0.length]) (λ_=>(tb,C AX ((CG s).map I ++ [])) :: (m2,o0) :: ([(sb,so)] ++ F)) (λR' _=>R' = R) (λK2 k2=>?_) ?_;rotate_left
  ·rintro e R' _ hp he;refine z_V ?_;exact k1 R' () hp
  refine jli (λi:Nat=>s.A0.length - i) (λi=>[Pt hb,rv,.map (some sb),.map (some m2),S0 tb s.A0.length s.A0.length,I s.A0.length,I i])
   (λi=>(tb,C AX (((CG s).take i ++ List.replicate (s.A0.length - i) 0).map I ++ [])) :: (m2,o0) :: ([(sb,so)] ++ F)) (λR' i=>R' = R∧i≤s.A0.length) 0 ⟨rfl,ω⟩ τ τ ?_
  rintro K e R' i ⟨hR,hi⟩ he hK;subst hR;refine z_V ?_;refine jlt (jif (λc=>?_) (λc=>?_));rotate_left
  ·have c:=z_g c;rw[Ys ω,show s.A0.length - i = 0 from ω,List.replicate_zero,ZN (CG s)];exact k2 R' () rfl
  have c:i < s.A0.length:=by have:=z_f c;omega
  have hlen:((CG s).take i ++ List.replicate (s.A0.length - i) 0).length = s.A0.length:=by simp[lt0];omega
  have ES:∀(y:Int) (w:List Int),w = (CG s).take i ++ y :: List.replicate (s.A0.length - (i + 1)) 0→∀z,w.set i z = (CG s).take i ++ z :: List.replicate (s.A0.length - (i + 1)) 0:=λy w hw z=>by
   rw[hw,aG _ _ (by simp[lt0];omega)];simp[lt0,show min i s.A0.length = i from ω]
  have hrep:(CG s).take i ++ List.replicate (s.A0.length - i) 0 = (CG s).take i ++ 0 :: List.replicate (s.A0.length - (i + 1)) 0:=by
   rw[show s.A0.length - i = (s.A0.length - (i + 1)) + 1 from ω];rfl
  have hnext:(CG s).take (i + 1) ++ List.replicate (s.A0.length - (i + 1)) 0 = (CG s).take i ++ (CG s)[i] :: List.replicate (s.A0.length - (i + 1)) 0:=by
   rw[Yp ω,Yr];rfl
  have hgi:=gt0 i ω;refine jci (λ_:Unit=>[Pt hb,rv,.map (some sb),.map (some m2),S0 tb s.A0.length s.A0.length,I s.A0.length,I i])
   (λ_=>(tb,C AX (((CG s).take (i + 1) ++ List.replicate (s.A0.length - (i + 1)) 0).map I ++ [])) :: (m2,o0) :: ([(sb,so)] ++ F)) (λR'' _=>R'' = R') (λK3 k3=>?_) ?_
  rotate_left
  ·rintro e R'' _ hp he;subst hp;refine z_V ?_;exact jad (hK R'' (i + 1) ω ⟨rfl,ω⟩)
  refine jci (λ_:Unit=>[Pt hb,rv,.map (some sb),.map (some m2),S0 tb s.A0.length s.A0.length,I s.A0.length,I i])
   (λ_=>(tb,C AX (((CG s).take (i + 1) ++ List.replicate (s.A0.length - (i + 1)) 0).map I ++ [])) :: (m2,o0) :: ([(sb,so)] ++ F)) (λR'' _=>R'' = R') (λK4 k4=>?_) ?_
  rotate_left
  ·rintro e R'' _ hp he;refine z_V ?_;exact k3 R'' () hp
  refine jp (CK i) (C5 c (jsi ω ?_));rw[ES 0 _ hrep];refine @jlk _ _ _ sb so _ _ (Ao s.AG i) _ hst Iff.rfl (jif (λhh=>?_) (λhh=>?_))
  ·have hcell:(Ac eRg s.A0 ++ sp)[0 + i * 5 + 2]? = some (I (s.A0[i]).top):=by rw[Z6];exact C6 (f:=2) c rfl
   refine jnc (jfo (jfo (jlr (v:=S0 tb0 s.A0.length tc) g1 rfl (C5 c (jfo (jlr (v:=I (s.A0[i]).top) hbt hcell (C5 c (jsi (by simp[lt0];omega) ?_))))))));rw[ES _ _ rfl];rw[hnext,hgi,if_pos hh] at k4;have e:Sm.rv s.A0 i = s.A0[i]:=by
    unfold Sm.rv gv;rw[Yj,Ym,Yi ω];rfl
   rw[e] at k4;exact k4 R' () rfl
  ·rw[hnext,hgi,if_neg (by rw[hh];decide)] at k4;exact k4 R' () rfl
 rintro e R' _ hR he;subst hR;refine z_V ?_;refine jci (λ_:List Int × List Int × Obj=>[.map (some m2),S0 tb s.A0.length s.A0.length]) (λq=>(tb,C AX (q.2.1.map I ++ [])) :: (m2,q.2.2) :: ([(sb,so)] ++ F)) (λR'' q=>R'' = R'∧q.2.1.length = s.A0.length∧q.1.length = order.length∧Dd s.AG l order (CG s) 1 = some (q.1,q.2.1)∧Mg q.2.2 (prs order q.1)) (λK1 k1=>?_) ?_;rotate_left
 ·rintro e R'' ⟨to,tops,o2⟩ ⟨hR,hl,hto,hlp,hmg⟩ he;subst hR;dsimp only at hl hto hlp hmg ⊢;refine z_V ?_;refine B9 (A:=[(tb,C AX (tops.map I ++ [])),(m2,o2),(sb,so)]) (RM.le.refl _) ⟨rfl,?_⟩;rw[hlp];exact⟨hto,m2,o2,tb,by rw[hl],hmg,rfl⟩
 refine C4 ⟨ra,rc,hra⟩ ?_;refine jci (λ_:List Int × List Int × Obj=>[.map (some m2),S0 tb s.A0.length s.A0.length]) (λq=>(tb,C AX (q.2.1.map I ++ [])) :: (m2,q.2.2) :: ([(sb,so)] ++ F)) (λR'' q=>R'' = R'∧q.2.1.length = s.A0.length∧q.1.length = order.length∧Dd s.AG l order (CG s) 1 = some (q.1,q.2.1)∧Mg q.2.2 (prs order q.1)) (λK2 k2=>?_) ?_;rotate_left
 ·rintro e R'' q hp he;refine z_V ?_;exact k1 R'' q hp
 refine jli (λi:Nat × Nat × List Int × Obj × List Int=>order.length - i.1) (λi=>[Pt hb,.map (some sb),.map (some m2),S0 tb s.A0.length s.A0.length,I i.2.1,rv,I order.length,I i.1])
  (λi=>(tb,C AX (i.2.2.1.map I ++ [])) :: (m2,i.2.2.2.1) :: ([(sb,so)] ++ F))
  (λR'' i=>R'' = R'∧i.1≤order.length∧1≤i.2.1∧i.2.1≤s.A0.length∧i.2.2.1.length = s.A0.length∧(∀x∈i.2.2.1,-1000≤x∧x≤1000 + 10 * (i.1:Int))∧i.2.2.2.2.length = i.1∧Mg i.2.2.2.1 (prs (order.take i.1) i.2.2.2.2)∧(Dd s.AG l (order.drop i.1) i.2.2.1 i.2.1).map (λq=>(i.2.2.2.2 ++ q.1,q.2)) = Dd s.AG l order (CG s) 1)
  (0,1,CG s,o0,[]) ⟨rfl,σ,σ,by dsimp only;omega,lt0,λx hx=>by have:=hb0 x hx;dsimp only;omega,rfl,ho0,by dsimp only;rw[Zr];cases Dd s.AG l order (CG s) 1<;>rfl⟩ τ τ ?_
 rintro K e R'' ⟨k,r,tops,o2,to⟩ ⟨hR,hk,hr0,hr1,htl,htb,htol,hmg,hlp⟩ he hK;subst hR;dsimp only at hk hr0 hr1 htl htb htol hmg hlp he hK ⊢;refine z_V ?_;refine jlt (jif (λc=>?_) (λc=>?_));rotate_left
 ·have c:=z_g c;rw[Yz ω] at hlp;rw[Ys ω] at hmg;exact k2 R'' (to,tops,o2) ⟨rfl,htl,by dsimp only;omega,by rw[← hlp];simp[Dd],hmg⟩
 have c:k < order.length:=by have:=z_f c;omega
 have ham:=Yq c;obtain⟨t,ht⟩:=hth _ ham;have hts:=htz t (Bh ht).1;have h16a:=h16 _ ham;have hsz:EW l order[k] = AF t.sh:=by unfold EW;rw[ht]
 rw[Yv c,Pc] at hlp;have hne:∀p∈prs (order.take k) to,p.1≠order[k]:=λp hp e=>by
  have h1:=W6 hp;rw[e] at h1;obtain⟨j,hj,e2⟩:=ZF h1;rw[Z5] at hj;rw[aW] at e2;have:=(List.getElem_inj hnd).1 e2;omega
 have htk:∀y:Int,prs (order.take (k + 1)) (to ++ [y]) = prs (order.take k) to ++ [(order[k],I y)]:=λy=>by
  rw[Yp c,V6 (by rw[Z5];omega)]
 refine jci (λq:Nat × List Int × Obj × List Int=>[Pt hb,.map (some sb),.map (some m2),S0 tb s.A0.length s.A0.length,I q.1,rv,I order.length,I k])
  (λq=>(tb,C AX (q.2.1.map I ++ [])) :: (m2,q.2.2.1) :: ([(sb,so)] ++ F))
  (λR3 q=>R3 = R''∧1≤q.1∧q.1≤s.A0.length∧q.2.1.length = s.A0.length∧(∀x∈q.2.1,-1000≤x∧x≤1000 + 10 * ((k + 1:Nat):Int))∧q.2.2.2.length = k + 1∧Mg q.2.2.1 (prs (order.take (k + 1)) q.2.2.2)∧(Dd s.AG l (order.drop (k + 1)) q.2.1 q.1).map (λz=>(q.2.2.2 ++ z.1,z.2)) = Dd s.AG l order (CG s) 1) (λK3 k3=>?_) ?_
 rotate_left
 ·rintro e R3 ⟨r2,tops2,o3,to2⟩ ⟨hR,q1,q2,q3,q4,q5,q6,q7⟩ he;subst hR;dsimp only at q1 q2 q3 q4 q5 q6 q7 he ⊢;refine z_V ?_;exact jad (hK R3 (k + 1,r2,tops2,o3,to2) (by dsimp only;omega) ⟨rfl,by dsimp only;omega,q1,q2,q3,q4,q5,q6,q7⟩)
 refine jci (λq:Nat × List Int × Obj × List Int=>[Pt hb,.map (some sb),.map (some m2),S0 tb s.A0.length s.A0.length,I q.1,rv,I order.length,I k])
  (λq=>(tb,C AX (q.2.1.map I ++ [])) :: (m2,q.2.2.1) :: ([(sb,so)] ++ F))
  (λR3 q=>R3 = R''∧1≤q.1∧q.1≤s.A0.length∧q.2.1.length = s.A0.length∧(∀x∈q.2.1,-1000≤x∧x≤1000 + 10 * ((k + 1:Nat):Int))∧q.2.2.2.length = k + 1∧Mg q.2.2.1 (prs (order.take (k + 1)) q.2.2.2)∧(Dd s.AG l (order.drop (k + 1)) q.2.1 q.1).map (λz=>(q.2.2.2 ++ z.1,z.2)) = Dd s.AG l order (CG s) 1) (λK4 k4=>?_) ?_
 rotate_left
 ·rintro e R3 q hp he;refine z_V ?_;exact k3 R3 q hp
 clear k3 hK k2 k1;refine CE hrv ω ω ?_;simp only[Yj];refine jp (Ef h16a.1 h16a.2) ?_;refine @jlk _ _ _ sb so _ _ (Ao s.AG (AN order[k])) _ hst Iff.rfl (jif (λhh=>?_) (λhh=>?_))
 ·rw[if_pos hh] at hlp;refine @XH _ _ _ 144 3 m2 o2 _ (prs (order.take k) to) _ _ _ Ie hmg λo3 hm3=>?_
  rw[UF hne] at hm3;refine EE tb (k4 R'' (r,tops,o3,to ++ [order[k]]) ⟨rfl,hr0,hr1,htl,λx hx=>by have:=htb x hx;omega,by simp[htol],by show Mg _ _;rw[htk];exact hm3,?_⟩);dsimp only;rw[← hlp,Option.map_map];congr 1;funext z;simp
 rw[if_neg (by rw[hh];decide),hsz] at hlp;refine jnc (jfo (jlr (v:=.map (some mb)) g1 rfl ?_));refine @Pm _ _ _ mb o l order[k] false (Li.fz g2) g3 (λe=>by rw[ht] at e;cases e) (λt' v' e hv'=>?_);rw[ht] at e;cases e;refine En hv' ?_;clear hv';have hget:∀{i:Nat} (hi:i < s.A0.length),(tops.map I ++ [])[0 + i * 1]? = some (I (tops[i]'(ω))):=λ{i} hi=>by
  rw[Z6,Zo];exact Fj ω
 have hgd:∀{i:Nat} (hi:i < s.A0.length),tops.getD i 0 = tops[i]'(ω):=λ{i} hi=>by
  rw[Ym,Yi ω];rfl
 obtain⟨rN,hrN⟩:∃rN,rN = nxt s.AG tops (AF t.sh) (tops.length + 1) r:=⟨_,rfl⟩;have hrle:=UN (AG:=s.AG) (tops:=tops) (n:=AF t.sh) (f:=tops.length + 1) (r:=r) ω;rw[← hrN] at hlp hrle;have brr:∀i:Nat,0≤AH i∧AH i≤176:=λi=>by unfold AH;split<;>omega
 refine jci (λ_:Unit=>[Pt hb,.map (some sb),.map (some m2),S0 tb s.A0.length s.A0.length,I rN,I order[k],I (AF t.sh),rv,I order.length,I k]) (λ_=>(tb,C AX (tops.map I ++ [])) :: (m2,o2) :: ([(sb,so)] ++ F)) (λR3 _=>R3 = R'') (λK5 k5=>?_) ?_
 ·refine jci (λ_:Unit=>[Pt hb,.map (some sb),.map (some m2),S0 tb s.A0.length s.A0.length,I rN,I order[k],I (AF t.sh),rv,I order.length,I k]) (λ_=>(tb,C AX (tops.map I ++ [])) :: (m2,o2) :: ([(sb,so)] ++ F)) (λR3 _=>R3 = R'') (λK6 k6=>?_) ?_;rotate_left
  ·rintro e R3 _ hp he;refine z_V ?_;exact k5 R3 () hp
  refine jli (λi:Nat=>s.A0.length - i) (λi=>[Pt hb,.map (some sb),.map (some m2),S0 tb s.A0.length s.A0.length,I i,I order[k],I (AF t.sh),rv,I order.length,I k]) (λ_=>(tb,C AX (tops.map I ++ [])) :: (m2,o2) :: ([(sb,so)] ++ F)) (λR3 i=>R3 = R''∧i≤s.A0.length∧∃f,nxt s.AG tops (AF t.sh) f i = rN∧tops.length - i < f) r ⟨rfl,hr1,tops.length + 1,hrN.symm,ω⟩ τ τ ?_;rintro K e R3 i ⟨hR,hi,f,hf,hfl⟩ he hK;subst hR;refine z_V ?_;refine CQ (CQ (jln (jlt ?_)));have bi:=brr i;by_cases ca:i < s.A0.length
  ·rw[decide_eq_true ω];have htbi:=htb _ (Yq (l:=tops) (n:=i) ω);refine jtt (Bv λe he=>?_);refine z_V ?_;refine jtt (@jlk _ _ _ sb so _ _ (Ao s.AG i) _ hst Iff.rfl (CQ (jtt ?_)));obtain⟨f,rfl⟩:∃f',f = f' + 1:=⟨f - 1,ω⟩;cases hs:Ao s.AG i with
   | false=>
    refine jff (C5 ca (jl (v:=I (tops[i]'(ω))) (hget ca) (jad (Bv λe he=>?_))));refine z_V ?_;refine jff (jp (CK i) (CQ (jff (jad (jgr (Bv λe he=>?_))))));refine z_V ?_;refine CQ (jtt (EI (Bv λe he=>?_)));refine z_V ?_;refine EA (Af (jff (jl (v:=I (tops[i]'(ω))) (hget ca) jev)) (Bv λe he=>?_));refine z_V ?_;refine jif (λg=>?_) (λg=>?_)
    ·have g:=z_f g;rw[Jn ⟨ω,.inr (by rw[hgd ca];omega)⟩] at hf;exact jad (hK R3 (i + 1) ω ⟨rfl,ω,f,hf,ω⟩)
    ·have g:=z_g g;have hst2:¬ (i < tops.length∧(Ao s.AG i = true∨AH i + 16 < tops.getD i 0 + AF t.sh)):=by
      rw[hs,hgd ca];rintro⟨_,g2 | g2⟩
      ·cases g2
      ·omega
     rw[Kh hst2] at hf;subst hf;exact k6 R3 () rfl
   | true=>
    refine jtf (Bv λe he=>?_);refine z_V ?_;refine jtf (CQ (jtf (Bv λe he=>?_)));refine z_V ?_;refine CQ (jtt (EA (Bv λe he=>?_)));refine z_V ?_;refine EA (Af (jtf jev) (Bv λe he=>?_));refine z_V ?_;rw[Jn ⟨ω,.inl hs⟩] at hf;exact DI (jad (hK R3 (i + 1) ω ⟨rfl,ω,f,hf,ω⟩))
  ·rw[decide_eq_false ω];refine jft (Bv λe he=>?_);refine z_V ?_;refine jft (CQ (jft (Bv λe he=>?_)));refine z_V ?_;refine jgu (CQ (jgu (Bv λe he=>?_)));refine z_V ?_;refine CQ (jft (Bv λe he=>?_));refine z_V ?_;refine EI (Af (jgu jev) (Bv λe he=>?_));refine z_V ?_;rw[Kh (by rintro⟨g2,_⟩;omega)] at hf;subst hf;exact CL (k6 R3 () rfl)
 rintro e R3 _ hR he;subst hR;refine z_V ?_;refine jln (jeq (jif (λg=>?_) (λg=>?_)))
 ·have g:(rN:Int) = s.A0.length:=by simpa using g
  rw[if_pos ω] at hlp;refine B9 (A:=[(sb,so)]) (RM.le.refl _) ⟨rfl,?_⟩;rw[← hlp];exact⟨rfl,rfl⟩
 have g:¬ (rN:Int) = s.A0.length:=by simpa using g
 rw[if_neg ω] at hlp;have hN:rN < s.A0.length:=ω
 rw[hgd hN] at hlp;have htbN:=htb _ (Yq (l:=tops) (n:=rN) ω);refine C5 hN (jl (v:=I (tops[rN]'(ω))) (hget hN) ?_);refine @XH _ _ _ 144 3 m2 o2 _ (prs (order.take k) to) _ _ _ Ie hmg λo3 hm3=>?_
 rw[UF hne] at hm3;refine EE tb (C5 hN (jl (v:=I (tops[rN]'(ω))) (hget hN) (jad (C5 hN (jsi ω ?_)))));refine k4 R3 (rN,tops.set rN (tops[rN]'(ω) + AF t.sh),o3,to ++ [tops[rN]'(ω)]) ⟨rfl,ω,ω,by simpa using htl,λx hx=>?_,by simp[htol],by show Mg _ _;rw[htk];exact hm3,?_⟩
 ·rcases Zm hx with h2 | h2
  ·have:=htb x h2;omega
  ·subst h2;omega
 dsimp only;rw[← hlp,Option.map_map];congr 1;funext z;simp
end st
end Go.Lf
end
section
namespace Go.Lf
open Go Sm
section rules
variable {R:RM} {D:Chs} {k:Value→M}
theorem T8 {v z:Value} {t w n by_:Nat} {cells:List Value} (h:Fz R v w n cells) (hw:cells.length = n * w) (hz:(cl z).length = w) (hb:by_≠0) (hs:by_ * (2 * n + 200)≤2 ^ 48) (H:∀b c sp,n≤c→sp.length = (c - n) * w→J R ((b,C t (cells ++ sp)) :: D) (k (S0 b n c))) :
  J R D (BS t 0 (ZR 0 z) [] λx=>AP t w by_ (cl z) x v k):=by
 obtain⟨a,cap,rfl,hr⟩:=Fz.reads (D:=D) h;refine jbs (cs:=[]) rfl rfl λb2=>?_
 refine T6 (new:=cells) ?_ hb hs (λ_=>rfl) (λh0=>?_) (λb' c hc=>BI (aI _ _ _) (Bn ?_))
 ·intro h' hs';exact hr h' (St.drop (A:=[(b2,C t [])]) (by simpa using hs'))
 ·subst h0;have:cells = []:=ZL.1 ω;subst this;exact H b2 0 [] σ σ
 ·exact H b' c _ hc (by rw[Bw (w:=w) (by intro x hx;rw[(ZT.1 hx).2];exact hz)];simp)
theorem UL {q:Nat} {v:Value} {w n:Nat} {cells:List Value} {x y:Operand} (e0:∀w:World,(do eqGuard .eql q x y (SN) (SN);binOp .eql q (SN) (SN):Sem Value).run P w = .ok (.bool true) w) (e1:∀(a:Addr) (n c:Nat) (w:World),(do eqGuard .eql q x y (.slice (some a) n c) (SN);binOp .eql q (.slice (some a) n c) (SN):Sem Value).run P w = .ok (.bool false) w) (h:Fz R v w n cells) (H0:v = SN→n = 0→cells = []→J R D (k (.bool true))) (H1:J R D (k (.bool false))):J R D (X P (do eqGuard .eql q x y v (SN);binOp .eql q v (SN)) k):=by
 rcases h with ⟨rfl,h2,h3⟩ | ⟨b,o,cap,t,cs,rfl,_⟩
 ·exact @jxr R D k _ _ e0 (H0 rfl h2 h3)
 ·exact @jxr R D k _ _ (e1 _ _ _) H1
end rules
def OwW (t w n:Nat) (cells:List Value) (v:Value) (A:Chs):Prop:=(n = 0∧v = SN∧A = [])∨∃b c sp,n≤c∧sp.length = (c - n) * w∧v = S0 b n c∧A = [(b,C t (cells ++ sp))]
section st
variable {R:RM}
theorem PX {v:Value} {n:Nat} {cells:List Value} (h:Fz R v 5 n cells) (hw:cells.length = n * 5) (hn:n < 1000000):Fn P El [v] R [] (λx R' A=>R' = R∧OwW AI 5 n cells x A):=by
 refine HP λF=>?_
 refine z_1 ?_;refine @UL _ _ _ _ _ _ _ _ _ _ (λw=>by kernel_rfl) (λa n c w=>by kernel_rfl) h (λ_ h0 _=>DI (B9 (A:=[]) (RM.le.refl R) ⟨rfl,.inl ⟨h0,rfl,rfl⟩⟩)) (CL ?_);exact T8 h hw rfl δ ω λb c sp h1 h2=>B9 (A:=[(b,C 66 (cells ++ sp))]) (RM.le.refl R) ⟨rfl,.inr ⟨b,c,sp,h1,h2,rfl,rfl⟩⟩
theorem Re {v:Value} {n:Nat} {cells:List Value} (h:Fz R v 1 n cells) (hw:cells.length = n * 1) (hn:n < 1000000):Fn P Et [v] R [] (λx R' A=>R' = R∧OwW B7 1 n cells x A):=by
 refine Ha λF=>?_
 refine z_1 ?_;refine @UL _ _ _ _ _ _ _ _ _ _ (λw=>by kernel_rfl) (λa n c w=>by kernel_rfl) h (λ_ h0 _=>DI (B9 (A:=[]) (RM.le.refl R) ⟨rfl,.inl ⟨h0,rfl,rfl⟩⟩)) (CL ?_);exact T8 h hw rfl δ ω λb c sp h1 h2=>B9 (A:=[(b,C 4 (cells ++ sp))]) (RM.le.refl R) ⟨rfl,.inr ⟨b,c,sp,h1,h2,rfl,rfl⟩⟩
theorem Q1 {v:Value} {n:Nat} {cells:List Value} (h:Fz R v 4 n cells) (hw:cells.length = n * 4) (hn:n < 1000000):Fn P Em [v] R [] (λx R' A=>R' = R∧OwW Oq 4 n cells x A):=by
 refine HR λF=>?_
 refine z_1 ?_;refine @UL _ _ _ _ _ _ _ _ _ _ (λw=>by kernel_rfl) (λa n c w=>by kernel_rfl) h (λ_ h0 _=>DI (B9 (A:=[]) (RM.le.refl R) ⟨rfl,.inl ⟨h0,rfl,rfl⟩⟩)) (CL ?_);exact T8 h hw rfl δ ω λb c sp h1 h2=>B9 (A:=[(b,C 83 (cells ++ sp))]) (RM.le.refl R) ⟨rfl,.inr ⟨b,c,sp,h1,h2,rfl,rfl⟩⟩
end st
section rules
variable {R:RM} {D:Chs}
theorem Wx {t w b i f:Nat} {rows:List (List Value)} {sp:List Value} {v:Value} {D' : Chs} {m:M} (hr:∀r∈rows,r.length = w) (hi:i < rows.length) (hf:f < w) (hv:flat v = true) (h1:cl v = [v]) [a:At D b (C t (rows.flatten ++ sp))] [u:Up D b (C t (rows.flatten ++ sp)) (C t ((rows.set i ((rows[i]).set f v)).flatten ++ sp)) D'] (H:J R D' m) :
  J R D (ST 1 (.pointer (some ⟨b,0 + i * w + f,none⟩)) v m):=by
 have hl:i * w + w≤(rows.flatten ++ sp).length:=by
  rw[Yk,Bw hr,← Nat.succ_mul];exact Nat.le_trans (aH w ω) (Nat.le_add_right _ _)
 refine js (cs:=rows.flatten ++ sp) (cs':=(rows.set i ((rows[i]).set f v)).flatten ++ sp) (by rw[h1];rfl) (by rw[h1];simp[Br,hv]) ω ?_ H;rw[h1,Z6,Wk hl hf,FZ i hi hr];exact KM (by rw[ZV];exact hr _ (Yq hi)) i hi hr
end rules
def Fr:List Th→List (List Value)→Chs→Prop
 | [],rows,A=>rows = []∧A = []
 | t :: ts,rows,A=>∃rv rest A1 A2,rows = [rv,I t.next,.bool t.busy,I t.Ai] :: rest∧SO t.AC rv A1∧Fr ts rest A2∧A = A1 ++ A2
theorem Fr.app:∀{ts:List Th} {rows:List (List Value)} {A:Chs},Fr ts rows A→∀{t:Th} {rv:Value} {A1:Chs},SO t.AC rv A1→Fr (ts ++ [t]) (rows ++ [[rv,I t.next,.bool t.busy,I t.Ai]]) (A ++ A1)
 | [],rows,A,h,t,rv,A1,so=>by
  obtain⟨rfl,rfl⟩:=h;exact⟨rv,[],A1,[],rfl,so,⟨rfl,rfl⟩,σ⟩
 | u :: ts,rows,A,h,t,rv,A1,so=>by
  obtain⟨rv0,rest,B1,B2,rfl,h1,h2,rfl⟩:=h;exact⟨rv0,_,B1,B2 ++ A1,rfl,h1,h2.app so,by rw[Yr]⟩
theorem Fr.len:∀{ts:List Th} {rows:List (List Value)} {A:Chs},Fr ts rows A→rows.length = ts.length∧∀r∈rows,r.length = 4
 | [],rows,A,h=>by obtain⟨rfl,_⟩:=h;exact⟨rfl,λr hr=>by cases hr⟩
 | t :: ts,rows,A,h=>by
  obtain⟨rv0,rest,B1,B2,rfl,h1,h2,rfl⟩:=h;obtain⟨g1,g2⟩:=h2.len;exact⟨by simp[g1],λr hr=>by
   rcases Yx.1 hr with rfl | hr
   ·rfl
   ·exact g2 r hr⟩
def YG (R:RM) (s:Sm.Al) (v:Value) (A:Chs):Prop:=∃bw cw wsp bt tc tsp bm mc msp bh hc hsp rows Ar ov pv,s.AA.length≤cw∧wsp.length = cw - s.AA.length∧s.A0.length≤tc∧s.AK.length≤mc∧msp.length = mc - s.AK.length∧s.A6.length≤hc∧Fr s.A6 rows Ar∧BG R ov s.old∧BG R pv s.AG∧
 v = .agg (eSt s (S0 bw s.AA.length cw) (S0 bt s.A0.length tc) (S0 bm s.AK.length mc) (S0 bh s.A6.length hc) ov pv).toArray∧
 A = (bw,C AX (s.AA.map I ++ wsp)) :: (bt,C AI (Ac eRg s.A0 ++ tsp)) :: (bm,C B7 (s.AK.map Value.bool ++ msp)) :: (bh,C Oq (rows.flatten ++ hsp)) :: Ar
section st
variable {R:RM} {s:Sm.Al} {wv tv mv thv ov pv:Value}
set_option maxHeartbeats 1000000 in
set_option maxRecDepth 8000 in
theorem TK (h:SF R s wv tv mv thv ov pv):Fn P GS [.agg (eSt s wv tv mv thv ov pv).toArray] R [] (λv R' A=>YG R' s v A):=by
 refine LF λF=>?_
 refine z_1 ?_;have t0:=h.b.t0;have t1:=h.b.t1;have wl:=h.b.wl;have ml:=h.b.ml;have n0:=h.b.n0;have n1:=h.b.n1;have rl:=h.b.rl;have ol:=h.b.ol;have pl:=h.b.pl;refine ja λsb=>ja λgb=>jfo (jl (v:=wv) rfl ?_)
 refine jc (A:=[]) (Fx h.c.w ω) ?_;rintro _ R1 _ _ ⟨hR,_,own⟩;subst hR;obtain⟨bw,cw,wsp,hcw,hwsp,rfl,rfl⟩:=own ω;refine jfo (jS (eSt s (S0 bw s.AA.length cw) tv mv thv ov pv) (jfo (jl (v:=tv) rfl ?_)));refine jc (A:=[]) (PX h.c.t (by rw[DL (w:=5) (λ_=>rfl)]) ω) ?_;rintro _ R2 _ _ ⟨hR,own⟩;subst hR;obtain⟨e,_⟩ | ⟨bt,tc,tsp,htc,htsp,rfl,rfl⟩:=own
 ·omega
 refine jfo (jS (eSt s (S0 bw s.AA.length cw) (S0 bt s.A0.length tc) mv thv ov pv) (jfo (jl (v:=mv) rfl ?_)));refine jc (A:=[]) (Re h.c.m σ ω) ?_;rintro _ R3 _ _ ⟨hR,own⟩;subst hR;obtain⟨e,_⟩ | ⟨bm,mc,msp,hmc,hmsp,rfl,rfl⟩:=own
 ·omega
 refine jfo (jS (eSt s (S0 bw s.AA.length cw) (S0 bt s.A0.length tc) (S0 bm s.AK.length mc) thv ov pv) (jfo (jl (v:=thv) rfl ?_)));obtain⟨rows,hrw,hfz⟩:=h.c.th;have hrl:=hrw.1;have hr4:∀r∈rows,r.length = 4:=hrw.all λ_ _=>Ct.len
 refine jc (A:=[]) (Q1 hfz (Bw hr4) ω) ?_;rintro _ R4 _ _ ⟨hR,own⟩;subst hR;obtain⟨e,_⟩ | ⟨bh,hc,hsp,hhc,hhsp,rfl,rfl⟩:=own
 ·omega
 rw[hrl] at hhc;rw[hrl];refine jfo (jS (eSt s (S0 bw s.AA.length cw) (S0 bt s.A0.length tc) (S0 bm s.AK.length mc) (S0 bh s.A6.length hc) ov pv) ?_);generalize hW:S0 bw s.AA.length cw = W;generalize hT:S0 bt s.A0.length tc = T;generalize hM:S0 bm s.AK.length mc = M0;refine Aw [(bh,C 83 (rows.flatten ++ hsp)),(sb,C 28 (eSt s W T M0 (S0 bh s.A6.length hc) ov pv)),(gb,C 28 (cl z28)),(bw,C AX (s.AA.map I ++ wsp)),(bt,C AI (Ac eRg s.A0 ++ tsp)),(bm,C B7 (s.AK.map Value.bool ++ msp))] (G:=[] ++ F) ?_;refine jci (λ_:List (List Value) × Chs=>[Pt sb,Pt gb])
  (λq=>(bh,C 83 (q.1.flatten ++ hsp)) :: (sb,C 28 (eSt s W T M0 (S0 bh s.A6.length hc) ov pv)) :: (gb,C 28 (cl z28)) :: (bw,C AX (s.AA.map I ++ wsp)) :: (bt,C AI (Ac eRg s.A0 ++ tsp)) :: (bm,C B7 (s.AK.map Value.bool ++ msp)) :: (q.2 ++ ([] ++ F)))
  (λR' q=>R' = R4∧Fr s.A6 q.1 q.2) (λK1 k1=>?_) ?_
 ·refine jfo (jl (v:=S0 bh s.A6.length hc) rfl (jln ?_));refine jci (λ_:List (List Value) × Chs=>[Pt sb,Pt gb])
   (λq=>(bh,C 83 (q.1.flatten ++ hsp)) :: (sb,C 28 (eSt s W T M0 (S0 bh s.A6.length hc) ov pv)) :: (gb,C 28 (cl z28)) :: (bw,C AX (s.AA.map I ++ wsp)) :: (bt,C AI (Ac eRg s.A0 ++ tsp)) :: (bm,C B7 (s.AK.map Value.bool ++ msp)) :: (q.2 ++ ([] ++ F)))
   (λR' q=>R' = R4∧Fr s.A6 q.1 q.2) (λK2 k2=>?_) ?_
  rotate_left
  ·rintro e R' q hp he;refine z_V ?_;exact k1 R' q hp
  refine jli (λi:Nat × List (List Value) × Chs=>s.A6.length - i.1) (λi=>[Pt sb,Pt gb,I s.A6.length,I i.1])
   (λi=>(bh,C 83 ((i.2.1 ++ rows.drop i.1).flatten ++ hsp)) :: (sb,C 28 (eSt s W T M0 (S0 bh s.A6.length hc) ov pv)) :: (gb,C 28 (cl z28)) :: (bw,C AX (s.AA.map I ++ wsp)) :: (bt,C AI (Ac eRg s.A0 ++ tsp)) :: (bm,C B7 (s.AK.map Value.bool ++ msp)) :: (i.2.2 ++ ([] ++ F)))
   (λR' i=>R' = R4∧i.1≤s.A6.length∧Fr (s.A6.take i.1) i.2.1 i.2.2) (0,[],[]) ⟨rfl,σ,rfl,rfl⟩ τ τ ?_
  rintro K e R' ⟨i,rh,Ar⟩ ⟨hR,hi,hth⟩ he hK;subst hR;dsimp only at hi hth he hK ⊢;refine z_V ?_;refine jlt (jif (λc=>?_) (λc=>?_));rotate_left
  ·have c:=z_g c;rw[Ys ω] at hth;rw[Yz ω,ZN];exact k2 R' (rh,Ar) ⟨rfl,hth⟩
  have c:i < s.A6.length:=by have:=z_f c;omega
  obtain⟨l1,l4⟩:=hth.len;rw[Z5] at l1;obtain⟨rv,erow,hrv⟩:=hrw.2 i ω c;have hdr:rows.drop i = rows[i]'(ω) :: rows.drop (i + 1):=Yv ω;have Bx:∀r∈rh ++ rows.drop i,r.length = 4:=λr hr=>by
   rcases ZB.1 hr with h1 | h1
   ·exact l4 r h1
   ·exact hr4 r (aA h1)
  have hil:i < (rh ++ rows.drop i).length:=by rw[Yk,ZS];omega
  have hgi:(rh ++ rows.drop i)[i]'hil = [rv,I (s.A6[i]).next,.bool (s.A6[i]).busy,I (s.A6[i]).Ai]:=by
   rw[aB ω,← erow,aX];congr 1;omega
  have hcell:((rh ++ rows.drop i).flatten ++ hsp)[0 + i * 4 + 0]? = some rv:=by
   have e1:=FZ (sp:=hsp) i hil Bx;rw[hgi] at e1;have e2:=congrArg (λz=>z[0]?) e1;simp only[ao (show 0 < 4 by omega),ZY] at e2;rw[show 0 + i * 4 + 0 = i * 4 + 0 from ω];exact e2
  have ES:∀y:Value,(rh ++ rows.drop i).set i (((rh ++ rows.drop i)[i]'hil).set 0 y) = (rh ++ [[y,I (s.A6[i]).next,.bool (s.A6[i]).busy,I (s.A6[i]).Ai]]) ++ rows.drop (i + 1):=λy=>by
   rw[hgi,aG _ _ ω,hdr,show i - rh.length = 0 from ω,Yr];rfl
  have htl:=rl _ (Yq c);refine jfo (jl (v:=S0 bh s.A6.length hc) rfl (jfo (jl (v:=S0 bh s.A6.length hc) rfl (C5 c (jfo (jl (v:=rv) hcell ?_))))));refine jc (A:=[]) (Fx hrv ω) ?_;rintro yv R5 A5 _ ⟨hR,so,_⟩;subst hR;obtain⟨ya,yc,hy⟩:=so.frz;refine C5 c (jfo (Af (jl (v:=S0 bh s.A6.length hc) rfl jev) ?_));refine Wx (rows:=rh ++ rows.drop i) Bx hil ω (by rw[hy];rfl) (by rw[hy]) (jad ?_);rw[ES];refine BI (D':=(bh,C 83 (((rh ++ [[yv,I (s.A6[i]).next,.bool (s.A6[i]).busy,I (s.A6[i]).Ai]]) ++ rows.drop (i + 1)).flatten ++ hsp)) :: (sb,C 28 (eSt s W T M0 (S0 bh s.A6.length hc) ov pv)) :: (gb,C 28 (cl z28)) :: (bw,C AX (s.AA.map I ++ wsp)) :: (bt,C AI (Ac eRg s.A0 ++ tsp)) :: (bm,C B7 (s.AK.map Value.bool ++ msp)) :: ((Ar ++ A5) ++ ([] ++ F))) ?_ (hK R5 (i + 1,_,Ar ++ A5) (by dsimp only;omega) ⟨rfl,c,?_⟩)
  ·refine (Zv (l₁:=A5)).trans ?_;simp only[zc];refine Zs _ (Zs _ (Zs _ (Zs _ (Zs _ (Zs _ ?_)))));simp only[zl,Yr];exact List.Perm.append_left Ar Zv
  ·dsimp only;rw[Yp c];exact hth.app so
 rintro e R' ⟨rh,Ar⟩ ⟨hR,hth⟩ he;subst hR;dsimp only at hth ⊢;refine z_V ?_;refine jfo (jl (v:=ov) rfl ?_);refine jc (A:=[]) (Fx h.c.o ω) ?_;rintro o2 R5 A5 _ ⟨hR,so5,_⟩;subst hR;refine FG so5 λR6 hR6 ho2=>?_
 obtain⟨oa,oc,rfl⟩:=ho2.sl;refine jfo (jS (eSt s W T M0 (S0 bh s.A6.length hc) (.slice oa s.old.length oc) pv) (jfo (jl (v:=pv) rfl ?_)));refine jc (A:=[]) (Fx (h.c.p.le hR6) ω) ?_;rintro p2 R7 A7 _ ⟨hR,so7,_⟩;subst hR;refine FG so7 λR8 hR8 hp2=>?_
 obtain⟨pa,pc,rfl⟩:=hp2.sl;subst hW hT hM;refine jfo (jS (eSt s (S0 bw s.AA.length cw) (S0 bt s.A0.length tc) (S0 bm s.AK.length mc) (S0 bh s.A6.length hc) (.slice oa s.old.length oc) (.slice pa s.AG.length pc)) ?_);refine jla (l:=eSt s (S0 bw s.AA.length cw) (S0 bt s.A0.length tc) (S0 bm s.AK.length mc) (S0 bh s.A6.length hc) (.slice oa s.old.length oc) (.slice pa s.AG.length pc)) (Z0 rfl) rfl ?_;refine jS (eSt s (S0 bw s.AA.length cw) (S0 bt s.A0.length tc) (S0 bm s.AK.length mc) (S0 bh s.A6.length hc) (.slice oa s.old.length oc) (.slice pa s.AG.length pc)) ?_;refine jla (l:=eSt s (S0 bw s.AA.length cw) (S0 bt s.A0.length tc) (S0 bm s.AK.length mc) (S0 bh s.A6.length hc) (.slice oa s.old.length oc) (.slice pa s.AG.length pc)) (Z0 rfl) rfl ?_;refine Aw [(bw,C AX (s.AA.map I ++ wsp)),(bt,C AI (Ac eRg s.A0 ++ tsp)),(bm,C B7 (s.AK.map Value.bool ++ msp)),(bh,C 83 (rh.flatten ++ hsp))] (G:=Ar ++ ([] ++ F)) ?_;refine B9 (A:=(bw,C AX (s.AA.map I ++ wsp)) :: (bt,C AI (Ac eRg s.A0 ++ tsp)) :: (bm,C B7 (s.AK.map Value.bool ++ msp)) :: (bh,C 83 (rh.flatten ++ hsp)) :: Ar) (hR6.trans hR8) ?_;exact⟨bw,cw,wsp,bt,tc,tsp,bm,mc,msp,bh,hc,hsp,rh,Ar,_,_,hcw,hwsp,htc,hmc,by simpa using hmsp,hhc,hth,ho2.le hR8,hp2,rfl,rfl⟩
end st
end Go.Lf
end
