/- A part of the proof of the given row: the walk of the law and of all that it calls. Conditions: none. -/
import Derived.Test.YtlagojobcbkpdaaGreatDH
set_option linter.unusedVariables false
set_option linter.unusedSimpArgs false
set_option maxRecDepth 100000
section
namespace Sm
variable {P:List (List Op)}
theorem Geo.tab {w:List Int} {t t' : List Rg} {B B' : Int→Prop} (G:Geo w t B) (T:TOk t') (hl:t'.length = t.length) (hB:∀a,B' a→B a)
  (h:∀r:Int,1≤r→r < t.length→((rv t' r).top = (rv t r).top∧∀a,B a→a / 16 = r→B' a)∨((rv t' r).top = 16 * r∧∀a,B' a→a / 16≠r)):Geo w t' B':=by
 have kept:∀a,B' a→(rv t' (a / 16)).top = (rv t (a / 16)).top∧∀b,B b→b / 16 = a / 16→B' b:=λa ha=>by
  have g:=G.inn (hB a ha);rcases h (a / 16) g.2.1 g.2.2.1 with h1 | ⟨_,h2⟩
  ·exact h1
  ·exact absurd rfl (h2 a ha)
 refine⟨by rw[hl];exact G.len,T,λa ha=>?_,λa ha=>?_,λr r0 r1=>?_,λa b ha hb=>G.dj a b (hB a ha) (hB b hb)⟩
 ·rw[(kept a ha).1];exact G.at_ a (hB a ha)
 ·rw[(kept a ha).1];have g:=G.inn (hB a ha);rcases G.nx a (hB a ha) with h1 | h1
  ·exact .inl h1
  ·by_cases c:(a + sz w a) / 16 = a / 16
   ·exact .inr ((kept a ha).2 _ h1 c)
   ·left;omega
 ·rw[hl] at r1;rcases h r r0 r1 with ⟨h1,h2⟩ | ⟨h1,_⟩
  ·rw[h1];rcases G.bs r r0 r1 with h3 | h3
   ·exact .inl h3
   ·exact .inr (h2 _ h3 ω)
  ·exact .inl h1
theorem CC {f:Int→Rg→Rg} {t:List Rg}:(rows f t).length = t.length:=by simp[rows]
theorem EG {f:Int→Rg→Rg} {t:List Rg} {r:Int} (h0:0≤r) (h1:r < t.length):rv (rows f t) r = if r = 0 then rv t r else f r (rv t r):=by
 obtain⟨k,rfl⟩:∃k:Nat,r = k:=⟨r.toNat,ω⟩;rw[rv,Fm (by rw[CC];omega),rv,Fm ω];simp only[rows,ap];by_cases c:k = 0
 ·rw[if_pos c,if_pos ω]
 ·rw[if_neg c,if_neg ω]
theorem NH {n:Nat} {a:Int}:mv (List.replicate n false) a = false:=by
 unfold mv gv;rw[Ym,List.getElem?_replicate];split<;>rfl
open Classical in
theorem U6 {x:X} (h:∀a,0≤a→mv x.m a = false) (r:Int):cnt x r = 0:=by
 unfold cnt;rw[List.countP_eq_zero];intro k _ hk;obtain⟨a,a0,ha,_⟩:=z_f hk;rw[h a a0] at ha;cases ha
theorem TOk.rows {f:Int→Rg→Rg} {t:List Rg} (T:TOk t) (h:∀r x,Hl r x→Hl r (f r x)∧(f r x).AV = x.AV):TOk (rows f t):=by
 have e:∀r:Int,1≤r→r < t.length→rv (Sm.rows f t) r = f r (rv t r):=λr r0 r1=>by rw[EG ω r1,if_neg ω]
 refine⟨by rw[CC];exact T.n0,by rw[CC];exact T.n1,?_,λr r0 r1=>?_,λr s r0 r1 s0 s1 ho he=>?_⟩
 ·have:=T.n0;rw[EG ω ω,if_pos rfl];exact T.e
 ·rw[CC] at r1;rw[e r r0 r1];exact (h r _ (T.row r r0 r1)).1
 ·rw[CC] at r1 s1;rw[e r r0 r1] at ho he;rw[e s s0 s1] at he;rw[(h r _ (T.row r r0 r1)).2] at ho he;rw[(h s _ (T.row s s0 s1)).2] at he;exact T.own r s r0 r1 s0 s1 ho he
structure Jq (L:Int→Prop) (t:Thr):Prop where
 pc:t.pc = 0
 g:t.g = 0
 k:t.k = 0
 nx:0≤t.next
 rl:t.AC.length≤8
 rt:∀a∈t.AC,a≠0→L a
theorem Jq.ti {x:X} {i:Int} {po:Option Op} {t:Thr} (s:Jq x.L t):TI x i po t:=⟨s.rt,s.rl,s.nx,λ_ _ h=>absurd s.pc h,.inl ⟨s.pc,s.g,s.k⟩⟩
theorem IG.still {S:Sim} {g:Gh} (I:IG P S g) (hc:S.calm = true):∀t∈S.th,Jq g.L t:=λt ht=>by
 obtain⟨i,_,_,hi⟩:=N0 ht;have T:=I.ti i t hi;have hp:t.pc = 0:=by
  have:=ZC.1 (show (S.th.all λt=>t.pc == 0) = true from hc) t ht;simpa using this
 rcases T.run with h | ⟨o,_,r⟩
 ·exact⟨hp,h.2.1,h.2.2,T.nx,T.rl,T.rt⟩
 ·exfalso;cases r with
  | bs b=>have:=b.p;omega
  | cp _ _ _ cp=>have:=cp.p;omega
  | mg m=>have:=m.p;omega
theorem IG.mk' {S S' : Sim} {g g' : Gh} (I:IG P S g) (hpc:(S'.Aa,S'.c) = (S.Aa,S.c)) (hl:S'.th.length = S.th.length) (hsh:Sh (xof S' g')) (ht:∀t∈S'.th,Jq g'.L t) (c1:S'.Ad = 1→C1 (xof S' g') S'.col) (c2:S'.Ad = 2→C2 (xof S' g') S'.th.length S'.col)
  (c3:S'.Ad = 3→C3 (xof S' g') S'.col) (wt:S'.stop = true→S'.full = false→Wt (xof S' g') S'.col.want):IG P S' g':=
 have hpg:S'.Aa = S.Aa:=congrArg Prod.fst hpc;have hcc:S'.c = S.c:=congrArg Prod.snd hpc
 ⟨by rw[hpg];exact I.pg,hsh,by rw[hl];exact I.n0,by rw[hl];exact I.n1,by rw[hl,hpg];exact I.pl,by rw[hpg];exact I.pp,λi t h=>(ht t (IJ h)).ti,c1,c2,c3,wt,by rw[hcc];exact I.rs⟩
inductive Rch (w:List Int) (r0:Int→Prop):Int→Prop
 | base {a:Int} (h:r0 a):Rch w r0 a
 | step {a j:Int} (h:Rch w r0 a) (j0:0≤j) (j1:j < (shp w a).refs) (hn:wv w (a + 2 + j)≠0):Rch w r0 (wv w (a + 2 + j))
section
variable {c:Nat} {S:Sim} {g:Gh}
theorem IG.nofrom (I:IG P S g) (h:S.Ad≤1) (a:Int):¬ BZ S.A0 a:=λhf=>I.sh.nf h (a / 16) (by have:=hf.1;omega) hf.2
theorem Ks (l:List Bool):l.countP (λb=>!b)≤l.length:=List.countP_le_length
theorem OG (I:IG P S g) (B:Bd c S) (hc:S.calm = true) (h0:S.Ad = 0):∃g',IG P (({ S with stop:=false }:Sim).snapshot) g'∧Bd c (({ S with stop:=false }:Sim).snapshot):=by
 have st:=I.still hc;have H:=I.sh;have g0:=H.g;have hwl:=I.wl;have hml:S.AK.length = S.AA.length:=H.ml
 let sk:List Int:=(S.th.flatMap λt=>t.AC.filter (·≠0)) ++ S.AG
 have hsk:∀a∈sk,g.L a:=λa ha=>by
  rcases ZB.1 ha with h | h
  ·obtain⟨t,ht,h⟩:=List.mem_flatMap.1 h;rw[Ze] at h;exact (st t ht).rt a h.1 (by simpa using h.2)
  ·exact (H.pl a h).1
 have hsub:∀a,Rch S.AA (·∈sk) a→g.L a:=λa h=>by
  induction h with
  | base h=>exact hsk _ h
  | step h j0 j1 hn ih=>exact H.rf _ _ ih j0 j1 hn
 have T' : TOk (rows (λ_ x=>{ x with BE:=x.top,AO:=0 }) S.A0):=TOk.rows g0.ok λr x R=>⟨⟨R.k0,R.k1,R.t0,R.t1,R.t0,ZI _,ZI 0,by show 0≤x.top - 16 * r;have:=R.t0;omega,R.fr,R.ow,R.o0,R.o1⟩,rfl⟩
 have er:∀r:Int,0≤r→r < S.A0.length→rv (rows (λ_ x=>{ x with BE:=x.top,AO:=0 }) S.A0) r = if r = 0 then rv S.A0 r else { rv S.A0 r with BE:=(rv S.A0 r).top,AO:=0 }:=λr r0 r1=>EG r0 r1
 have ek:∀r:Int,0≤r→(rv (rows (λ_ x=>{ x with BE:=x.top,AO:=0 }) S.A0) r).kind = (rv S.A0 r).kind:=λr r0=>by
  by_cases c:r < S.A0.length
  ·rw[er r r0 c];split<;>rfl
  ·rw[DU r0 (by rw[CC];omega),DU r0 ω]
 have tm:∀a,g.B a→(rv (rows (λ_ x=>{ x with BE:=x.top,AO:=0 }) S.A0) (a / 16)).BE = (rv S.A0 (a / 16)).top:=λa h=>by
  have i:=g0.inn h;rw[er _ ω i.2.2.1,if_neg ω]
 have lt:∀a,g.B a→a < (rv (rows (λ_ x=>{ x with BE:=x.top,AO:=0 }) S.A0) (a / 16)).BE:=λa h=>by
  have i:=g0.inn h;rw[tm a h];simp only at i;omega
 have nf:∀a,¬ BZ (rows (λ_ x=>{ x with BE:=x.top,AO:=0 }) S.A0) a:=λa hf=>by
  have:=hf.2;rw[ek _ (by have:=hf.1;omega)] at this;exact I.nofrom ω a ⟨hf.1,this⟩
 have f0:∀a,mv (List.replicate S.AK.length false) a = false:=λa=>NH
 refine⟨⟨g.B,Rch S.AA (·∈sk),λa=>wv S.AA a,(·∈sk)⟩,I.mk' (S':=({ S with stop:=false }:Sim).snapshot) rfl rfl ?_ (λt ht=>?_) (λ_=>?_) (λh=>absurd (show (1:Int) = 2 from h) δ) (λh=>absurd (show (1:Int) = 3 from h) δ) (λh=>by cases h),?_⟩
 ·refine⟨Geo.tab g0 T' (CC (f:=λ_ x=>{ x with BE:=x.top,AO:=0 }) (t:=S.A0)) (λ_ h=>h) λr r0 r1=>.inl ⟨?_,λ_ h _=>h⟩,λa h=>H.lb a (hsub a h),λa j h j0 j1 hn=>.step h j0 j1 hn,λa h _=>H.st a h (I.nofrom ω a),λa _ hf=>absurd hf (nf a),by show (List.replicate S.AK.length false).length = _;rw[Yy];exact hml,λa _ h=>?_,by show (0:Int)≤1∧(1:Int)≤3;decide,λ_ r r0 hk=>?_,λh=>absurd (show (2:Int)≤1 from h) δ,λa h=>⟨.base (Za _ h),nf a⟩,λa _ hf=>absurd hf (nf a),λ_ a h ht=>?_,λh=>absurd (show (1:Int) = 3 from h) δ,λ_=>?_⟩
  ·show (rv (rows (λ_ x=>{ x with BE:=x.top,AO:=0 }) S.A0) r).top = _;rw[er r ω r1,if_neg ω]
  ·have h:mv (List.replicate S.AK.length false) a = true:=h;rw[f0] at h;cases h
  ·have hk:(rv (rows (λ_ x=>{ x with BE:=x.top,AO:=0 }) S.A0) r).kind = 4:=hk;rw[ek r r0] at hk;exact H.nf (by show S.Ad≤1;omega) r r0 hk
  ·have:=lt a h;have ht:(rv (rows (λ_ x=>{ x with BE:=x.top,AO:=0 }) S.A0) (a / 16)).BE≤a:=ht;omega
  ·refine⟨λa h=>.base h,λa h=>(by cases h),λY h1 h2 a h _=>?_,λa h=>⟨.base h,lt a (H.lb a (hsk a h)),.inr (.inr (.inl h))⟩,λa j h _ j0 j1 hq=>⟨.step h j0 j1 hq,lt _ (H.lb _ (hsub _ (.step h j0 j1 hq)))⟩,λa j _ _ _ _=>.inl rfl,λr r0 r1=>?_⟩
   ·induction h with
    | base h=>exact h1 _ h
    | step h j0 j1 hn ih=>exact h2 _ _ h (lt _ (H.lb _ (hsub _ h))) (ih (lt _ (H.lb _ (hsub _ h)))) j0 j1 hn
   ·rw[U6 λa _=>f0 a];have r1:r < S.A0.length:=by
     have:r < (rows (λ_ x=>{ x with BE:=x.top,AO:=0 }) S.A0).length:=r1;rw[CC] at this;exact this
    show (rv (rows (λ_ x=>{ x with BE:=x.top,AO:=0 }) S.A0) r).AO = _;rw[er r ω r1,if_neg ω];rfl
 ·have s:=st t ht;refine⟨s.pc,s.g,s.k,s.nx,s.rl,λa ha h0=>.base (ZP _ (List.mem_flatMap.2 ⟨t,ht,Ze.2 ⟨ha,by simpa using h0⟩⟩))⟩
 ·refine⟨.inl rfl,λh=>absurd (show (1:Int) = 2 from h) δ,λa j _ h=>?_⟩;have h:mv (List.replicate S.AK.length false) a = true:=h;rw[f0] at h;cases h
 ·refine⟨B.ev,Nat.zero_le _,B.cy,B.fu,?_,B.pn⟩;have h1:sk.length≤8 * S.th.length + 8:=by
   have hp:=B.pn;have:(S.th.flatMap λt=>t.AC.filter (·≠0)).length≤8 * S.th.length:=by
    have hs:∀t∈S.th,t.AC.length≤8:=λt ht=>(st t ht).rl
    revert hs;induction S.th with
    | nil=>intro _;simp
    | cons t r ih=>
     intro hs;rw[List.flatMap_cons,Yk,Yt];have h1:=ih λt ht=>hs t (by simp[ht])
     have h2:=hs t σ;have h3:=List.length_filter_le (λx=>decide (x≠0)) t.AC;omega
   show ((S.th.flatMap λt=>t.AC.filter (·≠0)) ++ S.AG).length≤_;rw[Yk];omega
  have h2:=Ks (List.replicate S.AK.length false);rw[Yy] at h2;have h3:=I.n1;show sk.length + ([]:List Int).length + 5 * (List.replicate S.AK.length false).countP (λb=>!b) + (if (1:Int) = 2 then _ else 0)≤3000 + c;rw[if_neg δ,Zp];omega
theorem S5 (I:IG P S g) (B:Bd c S) (hc:S.calm = true) (h2:S.Ad = 2) (hfw:∀a,g.L a→BZ S.A0 a→wv S.AA a≠a):∃S',({ S with stop:=false }:Sim).update = some S'∧IG P S' g∧Bd c S':=by
 have st:=I.still hc;have H:=I.sh;have g0:=H.g;have T:=g0.ok;have n1:S.A0.length≤12:=T.n1;have Bx:(S.A0.all λx=>decide (-1000≤x.top) && decide (x.top≤1000)) = true:=by
  rw[ZC];intro x hx;obtain⟨i,i0,i1,hi⟩:=N0 hx;have e:rv S.A0 i = x:=(FJ DO hi).2.2;by_cases c:i = 0
  ·subst c;rw[← e,show rv S.A0 0 = DO from T.e];decide
  ·have R:=T.row i ω i1;have h1:=R.t0;have h2:=R.t1;rw[← e];simp only[z_b,z_d];simp only at h1 h2;omega
 have T' : TOk (rows (λi x=>{ x with AO:=x.top - AH i }) S.A0):=by
  refine⟨by rw[CC];exact T.n0,by rw[CC];exact T.n1,?_,λr r0 r1=>?_,λr s r0 r1 s0 s1 ho he=>?_⟩
  ·have:=T.n0;simp only at this;rw[EG ω ω,if_pos rfl];exact T.e
  ·rw[CC] at r1;rw[EG ω r1,if_neg ω];have R:=T.row r r0 r1;have hb:=CO (r:=r) ω ω;refine⟨R.k0,R.k1,R.t0,R.t1,R.s0,R.s1,?_,?_,R.fr,R.ow,R.o0,R.o1⟩
   ·show 0≤(rv S.A0 r).top - AH r;have:=R.t0;simp only at this;rw[hb];omega
   ·show (rv S.A0 r).top - AH r≤_;rw[hb];exact ZI _
  ·rw[CC] at r1 s1;rw[EG ω r1,if_neg ω] at ho he;rw[EG ω s1,if_neg ω] at he;exact T.own r s r0 r1 s0 s1 ho he
 have er:∀r:Int,1≤r→r < S.A0.length→rv (rows (λi x=>{ x with AO:=x.top - AH i }) S.A0) r = { rv S.A0 r with AO:=(rv S.A0 r).top - 16 * r }:=λr r0 r1=>by
  rw[EG ω r1,if_neg ω,CO ω ω]
 have e0:∀r:Int,0≤r→(rv (rows (λi x=>{ x with AO:=x.top - AH i }) S.A0) r).kind = (rv S.A0 r).kind∧(rv (rows (λi x=>{ x with AO:=x.top - AH i }) S.A0) r).BE = (rv S.A0 r).BE∧(rv (rows (λi x=>{ x with AO:=x.top - AH i }) S.A0) r).top = (rv S.A0 r).top:=λr r0=>by
  by_cases c:r < S.A0.length
  ·rw[EG r0 c];split<;>exact⟨rfl,rfl,rfl⟩
  ·rw[DU r0 (by rw[CC];omega),DU r0 ω];exact⟨rfl,rfl,rfl⟩
 have hf:∀a,BZ (rows (λi x=>{ x with AO:=x.top - AH i }) S.A0) a↔BZ S.A0 a:=λa=>⟨λh=>⟨h.1,by have:=h.1;have:=h.2;rw[(e0 _ ω).1] at this;exact this⟩,λh=>⟨h.1,by have:=h.1;rw[(e0 _ ω).1];exact h.2⟩⟩
 have tm:∀a,0≤a→(rv (rows (λi x=>{ x with AO:=x.top - AH i }) S.A0) (a / 16)).BE = (rv S.A0 (a / 16)).BE:=λa h=>(e0 (a / 16) ω).2.1
 have B0:∀a,g.B a→0≤a:=λa h=>by have:=g0.inn h;omega
 unfold Sim.update;simp only[Yn];rw[if_pos Bx];simp only[z_o];refine⟨_,rfl,I.mk' (g':=g) (S':={ S with stop:=false,Ad:=3,A0:=rows (λi x=>{ x with AO:=x.top - AH i }) S.A0,col:={ Cd S.col.Ae S.col.want with pc:=6,r:=1,p:=16 } }) rfl rfl ?_ st (λh=>absurd (show (3:Int) = 1 from h) δ) (λh=>absurd (show (3:Int) = 2 from h) δ) (λ_=>?_) (λh=>by cases h),?_⟩
 ·refine⟨Geo.tab g0 T' (CC (f:=λi x=>{ x with AO:=x.top - AH i }) (t:=S.A0)) (λ_ h=>h) λr r0 r1=>.inl ⟨(e0 r ω).2.2,λ_ h _=>h⟩,H.lb,H.rf,λa h hn=>H.st a h λc=>hn ((hf a).2 c),λa h hff hne=>?_,H.ml,λa a0 h=>?_,by show (0:Int)≤3∧(3:Int)≤3;decide,λh=>absurd (show (3:Int)≤1 from h) δ,λ_ a h ht=>?_,λa h=>⟨(H.pl a h).1,λc=>(H.pl a h).2 ((hf a).1 c)⟩,λa h hff=>H.fm a h ((hf a).1 hff),λ_ a h ht=>?_,λ_ a h hff=>hfw a h ((hf a).1 hff),λh=>absurd (show (3:Int) = 1 from h) δ⟩
  ·obtain⟨b1,b2,b3⟩:=H.fw a h ((hf a).1 hff) hne;exact⟨b1,λc=>b2 ((hf _).1 c),b3⟩
  ·obtain⟨b1,b2⟩:=H.mt a a0 h;refine⟨b1,?_⟩;show a < (rv (rows (λi x=>{ x with AO:=x.top - AH i }) S.A0) (a / 16)).BE;rw[tm a a0];exact b2
  ·have ht:a < (rv (rows (λi x=>{ x with AO:=x.top - AH i }) S.A0) (a / 16)).BE:=ht;rw[tm a (B0 a (H.lb a h))] at ht;exact H.lm (by show 2≤S.Ad;omega) a h ht
  ·have ht:(rv (rows (λi x=>{ x with AO:=x.top - AH i }) S.A0) (a / 16)).BE≤a:=ht;rw[tm a (B0 a h)] at ht;exact H.nb (by show 1≤S.Ad;omega) a h ht
 ·refine⟨by show (6:Int)≤6∧(6:Int)≤9;decide,ZI 1,?_,by show (16:Int) * 1≤16;decide,λh1 h2=>?_,λh=>absurd (show (7:Int)≤6 from h) δ,λh=>absurd (show (8:Int)≤6 from h) δ,λh=>absurd (show (6:Int) = 9 from h) δ,λh=>absurd (show (8:Int)≤6 from h) δ,λa j h hn j0 j1 _=>.inl ?_⟩
  ·have:=T.n0;show (1:Int)≤(rows (λi x=>{ x with AO:=x.top - AH i }) S.A0).length;rw[CC];simp only at this;omega
  ·have h1:(1:Int) < (rows (λi x=>{ x with AO:=x.top - AH i }) S.A0).length:=h1;rw[CC] at h1;have h2:(16:Int) < 16 * 1 + (rv (rows (λi x=>{ x with AO:=x.top - AH i }) S.A0) 1).AO:=h2;rw[er 1 δ h1] at h2;simp only at h2;rcases g0.bs 1 δ h1 with h | h
   ·simp only at h;omega
   ·exact h
  ·have i:=g0.inn (H.lb a h);simp only at i;refine⟨by show 16≤a;omega,?_⟩;show a < 16 * (a / 16) + (rv (rows (λi x=>{ x with AO:=x.top - AH i }) S.A0) (a / 16)).AO;rw[er (a / 16) ω ω];simp only;omega
 ·refine⟨B.ev,B.old,B.cy,B.fu,?_,B.pn⟩;have:=B.st;show ([]:List Int).length + S.old.length + 5 * S.AK.countP (λb=>!b) + (if (6:Int) = 2 then _ else 0)≤3000 + c;rw[if_neg δ,Zp];omega
end
end Sm
end
section
namespace Sm
variable {P:List (List Op)}
theorem DC {r:Int} (h0:1≤r) (h1:r < 12):Hl r (DH r)∧DH r = ⟨1,-1,16 * r,16 * r,0⟩:=by
 have hb:=CO (r:=r) ω h1;have e:DH r = ⟨1,-1,16 * r,16 * r,0⟩:=by unfold DH;rw[hb]
 refine⟨?_,e⟩;rw[e];exact⟨σ,σ,σ,by simp;omega,σ,σ,σ,σ,σ,σ,σ,σ⟩
theorem Gq {t:List Rg} {r:Int} (T:TOk t) (h0:1≤r) (h1:r < t.length) (hk:(rv t r).kind≠1):Bz t r = some (AT t r (DH r))∧TOk (AT t r (DH r)):=by
 have n1:=T.n1;obtain⟨fr,fe⟩:=DC h0 (by omega:r < 12);constructor
 ·unfold Bz;rw[if_pos (by simp[Bm.2 T,h0]),DB ω h1];simp only[];rw[if_neg (by simpa using hk)]
 ·refine T.set h0 h1 fr λs _ _ _ ho=>?_
  rw[fe] at ho;simp at ho
theorem La:∀(n i:Nat) (t:List Rg),TOk t→1≤i→t.length≤i + n→TOk (Cl n i t)∧(Cl n i t).length = t.length∧∀r:Int,1≤r→r < t.length→rv (Cl n i t) r = if i≤r∧(rv t r).kind = 4 then DH r else rv t r:=by
 intro n;induction n with
 | zero=>intro i t T hi hn;exact⟨T,rfl,λr r0 r1=>by rw[if_neg ω];rfl⟩
 | succ n ih=>
  intro i t T hi hn;unfold Cl;by_cases c:i < t.length
  ·have e:t[i]? = some (rv t i):=by rw[Yi c,rv,Fm c]
   rw[e];simp only[];by_cases k4:(rv t i).kind = 4
   ·obtain⟨d1,d2⟩:=Gq (r:=i) T ω ω ω;rw[if_pos (by simpa using k4),d1];simp only[Zi];obtain⟨g1,g2,g3⟩:=ih (i + 1) (AT t i (DH i)) d2 ω (by simp;omega);refine⟨g1,by rw[g2];simp,λr r0 r1=>?_⟩;rw[g3 r r0 (by simpa using r1),DS ω ω ω];by_cases h:r = i
    ·subst h;rw[if_neg ω,if_pos rfl,if_pos ⟨ω,k4⟩]
    ·rw[if_neg h];by_cases h2:((i + 1:Nat):Int)≤r∧(rv t r).kind = 4
     ·rw[if_pos h2,if_pos ⟨ω,h2.2⟩]
     ·rw[if_neg h2,if_neg (λh3=>h2 ⟨ω,h3.2⟩)]
   ·rw[if_neg (by simpa using k4)];obtain⟨g1,g2,g3⟩:=ih (i + 1) t T ω ω;refine⟨g1,g2,λr r0 r1=>?_⟩;rw[g3 r r0 r1];by_cases h2:((i + 1:Nat):Int)≤r∧(rv t r).kind = 4
    ·rw[if_pos h2,if_pos ⟨ω,h2.2⟩]
    ·rw[if_neg h2,if_neg (λh3=>h2 ⟨by
      by_cases h:r = i
      ·subst h;exact absurd h3.2 k4
      ·omega,h3.2⟩)]
  ·rw[Zd ω];simp only[];exact⟨T,trivial,λr r0 r1=>by rw[if_neg ω]⟩
theorem MN:∀(l:List Int) (t:List Rg),TOk t→l.Nodup→(∀r∈l,1≤r∧r < t.length∧(rv t r).kind≠1)→TOk (l.foldl (λt r=>(Bz t r).getD []) t)∧(l.foldl (λt r=>(Bz t r).getD []) t).length = t.length∧∀r:Int,1≤r→r < t.length→rv (l.foldl (λt r=>(Bz t r).getD []) t) r = if r∈l then DH r else rv t r:=by
 intro l;induction l with
 | nil=>intro t T _ _;exact⟨T,rfl,λr _ _=>σ⟩
 | cons a l ih=>
  intro t T hn h;rw[Zj] at hn;obtain⟨a0,a1,ak⟩:=h a σ;obtain⟨d1,d2⟩:=Gq T a0 a1 ak;simp only[aZ,d1,Zi];obtain⟨g1,g2,g3⟩:=ih (AT t a (DH a)) d2 hn.2 λr hr=>by
   obtain⟨r0,r1,rk⟩:=h r (by simp[hr]);refine⟨r0,by simpa using r1,?_⟩;rw[DS ω a1 ω,if_neg (λc=>by subst c;exact hn.1 hr)];exact rk
  refine⟨g1,by rw[g2];simp,λr r0 r1=>?_⟩;rw[g3 r r0 (by simpa using r1),DS ω a1 ω];by_cases c:r = a
  ·subst c;rw[if_neg hn.1,if_pos rfl,if_pos σ]
  ·rw[if_neg c];by_cases d:r∈l
   ·rw[if_pos d,if_pos (by simp[d])]
   ·rw[if_neg d,if_neg (by simp[c,d])]
theorem QE:∀(l:List Int) (t:List Rg),TOk t→(∀r∈l,1≤r∧r < t.length∧((rv t r).kind = 3∨(rv t r).kind = 4))→∃t',Js l t = some t'∧TOk t'∧t'.length = t.length∧∀r:Int,1≤r→r < t.length→rv t' r = if r∈l then { rv t r with kind:=4 } else rv t r:=by
 intro l;induction l with
 | nil=>intro t T _;exact⟨t,rfl,T,rfl,λr _ _=>σ⟩
 | cons a l ih=>
  intro t T h;obtain⟨a0,a1,ak⟩:=h a σ;unfold Js;rw[DB ω a1];simp only[Yn,z_o];have R:=T.row a a0 a1;have ho:(rv t a).AV < 0:=by
   have:=R.ow;by_cases c:0≤(rv t a).AV
   ·have:=this.2 c;omega
   ·omega
  have T2:TOk (AT t a { rv t a with kind:=4 }):=T.set a0 a1 ⟨σ,σ,R.t0,R.t1,R.s0,R.s1,R.l0,R.l1,λh=>by simp at h,by simp;omega,R.o0,R.o1⟩ λs _ _ _ h=>by simp at h;omega
  obtain⟨t',e,g1,g2,g3⟩:=ih _ T2 λr hr=>by
   obtain⟨r0,r1,rk⟩:=h r (by simp[hr]);refine⟨r0,by simpa using r1,?_⟩;rw[DS ω a1 ω];split
   ·exact .inr rfl
   ·exact rk
  refine⟨t',e,g1,by rw[g2];simp,λr r0 r1=>?_⟩;rw[g3 r r0 (by simpa using r1),DS ω a1 ω];by_cases c:r = a
  ·subst c;rw[if_pos rfl,if_pos (show r∈r :: l by simp)];split<;>rfl
  ·rw[if_neg c];by_cases d:r∈l
   ·rw[if_pos d,if_pos (by simp[d])]
   ·rw[if_neg d,if_neg (by simp[c,d])]
theorem NZ {held:List Int}:∀(l:List Rg) (i:Nat),(DA held i l).Nodup∧∀r∈DA held i l,∃k,∃h:k < l.length,r = (i + k:Nat)∧Bu held 0 (i + k) l[k] = true:=by
 intro l;induction l with
 | nil=>intro i;exact⟨by simp[DA],λr hr=>by simp[DA] at hr⟩
 | cons x l ih=>
  intro i;obtain⟨h1,h2⟩:=ih (i + 1);have h2' : ∀r∈DA held (i + 1) l,∃k,∃h:k < (x :: l).length,r = (i + k:Nat)∧Bu held 0 (i + k) (x :: l)[k] = true:=λr hr=>by
   obtain⟨k,hk,e,hc⟩:=h2 r hr;exact⟨k + 1,by simpa using hk,by rw[e];congr 1;omega,by rw[show i + (k + 1) = i + 1 + k from ω];exact hc⟩
  simp only[DA];split
  ·refine⟨Zj.2 ⟨λhm=>?_,h1⟩,λr hr=>?_⟩
   ·obtain⟨k,_,e,_⟩:=h2 _ hm;omega
   ·rcases Yx.1 hr with h | h
    ·exact⟨0,σ,by rw[h];rfl,by assumption⟩
    ·exact h2' r h
  ·exact⟨h1,h2'⟩
theorem Lv {held:List Int} {n:Int}:∀(l:List Rg) (i:Nat) (left:Int),∀r∈(CX held n i l left).2,∃k,∃h:k < l.length,r = (i + k:Nat)∧Bu held n (i + k) l[k] = true:=by
 intro l;induction l with
 | nil=>intro i left r hr;simp[CX] at hr
 | cons x l ih=>
  intro i left r hr;have h2' : ∀left,r∈(CX held n (i + 1) l left).2→∃k,∃h:k < (x :: l).length,r = (i + k:Nat)∧Bu held n (i + k) (x :: l)[k] = true:=λleft hr=>by
   obtain⟨k,hk,e,hc⟩:=ih (i + 1) left r hr;exact⟨k + 1,by simpa using hk,by rw[e];congr 1;omega,by rw[show i + (k + 1) = i + 1 + k from ω];exact hc⟩
  simp only[CX] at hr;split at hr
  ·rename_i hc;rcases Yx.1 hr with h | h
   ·exact⟨0,σ,by rw[h];rfl,by simp only[z_b] at hc;exact hc.1⟩
   ·exact h2' _ h
  ·exact h2' _ hr
theorem Jd {t:List Rg} {held:List Int}:∀(k:Nat) (n left:Int),∀r∈Bo t held k n left,∃m,n≤m∧∃j,∃h:j < t.tail.length,r = (1 + j:Nat)∧Bu held m (1 + j) t.tail[j] = true:=by
 intro k;induction k with
 | zero=>intro n left r hr;simp[Bo] at hr
 | succ k ih=>
  intro n left r hr;simp only[Bo,ZB] at hr;rcases hr with h | h
  ·obtain⟨j,hj,e,hc⟩:=Lv t.tail 1 left r h;exact⟨n,ZI n,j,hj,e,hc⟩
  ·obtain⟨m,hm,h2⟩:=ih (n + 1) _ r h;exact⟨m,ω,h2⟩
theorem choose_spec {t:List Rg} {AS:Int} {held:List Int} (T:TOk t):((Ag t AS held).2).Nodup∧
  (∀r∈(Ag t AS held).2,1≤r∧r < t.length∧(rv t r).kind = 3∧(rv t r).top = (rv t r).BE∧(rv t r).AO = 0∧r ∉ held)∧
  (∀r∈(Ag t AS held).1,1≤r∧r < t.length∧(rv t r).kind = 3∧(rv t r).top = (rv t r).BE∧1≤(rv t r).AO∧r ∉ held):=by
 have key:∀(m:Int) (j:Nat) (h:j < t.tail.length),Bu held m (1 + j) t.tail[j] = true→1≤((1 + j:Nat):Int)∧((1 + j:Nat):Int) < t.length∧(rv t (1 + j:Nat)).kind = 3∧(rv t (1 + j:Nat)).top = (rv t (1 + j:Nat)).BE∧(rv t (1 + j:Nat)).AO = m∧((1 + j:Nat):Int) ∉ held:=λm j h hc=>by
  rw[Hv h] at hc;simp only[Bu,z_b,z_d,beq_iff_eq,Z9,List.contains_eq_mem,decide_eq_false_iff_not] at hc;simp only[aD] at h;exact⟨ω,ω,hc.1.1.1.1,hc.1.1.1.2,hc.1.1.2,hc.2⟩
 unfold Ag;rw[if_pos (Bm.2 T)];obtain⟨f1,f2⟩:=NZ (held:=held) t.tail 1;refine⟨f1,λr hr=>?_,λr hr=>?_⟩
 ·obtain⟨k,hk,e,hc⟩:=f2 r hr;rw[e];exact key 0 k hk hc
 ·obtain⟨m,hm,j,hj,e,hc⟩:=Jd 16 1 AS r hr;obtain⟨h1,h2,h3,h4,h5,h6⟩:=key m j hj hc;rw[e];exact⟨h1,h2,h3,h4,ω,h6⟩
theorem RH {c:Nat} {S:Sim} {B L q r0} (hc:c < 900000) (n0:1≤S.th.length) (n1:S.th.length≤3) (pl:S.Aa.length = S.th.length) (pp:∀p∈S.Aa,p.length≤40) (pg:S.Aa = P) (rs:0≤S.c.AS∧S.c.AS≤100) (G:Geo S.AA S.A0 B) (lb:∀a,L a→B a)
  (rf:∀a j,L a→0≤j→j < (shp S.AA a).refs→wv S.AA (a + 2 + j)≠0→L (wv S.AA (a + 2 + j))) (st:∀a,B a→wv S.AA a = a) (nf:∀r:Int,0≤r→(rv S.A0 r).kind≠4) (ml:S.AK.length = S.AA.length)
  (AG:∀a∈S.AG,L a) (th:∀t∈S.th,Jq L t) (hst:S.stop = false) (Bb:Bd c S):∃S',S.idle = some S'∧IG P S' ⟨B,L,q,r0⟩∧Bd (c + 1) S':=by
 have wl:S.AA.length≤192:=by
  have h1:=G.len;have h2:=G.ok.n1;omega
 unfold Sim.idle;simp only[Yn];rw[BV (by have:=Bb.cy.1;omega) (by have:=Bb.cy.2;omega)];simp only[z_o];have T:=G.ok;have T' : TOk (rows (λ_ x=>{ x with AO:=0 }) S.A0):=TOk.rows T λr x R=>⟨⟨R.k0,R.k1,R.t0,R.t1,R.s0,R.s1,ZI 0,by show 0≤x.top - 16 * r;have:=R.t0;omega,R.fr,R.ow,R.o0,R.o1⟩,rfl⟩
 have er:∀r:Int,0≤r→(rv (rows (λ_ x=>{ x with AO:=0 }) S.A0) r).kind = (rv S.A0 r).kind∧(rv (rows (λ_ x=>{ x with AO:=0 }) S.A0) r).top = (rv S.A0 r).top:=λr r0=>by
  by_cases c:r < S.A0.length
  ·rw[EG r0 c];split<;>exact⟨rfl,rfl⟩
  ·rw[DU r0 (by rw[CC];omega),DU r0 ω];exact⟨rfl,rfl⟩
 have nf' : ∀a,¬ BZ (rows (λ_ x=>{ x with AO:=0 }) S.A0) a:=λa hf=>nf (a / 16) (by have:=hf.1;omega) (by rw[← (er _ (by have:=hf.1;omega)).1];exact hf.2)
 have f0:∀a,mv (List.replicate S.AK.length false) a = false:=λa=>NH
 refine⟨_,rfl,⟨pg,?_,n0,n1,pl,pp,λi t h=>(th t (IJ h)).ti,λh=>absurd (show (0:Int) = 1 from h) δ,λh=>absurd (show (0:Int) = 2 from h) δ,λh=>absurd (show (0:Int) = 3 from h) δ,(λh=>absurd (hst.symm.trans h) δ),rs⟩,?_⟩
 ·exact⟨Geo.tab G T' (CC (f:=λ_ x=>{ x with AO:=0 }) (t:=S.A0)) (λ_ h=>h) λr r0 r1=>.inl ⟨(er r ω).2,λ_ h _=>h⟩,lb,rf,λa h _=>st a h,λa _ hf=>absurd hf (nf' a),by show (List.replicate S.AK.length false).length = _;rw[Yy];exact ml,λa _ h=>(by
   have h:mv (List.replicate S.AK.length false) a = true:=h
   rw[f0] at h;cases h),by show (0:Int)≤0∧(0:Int)≤3;decide,λ_ r r0 hk=>nf r r0 (by rw[← (er r r0).1];exact hk),λh=>absurd (show (2:Int)≤0 from h) δ,λa h=>⟨AG a h,nf' a⟩,λa _ hf=>absurd hf (nf' a),λh=>absurd (show (1:Int)≤0 from h) δ,λh=>absurd (show (0:Int) = 3 from h) δ,λh=>absurd (show (0:Int) = 1 from h) δ⟩
 ·have h2:=Ks (List.replicate S.AK.length false);rw[Yy] at h2;have h3:=Bb.old;refine⟨by have:=Bb.ev;show S.ev.length≤c + 1;omega,by show S.old.length≤c + 1;omega,by have:=Bb.cy;show 0≤S.Aj + 1∧S.Aj + 1≤((c + 1:Nat):Int);omega,by have:=Bb.fu;show 0≤S.BA∧S.BA≤((c + 1:Nat):Int);omega,?_,Bb.pn⟩;show ([]:List Int).length + S.old.length + 5 * (List.replicate S.AK.length false).countP (λb=>!b) + (if (0:Int) = 2 then _ else 0)≤3000 + (c + 1);rw[if_neg δ,Zp];omega
section
variable {c:Nat} {S:Sim} {g:Gh}
theorem Ri (I:IG P S g) (h3:S.Ad = 3):∀l:List Int,(∀a∈l,a≠0→g.L a)→∃l',S.rootsF l = some l'∧l'.length = l.length∧∀a∈l',a≠0→g.L a∧¬ BZ S.A0 a:=by
 intro l;induction l with
 | nil=>intro _;exact⟨[],rfl,rfl,λa h=>by cases h⟩
 | cons a l ih=>
  intro h;obtain⟨l',e,hl,hm⟩:=ih λb hb=>h b (by simp[hb])
  obtain⟨d,hd,hdf⟩:=I.frm (h a σ);unfold Sim.rootsF;rw[hd,e];simp only[Yn,z_o];cases d with
  | false=>
   simp only[ZE,if_false,z_o];refine⟨_,rfl,by simp[hl],λb hb b0=>?_⟩;rcases Yx.1 hb with hb | hb
   ·subst hb;exact⟨h b σ b0,λc=>by have:=hdf.2 c;cases this⟩
   ·exact hm b hb b0
  | true=>
   have hf:BZ S.A0 a:=hdf.1 rfl;have hL:=h a σ (RO I.sh.g hf);obtain⟨a1,a2,a3,a4,a5,a6⟩:=I.in_ hL;simp only[if_true];rw[Uq ω ω];simp only[z_o];obtain⟨f1,f2,_⟩:g.L (wv S.AA a)∧¬ BZ S.A0 (wv S.AA a)∧_:=I.sh.fw _ (I.sh.lb _ hL) hf (I.sh.af h3 a hL hf);refine⟨_,rfl,by simp[hl],λb hb b0=>?_⟩;rcases Yx.1 hb with hb | hb
   ·subst hb;exact⟨f1,f2⟩
   ·exact hm b hb b0
theorem Vf (I:IG P S g) (h3:S.Ad = 3):∀l:List Thr,(∀t∈l,Jq g.L t)→∃l',S.thsF l = some l'∧l'.length = l.length∧∀t∈l',Jq (λa=>g.L a∧¬ BZ S.A0 a) t:=by
 intro l;induction l with
 | nil=>intro _;exact⟨[],rfl,rfl,λa h=>by cases h⟩
 | cons t l ih=>
  intro h;obtain⟨l',e,hl,hm⟩:=ih λb hb=>h b (by simp[hb])
  have s:=h t σ;obtain⟨r',e',hl',hm'⟩:=Ri I h3 t.AC s.rt;unfold Sim.thsF;rw[e',e];simp only[Yn,z_o];refine⟨_,rfl,by simp[hl],λb hb=>?_⟩;rcases Yx.1 hb with hb | hb
  ·subst hb;exact⟨s.pc,s.g,s.k,s.nx,by show r'.length≤8;rw[hl'];exact s.rl,hm'⟩
  ·exact hm b hb
theorem Rj (hc:c < 900000) (I:IG P S g) (B:Bd c S) (hcm:S.calm = true) (h3:S.Ad = 3) (hcl:∀a j,g.L a→¬ BZ S.A0 a→0≤j→j < (shp S.AA a).refs→¬ BZ S.A0 (wv S.AA (a + 2 + j))):∃S' g',({ S with stop:=false }:Sim).finish = some S'∧IG P S' g'∧Bd (c + 1) S':=by
 have st:=I.still hcm;have H:=I.sh;have G:=H.g;have I0:IG P { S with stop:=false } g:=⟨I.pg,I.sh,I.n0,I.n1,I.pl,I.pp,I.ti,I.c1,I.c2,I.c3,(λh=>by cases h),I.rs⟩;obtain⟨th,e,hl,hm⟩:=Vf I0 h3 S.th st;unfold Sim.finish;simp only[Yn];rw[e];simp only[z_o];have T:=G.ok;have n1:S.A0.length≤12:=T.n1;obtain⟨d1,d2,d3⟩:=La S.A0.length 1 S.A0 T ω ω;have d3:∀r:Int,1≤r→r < S.A0.length→rv (Cl S.A0.length 1 S.A0) r = if (rv S.A0 r).kind = 4 then DH r else rv S.A0 r:=λr r0 r1=>by
  rw[d3 r r0 r1];by_cases h:(rv S.A0 r).kind = 4
  ·rw[if_pos ⟨ω,h⟩,if_pos h]
  ·rw[if_neg (λh'=>h h'.2),if_neg h]
 obtain⟨S',e',I',B'⟩:=RH (P:=P) (S:={ S with stop:=false,th:=th,A0:=Cl S.A0.length 1 S.A0 }) (B:=λa=>g.B a∧¬ BZ S.A0 a) (L:=λa=>g.L a∧¬ BZ S.A0 a) (q:=g.q) (r0:=g.r0) hc (by show 1≤th.length;rw[hl];exact I.n0) (by show th.length≤3;rw[hl];exact I.n1) (by show S.Aa.length = th.length;rw[hl];exact I.pl) I.pp I.pg I.rs
  (Geo.tab G d1 d2 (λa h=>h.1) λr r0 r1=>by
   rw[d3 r r0 r1]
   by_cases h:(rv S.A0 r).kind = 4
   ·right
    rw[if_pos h,(DC r0 (by simp only at r1;omega)).2]
    exact⟨rfl,λa ha hr=>ha.2 ⟨by have:=G.inn ha.1;omega,by rw[hr];exact h⟩⟩
   ·left
    rw[if_neg h]
    exact⟨rfl,λa ha hr=>⟨ha,λhf=>h (by rw[← hr];exact hf.2)⟩⟩) (λa h=>⟨H.lb a h.1,h.2⟩) (λa j h j0 j1 hn=>⟨H.rf a j h.1 j0 j1 hn,hcl a j h.1 h.2 j0 j1⟩) (λa h=>H.st a h.1 h.2) (λr r0 hk=>by
   have hk:(rv (Cl S.A0.length 1 S.A0) r).kind = 4:=hk
   by_cases c1:r < S.A0.length
   ·by_cases c2:1≤r
    ·rw[d3 r c2 c1] at hk
     split at hk
     ·rw[(DC c2 ω).2] at hk;cases hk
     ·contradiction
    ·rw[show r = 0 from ω,d1.e] at hk;cases hk
   ·rw[DU r0 (by rw[d2];omega)] at hk;cases hk) H.ml (λa h=>H.pl a h) hm rfl ⟨B.ev,B.old,B.cy,B.fu,B.st,B.pn⟩
 exact⟨S',_,e',I',B'⟩
theorem VB {x:X} (H:Sh x) {a:Int} (ha:x.L a) (hm:mv x.m a = true):0 < cnt x (a / 16):=by
 have g:=H.g.inn (H.lb a ha);unfold cnt;rw[List.countP_pos_iff];refine⟨(a - 16 * (a / 16)).toNat,Zq.2 ω,?_⟩
 classical
 have:∃b,0≤b∧mv x.m b = true∧b≤16 * (a / 16) + ((a - 16 * (a / 16)).toNat:Int)∧16 * (a / 16) + ((a - 16 * (a / 16)).toNat:Int) < b + sz x.w b:=⟨a,ω,hm,ω,ω⟩;exact decide_eq_true this
theorem SH {n:Nat} (hc:c < 900000) (hn:mu S < n) (I:IG P S g) (B:Bd c S) (hcm:S.calm = true) (h1:S.Ad = 1):∃S' g',({ S with stop:=false }:Sim).choose n = some S'∧IG P S' g'∧Bd (c + 1) S':=by
 have I0:IG P { S with stop:=false } g:=⟨I.pg,I.sh,I.n0,I.n1,I.pl,I.pp,I.ti,I.c1,I.c2,I.c3,(λh=>by cases h),I.rs⟩;have B0:Bd c { S with stop:=false }:=⟨B.ev,B.old,B.cy,B.fu,B.st,B.pn⟩;obtain⟨S1,e1,I1,B1,p1,⟨_,t1⟩,_,s1,_,k1,o1,pc1⟩:=T7 hc n { S with stop:=false } g I0 B0 h1 hn;have hcm1:S1.calm = true:=by
  show (S1.th.all λt=>t.pc == 0) = true;rw[t1];exact hcm
 have st:=I1.still hcm1;have H:=I1.sh;have G:=H.g;have T:=G.ok;have n1:S1.A0.length≤12:=T.n1;have M:=H.mp p1;have C:=I1.c1 p1;have lg:∀v,Lg (xof S1 g) v→v≠0→v < (xof S1 g).tm v→mv S1.AK v = true:=λv h h0 ht=>by
  rcases h with h | h | h | h | h
  ·exact absurd h h0
  ·exact h
  ·have h:v∈S1.col.AM:=h;rw[k1] at h;cases h
  ·have h:v∈S1.old:=h;rw[o1] at h;cases h
  ·have:=h.2;omega
 have L0:∀a,g.L a→16≤a:=λa h=>(I1.in_ h).1
 have lm:∀a,g.L a→a < (xof S1 g).tm a→mv S1.AK a = true:=M.mn (λa=>mv S1.AK a = true) (λa h=>by
  obtain⟨q1,q2,q3⟩:=M.l0 a h
  exact lg a q3 (by have:=L0 a q1;omega) q2) (λa j ha ht hm j0 j1 hq=>by
  obtain⟨q1,q2⟩:=M.ql a j ha ht j0 j1 hq
  rcases C.sc a j (by have:=L0 a ha;omega) hm j0 j1 with ⟨h,_⟩ | h
  ·omega
  ·exact lg _ h hq q2)
 obtain⟨c1,c2,c3⟩:=choose_spec (AS:=S1.c.AS) (held:=S1.AG.map AN) T;obtain⟨f1,f2,f3⟩:=MN (Ag S1.A0 S1.c.AS (S1.AG.map AN)).2 S1.A0 T c1 λr hr=>by
  obtain⟨h1,h2,h3,_⟩:=c2 r hr;exact⟨h1,h2,by simp only at h3;omega⟩
 have dis:∀r∈(Ag S1.A0 S1.c.AS (S1.AG.map AN)).1,r ∉ (Ag S1.A0 S1.c.AS (S1.AG.map AN)).2:=λr h h'=>by
  have a1:=(c3 r h).2.2.2.2.1;have a2:=(c2 r h').2.2.2.2.1;omega
 obtain⟨t',e2,k1',k2,k3⟩:=QE (Ag S1.A0 S1.c.AS (S1.AG.map AN)).1 _ f1 λr hr=>by
  obtain⟨h1,h2,h3,_⟩:=c3 r hr;refine⟨h1,by rw[f2];exact h2,.inl ?_⟩;rw[f3 r h1 h2,if_neg (dis r hr)];exact h3
 have kr:∀r:Int,1≤r→r < S1.A0.length→rv t' r = if r∈(Ag S1.A0 S1.c.AS (S1.AG.map AN)).1 then { rv S1.A0 r with kind:=4 } else if r∈(Ag S1.A0 S1.c.AS (S1.AG.map AN)).2 then DH r else rv S1.A0 r:=λr r0 r1=>by
  rw[k3 r r0 (by rw[f2];exact r1),f3 r r0 r1];by_cases h:r∈(Ag S1.A0 S1.c.AS (S1.AG.map AN)).1
  ·rw[if_pos h,if_pos h,if_neg (dis r h)]
  ·rw[if_neg h,if_neg h]
 have lt' : t'.length = S1.A0.length:=by rw[k2,f2]
 have nofree:∀a,g.L a→a / 16 ∉ (Ag S1.A0 S1.c.AS (S1.AG.map AN)).2:=λa ha h=>by
  obtain⟨h1,h2,h3,h4,h5,_⟩:=c2 _ h;have i:=G.inn (H.lb a ha);simp only at i h4 h5 h2;have hm:=lm a ha (by show a < (rv S1.A0 (a / 16)).BE;omega);have h6:=VB H ha hm;have h7:=M.cov (a / 16) i.2.1 i.2.2.1;have h8:(rv S1.A0 (a / 16)).AO = cnt (xof S1 g) (a / 16):=h7;rw[h5] at h8;omega
 have hB:∀a,(g.B a∧a / 16 ∉ (Ag S1.A0 S1.c.AS (S1.AG.map AN)).2)→g.B a:=λa h=>h.1
 have stW:∀a,g.B a→wv S1.AA a = a:=λa h=>H.st a h (I1.nofrom ω a)
 have geo:Geo S1.AA t' (λa=>g.B a∧a / 16 ∉ (Ag S1.A0 S1.c.AS (S1.AG.map AN)).2):=Geo.tab G k1' lt' hB λr r0 r1=>by
  rw[kr r r0 r1];by_cases h:r∈(Ag S1.A0 S1.c.AS (S1.AG.map AN)).1
  ·left;rw[if_pos h];exact⟨rfl,λa ha hr=>⟨ha,by rw[hr];exact dis r h⟩⟩
  ·rw[if_neg h];by_cases h2:r∈(Ag S1.A0 S1.c.AS (S1.AG.map AN)).2
   ·right;rw[if_pos h2,(DC r0 (by simp only at r1;omega)).2];exact⟨rfl,λa ha hr=>ha.2 (by rw[hr];exact h2)⟩
   ·left;rw[if_neg h2];exact⟨rfl,λa ha hr=>⟨ha,by rw[hr];exact h2⟩⟩
 unfold Sim.choose;simp only[Yn];rw[e1];simp only[z_o];rw[e2];simp only[z_o];by_cases hz:(Ag S1.A0 S1.c.AS (S1.AG.map AN)).1.length = 0
 ·rw[if_pos hz];have hnil:=ZL.1 hz;obtain⟨S',e',I',B'⟩:=RH (P:=P) (S:={ S1 with stop:=false,A0:=t' }) (B:=λa=>g.B a∧a / 16 ∉ (Ag S1.A0 S1.c.AS (S1.AG.map AN)).2) (L:=g.L) (q:=g.q) (r0:=g.r0) hc I1.n0 I1.n1 I1.pl I1.pp I1.pg I1.rs geo (λa h=>⟨H.lb a h,nofree a h⟩) H.rf (λa h=>stW a h.1) (λr r0 hk=>by
   have hk:(rv t' r).kind = 4:=hk
   by_cases c1:r < S1.A0.length
   ·by_cases c2:1≤r
    ·rw[kr r c2 c1,hnil,if_neg σ] at hk
     split at hk
     ·rw[(DC c2 ω).2] at hk;cases hk
     ·exact H.nf (by show S1.Ad≤1;omega) r r0 hk
    ·rw[show r = 0 from ω,k1'.e] at hk;cases hk
   ·rw[DU r0 (by rw[lt'];omega)] at hk;cases hk) H.ml (λa h=>(H.pl a h).1) st rfl ⟨B1.ev,B1.old,B1.cy,B1.fu,B1.st,B1.pn⟩
  exact⟨S',_,e',I',B'⟩
 ·rw[if_neg hz];have tmB:∀a,g.B a→a / 16 ∉ (Ag S1.A0 S1.c.AS (S1.AG.map AN)).2→(rv t' (a / 16)).BE = (rv S1.A0 (a / 16)).BE:=λa h h2=>by
   have i:=G.inn h;rw[kr _ i.2.1 i.2.2.1];by_cases hh:a / 16∈(Ag S1.A0 S1.c.AS (S1.AG.map AN)).1
   ·rw[if_pos hh]
   ·rw[if_neg hh,if_neg h2]
  have fmem:∀a,g.B a→BZ t' a→a / 16∈(Ag S1.A0 S1.c.AS (S1.AG.map AN)).1:=λa h hf=>by
   have i:=G.inn h;have hk:=hf.2;rw[kr _ i.2.1 i.2.2.1] at hk;split at hk
   ·assumption
   ·split at hk
    ·rw[(DC i.2.1 (by have:=i.2.2.1;simp only at this;omega)).2] at hk;cases hk
    ·exact absurd hk (H.nf (by show S1.Ad≤1;omega) _ ω)
  refine⟨_,⟨λa=>g.B a∧a / 16 ∉ (Ag S1.A0 S1.c.AS (S1.AG.map AN)).2,g.L,g.q,g.r0⟩,rfl,I1.mk' (S':={ S1 with stop:=false,A0:=t',Ad:=2,col:={ Cd S1.col.Ae S1.col.want with pc:=5,r:=1,p:=16 } }) rfl rfl ?_ st (λh=>absurd (show (2:Int) = 1 from h) δ) (λ_=>?_) (λh=>absurd (show (2:Int) = 3 from h) δ) (λh=>by cases h),?_⟩
  ·refine⟨geo,λa h=>⟨H.lb a h,nofree a h⟩,H.rf,λa h _=>stW a h.1,λa h _ hne=>absurd (stW a h.1) hne,H.ml,λa a0 h=>?_,by show (0:Int)≤2∧(2:Int)≤3;decide,λh=>absurd (show (2:Int)≤1 from h) δ,λ_ a h ht=>lm a h ?_,λa h=>⟨(H.pl a h).1,λhf=>?_⟩,λa h hf=>?_,λ_ a h ht=>?_,λh=>absurd (show (2:Int) = 3 from h) δ,λh=>absurd (show (2:Int) = 1 from h) δ⟩
   ·obtain⟨b1,b2⟩:=H.mt a a0 h;refine⟨b1,?_⟩;show a < (rv t' (a / 16)).BE;rw[tmB a (H.lb a b1) (nofree a b1)];exact b2
   ·have ht:a < (rv t' (a / 16)).BE:=ht;rw[tmB a (H.lb a h) (nofree a h)] at ht;exact ht
   ·have hL:=(H.pl a h).1;have:=(c3 _ (fmem a (H.lb a hL) hf)).2.2.2.2.2;refine this (ZK.2 ⟨a,h,?_⟩);have:=L0 a hL;rw[Bq ω]
   ·obtain⟨_,_,_,h4,_⟩:=c3 _ (fmem a (H.lb a h) hf);have i:=G.inn (H.lb a h);simp only at i h4;exact lm a h (by show a < (rv S1.A0 (a / 16)).BE;omega)
   ·have ht:(rv t' (a / 16)).BE≤a:=ht;rw[tmB a h.1 h.2] at ht;exact H.nb (by show 1≤S1.Ad;omega) a h.1 ht
  ·refine⟨ZI 1,by show (1:Int)≤t'.length;rw[lt'];have:=T.n0;simp only at this;omega,by show (16:Int) * 1≤16;decide,by show (16:Int)≤16 * 1 + 16;decide,λa h _ hlt=>?_,.inl rfl⟩;have hlt:a < 16:=hlt;have:=L0 a h;omega
  ·refine⟨by have:=B1.ev;show S1.ev.length≤c + 1;omega,by have:=B1.old;show S1.old.length≤c + 1;omega,by have:=B1.cy;show 0≤S1.Aj∧S1.Aj≤((c + 1:Nat):Int);omega,by have:=B1.fu;show 0≤S1.BA∧S1.BA≤((c + 1:Nat):Int);omega,?_,B1.pn⟩;have:=B1.st;show ([]:List Int).length + S1.old.length + 5 * S1.AK.countP (λb=>!b) + (if (5:Int) = 2 then _ else 0)≤3000 + (c + 1);rw[if_neg δ,Zp];omega
end
end Sm
end
section
namespace Go.Lf
open Go Sm
theorem VH {R:RM} {D:Chs} {v:Value} {l:List Int} {i:Int} {k:Value→M} (h:BG R v l) (h0:0≤i) (h1:i < l.length) (H:∀q:Value,(∀(D' : Chs) (k' : Value→M),J R D' (k' (I (l[i.toNat]'(ω))))→J R D' (L1 q k'))→J R D (k q)):J R D (IA 1 v (I i) k):=by
 rcases h with ⟨_,h2,_⟩ | ⟨b,o,cap,t,cs,rfl,h2,h3,h4,h5⟩
 ·omega
 ·refine jia h0 h1 (H _ λD' k' H'=>jlr h2 ?_ H');have:=congrArg (λl=>l[i.toNat]?) h4;simp only[Zl,ZY,ZQ] at this;rw[if_pos ω,Yi (by omega:i.toNat < l.length)] at this;rw[Zo,this];rfl
theorem PJ {S S' : Sim} (h:S.look = some S'):S'.c = S.c∧S'.AG = S.AG:=by
 unfold Sim.look at h;split at h
 ·cases h
 obtain⟨_,_,h⟩:=AD h;obtain⟨_,_,h⟩:=AD h;obtain⟨⟨v,S1⟩,hr,h⟩:=AD h;have e:=Cn hr;subst e;obtain⟨_,_,h⟩:=AD h;simp only[Yu] at h;subst h;exact⟨rfl,rfl⟩
theorem Qb {S S' : Sim} (h:S.mark = some S'):S'.c = S.c∧S'.AG = S.AG:=by
 unfold Sim.mark at h;split at h
 ·cases h
 dsimp only at h;split at h
 ·split at h
  ·simp only[Yu] at h;subst h;exact⟨rfl,rfl⟩
  ·simp only[Yu] at h;subst h;exact⟨rfl,rfl⟩
 obtain⟨a,_,h⟩:=AD h;obtain⟨row,_,h⟩:=AD h;obtain⟨b,_,h⟩:=AD h;split at h
 ·obtain⟨_,_,h⟩:=AD h;obtain⟨⟨v,S1⟩,hr,h⟩:=AD h;have e:=Cn hr;subst e;obtain⟨_,_,h⟩:=AD h;simp only[Yu] at h;subst h;exact⟨rfl,rfl⟩
 ·simp only[Yu] at h;subst h;exact⟨rfl,rfl⟩
def Pr (S:Sim):Prop:=inR S.c.AS∧∀a∈S.AG,AN a≤9223372036854775807
theorem OB {t:List Rg} {AS:Int} {held:List Int} {i:Nat} (h:i < (Ag t AS held).2.length) :
  ∃t',Bz (((Ag t AS held).2.take i).foldl (λt r=>(Bz t r).getD []) t) ((Ag t AS held).2[i]) = some t'∧t'.length = t.length∧(((Ag t AS held).2.take i).foldl (λt r=>(Bz t r).getD []) t).length = t.length:=by
 cases hok:BT t with
 | false=>
  have:Ag t AS held = ([],[]):=by unfold Ag;rw[hok];rfl
  rw[this] at h;exact absurd h σ
 | true=>
  have T:=Bm.1 hok;obtain⟨c1,c2,_⟩:=choose_spec (AS:=AS) (held:=held) T;generalize (Ag t AS held).2 = q at c1 c2 h ⊢;obtain⟨f1,f2,f3⟩:=MN (q.take i) t T (c1.sublist (List.take_sublist _ _)) λr hr=>by
   obtain⟨a1,a2,a3,_⟩:=c2 r (ZO hr);exact⟨a1,a2,ω⟩
  obtain⟨a1,a2,a3,_⟩:=c2 q[i] (Yq h);have hni:q[i] ∉ q.take i:=by
   intro hm;obtain⟨j,hj,e⟩:=ZF hm;rw[Z5] at hj;rw[aW] at e;have:=(List.getElem_inj c1).1 e;omega
  have e:=f3 q[i] a1 a2;rw[if_neg hni] at e;obtain⟨d1,d2⟩:=Gq f1 a1 (by rw[f2];exact a2) (by rw[e];omega);exact⟨_,d1,by rw[DG,f2],f2⟩
theorem Ua {p n:Nat} {S S' : Sim} {g:Img} {R:RM} (hok:Ok R S g) (hp:Pr S) (hS:S.choose n = some S') :
  Fn P IN [Pt p] R (Ab p S g) (D0 p S' λ_=>True):=by
 refine MW λF=>?_
 refine z_1 ?_;unfold Sim.choose at hS;obtain⟨S0,hS0,hS⟩:=AD hS;refine AR (λvs R' D'=>R.le R'∧∃g0,Ok R' S0 g0∧S0.sz = true∧Pr S0∧D' = Ab p S0 g0 ++ F∧vs = [Pt p]) (λK hK=>?_) ?_
 ·refine AR (λvs R' D'=>R.le R'∧∃g0,Ok R' S0 g0∧S0.sz = true∧Pr S0∧D' = Ab p S0 g0 ++ F∧vs = [Pt p]) (λK2 hK2=>?_) ?_;rotate_left
  ·rintro e R1 D1 ⟨hR1,g0,ok0,hz,hp0,hD,he⟩;refine z_W ?_;clear hD;exact hK _ _ _ ⟨hR1,g0,ok0,hz,hp0,rfl,rfl⟩
  refine jlp (λm vs R' D'=>R.le R'∧∃S1 g1,Ok R' S1 g1∧Pr S1∧Sim.drain m S1 = some S0∧D' = Ab p S1 g1 ++ F∧vs = [Pt p])
   (n:=n) ⟨RM.le.refl R,S,g,hok,hp,hS0,rfl,rfl⟩ ?_
  rintro m e R1 D1 K3 ⟨hR1,S1,g1,ok1,hp1,hdr,hD,he⟩ hK3;refine z_W ?_;clear hD;cases m with
  | zero=>exact absurd hdr (by simp[Sim.drain])
  | succ m=>
  unfold Sim.drain at hdr;split at hdr
  ·cases hdr
  rename_i hz;have hz:S1.sz = true:=by simpa using hz
  refine jor [Pt p] ((decide ((S1.col.AM.length:Int) > 0)) || (decide ((S1.old.length:Int) > 0))) (λK' hK'=>?_) (λe c u ho he=>?_)
  ·refine jl (v:=g1.AM) rfl (In ok1.AM (jgr (BR (λh1=>?_) (λh1=>?_))))
   ·refine jl (v:=g1.old) rfl (In ok1.old (jgr (hK' _ _ _ (h1▸Ah) (by rw[h1,Yl]))))
   ·exact hK' _ _ _ (h1▸Am) (by rw[h1,Yo])
  refine z_V ?_;refine jor [Pt p] ((decide ((S1.col.AM.length:Int) > 0) || decide ((S1.old.length:Int) > 0)) || (S1.col.pc == 2)) (λK' hK'=>?_) (λe c u ho he=>?_)
  ·rw[ho];refine BR (λh1=>?_) (λh1=>?_)
   ·refine jl (v:=I S1.col.pc) rfl (jeq (hK' _ _ _ (h1▸Ah) (by rw[h1,Yl])))
   ·exact hK' _ _ _ (h1▸Am) (by rw[h1,Yo])
  refine z_V ?_;rw[ho];refine jif (λhc=>?_) (λhc=>?_)
  ·simp only[ZD,z_d,beq_iff_eq] at hc;rw[if_pos ω] at hdr;have hd2:∃S2,(if S1.col.pc = 2 then S1.look else S1.mark) = some S2∧Sim.drain m S2 = some S0:=by
    dsimp only at hdr;by_cases c2:S1.col.pc = 2
    ·rw[if_pos c2] at hdr ⊢;exact AD hdr
    ·rw[if_neg c2] at hdr ⊢;exact AD hdr
   obtain⟨S2,h2,hdr⟩:=hd2;refine AR (λvs R' D'=>R.le R'∧∃g2,Ok R' S2 g2∧Pr S2∧D' = Ab p S2 g2 ++ F∧vs = [Pt p]) (λK4 hK4=>?_) ?_;rotate_left
   ·rintro e R2 D2 ⟨hR2,g2,ok2,hp2,hD,he⟩;refine z_W ?_;clear hD;exact hK3 m _ _ _ ω ⟨hR2,S2,g2,ok2,hp2,hdr,rfl,rfl⟩
   refine jl (v:=I S1.col.pc) rfl (jeq (jif (λh3=>?_) (λh3=>?_)))
   ·rw[if_pos (eq_of_beq h3)] at h2;obtain⟨k1,k2⟩:=PJ h2;refine jcS (p:=p) (by exact T5 ok1 h2) λ_ R2 g2 hR2 _ ok2=>?_
    exact hK4 _ _ _ ⟨hR1.trans hR2,g2,ok2,by unfold Pr;rw[k1,k2];exact hp1,rfl,rfl⟩
   ·rw[if_neg (ne_of_beq_false h3)] at h2;obtain⟨k1,k2⟩:=Qb h2;refine jcS (p:=p) (by exact Uf ok1 h2) λ_ R2 g2 hR2 _ ok2=>?_
    exact hK4 _ _ _ ⟨hR1.trans hR2,g2,ok2,by unfold Pr;rw[k1,k2];exact hp1,rfl,rfl⟩
  ·simp only[Z4,decide_eq_false_iff_not,beq_eq_false_iff_ne] at hc;rw[if_neg ω] at hdr;simp only[Yu] at hdr;subst hdr;exact hK2 _ _ _ ⟨hR1,g1,ok1,hz,hp1,rfl,rfl⟩
 rintro e R1 D1 ⟨hR1,g0,ok0,hz,hp0,hD,he⟩;refine z_W ?_;clear hD;clear hp hS0 hok;have hsz:=G5 hz;have htl:=ok0.tl;refine jss (p:=p) { S0 with stop:=false } g0 rfl rfl δ τ τ ?_;dsimp only at hS;obtain⟨t4,ht4,hS⟩:=AD hS;refine AR (λvs R' D'=>R' = R1∧∃v A,SO (S0.AG.map AN) v A∧D' = A ++ (Ab p { S0 with stop:=false } g0 ++ F)∧vs = [Pt p,v]) (λK hK=>?_) ?_
 ·refine AR (λvs R' D'=>R' = R1∧∃v A,SO (S0.AG.map AN) v A∧D' = A ++ (Ab p { S0 with stop:=false } g0 ++ F)∧vs = [Pt p,v]) (λK2 hK2=>?_) ?_;rotate_left
  ·rintro e R2 D2 ⟨hR,v,A,so,hD,he⟩;subst hR;refine z_W ?_;clear hD;exact hK _ _ _ ⟨rfl,v,A,so,rfl,rfl⟩
  refine jlp (λm vs R' D'=>R' = R1∧∃(i:Nat) (v:Value) (A:Chs),i≤S0.AG.length∧SO ((S0.AG.take i).map AN) v A∧D' = A ++ (Ab p { S0 with stop:=false } g0 ++ F)∧vs = [Pt p,v,I i]∧m = S0.AG.length - i)
   (n:=S0.AG.length) ⟨rfl,0,SN,[],ω,.inl ⟨σ,rfl,rfl⟩,rfl,rfl,ω⟩ ?_
  rintro m e R2 D2 K3 ⟨hR,i,v,A,hi,so,hD,he,hm⟩ hK3;subst hR;refine z_W ?_;clear hD;refine jl (v:=g0.AG) rfl (In ok0.AG (jlt (jif (λhc=>?_) (λhc=>?_))));rotate_left
  ·have hc:=z_g hc;rw[Ys ω] at so;exact hK2 _ _ _ ⟨rfl,v,A,so,rfl,rfl⟩
  have hc:i < S0.AG.length:=by have:=z_f hc;omega
  refine jl (v:=g0.AG) rfl (CE ok0.AG ω ω ?_);have e0:S0.AG[((i:Nat):Int).toNat]'(ω) = S0.AG[i]:=σ
  rw[e0];refine jp (CT _ (hp0.2 _ (Yq hc))) ?_;refine jbs (cs:=[I (AN S0.AG[i])]) rfl rfl λb1=>?_
  refine BI ZH.symm ?_;have hx:BY R2 (A ++ ((b1,C 3 [I (AN S0.AG[i])]) :: (Ab p { S0 with stop:=false } g0 ++ F))) (some ⟨b1,0,none⟩) (1 * 1) ([AN S0.AG[i]].map I):=BY.held (t:=AX) (cs:=[I (AN S0.AG[i])]) (o:=0) (n:=1 * 1) (z_n 1);obtain⟨sa,sn,sc,rfl⟩:=so.sl;have hpl:=hsz.2.2.2.1;refine jas so rfl (by rw[Z1,Z5,Z7];omega) hx λv' A' so'=>?_
  refine jad ?_;refine Aw A' (G:=Ab p { S0 with stop:=false } g0 ++ F) ?_;exact hK3 (S0.AG.length - (i + 1)) _ _ _ ω ⟨rfl,i + 1,v',A',ω,by rw[Yp hc,Zf];exact so',rfl,rfl,rfl⟩
 rintro e R2 D2 ⟨hR,v,A,so,hD,he⟩;subst hR;refine z_W ?_;clear hD;refine FG so λR2 hR2 hint=>?_
 have hR2':=hR1.trans hR2;have ok1:Ok R2 { S0 with stop:=false } g0:={ ok0.le hR2 with };refine jl (v:=.slice (some ⟨g0.tb,0,none⟩) S0.A0.length g0.tc) rfl (jl (v:=I S0.c.AS) rfl ?_);have hpl:=hsz.2.2.2.1;refine jmk (LX S0.c.AS hp0.1 ω hint (by rw[Z1];omega)) ?_;rintro _ _ ⟨v1,v2,A1,A2,so1,so2,rfl,rfl⟩;refine jex rfl (jex rfl ?_);rw[Yr];refine FG so1 λR3 hR3 hi1=>?_
 refine FG so2 λR4 hR4 hi2=>?_
 have hi1:=hi1.le hR4;have ok2:=(ok1.le hR3).le hR4;have hR4':=(hR2'.trans hR3).trans hR4;clear ok1 ok0 hint so so1 so2 hR3 hR4 hR2 hR2' hR1;have cd:∀i (h:i < (Ag S0.A0 S0.c.AS (S0.AG.map AN)).2.length),_:=λi h=>OB h
 generalize hq:Ag S0.A0 S0.c.AS (S0.AG.map AN) = q at ht4 hS hi1 hi2 cd ⊢;obtain⟨q1,q2⟩:=q;dsimp only at ht4 hS hi1 hi2 cd ⊢;generalize htf:q2.foldl (λt r=>(Bz t r).getD []) S0.A0 = tf at ht4;have hl2:q2.length < 1000000:=by
  have:=HS (S0.AG.map AN) S0.A0.tail 1;have e2:q2 = (Ag S0.A0 S0.c.AS (S0.AG.map AN)).2:=by rw[hq]
  rw[aD] at this;rw[e2];unfold Ag;split
  ·dsimp only;omega
  ·simp
 have hl1:q1.length < 1000000:=by
  have:=Ez S0.A0 (S0.AG.map AN) 16 1 S0.c.AS;have e2:q1 = (Ag S0.A0 S0.c.AS (S0.AG.map AN)).1:=by rw[hq]
  rw[e2];unfold Ag;split
  ·dsimp only;omega
  ·simp
 refine AR (λvs R' D'=>R' = R4∧∃g1,Ok R4 { S0 with stop:=false,A0:=tf } g1∧D' = Ab p { S0 with stop:=false,A0:=tf } g1 ++ F∧vs = [Pt p,v1]) (λK hK=>?_) ?_
 ·refine AR (λvs R' D'=>R' = R4∧∃g1,Ok R4 { S0 with stop:=false,A0:=tf } g1∧D' = Ab p { S0 with stop:=false,A0:=tf } g1 ++ F∧vs = [Pt p,v1]) (λK2 hK2=>?_) ?_;rotate_left
  ·rintro e R5 D5 ⟨hR,g1,ok1,hD,he⟩;subst hR;refine z_W ?_;clear hD;exact hK _ _ _ ⟨rfl,g1,ok1,rfl,rfl⟩
  refine jlp (λm vs R' D'=>R' = R4∧∃(i:Nat) (t1:List Rg) (g1:Img),i≤q2.length∧t1 = (q2.take i).foldl (λt r=>(Bz t r).getD []) S0.A0∧Ok R4 { S0 with stop:=false,A0:=t1 } g1∧D' = Ab p { S0 with stop:=false,A0:=t1 } g1 ++ F∧vs = [Pt p,v1,v2,I i]∧m = q2.length - i)
   (n:=q2.length) ⟨rfl,0,S0.A0,g0,ω,rfl,ok2,rfl,rfl,ω⟩ ?_
  rintro m e R5 D5 K3 ⟨hR,i,t1,g1,hi,ht1,ok1,hD,he,hm⟩ hK3;subst hR;refine z_W ?_;clear hD;refine In hi2 (jlt (jif (λhc=>?_) (λhc=>?_)));rotate_left
  ·have hc:=z_g hc;rw[Ys ω,htf] at ht1;subst ht1;exact hK2 _ _ _ ⟨rfl,g1,ok1,rfl,rfl⟩
  have hc:i < q2.length:=by have:=z_f hc;omega
  obtain⟨t',d1,d2,d3⟩:=cd i hc;rw[← ht1] at d1 d3;refine jl (v:=.slice (some ⟨g1.tb,0,none⟩) t1.length g1.tc) rfl (CE hi2 ω ω ?_);have e0:q2[((i:Nat):Int).toNat]'(ω) = q2[i]:=σ
  rw[e0];refine jmk (J8 (t:=t1) (sp:=g1.tsp) _ ω) ?_;rw[d1];rintro _ _ ⟨sv,⟨b4,c4,sp4,hc4,rfl,rfl⟩,rfl⟩;refine jex rfl (jex rfl ?_);refine P7 (p:=p) ?_;refine jad ?_;refine hK3 (q2.length - (i + 1)) _ _ _ ω ⟨rfl,i + 1,t',{ g1 with tb:=b4,tc:=c4,tsp:=sp4 },ω,?_,ok1.tab ω _ _ _ hc4,rfl,rfl,rfl⟩;rw[Yp hc,List.foldl_append,← ht1];simp only[aZ,List.foldl_nil,d1,Zi]
 rintro e R5 D5 ⟨hR,g1,ok1,hD,he⟩;subst hR;refine z_W ?_;clear hD;clear cd hi2 htf ok2;refine AR (λvs R' D'=>R' = R5∧∃g1,Ok R5 { S0 with stop:=false,A0:=t4 } g1∧D' = Ab p { S0 with stop:=false,A0:=t4 } g1 ++ F∧vs = [Pt p,v1]) (λK hK=>?_) ?_
 ·refine AR (λvs R' D'=>R' = R5∧∃g1,Ok R5 { S0 with stop:=false,A0:=t4 } g1∧D' = Ab p { S0 with stop:=false,A0:=t4 } g1 ++ F∧vs = [Pt p,v1]) (λK2 hK2=>?_) ?_;rotate_left
  ·rintro e R5 D5 ⟨hR,g1,ok1,hD,he⟩;subst hR;refine z_W ?_;clear hD;exact hK _ _ _ ⟨rfl,g1,ok1,rfl,rfl⟩
  refine jlp (λm vs R' D'=>R' = R5∧∃(i:Nat) (t1:List Rg),i≤q1.length∧Js (q1.drop i) t1 = some t4∧Ok R5 { S0 with stop:=false,A0:=t1 } g1∧D' = Ab p { S0 with stop:=false,A0:=t1 } g1 ++ F∧vs = [Pt p,v1,I i]∧m = q1.length - i)
   (n:=q1.length) ⟨rfl,0,tf,ω,ht4,ok1,rfl,rfl,ω⟩ ?_
  rintro m e R6 D6 K3 ⟨hR,i,t1,hi,hk4,ok1,hD,he,hm⟩ hK3;subst hR;refine z_W ?_;clear hD;refine In hi1 (jlt (jif (λhc=>?_) (λhc=>?_)));rotate_left
  ·have hc:=z_g hc;rw[Yz ω] at hk4;simp only[Js,Yu] at hk4;subst hk4;exact hK2 _ _ _ ⟨rfl,g1,ok1,rfl,rfl⟩
  have hc:i < q1.length:=by have:=z_f hc;omega
  rw[Yv hc] at hk4;unfold Js at hk4;obtain⟨x,hx,hk4⟩:=AD hk4;obtain⟨x0,x1,x2,x3⟩:=Av hx;have e0:q1[((i:Nat):Int).toNat]'(ω) = q1[i]:=σ
  have htl1:=ok1.tl;refine jl (v:=.slice (some ⟨g1.tb,0,none⟩) t1.length g1.tc) rfl (VH hi1 ω ω λqq hqq=>hqq _ _ ?_);rw[e0] at hqq ⊢;obtain⟨k,hk⟩:∃k:Nat,q1[i] = k:=⟨q1[i].toNat,ω⟩;rw[hk] at hqq hk4 ⊢;have hkl:k < t1.length:=ω
  have hxk:t1[k] = x:=by rw[← x3];simp only[hk,Yj]
  refine C5 hkl ?_;refine QH (p:=p) hkl ?_;refine ja λb2=>?_
  refine Af (jl (v:=.slice (some ⟨g1.tb,0,none⟩) t1.length g1.tc) rfl jev) (Af (hqq _ _ jev) (Af (QH (p:=p) hkl jev) ?_));have hxk' : ({ S0 with stop:=false,A0:=t1 }:Sim).A0[k] = x:=hxk;rw[hxk'];refine js (cs':=eRg x) rfl rfl σ rfl ?_;refine js (cs':=eRg { x with kind:=4 }) rfl rfl σ rfl ?_;refine jl (v:=.slice (some ⟨g1.tb,0,none⟩) t1.length g1.tc) rfl ?_;refine CE hi1 ω ω ?_;rw[e0,hk];refine jla (l:=eRg { x with kind:=4 }) σ rfl ?_;refine C5 hkl ?_;refine SZ (p:=p) (x:={ x with kind:=4 }) { S0 with stop:=false,A0:=t1.set k { x with kind:=4 } } hkl τ ?_;refine jad ?_;refine Aw (Ab p { S0 with stop:=false,A0:=t1.set k { x with kind:=4 } } g1) (G:=F) ?_;refine hK3 (q1.length - (i + 1)) _ _ _ ω ⟨rfl,i + 1,t1.set k { x with kind:=4 },ω,?_,{ ok1 with tl:=by simpa using htl1,tk:=by simpa using ok1.tk },rfl,rfl,rfl⟩;rw[← hk4];simp[AT]
 rintro e R6 D6 ⟨hR,g1,ok1,hD,he⟩;subst hR;refine z_W ?_;clear hD;refine In hi1 (jeq (jif (λhc=>?_) (λhc=>?_)))
 ·rw[if_pos (by have:=eq_of_beq hc;omega)] at hS;refine jcS (p:=p) (by exact U9 ok1 hS) λ_ R7 g7 hR7 _ ok7=>?_
  exact Ay (hR4'.trans hR7) trivial rfl ok7
 ·rw[if_neg (by have:=ne_of_beq_false hc;omega)] at hS;simp only[Yu] at hS;refine jss (p:=p) { S0 with stop:=false,A0:=t4,Ad:=2 } g1 rfl rfl δ τ τ ?_;refine jl (v:=.bool S0.col.Ae) rfl (jl (v:=I S0.col.want) rfl ?_);refine jbd (cs:=BF { Cd S0.col.Ae S0.col.want with pc:=5,r:=1,p:=16 } (SN)) rfl rfl ?_;refine jss (p:=p) { S0 with stop:=false,A0:=t4,Ad:=2,col:={ Cd S0.col.Ae S0.col.want with pc:=5,r:=1,p:=16 } } { g1 with AM:=SN } rfl rfl δ τ τ ?_;subst hS;refine Ay hR4' trivial rfl ?_;exact { ok1 with AM:=.inl ⟨rfl,rfl,rfl⟩ }
theorem KW {S:Sim}:∀{l l' : List Int},S.rootsF l = some l'→l'.length = l.length∧∀k (h:k < l.length) (h' : k < l'.length),∃f,S.from_ l[k] = some f∧(if f then idx S.AA l[k] else some l[k]) = some l'[k]
 | [],l',e=>by
  simp only[Sim.rootsF,Yu] at e;subst e;exact⟨rfl,λk h=>absurd h σ⟩
 | a :: r,l',e=>by
  unfold Sim.rootsF at e;obtain⟨f,hf,e⟩:=AD e;have e2:∃b,(if f then idx S.AA a else some a) = some b∧∃r',S.rootsF r = some r'∧b :: r' = l':=by
   cases f with
   | true=>
    obtain⟨b,hb,e⟩:=AD e;obtain⟨r',hr,e⟩:=AD e;simp only[Yu] at e;exact⟨b,hb,r',hr,e⟩
   | false=>
    obtain⟨b,hb,e⟩:=AD e;obtain⟨r',hr,e⟩:=AD e;simp only[Yu] at e;exact⟨b,hb,r',hr,e⟩
  obtain⟨b,hb,r',hr,rfl⟩:=e2;obtain⟨h1,h2⟩:=KW hr;refine⟨by simp[h1],λk h h'=>?_⟩;cases k with
  | zero=>exact⟨f,hf,hb⟩
  | succ k=>exact h2 k (by simpa using h) (by simpa using h')
theorem OO {S:Sim}:∀{l l' : List Thr},S.thsF l = some l'→l'.length = l.length∧∀k (h:k < l.length) (h' : k < l'.length),∃r,S.rootsF l[k].AC = some r∧l'[k] = { l[k] with AC:=r }
 | [],l',e=>by
  simp only[Sim.thsF,Yu] at e;subst e;exact⟨rfl,λk h=>absurd h σ⟩
 | a :: r,l',e=>by
  unfold Sim.thsF at e;obtain⟨r1,h1,e⟩:=AD e;obtain⟨r',hr,e⟩:=AD e;simp only[Yu] at e;subst e;obtain⟨g1,g2⟩:=OO hr;refine⟨by simp[g1],λk h h'=>?_⟩;cases k with
  | zero=>exact⟨r1,h1,rfl⟩
  | succ k=>exact g2 k (by simpa using h) (by simpa using h')
theorem jsi {R:RM} {b k:Nat} {l:List Int} {sp:List Value} {w:Int} {D D' : Chs} {m:M} (hk:k < l.length) [a:At D b (C AX (l.map I ++ sp))] [u:Up D b (C AX (l.map I ++ sp)) (C AX ((l.set k w).map I ++ sp)) D'] (H:J R D' m):J R D (ST 1 (.pointer (some ⟨b,0 + k * 1,none⟩)) (I w) m):=by
 rw[Z6,Zo];refine js (cs:=l.map I ++ sp) (cs':=(l.set k w).map I ++ sp) rfl rfl (by simp;omega) ?_ H;rw[show cl (I w) = [I w] from rfl,Gn (by simp;omega),List.set_append_left _ _ (by simpa using hk),List.map_set]
theorem Ff {α:Type} {l l' : List α} {k:Nat} (hl:l'.length = l.length) (hk:k < l.length):(l'.take k ++ l.drop k).set k (l'[k]'(ω)) = l'.take (k + 1) ++ l.drop (k + 1):=by
 have e1:(l'.take k).length = k:=by simp;omega
 rw[aG _ _ ω,e1,Nat.sub_self,Yv hk,List.set_cons_zero,Yp ω,Yr,List.singleton_append]
theorem IP {α:Type} {l l' : List α} {k:Nat} (hl:l'.length = l.length) (hk:k < l.length) (h:k < (l'.take k ++ l.drop k).length):(l'.take k ++ l.drop k)[k] = l[k]:=by
 have e1:(l'.take k).length = k:=by simp;omega
 rw[aB ω,aX];congr 1;omega
theorem Do {α:Type} {l l' : List α} {k:Nat} (hl:l'.length = l.length):(l'.take k ++ l.drop k).length = l.length:=by simp;omega
theorem UE {p:Nat} {S S' : Sim} {g:Img} {R:RM} (hok:Ok R S g) (hz:S.sz = true) (hT:TOk S.A0) (hS:S.finish = some S') :
  Fn P IL [Pt p] R (Ab p S g) (D0 p S' λ_=>True):=by
 refine NP λF=>?_
 refine z_1 ?_;unfold Sim.finish at hS;obtain⟨th,hth,hS⟩:=AD hS;obtain⟨tl1,tl2⟩:=OO hth;have hsz:=G5 hz;have hhl:=hok.hl;have htl:=hok.tl;refine AR (λvs R' D'=>R.le R'∧∃g1,Ok R' { S with th:=th } g1∧D' = Ab p { S with th:=th } g1 ++ F∧vs = [Pt p]) (λK hK=>?_) ?_
 ·refine AR (λvs R' D'=>R.le R'∧∃g1,Ok R' { S with th:=th } g1∧D' = Ab p { S with th:=th } g1 ++ F∧vs = [Pt p]) (λK2 hK2=>?_) ?_;rotate_left
  ·rintro e R1 D1 ⟨hR,g1,ok1,hD,he⟩;refine z_W ?_;exact hK _ _ _ ⟨hR,g1,ok1,rfl,rfl⟩
  refine jlp (λm vs R' D'=>R.le R'∧∃(i:Nat) (g1:Img),i≤S.th.length∧Ok R' { S with th:=th.take i ++ S.th.drop i } g1∧D' = Ab p { S with th:=th.take i ++ S.th.drop i } g1 ++ F∧vs = [Pt p,I i]∧m = S.th.length - i)
   (n:=S.th.length) ⟨RM.le.refl R,0,g,ω,by simpa using hok,σ,rfl,ω⟩ ?_
  rintro m e R1 D1 K3 ⟨hR,i,g1,hi,ok1,hD,he,hm⟩ hK3;refine z_W ?_;refine jl (v:=.slice (some ⟨g1.hb,0,none⟩) (th.take i ++ S.th.drop i).length g1.hc) rfl (jln (jlt (jif (λhc=>?_) (λhc=>?_))));rotate_left
  ·have hc:i = S.th.length:=by have:=z_g hc;rw[Do tl1] at this;omega
   have e1:th.take i ++ S.th.drop i = th:=by rw[Ys ω,Yz ω,ZN]
   rw[e1] at ok1 ⊢;exact hK2 _ _ _ ⟨hR,g1,ok1,rfl,rfl⟩
  have hc:i < S.th.length:=by have:=z_f hc;rw[Do tl1] at this;omega
  obtain⟨r',hr',et⟩:=tl2 i hc ω;obtain⟨rl1,rl2⟩:=KW hr';have hti:idx (th.take i ++ S.th.drop i) i = some (S.th[i]):=by
   unfold idx;rw[if_pos ω,Yj,Yi (by rw[Do tl1];exact hc),IP tl1 hc]
  have hri:=hsz.2.2.2.2 _ (Yq hc);generalize hS1:({ S with th:=th.take i ++ S.th.drop i }:Sim) = S1 at ok1 ⊢;have e1:S1.th = th.take i ++ S.th.drop i:=by rw[← hS1]
  have e2:S1.AA = S.AA:=by rw[← hS1]
  have e3:∀a,S1.from_ a = S.from_ a:=λa=>by rw[← hS1];rfl
  rw[← e1] at hti;refine GI (p:=p) ok1 hti rfl λb a cap hv=>?_
  refine jl (v:=.slice a (S.th[i]).AC.length cap) rfl ?_;refine jc (A:=[]) (CN hv hri) ?_;rintro _ R2 _ hR2 ⟨b4,c4,sp4,hc4,hsp4,rfl,rfl⟩;refine jS (Ak (S.th[i]) (S0 b4 (S.th[i]).AC.length c4)) ?_;refine BI (D':=(b4,C AX ((S.th[i]).AC.map I ++ sp4)) :: (b,C AY (Ak (S.th[i]) (S0 b4 (S.th[i]).AC.length c4))) :: (Ab p S1 g1 ++ F)) (ZU _) ?_;refine Aw (Ab p S1 g1) (G:=(b4,C AX ((S.th[i]).AC.map I ++ sp4)) :: (b,C AY (Ak (S.th[i]) (S0 b4 (S.th[i]).AC.length c4))) :: F) ?_;have ok2:=ok1.le hR2;have hRR:=hR.trans hR2;refine AR (λvs R' D'=>R.le R'∧∃g2,Ok R' S1 g2∧D' = Ab p S1 g2 ++ (b4,C AX (r'.map I ++ sp4)) :: (b,C AY (Ak (S.th[i]) (S0 b4 (S.th[i]).AC.length c4))) :: F∧vs = [Pt p,I i,Pt b]) (λK4 hK4=>?_) ?_;rotate_left
  ·rintro e R3 D3 ⟨hR3,g2,ok3,hD,he⟩;refine z_W ?_;refine BI ZH ?_;refine BQ (b:=b4) λR4 hR4 hb4=>?_
   have hv2:=CH (l:=r') (c:=c4) hb4 ω;have ok4:=ok3.le hR4;have ev:Ak (S.th[i]) (S0 b4 (S.th[i]).AC.length c4) = Ak { S.th[i] with AC:=r' } (S0 b4 r'.length c4):=by rw[rl1];rfl
   rw[ev];refine Gj (p:=p) (i:=i) { S1 with th:=AT S1.th i { S.th[i] with AC:=r' } } (by exact ok4) ω (by rw[e1,Do tl1];omega) (by exact hv2) τ λg5 ok5=>?_
   refine jad ?_;have e5:({ S1 with th:=AT S1.th i { S.th[i] with AC:=r' } }:Sim) = { S with th:=th.take (i + 1) ++ S.th.drop (i + 1) }:=by
    rw[← hS1,← et];have:=Ff tl1 hc;simp only[AT,Yj,this]
   rw[e5] at ok5 ⊢;refine Aw (Ab p { S with th:=th.take (i + 1) ++ S.th.drop (i + 1) } g5) (G:=F) ?_;exact hK3 (S.th.length - (i + 1)) _ _ _ ω ⟨hR3.trans hR4,i + 1,g5,ω,ok5,rfl,rfl,rfl⟩
  refine AR (λvs R' D'=>R.le R'∧∃g2,Ok R' S1 g2∧D' = Ab p S1 g2 ++ (b4,C AX (r'.map I ++ sp4)) :: (b,C AY (Ak (S.th[i]) (S0 b4 (S.th[i]).AC.length c4))) :: F∧vs = [Pt p,I i,Pt b]) (λK5 hK5=>?_) ?_;rotate_left
  ·rintro e R3 D3 ⟨hR3,g2,ok3,hD,he⟩;refine z_W ?_;exact hK4 _ _ _ ⟨hR3,g2,ok3,rfl,rfl⟩
  refine jlp (λm vs R' D'=>R.le R'∧∃(k:Nat) (g2:Img) (l:List Int),k≤(S.th[i]).AC.length∧l = r'.take k ++ (S.th[i]).AC.drop k∧Ok R' S1 g2∧D' = Ab p S1 g2 ++ (b4,C AX (l.map I ++ sp4)) :: (b,C AY (Ak (S.th[i]) (S0 b4 (S.th[i]).AC.length c4))) :: F∧vs = [Pt p,I i,Pt b,I k]∧m = (S.th[i]).AC.length - k)
   (n:=(S.th[i]).AC.length) ⟨hRR,0,g1,(S.th[i]).AC,ω,σ,ok2,rfl,rfl,ω⟩ ?_
  rintro m e R3 D3 K6 ⟨hR3,k,g2,l,hk,hl,ok3,hD,he,hm⟩ hK6;refine z_W ?_;have hll:l.length = (S.th[i]).AC.length:=by rw[hl,Do rl1]
  refine jl (v:=S0 b4 (S.th[i]).AC.length c4) rfl (jln (jlt (jif (λhd=>?_) (λhd=>?_))));rotate_left
  ·have hd:k = (S.th[i]).AC.length:=by have:=z_g hd;omega
   have:l = r':=by rw[hl,Ys ω,Yz ω,ZN]
   subst this;exact hK5 _ _ _ ⟨hR3,g2,ok3,rfl,rfl⟩
  have hd:k < (S.th[i]).AC.length:=by have:=z_f hd;omega
  obtain⟨f,hf,hw⟩:=rl2 k hd ω;obtain⟨y,hy⟩:∃y,r'[k]'(ω) = y:=⟨_,rfl⟩;rw[hy] at hw;have hlk:l[k]'(ω) = (S.th[i]).AC[k]:=by subst hl;exact IP rl1 hd ω
  refine AR (λvs R' D'=>R.le R'∧∃g2,Ok R' S1 g2∧D' = Ab p S1 g2 ++ (b4,C AX ((l.set k y).map I ++ sp4)) :: (b,C AY (Ak (S.th[i]) (S0 b4 (S.th[i]).AC.length c4))) :: F∧vs = [Pt p,I i,Pt b,I k]) (λK7 hK7=>?_) ?_;rotate_left
  ·rintro e R4 D4 ⟨hR4,g3,ok4,hD,he⟩;refine z_W ?_;refine jad ?_;exact hK6 ((S.th[i]).AC.length - (k + 1)) _ _ _ ω ⟨hR4,k + 1,g3,l.set k y,ω,by rw[hl,← hy];exact Ff rl1 hd,ok4,rfl,rfl,rfl⟩
  refine AR (λvs R' D'=>R.le R'∧∃g2,Ok R' S1 g2∧D' = Ab p S1 g2 ++ (b4,C AX ((l.set k y).map I ++ sp4)) :: (b,C AY (Ak (S.th[i]) (S0 b4 (S.th[i]).AC.length c4))) :: F∧vs = [Pt p,I i,Pt b,I k]) (λK8 hK8=>?_) ?_;rotate_left
  ·rintro e R4 D4 ⟨hR4,g3,ok4,hD,he⟩;refine z_W ?_;exact hK7 _ _ _ ⟨hR4,g3,ok4,rfl,rfl⟩
  have gk:∀g' : Img,(l.map I ++ sp4)[0 + k * 1]? = some (I (S.th[i]).AC[k]):=λ_=>by
   rw[Z6,Zo,Fj ω,hlk]
  refine jl (v:=S0 b4 (S.th[i]).AC.length c4) rfl (C5 hd (jl (v:=I (S.th[i]).AC[k]) (gk g) ?_));refine jcS (p:=p) (by exact L4 ok3 ((e3 _).trans hf)) λ_ R4 g3 hR4 hr ok4=>?_
  subst hr;refine jif (λhff=>?_) (λhff=>?_)
  ·subst hff;rw[if_pos rfl] at hw;obtain⟨w0,w1,w2,w3⟩:=Av hw;refine jl (v:=S0 b4 (S.th[i]).AC.length c4) rfl (jl (v:=.slice (some ⟨g3.wb,0,none⟩) S1.AA.length g3.wc) rfl (jl (v:=S0 b4 (S.th[i]).AC.length c4) rfl ?_));refine C5 hd (jl (v:=I (S.th[i]).AC[k]) (gk g) ?_);refine jia w0 (by rw[e2];exact w1) (jl (v:=I y) ?_ ?_)
   ·rw[Z6,Zo,Fj (by rw[e2];exact w2)];simp only[e2,w3]
   refine C5 hd (jsi ω ?_);exact hK8 _ _ _ ⟨hR3.trans hR4,g3,ok4,rfl,rfl⟩
  ·subst hff;simp only[ZE,if_false,Yu] at hw;refine hK8 _ _ _ ⟨hR3.trans hR4,g3,ok4,?_,rfl⟩;have:l.set k y = l:=by rw[← hw,← hlk];exact List.set_getElem_self _
   rw[this]
 rintro e R1 D1 ⟨hR1,g1,ok1,hD,he⟩;refine z_W ?_;generalize hdd:Cl S.A0.length 1 S.A0 = td at hS;refine AR (λvs R' D'=>R' = R1∧∃g2,Ok R' { S with th:=th,A0:=td } g2∧D' = Ab p { S with th:=th,A0:=td } g2 ++ F∧vs = [Pt p]) (λK hK=>?_) ?_;rotate_left
 ·rintro e R2 D2 ⟨hR2,g2,ok2,hD,he⟩;subst hR2;refine z_W ?_;refine jcS (p:=p) (by exact U9 ok2 hS) λ_ R7 g7 hR7 _ ok7=>?_
  exact Ay (hR1.trans hR7) trivial rfl ok7
 refine AR (λvs R' D'=>R' = R1∧∃g2,Ok R' { S with th:=th,A0:=td } g2∧D' = Ab p { S with th:=th,A0:=td } g2 ++ F∧vs = [Pt p]) (λK2 hK2=>?_) ?_;rotate_left
 ·rintro e R2 D2 ⟨hR2,g2,ok2,hD,he⟩;refine z_W ?_;exact hK _ _ _ ⟨hR2,g2,ok2,rfl,rfl⟩
 refine jlp (λm vs R' D'=>R' = R1∧∃(i:Nat) (t1:List Rg) (g2:Img),1≤i∧i≤S.A0.length∧TOk t1∧t1.length = S.A0.length∧Cl (S.A0.length + 1 - i) i t1 = td∧Ok R' { S with th:=th,A0:=t1 } g2∧D' = Ab p { S with th:=th,A0:=t1 } g2 ++ F∧vs = [Pt p,I i]∧m = S.A0.length + 1 - i)
  (n:=S.A0.length) ⟨rfl,1,S.A0,g1,ω,by have:=hT.n0;omega,hT,rfl,hdd,ok1,rfl,rfl,ω⟩ ?_
 rintro m e R2 D2 K3 ⟨hR2,i,t1,g2,hi0,hi1,T,htl1,hdf,ok2,hD,he,hm⟩ hK3;subst hR2;refine z_W ?_;refine jl (v:=.slice (some ⟨g2.tb,0,none⟩) t1.length g2.tc) rfl (jln (jlt (jif (λhc=>?_) (λhc=>?_))));rotate_left
 ·have hc:i = S.A0.length:=by have:=z_g hc;omega
  have:t1 = td:=by
   rw[← hdf,show S.A0.length + 1 - i = 0 + 1 by omega];unfold Cl;rw[Zd ω]
  subst this;exact hK2 _ _ _ ⟨rfl,g2,ok2,rfl,rfl⟩
 have hc:i < t1.length:=by have:=z_f hc;omega
 rw[show S.A0.length + 1 - i = (S.A0.length + 1 - (i + 1)) + 1 by omega] at hdf;unfold Cl at hdf;rw[Yi hc] at hdf;simp only at hdf;refine AR (λvs R' D'=>R' = R2∧∃(t2:List Rg) (g3:Img),TOk t2∧t2.length = S.A0.length∧Cl (S.A0.length + 1 - (i + 1)) (i + 1) t2 = td∧Ok R' { S with th:=th,A0:=t2 } g3∧D' = Ab p { S with th:=th,A0:=t2 } g3 ++ F∧vs = [Pt p,I i]) (λK4 hK4=>?_) ?_;rotate_left
 ·rintro e R3 D3 ⟨hR3,t2,g3,T2,hl2,hd2,ok3,hD,he⟩;subst hR3;refine z_W ?_;refine jad ?_;exact hK3 (S.A0.length + 1 - (i + 1)) _ _ _ ω ⟨rfl,i + 1,t2,g3,ω,ω,T2,hl2,hd2,ok3,rfl,rfl,rfl⟩
 refine AR (λvs R' D'=>R' = R2∧∃(t2:List Rg) (g3:Img),TOk t2∧t2.length = S.A0.length∧Cl (S.A0.length + 1 - (i + 1)) (i + 1) t2 = td∧Ok R' { S with th:=th,A0:=t2 } g3∧D' = Ab p { S with th:=th,A0:=t2 } g3 ++ F∧vs = [Pt p,I i]) (λK5 hK5=>?_) ?_;rotate_left
 ·rintro e R3 D3 ⟨hR3,t2,g3,T2,hl2,hd2,ok3,hD,he⟩;subst hR3;refine z_W ?_;exact hK4 _ _ _ ⟨rfl,t2,g3,T2,hl2,hd2,ok3,rfl,rfl⟩
 refine jl (v:=.slice (some ⟨g2.tb,0,none⟩) t1.length g2.tc) rfl (C5 hc (jl (v:=I t1[i].kind) (by rw[Z6];exact C6 (f:=0) hc rfl) (jeq (jif (λhk=>?_) (λhk=>?_)))))
 ·rw[if_pos hk] at hdf;have hk4:(rv t1 i).kind = 4:=by rw[E5 hc];exact eq_of_beq hk
  obtain⟨d1,d2⟩:=Gq (r:=i) T ω ω ω;rw[d1] at hdf;simp only[Zi] at hdf;refine jl (v:=.slice (some ⟨g2.tb,0,none⟩) t1.length g2.tc) rfl ?_;refine jmk (J8 (t:=t1) (sp:=g2.tsp) _ ω) ?_;rw[d1];rintro _ _ ⟨sv,⟨b4,c4,sp4,hc4,rfl,rfl⟩,rfl⟩;refine jex rfl (jex rfl ?_);refine P7 (p:=p) ?_;exact hK5 _ _ _ ⟨rfl,AT t1 i (DH i),{ g2 with tb:=b4,tc:=c4,tsp:=sp4 },d2,by rw[DG,htl1],hdf,ok2.tab (by rw[DG];omega) _ _ _ hc4,rfl,rfl⟩
 ·rw[if_neg (by rw[hk];decide)] at hdf;exact hK5 _ _ _ ⟨rfl,t1,g2,T,htl1,hdf,ok2,rfl,rfl⟩
theorem BG.sl {R:RM} {v:Value} {l:List Int} (h:BG R v l):∃a c,v = .slice a l.length c:=by
 obtain⟨a,cap,hsv,-⟩:=BG.reads (D:=[]) h;exact⟨a,cap,hsv⟩
theorem IT (a:Option Addr) (n c:Nat) (hn:n < 1000000000000):Pu Iq [.slice a n c] (.bool (BM n)):=by
 intro R;refine OP λF=>?_
 refine z_1 ?_;have eq:(n:Int).tdiv 16 = (n / 16:Nat):=by rw[Zk ω];omega
 have er:(n:Int).tmod 16 = (n % 16:Nat):=by rw[aP ω];omega
 refine jln (MX δ ⟨ω,ω⟩ ?_);rw[eq];refine jan [I ((n / 16:Nat):Int)] (((n:Int).tmod 16 == 0) && (decide (((n / 16:Nat):Int)≥2))) (λK' hK'=>?_) (λe c u ho he=>?_)
 ·refine jln (NW δ (jeq (Bt (λh1=>?_) (λh1=>?_))))
  ·refine jge (hK' _ _ _ (h1▸Ax) (by rw[h1,Z2]))
  ·exact hK' _ _ _ (h1▸BB) (by rw[h1,Z3])
 refine z_V ?_;refine jan [] ((((n:Int).tmod 16 == 0) && decide (((n / 16:Nat):Int)≥2)) && (decide (((n / 16:Nat):Int)≤12))) (λK' hK'=>?_) (λe c u ho he=>?_)
 ·rw[ho];refine Bt (λh1=>?_) (λh1=>?_)
  ·refine jle (hK' _ _ _ (h1▸Ax) (by rw[h1,Z2]))
  ·exact hK' _ _ _ (h1▸BB) (by rw[h1,Z3])
 refine z_V ?_;rw[ho];refine B9 (A:=[]) (RM.le.refl R) ?_;congr 1;unfold BM;rw[er];rw[Zb];simp only[z_b,z_d,beq_iff_eq];constructor<;>rintro⟨⟨h1,h2⟩,h3⟩<;>exact⟨⟨ω,ω⟩,ω⟩
theorem L5 (x:Option Addr) (n cc:Nat) (a size:Int) (hn:n < 1000000000000):Pu KO [.slice x n cc,I a,I size] (.bool (fits n a size)):=by
 intro R;refine QR λF=>?_
 refine z_3 ?_;refine jan [.slice x n cc,I a,I size] ((BM n) && (decide (size > 0))) (λK' hK'=>?_) (λe c u ho he=>?_)
 ·refine jp (IT x n cc hn) (Bt (λh1=>?_) (λh1=>?_))
  ·refine jgr (hK' _ _ _ (h1▸Ax) (by rw[h1,Z2]))
  ·exact hK' _ _ _ (h1▸BB) (by rw[h1,Z3])
 refine z_V ?_;refine jan [.slice x n cc,I a,I size] ((BM n && decide (size > 0)) && (decide (size≤16))) (λK' hK'=>?_) (λe c u ho he=>?_)
 ·rw[ho];refine Bt (λh1=>?_) (λh1=>?_)
  ·refine jle (hK' _ _ _ (h1▸Ax) (by rw[h1,Z2]))
  ·exact hK' _ _ _ (h1▸BB) (by rw[h1,Z3])
 refine z_V ?_;refine jan [.slice x n cc,I a,I size] ((BM n && decide (size > 0) && decide (size≤16)) && (decide (a≥16))) (λK' hK'=>?_) (λe c u ho he=>?_)
 ·rw[ho];refine Bt (λh1=>?_) (λh1=>?_)
  ·refine jge (hK' _ _ _ (h1▸Ax) (by rw[h1,Z2]))
  ·exact hK' _ _ _ (h1▸BB) (by rw[h1,Z3])
 refine z_V ?_;refine jan [I a,I size] ((BM n && decide (size > 0) && decide (size≤16) && decide (a≥16)) && (decide (a < n))) (λK' hK'=>?_) (λe c u ho he=>?_)
 ·rw[ho];refine Bt (λh1=>?_) (λh1=>?_)
  ·refine jln (jlt (hK' _ _ _ (h1▸Ax) (by rw[h1,Z2])))
  ·exact hK' _ _ _ (h1▸BB) (by rw[h1,Z3])
 refine z_V ?_;refine jan [] ((BM n && decide (size > 0) && decide (size≤16) && decide (a≥16) && decide (a < n)) && (AN a == AN (a + size - 1))) (λK' hK'=>?_) (λe c u ho he=>?_)
 ·rw[ho];refine Bt (λh1=>?_) (λh1=>?_)
  ·have h2:=h1;simp only[z_b,z_d] at h2;have r1:AN a≤9223372036854775807:=by unfold AN;split<;>omega
   have r2:AN (a + size - 1)≤9223372036854775807:=by unfold AN;split<;>omega
   refine jp (CT a r1) (jad (jsu (jp (CT _ r2) (jeq (hK' _ _ _ (h1▸Ax) (by rw[h1,Z2]))))))
  ·exact hK' _ _ _ (h1▸BB) (by rw[h1,Z3])
 refine z_V ?_;rw[ho];refine B9 (A:=[]) (RM.le.refl R) ?_;congr 1
theorem M4 {n:Int}:∀{l:List Int} {i:Nat} (h:i < l.length),l[i] = n→(∀k (hk:k < l.length),k < i→l[k]≠n)→l.idxOf n = i
 | [],i,h,_,_=>absurd h σ
 | a :: r,0,_,e,_=>by
  have e:a = n:=e;rw[List.idxOf_cons,e];simp
 | a :: r,i + 1,h,e,Bx=>by
  have h0:a≠n:=Bx 0 σ ω;have:=M4 (l:=r) (i:=i) (by simpa using h) (by simpa using e) (λk hk hki=>by have:=Bx (k + 1) (by simpa using hk) ω;simpa using this);rw[List.idxOf_cons,this];have:(a == n) = false:=by simpa using h0
  rw[this];rfl
def eTh (t:AU) (rv nv:Value):List Value:=[I t.at_,I t.moved,I t.sh.refs,I t.sh.nums,rv,nv]
def ThV (R:RM) (v:Value) (t:AU):Prop:=∃rv nv,v = .agg (eTh t rv nv).toArray∧BG R rv t.refs∧BG R nv t.nums
theorem ThV.le {R R' : RM} {v:Value} {t:AU} (h:R.le R') (H:ThV R v t):ThV R' v t:=by
 obtain⟨rv,nv,h1,h2,h3⟩:=H;exact⟨rv,nv,h1,h2.le h,h3.le h⟩
theorem Eg {n:Nat} {a size:Int} (h:fits n a size = true):16≤a∧a + size≤n∧0 < size∧size≤16:=by
 unfold fits BM at h;simp only[z_b,z_d,beq_iff_eq] at h;obtain⟨⟨⟨⟨⟨⟨⟨h1,h2⟩,h3⟩,h4⟩,h5⟩,h6⟩,h7⟩,h8⟩:=h;unfold AN at h8;rw[if_neg ω,if_neg ω] at h8;refine⟨h6,?_,h4,h5⟩;omega
theorem Fg {w:Int} (h:(AJ w).2 = true):0≤(AJ w).1.refs∧(AJ w).1.refs≤4∧0≤(AJ w).1.nums∧(AJ w).1.nums≤4∧AF (AJ w).1 = 2 + (AJ w).1.refs + (AJ w).1.nums:=by
 unfold AJ at h ⊢;split at h
 ·rename_i hc;rw[if_pos hc];have h1:BP ⟨w / 16,w % 16⟩ = true:=by
   unfold BP;simp only[z_b,z_d];omega
  refine⟨by dsimp only;omega,by dsimp only;omega,by dsimp only;omega,by dsimp only;omega,?_⟩;unfold AF;rw[if_pos h1]
 ·exact absurd h δ
theorem On {w:List Int} {k i:Nat} (h:k + i < w.length):(w.drop k).take (i + 1) = (w.drop k).take i ++ [w[k + i]]:=by
 rw[Yp (by rw[ZS];omega),aX]
theorem Rd {R:RM} {wv:Value} {w:List Int} (a:Int) (h:BG R wv w) (hl:w.length < 1000000000000) :
  Fn P J2 [wv,I a] R [] (λv R' A=>A = []∧∃x,ThV R' x (Ap w a).1∧v = .tuple #[x,.bool (Ap w a).2]):=by
 refine Ol λF=>?_
 refine z_2 ?_;obtain⟨wa,wc,hwv⟩:=h.sl;refine ja λb1=>?_
 have none_:∀(R1:RM) (G:Chs),R.le R1→(Ap w a) = (CM,false)→∀{D:Chs} [At D b1 (C Az (eTh CM (SN) (SN)))] [Sf D F],True:=λ_ _ _ _ _ _ _=>trivial
 clear none_;rw[hwv];refine jp (L5 wa w.length wc a 2 hl) (jif (λh2=>?_) (λh2=>?_))
 ·have h2:fits w.length a 2 = false:=by simpa using h2
  have et:Ap w a = (CM,false):=by unfold Ap;rw[h2];rfl
  refine jbd (cs:=eTh CM (SN) (SN)) rfl rfl ?_;refine jS (eTh CM (SN) (SN)) ?_;refine jla (l:=eTh CM (SN) (SN)) (by exact z_n 6) rfl ?_;refine B9 (A:=[]) (RM.le.refl R) ⟨rfl,_,?_,by rw[et]⟩;rw[et];exact⟨_,_,rfl,.inl ⟨rfl,rfl,rfl⟩,.inl ⟨rfl,rfl,rfl⟩⟩
 have h2:fits w.length a 2 = true:=by simpa using h2
 obtain⟨a0,a1,-,-⟩:=Eg h2;obtain⟨n,rfl⟩:∃n:Nat,a = n:=⟨a.toNat,ω⟩;rw[← hwv];refine jad (CE h ω ω ?_);have e1:w[((n:Int) + 1).toNat]'(ω) = w[n + 1]:=getElem_congr_idx ω;rw[e1];refine jp (Ei _) (jex rfl (jex rfl ?_));have eg:w.getD (((n:Int)).toNat + 1) 0 = w[n + 1]:=by
  rw[Yj,Ym,Yi ω,Zi]
 have et0:Ap w n = if (AJ w[n + 1]).2 && fits w.length n (AF (AJ w[n + 1]).1) then (⟨n,w.getD ((n:Int)).toNat 0,(AJ w[n + 1]).1,seg w (n + 2) (AJ w[n + 1]).1.refs,seg w (n + 2 + (AJ w[n + 1]).1.refs) (AJ w[n + 1]).1.nums⟩,true) else (CM,false):=by
  unfold Ap;rw[if_pos h2,eg]
 have sr:=@Fg w[n + 1];generalize AJ w[n + 1] = s at et0 sr ⊢;obtain⟨s,sb⟩:=s;dsimp only at et0 sr ⊢;refine ja λb2=>?_
 refine js (cs':=[I s.refs,I s.nums]) rfl rfl σ rfl ?_;rw[hwv];refine jor [.slice wa w.length wc,I n,Pt b1,Pt b2] ((!sb) || (!fits w.length n (AF s))) (λK' hK'=>?_) (λe c u ho he=>?_)
 ·refine BR (λh1=>?_) (λh1=>?_)
  ·refine jla (l:=[I s.refs,I s.nums]) σ rfl (jp (CJ s) (jp (L5 wa w.length wc n (AF s) hl) (hK' _ _ _ (h1▸Ah) (by rw[h1,Yl]))))
  ·exact hK' _ _ _ (h1▸Am) (by rw[h1,Yo])
 refine z_V ?_;rw[ho];refine jif (λh3=>?_) (λh3=>?_)
 ·have et:Ap w n = (CM,false):=by
   rw[et0,if_neg];intro hh;simp only[ZD,Z9,z_b] at h3 hh;rcases h3 with h3 | h3
   ·rw[h3] at hh;exact absurd hh.1 δ
   ·rw[h3] at hh;exact absurd hh.2 δ
  refine jbd (cs:=eTh CM (SN) (SN)) rfl rfl ?_;refine jS (eTh CM (SN) (SN)) ?_;refine jla (l:=eTh CM (SN) (SN)) (by exact z_n 6) rfl ?_;refine B9 (A:=[]) (RM.le.refl R) ⟨rfl,_,?_,by rw[et]⟩;rw[et];exact⟨_,_,rfl,.inl ⟨rfl,rfl,rfl⟩,.inl ⟨rfl,rfl,rfl⟩⟩
 simp only[Z4,ZM] at h3;obtain⟨h3,h4⟩:=h3;obtain⟨s1,s2,s3,s4,s5⟩:=sr h3;obtain⟨-,f1,-,-⟩:=Eg h4;rw[h3,h4] at et0;simp only[Bool.and_self,if_true] at et0;have eg0:w.getD ((n:Int)).toNat 0 = w[n]:=by rw[Yj,Ym,Yi ω,Zi]
 rw[eg0] at et0;obtain⟨⟨r,hr⟩,⟨m,hm⟩⟩:(∃r:Nat,s.refs = r)∧(∃m:Nat,s.nums = m):=⟨⟨s.refs.toNat,ω⟩,⟨s.nums.toNat,ω⟩⟩;have es1:seg w ((n:Int) + 2) s.refs = (w.drop (n + 2)).take r:=by unfold seg;rw[hr,show ((n:Int) + 2).toNat = n + 2 by omega,Yj]
 have es2:seg w ((n:Int) + 2 + s.refs) s.nums = (w.drop (n + 2 + r)).take m:=by unfold seg;rw[hr,hm,show ((n:Int) + 2 + r).toNat = n + 2 + r by omega,Yj]
 rw[es1,es2] at et0;rw[← hwv];refine VH h ω ω λq hq=>hq _ _ ?_
 have e2:w[((n:Int)).toNat]'(ω) = w[n]:=getElem_congr_idx ω;rw[e2] at hq ⊢;refine jla (l:=[I s.refs,I s.nums]) σ rfl ?_;refine jbd (cs:=eTh ⟨n,w[n],s,[],[]⟩ (SN) (SN)) rfl rfl ?_;refine ja λb3=>?_
 refine Af (hq _ _ jev) (Af (jla (l:=[I s.refs,I s.nums]) σ rfl jev) ?_);refine jS (eTh ⟨n,w[n],s,[],[]⟩ (SN) (SN)) ?_;generalize hE:((b2,C G4 [I s.refs,I s.nums]) :: (b1,C Az (cl z62)) :: ([] ++ F)) = E;have ea:At E b1 (C Az (cl z62)):=by rw[← hE];exact inferInstance
 have ea2:At E b2 (C G4 [I s.refs,I s.nums]):=by rw[← hE];exact inferInstance
 refine AR (λvs R' D'=>R.le R'∧∃v1,BG R' v1 ((w.drop (n + 2)).take r)∧D' = (b3,C Az (eTh ⟨n,w[n],s,[],[]⟩ v1 (SN))) :: E∧vs = [wv,I n,Pt b1,Pt b2,Pt b3]) (λK hK=>?_) ?_
 ·refine AR (λvs R' D'=>R.le R'∧∃v1,BG R' v1 ((w.drop (n + 2)).take r)∧D' = (b3,C Az (eTh ⟨n,w[n],s,[],[]⟩ v1 (SN))) :: E∧vs = [wv,I n,Pt b1,Pt b2,Pt b3]) (λK2 hK2=>?_) ?_;rotate_left
  ·rintro e R1 D1 ⟨hR,v1,hv1,hD,he⟩;refine z_W ?_;clear hD;exact hK _ _ _ ⟨hR,v1,hv1,rfl,rfl⟩
  refine jlp (λk vs R' D'=>R' = R∧∃(i:Nat) (v1:Value) (A:Chs),i≤r∧SO ((w.drop (n + 2)).take i) v1 A∧D' = A ++ ((b3,C Az (eTh ⟨n,w[n],s,[],[]⟩ v1 (SN))) :: E)∧vs = [wv,I n,Pt b1,Pt b2,Pt b3,I i]∧k = r - i)
   (n:=r) ⟨rfl,0,SN,[],ω,.inl ⟨σ,rfl,rfl⟩,by rw[← hE];rfl,rfl,ω⟩ ?_
  rintro k e R1 D1 K3 ⟨hR,i,v1,A,hi,so,hD,he,hk⟩ hK3;subst hR;refine z_W ?_;clear hD;obtain⟨sa,sn,sc,hsl⟩:=so.sl;refine jl (v:=I s.refs) rfl (jlt (jif (λhc=>?_) (λhc=>?_)));rotate_left
  ·have hc:i = r:=by have:=z_g hc;omega
   subst hc;refine FG so λR2 hR2 hint=>?_
   exact hK2 _ _ _ ⟨hR2,v1,hint,rfl,rfl⟩
  have hc:i < r:=by have:=z_f hc;omega
  subst hsl;refine jl (v:=.slice sa sn sc) rfl (jad (jad (CE h ω ω ?_)));have e3:w[((n:Int) + 2 + i).toNat]'(ω) = w[n + 2 + i]:=getElem_congr_idx ω;rw[e3];refine jbs (cs:=[I w[n + 2 + i]]) rfl rfl λb4=>?_
  refine Af (jl (v:=.slice sa sn sc) rfl jev) ?_;refine BI ZH.symm ?_;have hx:BY R1 (A ++ ((b4,C 3 [I w[n + 2 + i]]) :: (b3,C Az (eTh ⟨n,w[n],s,[],[]⟩ (.slice sa sn sc) (SN))) :: E)) (some ⟨b4,0,none⟩) (1 * 1) ([w[n + 2 + i]].map I):=BY.held (t:=AX) (cs:=[I w[n + 2 + i]]) (o:=0) (n:=1 * 1) (z_n 1);refine jas so rfl (by rw[Z5,Z7];omega) hx λv' A' so'=>?_
  obtain⟨sa',sn',sc',rfl⟩:=so'.sl;refine jS (eTh ⟨n,w[n],s,[],[]⟩ (.slice sa' sn' sc') (SN)) ?_;refine jad ?_;refine Aw A' (G:=(b3,C Az (eTh ⟨n,w[n],s,[],[]⟩ (.slice sa' sn' sc') (SN))) :: E) ?_;exact hK3 (r - (i + 1)) _ _ _ ω ⟨rfl,i + 1,_,A',ω,by rw[On ω];exact so',rfl,rfl,rfl⟩
 rintro e R1 D1 ⟨hR,v1,hv1,hD,he⟩;refine z_W ?_;clear hD;obtain⟨ta,tc,htv⟩:=hv1.sl;have h1:=h.le hR;refine AR (λvs R' D'=>R.le R'∧BG R' v1 ((w.drop (n + 2)).take r)∧∃v2,BG R' v2 ((w.drop (n + 2 + r)).take m)∧D' = (b3,C Az (eTh ⟨n,w[n],s,[],[]⟩ v1 v2)) :: E∧vs = [Pt b1,Pt b3]) (λK hK=>?_) ?_
 ·refine AR (λvs R' D'=>R.le R'∧BG R' v1 ((w.drop (n + 2)).take r)∧∃v2,BG R' v2 ((w.drop (n + 2 + r)).take m)∧D' = (b3,C Az (eTh ⟨n,w[n],s,[],[]⟩ v1 v2)) :: E∧vs = [Pt b1,Pt b3]) (λK2 hK2=>?_) ?_;rotate_left
  ·rintro e R2 D2 ⟨hR,hv1,v2,hv2,hD,he⟩;refine z_W ?_;clear hD;exact hK _ _ _ ⟨hR,hv1,v2,hv2,rfl,rfl⟩
  refine jlp (λk vs R' D'=>R' = R1∧∃(i:Nat) (v2:Value) (A:Chs),i≤m∧SO ((w.drop (n + 2 + r)).take i) v2 A∧D' = A ++ ((b3,C Az (eTh ⟨n,w[n],s,[],[]⟩ v1 v2)) :: E)∧vs = [wv,I n,Pt b1,Pt b2,Pt b3,I i]∧k = m - i)
   (n:=m) ⟨rfl,0,SN,[],ω,.inl ⟨σ,rfl,rfl⟩,rfl,rfl,ω⟩ ?_
  rintro k e R2 D2 K3 ⟨hR2,i,v2,A,hi,so,hD,he,hk⟩ hK3;subst hR2;refine z_W ?_;clear hD;obtain⟨sa,sn,sc,hsl⟩:=so.sl;refine jl (v:=I s.nums) rfl (jlt (jif (λhc=>?_) (λhc=>?_)));rotate_left
  ·have hc:i = m:=by have:=z_g hc;omega
   subst hc;refine FG so λR3 hR3 hint=>?_
   exact hK2 _ _ _ ⟨hR.trans hR3,hv1.le hR3,v2,hint,rfl,rfl⟩
  have hc:i < m:=by have:=z_f hc;omega
  subst hsl;refine jl (v:=.slice sa sn sc) (by rw[htv];rfl) (jad (jl (v:=I s.refs) rfl (jad (jad (CE h1 ω ω ?_)))));have e3:w[((n:Int) + 2 + s.refs + i).toNat]'(ω) = w[n + 2 + r + i]:=getElem_congr_idx ω;rw[e3];refine jbs (cs:=[I w[n + 2 + r + i]]) rfl rfl λb4=>?_
  refine Af (jl (v:=.slice sa sn sc) (by rw[htv];rfl) jev) ?_;refine BI ZH.symm ?_;have hx:BY R2 (A ++ ((b4,C 3 [I w[n + 2 + r + i]]) :: (b3,C Az (eTh ⟨n,w[n],s,[],[]⟩ v1 (.slice sa sn sc))) :: E)) (some ⟨b4,0,none⟩) (1 * 1) ([w[n + 2 + r + i]].map I):=BY.held (t:=AX) (cs:=[I w[n + 2 + r + i]]) (o:=0) (n:=1 * 1) (z_n 1);refine jas so rfl (by rw[Z5,Z7];omega) hx λv' A' so'=>?_
  obtain⟨sa',sn',sc',rfl⟩:=so'.sl;refine js (cs':=eTh ⟨n,w[n],s,[],[]⟩ v1 (.slice sa' sn' sc')) rfl rfl (by simp[eTh]) (by rw[htv];rfl) ?_;refine jad ?_;refine Aw A' (G:=(b3,C Az (eTh ⟨n,w[n],s,[],[]⟩ v1 (.slice sa' sn' sc'))) :: E) ?_;exact hK3 (m - (i + 1)) _ _ _ ω ⟨rfl,i + 1,_,A',ω,by rw[On ω];exact so',rfl,rfl,rfl⟩
 rintro e R2 D2 ⟨hR2,hv1,v2,hv2,hD,he⟩;refine z_W ?_;clear hD;obtain⟨ua,uc,huv⟩:=hv2.sl;subst htv huv hE;refine jla (l:=eTh ⟨n,w[n],s,[],[]⟩ _ _) (by exact z_n 6) rfl ?_;refine jS (eTh ⟨n,w[n],s,[],[]⟩ _ _) ?_;refine jla (l:=eTh ⟨n,w[n],s,[],[]⟩ _ _) (by exact z_n 6) rfl ?_;refine B9 (A:=[]) hR2 ⟨rfl,_,?_,by rw[et0]⟩;rw[et0];exact⟨_,_,rfl,hv1,hv2⟩
end Go.Lf
end
