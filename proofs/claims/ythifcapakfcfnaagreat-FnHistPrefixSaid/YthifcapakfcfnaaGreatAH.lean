/- A part of the proof of the given row. Conditions: none. -/
import Derived.Test.YthifcapakfcfnaaGreatAG
set_option linter.unusedVariables false
set_option linter.unusedSimpArgs false
set_option maxRecDepth 100000
section
namespace Sm
variable {P:List (List Op)}
theorem Nr {f:Nat→Bool} {n:Nat} (h:∀k,f k = true→k < n):∀N,(List.range N).countP f≤n:=by
 have:∀N,(List.range N).countP f≤min N n:=by
  intro N;induction N with
  | zero=>simp
  | succ N ih=>
   rw[List.range_succ,List.countP_append,List.countP_singleton];split
   ·have:=h N (by assumption);omega
   ·omega
 intro N;have:=this N;omega
theorem Lh {f q:Nat→Bool} {lo s:Nat} (h:∀k,q k = (f k || (decide (lo≤k) && decide (k < lo + s)))) (hd:∀k,lo≤k→k < lo + s→f k = false):∀N,(List.range N).countP q = (List.range N).countP f + (min (lo + s) N - lo):=by
 intro N;induction N with
 | zero=>simp
 | succ N ih=>
  rw[List.range_succ,List.countP_append,List.countP_append,List.countP_singleton,List.countP_singleton,ih,h N];by_cases c:lo≤N∧N < lo + s
  ·rw[hd N c.1 c.2];simp[c.1,c.2];omega
  ·cases hf:f N
   ·have:(decide (lo≤N) && decide (N < lo + s)) = false:=by simp;omega
    rw[this];simp;omega
   ·simp;omega
open Classical in
theorem SR {x y:X} (H:Sh x) (hw:y.w = x.w) (hm' : ∀b,0≤b→mv y.m b = true→x.L b) {r:Int} (h0:1≤r) (h1:r < x.t.length):(cnt y r:Int)≤(rv x.t r).top - 16 * r:=by
 have R:=H.g.ok.row r h0 h1;have:cnt y r≤((rv x.t r).top - 16 * r).toNat:=by
  unfold cnt;rw[hw];rw[show (List.range 16).countP _ = (List.range 16).countP (λ(k:Nat)=>decide (k < 16∧∃a,0≤a∧mv y.m a = true∧a≤16 * r + (k:Int)∧16 * r + (k:Int) < a + sz x.w a)) from List.countP_congr λk hk=>by
   have:=UZ.1 hk
   simp[this]]
  refine Nr (λk hk=>?_) 16;obtain⟨k16,a,a0,hm,h2,h3⟩:=z_f hk;have:=H.g.inn (H.lb a (hm' a a0 hm));have e:a / 16 = r:=ω
  rw[e] at this;omega
 have:=R.t0;omega
open Classical in
theorem KW {x y:X} (H:Sh x) {a:Int} (hL:x.L a) (hm:mv x.m a = false) (hy:y.m = AM x.m a true) (hw:y.w = x.w) (r:Int) (h0:1≤r) (h1:r < x.t.length) :
  (cnt y r:Int) = cnt x r + (if r = a / 16 then sz x.w a else 0):=by
 have g:=H.g.inn (H.lb a hL);have hml:=H.ml;have em:∀b,0≤b→mv y.m b = if b = a then true else mv x.m b:=λb hb=>by rw[hy];exact Mh ω ω hb
 by_cases hr:r = a / 16
 ·rw[if_pos hr];have t1:=(H.g.ok.row r h0 h1).t1;rw[← hr] at g;have key:∀k:Nat,k < 16→((∃b,0≤b∧mv y.m b = true∧b≤16 * r + (k:Int)∧16 * r + (k:Int) < b + sz y.w b)↔((∃b,0≤b∧mv x.m b = true∧b≤16 * r + (k:Int)∧16 * r + (k:Int) < b + sz x.w b)∨((a - 16 * r).toNat≤k∧k < (a - 16 * r).toNat + (sz x.w a).toNat))):=λk hk=>by
   rw[hw];constructor
   ·rintro⟨b,b0,hb,b1,b2⟩;rw[em b b0] at hb;by_cases c:b = a
    ·subst c;right;omega
    ·rw[if_neg c] at hb;exact .inl ⟨b,b0,hb,b1,b2⟩
   ·rintro (⟨b,b0,hb,b1,b2⟩ | h)
    ·refine⟨b,b0,?_,b1,b2⟩;rw[em b b0];split
     ·rfl
     ·exact hb
    ·exact⟨a,ω,by rw[em a ω,if_pos rfl],ω,ω⟩
  have dis:∀k:Nat,(a - 16 * r).toNat≤k→k < (a - 16 * r).toNat + (sz x.w a).toNat→¬ ∃b,0≤b∧mv x.m b = true∧b≤16 * r + (k:Int)∧16 * r + (k:Int) < b + sz x.w b:=λk k1 k2=>by
   rintro⟨b,b0,hb,b1,b2⟩;obtain⟨e1,_⟩:=sep H.g (a:=a) (b:=b) (k:=16 * r + k - a) (l:=16 * r + k - b) (H.lb a hL) (H.lb b (H.mt b b0 hb).1) ω ω ω ω ω;subst e1;rw[hm] at hb;cases hb
  have e1:cnt y r = (List.range 16).countP (λ(k:Nat)=>decide (k < 16∧∃b,0≤b∧mv y.m b = true∧b≤16 * r + (k:Int)∧16 * r + (k:Int) < b + sz y.w b)):=List.countP_congr λk hk=>by
   have:=UZ.1 hk;simp[this]
  have e2:cnt x r = (List.range 16).countP (λ(k:Nat)=>decide (k < 16∧∃b,0≤b∧mv x.m b = true∧b≤16 * r + (k:Int)∧16 * r + (k:Int) < b + sz x.w b)):=List.countP_congr λk hk=>by
   have:=UZ.1 hk;simp[this]
  rw[e1,e2,Lh (lo:=(a - 16 * r).toNat) (s:=(sz x.w a).toNat) (f:=λ(k:Nat)=>decide (k < 16∧∃b,0≤b∧mv x.m b = true∧b≤16 * r + (k:Int)∧16 * r + (k:Int) < b + sz x.w b)) (λk=>?_) (λk k1 k2=>?_) 16]
  ·omega
  ·by_cases k16:k < 16
   ·have:=key k k16;simp only[k16,true_and];rw[Ul];simp only[z_d,U8,z_b];exact this
   ·rw[Ul];simp only[z_d,U8,z_b];omega
  ·have:=dis k k1 k2;exact decide_eq_false λh=>this h.2
 ·rw[if_neg hr,Int.add_zero];congr 1;refine List.countP_congr λk hk=>?_
  have k16:=UZ.1 hk;simp only[z_d];rw[hw];have t1:=(H.g.ok.row r h0 h1).t1;constructor
  ·rintro⟨b,b0,hb,b1,b2⟩;rw[em b b0] at hb;by_cases c:b = a
   ·subst c;omega
   ·rw[if_neg c] at hb;exact⟨b,b0,hb,b1,b2⟩
  ·rintro⟨b,b0,hb,b1,b2⟩;refine⟨b,b0,?_,b1,b2⟩;rw[em b b0];split
   ·rfl
   ·exact hb
theorem Pp {p:Int} {x:X} {sk' old' : List Int} (H:Sh x) (hs:∀v∈sk',x.L v) (ho:∀v∈old',x.L v) (hl:∀v,(v∈x.sk∨v∈x.old)→Lg { x with sk:=sk',old:=old' } v):Sh { x with sk:=sk',old:=old' }∧Kp p x { x with sk:=sk',old:=old' }:=by
 have lg:∀v,Lg x v→Lg { x with sk:=sk',old:=old' } v:=λv h=>by
  rcases h with h | h | h | h | h
  ·exact .inl h
  ·exact .inr (.inl h)
  ·exact hl v (.inl h)
  ·exact hl v (.inr h)
  ·exact .inr (.inr (.inr (.inr h)))
 refine⟨⟨H.g,H.lb,H.rf,H.st,H.fw,H.ml,H.mt,H.ph,H.nf,H.lm,H.pl,H.fm,H.nb,H.af,λhp=>?_⟩,?_⟩
 ·have M:=H.mp hp;exact⟨hs,ho,M.mn,λa h=>⟨(M.l0 a h).1,(M.l0 a h).2.1,lg _ (M.l0 a h).2.2⟩,M.ql,λa j h ht j0 j1=>(M.un a j h ht j0 j1).imp id (lg _),M.cov⟩
 ·exact⟨rfl,rfl,rfl,λ_ h=>h,λ_ h=>h,λ_ h _=>h,λ_ _=>Iff.rfl,λ_ _=>rfl,λ_ _ h _=>⟨⟨h,rfl,rfl⟩,λ_ _ _=>rfl⟩,λ_ _=>rfl,λ_ _ _ _ _ _=>rfl,λ_ _ _=>rfl,λ_=>lg,rfl,λ_ _ _ h _ _ _ _=>⟨h,rfl⟩⟩
theorem T5 {p:Int} {x:X} {a:Int} {sk' : List Int} (H:Sh x) (hph:x.ph = 1) (hL:x.L a) (ht:a < x.tm a) (hm:mv x.m a = false) (hs:∀v∈x.sk,v∈sk'∨v = a) (hs' : ∀v∈sk',v∈x.sk) :
  Sh { x with m:=AM x.m a true,t:=AM x.t (a / 16) { rv x.t (a / 16) with AH:=(rv x.t (a / 16)).AH + sz x.w a },sk:=sk' }∧
  Kp p x { x with m:=AM x.m a true,t:=AM x.t (a / 16) { rv x.t (a / 16) with AH:=(rv x.t (a / 16)).AH + sz x.w a },sk:=sk' }:=by
 obtain⟨g1,g2,g3,g4,g5,g6,g7,g8⟩:=H.g.inn (H.lb a hL);have hml:=H.ml;have M:=H.mp hph;have em:∀b,0≤b→mv (AM x.m a true) b = if b = a then true else mv x.m b:=λb hb=>Mh ω ω hb
 have et:∀r,0≤r→rv (AM x.t (a / 16) { rv x.t (a / 16) with AH:=(rv x.t (a / 16)).AH + sz x.w a }) r = if r = a / 16 then { rv x.t (a / 16) with AH:=(rv x.t (a / 16)).AH + sz x.w a } else rv x.t r:=λr hr=>Cv ω g3 hr
 have ek:∀r,0≤r→(rv (AM x.t (a / 16) { rv x.t (a / 16) with AH:=(rv x.t (a / 16)).AH + sz x.w a }) r).kind = (rv x.t r).kind:=λr r0=>by
  rw[et r r0];split
  ·subst r;rfl
  ·rfl
 have es:∀r,0≤r→(rv (AM x.t (a / 16) { rv x.t (a / 16) with AH:=(rv x.t (a / 16)).AH + sz x.w a }) r).Al = (rv x.t r).Al:=λr r0=>by
  rw[et r r0];split
  ·subst r;rfl
  ·rfl
 have eo:∀r,0≤r→(rv (AM x.t (a / 16) { rv x.t (a / 16) with AH:=(rv x.t (a / 16)).AH + sz x.w a }) r).AR = (rv x.t r).AR:=λr r0=>by
  rw[et r r0];split
  ·subst r;rfl
  ·rfl
 have ep:∀r,0≤r→(rv (AM x.t (a / 16) { rv x.t (a / 16) with AH:=(rv x.t (a / 16)).AH + sz x.w a }) r).top = (rv x.t r).top:=λr r0=>by
  rw[et r r0];split
  ·subst r;rfl
  ·rfl
 have hf:∀b,Aw (AM x.t (a / 16) { rv x.t (a / 16) with AH:=(rv x.t (a / 16)).AH + sz x.w a }) b↔Aw x.t b:=λb=>⟨λh=>⟨h.1,by have:=h.1;have:=h.2;rw[ek _ ω] at this;exact this⟩,λh=>⟨h.1,by have:=h.1;rw[ek _ ω];exact h.2⟩⟩
 have tm:∀b,0≤b→X.tm { x with m:=AM x.m a true,t:=AM x.t (a / 16) { rv x.t (a / 16) with AH:=(rv x.t (a / 16)).AH + sz x.w a },sk:=sk' } b = x.tm b:=λb hb=>es (b / 16) ω
 have L0:∀b,x.L b→0≤b:=λb h=>by have:=H.g.inn (H.lb b h);omega
 have B0:∀b,x.B b→0≤b:=λb h=>by have:=H.g.inn h;omega
 have lg:∀v,Lg x v→Lg { x with m:=AM x.m a true,t:=AM x.t (a / 16) { rv x.t (a / 16) with AH:=(rv x.t (a / 16)).AH + sz x.w a },sk:=sk' } v:=λv h=>by
  have ma:mv (AM x.m a true) a = true:=by rw[em a ω,if_pos rfl]
  rcases h with h | h | h | h | h
  ·exact .inl h
  ·by_cases c:0≤v
   ·right;left;show mv (AM x.m a true) v = true;rw[em v c];split
    ·rfl
    ·exact h
   ·right;left;show mv (AM x.m a true) v = true;unfold mv gv at h ⊢;unfold AM;rw[show v.toNat = 0 from ω] at h ⊢;rw[Ty] at h ⊢;rw[List.getElem?_set_ne ω];exact h
  ·rcases hs v h with h | h
   ·exact .inr (.inr (.inl h))
   ·subst h;exact .inr (.inl ma)
  ·exact .inr (.inr (.inr (.inl h)))
  ·exact .inr (.inr (.inr (.inr ⟨h.1,by rw[tm v h.1];exact h.2⟩)))
 have len:(AM x.t (a / 16) { rv x.t (a / 16) with AH:=(rv x.t (a / 16)).AH + sz x.w a }).length = x.t.length:=σ
 have R:=H.g.ok.row (a / 16) g2 g3;have cle:(rv x.t (a / 16)).AH + sz x.w a≤(rv x.t (a / 16)).top - 16 * (a / 16):=by
  have e:=KW (y:={ x with m:=AM x.m a true }) H hL hm rfl rfl (a / 16) g2 g3;rw[if_pos rfl,← M.cov (a / 16) g2 g3] at e;rw[← e];refine SR (y:={ x with m:=AM x.m a true }) H rfl (λb b0 h=>?_) g2 g3;have h:mv (AM x.m a true) b = true:=h;rw[em b b0] at h;by_cases c:b = a
  ·subst c;exact hL
  ·rw[if_neg c] at h;exact (H.mt b b0 h).1
 refine⟨⟨⟨by rw[len];exact H.g.len,?_,λb h=>?_,λb h=>?_,λr r0 r1=>?_,H.g.dj⟩,H.lb,H.rf,λb h hn=>H.st b h λc=>hn ((hf b).2 c),λb h hfr hne=>?_,by simpa using hml,λb b0 h=>?_,H.ph,λhp r r0 hk=>H.nf hp r r0 (by rw[ek r r0] at hk;exact hk),λhp=>absurd hp (by show ¬ 2≤x.ph;omega),λb h=>⟨(H.pl b h).1,λc=>(H.pl b h).2 ((hf b).1 c)⟩,λb h hfr=>?_,λh1 b h ht'=>H.nb h1 b h (by rw[← tm b (B0 b h)];exact ht'),λh3=>absurd h3 (by show ¬ x.ph = 3;omega),λhp=>?_⟩,?_⟩
 ·refine TOk.set H.g.ok g2 g3 ⟨R.k0,R.k1,R.t0,R.t1,R.s0,R.s1,?_,cle,R.fr,R.ow,R.o0,R.o1⟩ λs s0 s1 hne ho he=>hne (H.g.ok.own s (a / 16) s0 s1 g2 g3 (by rw[he];exact ho) he)
  have:=R.l0;show 0≤(rv x.t (a / 16)).AH + sz x.w a;omega
 ·rw[ep _ (by have:=B0 b h;omega)];exact H.g.at_ b h
 ·rw[ep _ (by have:=B0 b h;omega)];exact H.g.nx b h
 ·rw[ep r ω];exact H.g.bs r r0 (by rw[← len];exact r1)
 ·obtain⟨b1,b2,b3⟩:=H.fw b h ((hf b).1 hfr) hne;exact⟨b1,λc=>b2 ((hf _).1 c),b3⟩
 ·have h:mv (AM x.m a true) b = true:=h;rw[em b b0] at h;rw[tm b b0];by_cases c:b = a
  ·subst c;exact⟨hL,ht⟩
  ·rw[if_neg c] at h;exact H.mt b b0 h
 ·show mv (AM x.m a true) b = true;rw[em b (L0 b h)];split
  ·rfl
  ·exact H.fm b h ((hf b).1 hfr)
 ·refine⟨λv h=>M.sk v (hs' v h),M.old,λY h2 h3 b hb hbt=>M.mn Y h2 (λc j hc hct hy j0 j1 hq=>h3 c j hc (by rw[tm c (L0 c hc)];exact hct) hy j0 j1 hq) b hb (by rw[tm b (L0 b hb)] at hbt;exact hbt),λb h=>⟨(M.l0 b h).1,by rw[tm b (L0 b (M.l0 b h).1)];exact (M.l0 b h).2.1,lg _ (M.l0 b h).2.2⟩,λb j hb hbt j0 j1 hq=>?_,λb j hb hbt j0 j1=>(M.un b j hb (by rw[tm b (L0 b hb)] at hbt;exact hbt) j0 j1).imp id (lg _),λr r0 r1=>?_⟩
  ·obtain⟨q1,q2⟩:=M.ql b j hb (by rw[tm b (L0 b hb)] at hbt;exact hbt) j0 j1 hq;exact⟨q1,by rw[tm _ (L0 _ q1)];exact q2⟩
  ·have r1:r < x.t.length:=by rw[← len];exact r1
   show (rv (AM x.t (a / 16) { rv x.t (a / 16) with AH:=(rv x.t (a / 16)).AH + sz x.w a }) r).AH = _;refine Eq.trans ?_ (KW (y:={ x with m:=AM x.m a true,t:=AM x.t (a / 16) { rv x.t (a / 16) with AH:=(rv x.t (a / 16)).AH + sz x.w a },sk:=sk' }) H hL hm rfl rfl r r0 r1).symm;rw[et r ω];have:=M.cov r r0 r1;split
   ·subst r;show (rv x.t (a / 16)).AH + sz x.w a = _;omega
   ·omega
 ·exact⟨rfl,len,rfl,λ_ h=>h,λ_ h=>h,λ_ h _=>h,λr r0=>by rw[show (rv _ r).kind = (rv x.t r).kind from ek r r0],es,λr r0 hk _=>⟨⟨by rw[show (rv _ r).kind = (rv x.t r).kind from ek r r0];exact hk,eo r r0,ep r r0⟩,λ_ _ _=>rfl⟩,λ_ _=>rfl,λ_ _ _ _ _ _=>rfl,λ_ _ _=>rfl,λ_=>lg,rfl,λ_ _ _ h _ _ _ _=>⟨h,rfl⟩⟩
end Sm
end
section
namespace Sm
variable {P:List (List Op)}
theorem IG.cstep {S S' : Sim} {g g' : Gh} (I:IG P S g) (hth:S'.th = S.th) (hpc:(S'.AE,S'.c) = (S.AE,S.c)) (hsh:Sh (xof S' g')) (K:Kp S.th.length (xof S g) (xof S' g')) (c1:S.AW = 1→C1 (xof S' g') S'.col)
  (c2:S.AW = 2→C2 (xof S' g') S.th.length S'.col) (c3:S.AW = 3→C3 (xof S' g') S'.col) (wt:S'.stop = true→S'.full = false→Wt (xof S' g') S'.col.want):IG P S' g':=by
 have hpg:S'.AE = S.AE:=congrArg Prod.fst hpc;have hcc:S'.c = S.c:=congrArg Prod.snd hpc;have hph:S'.AW = S.AW:=K.ph;refine⟨by rw[hpg];exact I.pg,hsh,by rw[hth];exact I.n0,by rw[hth];exact I.n1,by rw[hth,hpg];exact I.pl,by rw[hpg];exact I.pp,λj u hu=>?_,λh=>c1 (by rw[← hph];exact h),λh=>by rw[hth];exact c2 (by rw[← hph];exact h),λh=>c3 (by rw[← hph];exact h),wt,by rw[hcc];exact I.rs⟩;rw[hth] at hu;have hj:=Jv hu;have:S'.opOf j u = S.opOf j u:=by unfold Sim.opOf;rw[hpg]
 rw[this];exact (I.ti j u hu).stable I.sh K ω
def EN (c:Col):Nat:=if c.pc = 2 then (c.sh.refs - c.i).toNat else 0
def mu (S:Sim):Nat:=3 * S.old.length + 2 * S.col.AD.length + 14 * S.AJ.countP (λb=>!b) + 3 * EN S.col
section
variable {c:Nat} {S:Sim} {g:Gh}
theorem QR {l:List Bool} {a:Int} (h0:0≤a) (h1:a < l.length) (h:mv l a = false):(AM l a true).countP (λb=>!b) + 1 = l.countP (λb=>!b):=by
 have e:l[a.toNat]'(ω) = false:=by
  have:=Ek (d:=false) (l:=l) (k:=a.toNat) ω;rw[← this,show ((a.toNat:Nat):Int) = a from ω];exact h
 have hp:0 < l.countP (λb=>!b):=List.countP_pos_iff.2 ⟨_,U6 (by omega:a.toNat < l.length),by rw[e];rfl⟩;unfold AM;rw[List.countP_set (by omega:a.toNat < l.length),e];simp;omega
theorem C1.col {x:X} {c c' : Col} (C:C1 x c) (h:c'.pc = c.pc) (h1:c'.p = c.p) (h2:c'.sh = c.sh) (h3:c'.i = c.i):C1 x c':=by
 refine⟨by rw[h];exact C.pc,by rw[h,h1,h2,h3];exact C.p2,?_⟩;rw[h,h1,h3];exact C.sc
theorem Mz (hc:c < 900000) (I:IG P S g) (B:Bd c S) (h1:S.AW = 1) (hp:S.col.pc = 1):∃S',S.mark = some S'∧IG P S' g∧Bd c S'∧S'.AW = 1∧(S'.AI = S.AI∧S'.th = S.th)∧S'.full = S.full∧((S'.stop = true∧S.col.AD = []∧S.old = [])∨(mu S' < mu S∧S'.stop = S.stop∧S'.col.want = S.col.want)):=by
 have M:=I.sh.mp h1;have C:=I.c1 h1;have hz:=I.szok rfl B hc;have hwl:=I.wl;have wts:∀{S' : Sim} {g'},Kp S.th.length (xof S g) (xof S' g')→S'.stop = S.stop→S'.full = S.full→S'.col.want = S.col.want→S'.stop = true→S'.full = false→Wt (xof S' g') S'.col.want:=λK e1 e2 e3 h h'=>by
  rw[e3];exact (I.wt (by rw[← e1];exact h) (by rw[← e2];exact h')).stable I.sh K
 unfold Sim.mark;rw[hz,if_neg δ];rcases List.eq_nil_or_concat S.col.AD with hs | ⟨l,a,hs⟩
 ·rw[if_pos (by rw[hs];rfl)];have hoc:S.old = []∨∃a l,S.old = a :: l:=by cases S.old<;>simp
  rcases hoc with hold | ⟨a,l,hold⟩
  ·refine⟨{ S with stop:=true,col:={ S.col with want:=2 } },by rw[hold],?_,⟨B.ev,B.old,B.cy,B.fu,B.st,B.pn⟩,h1,⟨rfl,rfl⟩,rfl,.inl ⟨rfl,hs,hold⟩⟩;exact I.cstep (g':=g) (S':={ S with stop:=true,col:={ S.col with want:=2 } }) rfl rfl I.sh (Kp.refl _ _) (λ_=>C.col rfl rfl rfl rfl) (λh=>ω) (λh=>ω) (λ_ _=>.inr (.inl ⟨h1,rfl⟩))
  ·obtain⟨H,K⟩:=Pp (p:=S.th.length) (sk':=[a]) (old':=l) I.sh (λv hv=>by
    simp only[U2] at hv;subst hv;exact M.old v (by show v∈S.old;rw[hold];simp)) (λv hv=>M.old v (by show v∈S.old;rw[hold];simp[hv])) (λv hv=>by
    rcases hv with hv | hv
    ·have hv:v∈S.col.AD:=hv
     rw[hs] at hv;cases hv
    ·have hv:v∈S.old:=hv
     rw[hold] at hv
     rcases Tv.1 hv with h | h
     ·exact .inr (.inr (.inl (by simp[h])))
     ·exact .inr (.inr (.inr (.inl h))))
   have bs:=B.st;rw[hs,hold] at bs;refine⟨{ S with old:=l,col:={ S.col with AD:=[a] } },by rw[hold],?_,⟨B.ev,?_,B.cy,B.fu,?_,B.pn⟩,h1,⟨rfl,rfl⟩,rfl,.inr ⟨?_,rfl,rfl⟩⟩
   ·exact I.cstep (g':=g) (S':={ S with old:=l,col:={ S.col with AD:=[a] } }) rfl rfl H K (λ_=>(C.stable I.sh K rfl h1).col rfl rfl rfl rfl) (λh=>ω) (λh=>ω) (wts K rfl rfl rfl)
   ·have:=B.old;rw[hold] at this;simp at this;show l.length≤c;omega
   ·show [a].length + l.length + 5 * S.AJ.countP (λb=>!b) + (if S.col.pc = 2 then (S.col.sh.refs - S.col.i).toNat else 0)≤3000 + c;simp only[Ug,U4] at bs ⊢;omega
   ·show 3 * l.length + 2 * [a].length + 14 * S.AJ.countP (λb=>!b) + 3 * EN { S.col with AD:=[a] } < 3 * S.old.length + 2 * S.col.AD.length + 14 * S.AJ.countP (λb=>!b) + 3 * EN S.col;rw[hs,hold];have:EN { S.col with AD:=[a] } = EN S.col:=rfl;rw[this];simp;omega
 ·rw[List.concat_eq_append] at hs;rw[if_neg (by rw[hs];simp)];simp only[Tm];have e1:S.col.AD.getLast? = some a:=by rw[hs];simp
  have e2:S.col.AD.dropLast = l:=by rw[hs];simp
  have hL:g.L a:=M.sk a (by show a∈S.col.AD;rw[hs];simp);have hls:∀v∈l,v∈S.col.AD:=λv hv=>by rw[hs];simp[hv]
  have hsl:∀v∈S.col.AD,v∈l∨v = a:=λv hv=>by rw[hs] at hv;simpa using hv
  obtain⟨a1,a2,a3,a4,a5,a6⟩:=I.in_ hL;have hml:S.AJ.length = S.A5.length:=I.sh.ml;have bs:=B.st;rw[hs,hp,if_neg δ] at bs;simp only[Tn,U0] at bs;have mus:mu S = 3 * S.old.length + 2 * (l.length + 1) + 14 * S.AJ.countP (λb=>!b):=by
   unfold mu EN;rw[hs,hp,if_neg δ];simp
  rw[e1,e2];simp only[z_o];rw[CH ω,CJ ω a3];simp only[z_o];have hpop:∀(b:a < (rv S.A0 (a / 16)).Al→mv S.AJ a = true),∃S',some (S.setC { S.col with AD:=l }) = some S'∧IG P S' g∧Bd c S'∧S'.AW = 1∧(S'.AI = S.AI∧S'.th = S.th)∧S'.full = S.full∧((S'.stop = true∧S.col.AD = []∧S.old = [])∨(mu S' < mu S∧S'.stop = S.stop∧S'.col.want = S.col.want)):=λb=>by
   obtain⟨H,K⟩:=Pp (p:=S.th.length) (sk':=l) (old':=S.old) I.sh (λv hv=>M.sk v (hls v hv)) M.old (λv hv=>by
    rcases hv with hv | hv
    ·rcases hsl v hv with h | h
     ·exact .inr (.inr (.inl h))
     ·subst h
      by_cases c:v < (rv S.A0 (v / 16)).Al
      ·exact .inr (.inl (b c))
      ·exact .inr (.inr (.inr (.inr ⟨ω,by show (rv S.A0 (v / 16)).Al≤v;omega⟩)))
    ·exact .inr (.inr (.inr (.inl hv))))
   refine⟨_,rfl,?_,⟨B.ev,B.old,B.cy,B.fu,?_,B.pn⟩,h1,⟨rfl,rfl⟩,rfl,.inr ⟨?_,rfl,rfl⟩⟩
   ·exact I.cstep (g':=g) (S':=S.setC { S.col with AD:=l }) rfl rfl H K (λ_=>(C.stable I.sh K rfl h1).col rfl rfl rfl rfl) (λh=>ω) (λh=>ω) (wts K rfl rfl rfl)
   ·show l.length + S.old.length + 5 * S.AJ.countP (λb=>!b) + (if S.col.pc = 2 then (S.col.sh.refs - S.col.i).toNat else 0)≤3000 + c;rw[hp,if_neg δ];omega
   ·rw[mus];show 3 * S.old.length + 2 * l.length + 14 * S.AJ.countP (λb=>!b) + 3 * EN { S.col with AD:=l } < _;have:EN { S.col with AD:=l } = 0:=by unfold EN;rw[if_neg (by show ¬ S.col.pc = 2;omega)]
    rw[this];omega
  by_cases hlt:a < (rv S.A0 (a / 16)).Al
  ·rw[if_pos hlt,M9 ω ω];simp only[z_o];cases hm:mv S.AJ a with
   | true=>
    simp only[Bool.not_true,U1,if_false];exact hpop λ_=>hm
   | false=>
    simp only[VF,if_true];rw[Av ω ω];simp only[z_o];rw[Bl ω (by show _ < (S.A5.length:Int);omega)];simp only[z_o];obtain⟨H,K⟩:=T5 (p:=S.th.length) (sk':=l) I.sh h1 hL hlt hm hsl hls;have R:=I.sh.g.ok.row (a / 16) a2 a3;have l0:=R.l0;have l1:=R.l1;have t0:=R.t1;have es:(AN (wv S.A5 (a + 1))).1 = shp S.A5 a:=rfl;have esz:AC (shp S.A5 a) = sz S.A5 a:=rfl;have sb:=Dp S.A5 a;rw[es,esz,Av (by simp only at l0;omega) (by simp only at l0 l1 t0;omega)];simp only[z_o];have hrem:(if (if 0 < (shp S.A5 a).refs then 2 else S.col.pc) = 2 then ((shp S.A5 a).refs - 0).toNat else 0)≤4:=by
     by_cases c:0 < (shp S.A5 a).refs
     ·rw[if_pos c,if_pos rfl];omega
     ·rw[if_neg c,if_neg ω];omega
    have hu:=QR (l:=S.AJ) (a:=a) ω ω hm;refine⟨_,rfl,?_,⟨B.ev,B.old,B.cy,B.fu,?_,B.pn⟩,h1,⟨rfl,rfl⟩,rfl,.inr ⟨?_,rfl,rfl⟩⟩
    ·refine I.cstep (g':=g) (S':={ S with used:=true,AJ:=AM S.AJ a true,A0:=AM S.A0 (a / 16) { rv S.A0 (a / 16) with AH:=(rv S.A0 (a / 16)).AH + sz S.A5 a },col:={ S.col with AD:=l,p:=a,i:=0,sh:=shp S.A5 a,pc:=if 0 < (shp S.A5 a).refs then 2 else S.col.pc } }) rfl rfl H K (λ_=>?_) (λh=>ω) (λh=>ω) (wts K rfl rfl rfl);have em:∀b,0≤b→mv (AM S.AJ a true) b = if b = a then true else mv S.AJ b:=λb hb=>Mh ω ω hb
     refine⟨?_,λh=>?_,λb j b0 hb j0 j1=>?_⟩
     ·show (if 0 < (shp S.A5 a).refs then 2 else S.col.pc) = 1∨(if 0 < (shp S.A5 a).refs then 2 else S.col.pc) = 2;split
      ·exact .inr rfl
      ·exact .inl hp
     ·have h:(if 0 < (shp S.A5 a).refs then 2 else S.col.pc) = 2:=h;refine⟨?_,by show 0≤a;omega,rfl,UI 0,?_⟩
      ·show mv (AM S.AJ a true) a = true;rw[em a ω,if_pos rfl]
      ·show 0 < (shp S.A5 a).refs;by_cases c:0 < (shp S.A5 a).refs
       ·exact c
       ·rw[if_neg c] at h;omega
     ·have hb:mv (AM S.AJ a true) b = true:=hb;rw[em b b0] at hb;by_cases c:b = a
      ·subst c;left;have j1:j < (shp S.A5 b).refs:=j1;refine⟨?_,rfl,j0⟩;show (if 0 < (shp S.A5 b).refs then 2 else S.col.pc) = 2;rw[if_pos ω]
      ·rw[if_neg c] at hb;right;rcases C.sc b j b0 hb j0 j1 with h | h
       ·omega
       ·exact K.lg h1 _ h
    ·show l.length + S.old.length + 5 * (AM S.AJ a true).countP (λb=>!b) + (if (if 0 < (shp S.A5 a).refs then 2 else S.col.pc) = 2 then ((shp S.A5 a).refs - 0).toNat else 0)≤3000 + c;omega
    ·rw[mus];show 3 * S.old.length + 2 * l.length + 14 * (AM S.AJ a true).countP (λb=>!b) + 3 * EN _ < _;have:EN { S.col with AD:=l,p:=a,i:=0,sh:=shp S.A5 a,pc:=if 0 < (shp S.A5 a).refs then 2 else S.col.pc }≤4:=by
      unfold EN;exact hrem
     refine Nat.lt_of_le_of_lt (Nat.add_le_add_left (Nat.mul_le_mul_left 3 this) _) ?_;omega
  ·rw[if_neg hlt];simp only[z_o,U1,if_false];exact hpop λh=>absurd h hlt
theorem Mr (hc:c < 900000) (I:IG P S g) (B:Bd c S) (h1:S.AW = 1) (hp:S.col.pc = 2):∃S',S.look = some S'∧IG P S' g∧Bd c S'∧S'.AW = 1∧(S'.AI = S.AI∧S'.th = S.th)∧S'.full = S.full∧S'.used = true∧mu S' < mu S∧S'.stop = S.stop∧S'.col.want = S.col.want:=by
 have M:=I.sh.mp h1;have C:=I.c1 h1;have hz:=I.szok rfl B hc;have hwl:=I.wl;obtain⟨p1,p0,psh,pi0,pi1⟩:=C.p2 hp;obtain⟨hL,hlt⟩:=I.sh.mt S.col.p p0 p1;obtain⟨a1,a2,a3,a4,a5,a6⟩:=I.in_ hL;have sb:=Dp S.A5 S.col.p;have psh:S.col.sh = shp S.A5 S.col.p:=psh;rw[psh] at pi1;unfold Sim.look;rw[hz,if_neg δ];simp only[Tm];rw[Av ω ω];simp only[z_o];rw[Av ω ω];simp only[z_o];rw[Bl ω ω];simp only[z_o];rw[Av ω ω];simp only[z_o];have hv:=I.sh.rf S.col.p S.col.i hL pi0 pi1;have hin:∀v∈S.col.AD,v∈(if wv S.A5 (S.col.p + 2 + S.col.i)≠0 then S.col.AD ++ [wv S.A5 (S.col.p + 2 + S.col.i)] else S.col.AD):=λv h=>by
  split
  ·exact UH _ h
  ·exact h
 obtain⟨H,K⟩:=Pp (p:=S.th.length) (sk':=if wv S.A5 (S.col.p + 2 + S.col.i)≠0 then S.col.AD ++ [wv S.A5 (S.col.p + 2 + S.col.i)] else S.col.AD) (old':=S.old) I.sh (λv h=>by
  split at h
  ·rcases U7.1 h with h | h
   ·exact M.sk v h
   ·simp only[U2] at h;subst h;exact hv (by assumption)
  ·exact M.sk v h) M.old (λv h=>by
  rcases h with h | h
  ·exact .inr (.inr (.inl (hin v h)))
  ·exact .inr (.inr (.inr (.inl h))))
 have bs:=B.st;rw[hp,if_pos rfl,psh] at bs;have hlen:(if wv S.A5 (S.col.p + 2 + S.col.i)≠0 then S.col.AD ++ [wv S.A5 (S.col.p + 2 + S.col.i)] else S.col.AD).length≤S.col.AD.length + 1:=by split<;>simp
 have hrem:EN { S.col with AD:=if wv S.A5 (S.col.p + 2 + S.col.i)≠0 then S.col.AD ++ [wv S.A5 (S.col.p + 2 + S.col.i)] else S.col.AD,i:=S.col.i + 1,pc:=if S.col.i + 1 = S.col.sh.refs then 1 else S.col.pc } + 1≤((shp S.A5 S.col.p).refs - S.col.i).toNat:=by
  unfold EN;show (if (if S.col.i + 1 = S.col.sh.refs then 1 else S.col.pc) = 2 then (S.col.sh.refs - (S.col.i + 1)).toNat else 0) + 1≤_;rw[psh];by_cases c:S.col.i + 1 = (shp S.A5 S.col.p).refs
  ·rw[if_pos c,if_neg δ];omega
  ·rw[if_neg c,if_pos hp];omega
 refine⟨_,rfl,?_,⟨B.ev,B.old,B.cy,B.fu,?_,B.pn⟩,h1,⟨rfl,rfl⟩,rfl,rfl,?_,rfl,rfl⟩
 ·refine I.cstep (g':=g) (S':=({ S with used:=true }:Sim).setC { S.col with AD:=if wv S.A5 (S.col.p + 2 + S.col.i)≠0 then S.col.AD ++ [wv S.A5 (S.col.p + 2 + S.col.i)] else S.col.AD,i:=S.col.i + 1,pc:=if S.col.i + 1 = S.col.sh.refs then 1 else S.col.pc }) rfl rfl H K (λ_=>?_) (λh=>ω) (λh=>ω) (λh h'=>(I.wt h h').stable I.sh K);refine⟨?_,λh=>?_,λb j b0 hb j0 j1=>?_⟩
  ·show (if S.col.i + 1 = S.col.sh.refs then 1 else S.col.pc) = 1∨(if S.col.i + 1 = S.col.sh.refs then 1 else S.col.pc) = 2;split
   ·exact .inl rfl
   ·exact .inr hp
  ·have h:(if S.col.i + 1 = S.col.sh.refs then 1 else S.col.pc) = 2:=h;refine⟨p1,p0,psh,by show 0≤S.col.i + 1;omega,?_⟩;show S.col.i + 1 < S.col.sh.refs;by_cases c:S.col.i + 1 = S.col.sh.refs
   ·rw[if_pos c] at h;cases h
   ·rw[psh] at c ⊢;omega
  ·have j1:j < (shp S.A5 b).refs:=j1;rcases C.sc b j b0 hb j0 j1 with ⟨_,h2,h3⟩ | h
   ·subst h2;by_cases c:j = S.col.i
    ·subst c;right;rcases M.un S.col.p S.col.i hL hlt pi0 pi1 with h | h
     ·show Lg _ (g.q (S.col.p + 2 + S.col.i));have h:wv S.A5 (S.col.p + 2 + S.col.i) = g.q (S.col.p + 2 + S.col.i):=h;rw[← h];by_cases hv0:wv S.A5 (S.col.p + 2 + S.col.i) = 0
      ·exact .inl hv0
      ·refine .inr (.inr (.inl ?_));show _∈(if wv S.A5 (S.col.p + 2 + S.col.i)≠0 then S.col.AD ++ [wv S.A5 (S.col.p + 2 + S.col.i)] else S.col.AD);rw[if_pos hv0];simp
     ·exact K.lg h1 _ h
    ·left;refine⟨?_,rfl,by show S.col.i + 1≤j;omega⟩;show (if S.col.i + 1 = S.col.sh.refs then 1 else S.col.pc) = 2;rw[if_neg (by rw[psh];omega)];exact hp
   ·exact .inr (K.lg h1 _ h)
 ·show (if wv S.A5 (S.col.p + 2 + S.col.i)≠0 then S.col.AD ++ [wv S.A5 (S.col.p + 2 + S.col.i)] else S.col.AD).length + S.old.length + 5 * S.AJ.countP (λb=>!b) + EN { S.col with AD:=if wv S.A5 (S.col.p + 2 + S.col.i)≠0 then S.col.AD ++ [wv S.A5 (S.col.p + 2 + S.col.i)] else S.col.AD,i:=S.col.i + 1,pc:=if S.col.i + 1 = S.col.sh.refs then 1 else S.col.pc }≤3000 + c;omega
 ·have e:mu S = 3 * S.old.length + 2 * S.col.AD.length + 14 * S.AJ.countP (λb=>!b) + 3 * ((shp S.A5 S.col.p).refs - S.col.i).toNat:=by
   unfold mu EN;rw[hp,if_pos rfl,psh]
  rw[e];show 3 * S.old.length + 2 * (if wv S.A5 (S.col.p + 2 + S.col.i)≠0 then S.col.AD ++ [wv S.A5 (S.col.p + 2 + S.col.i)] else S.col.AD).length + 14 * S.AJ.countP (λb=>!b) + 3 * EN { S.col with AD:=if wv S.A5 (S.col.p + 2 + S.col.i)≠0 then S.col.AD ++ [wv S.A5 (S.col.p + 2 + S.col.i)] else S.col.AD,i:=S.col.i + 1,pc:=if S.col.i + 1 = S.col.sh.refs then 1 else S.col.pc } < _;omega
end
end Sm
end
section
namespace Sm
variable {P:List (List Op)}
theorem LT {m:List Bool} {row:Rg}:∀(n:Nat) (p:Int),0≤p→row.top - p < n→0 < n→row.top≤m.length→∃q,GW m row n p = some q∧p≤q∧(row.kind = 4→q < row.top→mv m q = true)∧(row.kind = 4→∀a,p≤a→a < q→mv m a = false)∧(row.kind≠4→q = p)∧(q = p∨q≤row.top):=by
 intro n;induction n with
 | zero=>intro p _ _ h;omega
 | succ n ih=>
  intro p p0 h _ hm;unfold GW;by_cases c:row.kind = 4∧p < row.top
  ·rw[if_pos c,M9 p0 ω];simp only[Tm,z_o];cases hp:mv m p with
   | true=>
    simp only[if_true];exact⟨p,rfl,UI p,λ_ _=>hp,λ_ a h1 h2=>ω,λ_=>rfl,.inl rfl⟩
   | false=>
    simp only[U1,if_false];obtain⟨q,e,h1,h2,h3,h4,h5⟩:=ih (p + 1) ω ω ω hm;refine⟨q,e,ω,h2,λhk a ha hb=>?_,λhk=>absurd c.1 hk,.inr ω⟩;by_cases d:a = p
    ·subst d;exact hp
    ·exact h3 hk a ω hb
  ·rw[if_neg c];exact⟨p,rfl,UI p,λhk ht=>absurd ⟨hk,ht⟩ c,λ_ a h1 h2=>ω,λ_=>rfl,.inl rfl⟩
theorem KC {S:Sim} (T:TOk S.A0) (hl:(S.A5.length:Int) = 16 * S.A0.length) (hml:S.AJ.length = S.A5.length):∀(n:Nat) (r p:Int),1≤r→r≤S.A0.length→16 * r≤p→p≤16 * r + 16→S.A0.length - r < n→
  ∃r' p',S.walkOut n r p = some (r',p')∧1≤r'∧r'≤S.A0.length∧16 * r'≤p'∧p'≤16 * r' + 16∧p≤p'∧(∀a,Aw S.A0 a→p≤a→a < p'→a < (rv S.A0 (a / 16)).top→mv S.AJ a = false)∧(r' < S.A0.length→(rv S.A0 r').kind = 4∧p' < (rv S.A0 r').top∧mv S.AJ p' = true):=by
 intro n;induction n with
 | zero=>intro r p _ _ _ _ h;omega
 | succ n ih=>
  intro r p r0 r1 p0 p1 hn;unfold Sim.walkOut;by_cases c:r < S.A0.length
  ·have R:=T.row r r0 c;have R0:=R.t0;have R1:=R.t1;rw[if_pos c,CJ ω c];simp only[Tm,z_o];obtain⟨q,e,h1,h2,h3,h4,h5⟩:=LT (m:=S.AJ) (row:=rv S.A0 r) 20 p ω ω ω ω;rw[e];simp only[z_o];have q1:q≤16 * r + 16:=ω
   by_cases d:(rv S.A0 r).kind = 4∧q < (rv S.A0 r).top
   ·rw[if_pos d];refine⟨r,q,rfl,r0,r1,ω,q1,h1,λa hf ha hb _=>h3 d.1 a ha hb,λ_=>⟨d.1,d.2,h2 d.1 d.2⟩⟩
   ·rw[if_neg d,show (r + 1) * 16 = 16 * (r + 1) from ω];obtain⟨r',p',e',g1,g2,g3,g4,g5,g6,g7⟩:=ih (r + 1) (16 * (r + 1)) ω ω ω ω ω;refine⟨r',p',e',g1,g2,g3,g4,ω,λa hf ha hb ht=>?_,g7⟩;by_cases d2:16 * (r + 1)≤a
    ·exact g6 a hf d2 hb ht
    ·have er:a / 16 = r:=ω
     rw[er] at ht;have hk:(rv S.A0 r).kind = 4:=by have:=hf.2;rw[er] at this;exact this
     by_cases d3:a < q
     ·exact h3 hk a ha d3
     ·exfalso;exact d ⟨hk,ω⟩
  ·rw[if_neg c];exact⟨r,p,rfl,r0,r1,p0,p1,UI p,λa _ h1 h2=>ω,λh=>absurd h c⟩
section
variable {c:Nat} {S:Sim} {g:Gh}
theorem QS (I:IG P S g) (B:Bd c S) (h2:S.AW = 2) (hp:S.col.pc = 5):∃S',S.walk = some S'∧IG P S' g∧Bd c S'∧S'.AW = 2∧(S'.stop = true∨S'.used = true):=by
 have C:=I.c2 h2;have hwl:=I.wl;have hl:(S.A5.length:Int) = 16 * S.A0.length:=I.sh.g.len;have hml:S.AJ.length = S.A5.length:=I.sh.ml;have cr1:S.col.r≤S.A0.length:=C.r1;obtain⟨r,p,e,r0,r1,p0,p1,hpp,hno,hat⟩:=KC I.sh.g.ok hl hml (S.A0.length + 2) S.col.r S.col.p C.r0 C.r1 C.p0 C.p1 (by have:=C.r0;omega);have wk0:∀a,g.L a→Aw S.A0 a→a < p→wv S.A5 a≠a:=λa ha hf hlt=>by
  by_cases d:a < S.col.p
  ·rcases C.wk a ha hf d with h | ⟨h,_⟩
   ·exact h
   ·exact absurd hp h
  ·exfalso;have h1:=hno a hf ω hlt (by have:=I.sh.g.inn (I.sh.lb a ha);simp only at this;omega);have h2:mv S.AJ a = true:=I.sh.fm a ha hf;rw[h1] at h2;cases h2
 unfold Sim.walk;simp only[Tm];rw[e];simp only[z_o];by_cases d:r = S.A0.length
 ·rw[if_pos d];refine⟨_,rfl,?_,⟨B.ev,B.old,B.cy,B.fu,?_,B.pn⟩,h2,.inl rfl⟩
  ·refine I.cstep (g':=g) (S':={ S with stop:=true,col:={ S.col with r:=r,p:=p,want:=3 } }) rfl rfl I.sh (Kp.refl _ _) (λh=>ω) (λ_=>⟨r0,r1,p0,p1,λa ha hf hlt=>.inl (wk0 a ha hf hlt),.inl hp⟩) (λh=>ω) (λ_ _=>.inr (.inr (.inl ⟨h2,rfl,λa ha hf=>?_⟩)));have:=I.in_ ha;exact wk0 a ha hf ω
  ·exact B.st
 ·rw[if_neg d];obtain⟨k4,pt,pm⟩:=hat ω;obtain⟨hL,_⟩:=I.sh.mt p ω pm;obtain⟨a1,a2,a3,a4,a5,a6⟩:=I.in_ hL;have R1:=(I.sh.g.ok.row r r0 (by simp only;omega)).t1;simp only at R1;have er:p / 16 = r:=ω
  have hf:Aw S.A0 p:=⟨ω,by rw[er];exact k4⟩;rw[Av ω ω];simp only[z_o];rw[Bl ω ω];simp only[z_o];have key:∀col' : Col,(col' = { S.col with r:=r,p:=p + 1 }∧wv S.A5 p≠p)∨col' = { S.col with r:=r,p:=p + 1,src:=p,pc:=20 }→IG P (({ S with used:=true }:Sim).setC col') g∧Bd c (({ S with used:=true }:Sim).setC col'):=λcol' h=>by
   rcases h with ⟨rfl,hne⟩ | rfl
   ·refine⟨I.cstep (g':=g) (S':=({ S with used:=true }:Sim).setC { S.col with r:=r,p:=p + 1 }) rfl rfl I.sh (Kp.refl _ _) (λh=>ω) (λ_=>⟨r0,r1,by show 16 * r≤p + 1;omega,by show p + 1≤16 * r + 16;omega,λa ha hf hlt=>.inl ?_,.inl hp⟩) (λh=>ω) (λh h'=>I.wt h h'),⟨B.ev,B.old,B.cy,B.fu,B.st,B.pn⟩⟩;by_cases c2:a = p
    ·subst c2;exact hne
    ·exact wk0 a ha hf (by have hlt:a < p + 1:=hlt;omega)
   ·refine⟨I.cstep (g':=g) (S':=({ S with used:=true }:Sim).setC { S.col with r:=r,p:=p + 1,src:=p,pc:=20 }) rfl rfl I.sh (Kp.refl _ _) (λh=>ω) (λ_=>⟨r0,r1,by show 16 * r≤p + 1;omega,by show p + 1≤16 * r + 16;omega,λa ha hf hlt=>?_,.inr (Cp.start hL hf h2)⟩) (λh=>ω) (λh h'=>I.wt h h'),⟨B.ev,B.old,B.cy,B.fu,?_,B.pn⟩⟩
    ·by_cases c2:a = p
     ·right;exact⟨by show (20:Int)≠5;decide,c2⟩
     ·left;exact wk0 a ha hf (by have hlt:a < p + 1:=hlt;omega)
    ·have:=B.st;show S.col.AD.length + S.old.length + 5 * S.AJ.countP (λb=>!b) + (if (20:Int) = 2 then _ else 0)≤3000 + c;rw[if_neg δ];omega
  split
  ·obtain⟨k1,k2⟩:=key _ (.inr rfl);exact⟨_,rfl,k1,k2,h2,.inr rfl⟩
  ·obtain⟨k1,k2⟩:=key _ (.inl ⟨rfl,by assumption⟩);exact⟨_,rfl,k1,k2,h2,.inr rfl⟩
theorem PV (I:IG P S g) (B:Bd c S) (h2:S.AW = 2) (hp:S.col.pc≠5):∃S' g',S.carry = some S'∧IG P S' g'∧Bd c S'∧S'.AW = 2∧(S'.stop = true∨S'.used = true):=by
 have C:=I.c2 h2;have hwl:=I.wl;have hn1:=I.n1;rcases C.pc with h | cp
 ·exact absurd h hp
 have p:=cp.p;obtain⟨a1,a2,a3,a4,a5,a6⟩:=I.in_ cp.ls;have B1:=B.usd true;have bs:S.col.AD.length + S.old.length + 5 * S.AJ.countP (λb=>!b)≤3000 + c:=by have:=B.st;omega
 have wk:∀{y:X},Kp S.th.length (xof S g) y→∀a,y.L a→Aw y.t a→a < S.col.p→a≠S.col.src→wv y.w a≠a:=λK a ha hf hlt hne=>by
  have hL:=K.lf a ha hf;rcases C.wk a hL (K.frm.1 hf) hlt with d | d
  ·rw[K.fwd a (I.sh.lb _ hL) d];exact d
  ·exact absurd d.2 hne
 have stay:∀{S1:Sim} {g' : Gh} {col' : Col},S1.th = S.th→(S1.AE,S1.c) = (S.AE,S.c)→S1.stop = S.stop→S1.full = S.full→Bd c S1→S1.col = S.col→S1.AW = 2→Sh (xof (S1.setC col') g')→Kp S.th.length (xof S g) (xof (S1.setC col') g')→col'.r = S.col.r→col'.p = S.col.p→col'.AD = S.col.AD→col'.want = S.col.want→
   ((col'.src = S.col.src∧Cp (xof (S1.setC col') g') S.th.length col'.src col'.dst col'.size col'.i col'.word col'.pc)∨(col'.pc = 5∧wv S1.A5 S.col.src≠S.col.src))→IG P (S1.setC col') g'∧Bd c (S1.setC col'):=λ{S1 g' col'} e1 e2 e3 e4 B1 e5 e6 H K q1 q2 q3 q4 hc=>by
  refine⟨I.cstep (g':=g') (S':=S1.setC col') e1 e2 H K (λh=>ω) (λ_=>?_) (λh=>ω) (λh h'=>?_),⟨B1.ev,B1.old,B1.cy,B1.fu,?_,B1.pn⟩⟩
  ·refine⟨by show 1≤col'.r;rw[q1];exact C.r0,by show col'.r≤_;rw[q1,K.tl];exact C.r1,by show 16 * col'.r≤col'.p;rw[q1,q2];exact C.p0,by show col'.p≤16 * col'.r + 16;rw[q1,q2];exact C.p1,λa ha hf hlt=>?_,?_⟩
   ·have hlt:a < col'.p:=hlt;rw[q2] at hlt;by_cases c2:a = S.col.src
    ·rcases hc with ⟨h1,h3⟩ | ⟨h1,h3⟩
     ·right;have:=h3.p;exact⟨by show col'.pc≠5;omega,by show a = col'.src;rw[h1,c2]⟩
     ·left;subst c2;exact h3
    ·left;exact wk K a ha hf hlt c2
   ·rcases hc with ⟨h1,h3⟩ | ⟨h1,h3⟩
    ·exact .inr h3
    ·exact .inl h1
  ·show Wt (xof (S1.setC col') g') col'.want;rw[q4];exact (I.wt (by rw[← e3];exact h) (by rw[← e4];exact h')).stable I.sh K
  ·have hpc:col'.pc≠2:=by
    rcases hc with ⟨h1,h3⟩ | ⟨h1,h3⟩
    ·have:=h3.p;omega
    ·omega
   have:=B1.st;show col'.AD.length + S1.old.length + 5 * S1.AJ.countP (λb=>!b) + (if col'.pc = 2 then _ else 0)≤3000 + c;rw[if_neg hpc,q3,← e5];omega
 unfold Sim.carry;by_cases c20:S.col.pc = 20
 ·simp only[Tm];rw[if_pos c20,Av ω ω];simp only[z_o];rw[Bl ω ω];simp only[z_o];have es:AC (AN (wv S.A5 (S.col.src + 1))).1 = sz S.A5 S.col.src:=rfl;rw[es];rcases E0 (o:=(S.th.length:Int)) (size:=sz S.A5 S.col.src) I.sh.g.ok ω ω ω ω with h | ⟨t',d,h,R⟩
  ·have h' : As S.A0 S.th.length (sz S.A5 S.col.src) = none:=h;simp only[h'];refine⟨_,g,rfl,I.cstep (g':=g) (S':={ S with used:=true,full:=true,stop:=true }) rfl rfl I.sh (Kp.refl _ _) (λh=>ω) (λ_=>C) (λh=>ω) (λ_ h=>by cases h),⟨B.ev,B.old,B.cy,B.fu,B.st,B.pn⟩,h2,.inl rfl⟩
  ·have h' : As S.A0 S.th.length (sz S.A5 S.col.src) = some (t',d):=h;simp only[h'];obtain⟨H1,K,C'⟩:=Ss (word:=S.col.word) I.sh cp.ls cp.fs cp.p2 R;obtain⟨k1,k2⟩:=stay (S1:={ S with used:=true,A0:=t' }) (g':=g) (col':={ S.col with size:=sz S.A5 S.col.src,dst:=d,i:=1,pc:=21 }) rfl rfl rfl rfl ⟨B.ev,B.old,B.cy,B.fu,B.st,B.pn⟩ rfl h2 H1 K rfl rfl rfl rfl (.inl ⟨rfl,C'⟩);exact⟨_,g,rfl,k1,k2,h2,.inr rfl⟩
 simp only[Tm];rw[if_neg c20];have j0:=cp.i0 ω;have hs:=cp.sz ω;have O:=cp.ow ω;have ow:=O.wl I.sh.g;have d0:=O.d0;simp only at hs ow;by_cases c21:S.col.pc = 21
 ·rw[if_pos c21];have j1:=cp.i1 (.inl c21);rw[Av ω ω];simp only[z_o];rw[Bl ω ω];simp only[z_o];rw[c21] at cp;obtain⟨k1,k2⟩:=stay (S1:={ S with used:=true }) (g':=g) (col':={ S.col with word:=wv S.A5 (S.col.src + S.col.i),pc:=22 }) rfl rfl rfl rfl B1 rfl h2 I.sh (Kp.refl _ _) rfl rfl rfl rfl (.inl ⟨rfl,TE cp⟩);exact⟨_,g,rfl,k1,k2,h2,.inr rfl⟩
 rw[if_neg c21];by_cases c22:S.col.pc = 22
 ·rw[if_pos c22];have j1:=cp.i1 (.inr c22);rw[Av ω ω];simp only[z_o];rw[CM ω ω];simp only[z_o];rw[Av ω ω];simp only[z_o];rw[c22] at cp;obtain⟨H1,K,C'⟩:=T4 I.sh cp;obtain⟨k1,k2⟩:=stay (S1:={ S with used:=true,A5:=AM S.A5 (S.col.dst + S.col.i) S.col.word }) (g':=g) (col':={ S.col with i:=S.col.i + 1,pc:=if S.col.i + 1 = S.col.size then 23 else 21 }) rfl rfl rfl rfl ⟨B.ev,B.old,B.cy,B.fu,B.st,B.pn⟩ rfl h2 H1 K rfl rfl rfl rfl (.inl ⟨rfl,C'⟩);exact⟨_,g,rfl,k1,k2,h2,.inr rfl⟩
 rw[if_neg c22];by_cases c23:S.col.pc = 23
 ·rw[if_pos c23];rw[CM ω ω];simp only[z_o];rw[c23] at cp;obtain⟨H1,K,C'⟩:=Sx I.sh cp;obtain⟨k1,k2⟩:=stay (S1:={ S with used:=true,A5:=AM S.A5 S.col.dst S.col.dst }) (g':=g) (col':={ S.col with pc:=24 }) rfl rfl rfl rfl ⟨B.ev,B.old,B.cy,B.fu,B.st,B.pn⟩ rfl h2 H1 K rfl rfl rfl rfl (.inl ⟨rfl,C'⟩);exact⟨_,g,rfl,k1,k2,h2,.inr rfl⟩
 rw[if_neg c23,if_pos ω];have c24:S.col.pc = 24:=ω
 rw[c24] at cp;rw[Bl ω ω];simp only[z_o];by_cases hw:wv S.A5 S.col.src = S.col.src
 ·rw[if_pos hw,CM (S:={ S with used:=true }) ω (by show _ < (S.A5.length:Int);omega)];simp only[z_o];obtain⟨H1,K,nf,_,hne⟩:=TA I.sh cp hw;have inn:S.col.dst / 16 < S.A0.length:=O.inn;rw[PI (S:={ S with used:=true,A5:=AM S.A5 S.col.src S.col.dst }) ω inn ω ω];simp only[z_o];obtain⟨k1,k2⟩:=stay (S1:={ S with used:=true,A5:=AM S.A5 S.col.src S.col.dst,A0:=AM S.A0 (S.col.dst / 16) { rv S.A0 (S.col.dst / 16) with top:=S.col.dst + S.col.size } }) (g':={ g with B:=λa=>g.B a∨a = S.col.dst,L:=λa=>g.L a∨a = S.col.dst }) (col':={ S.col with pc:=5 }) rfl rfl rfl rfl ⟨B.ev,B.old,B.cy,B.fu,B.st,B.pn⟩ rfl h2 H1 K rfl rfl rfl rfl (.inr ⟨rfl,by
   show wv (AM S.A5 S.col.src S.col.dst) S.col.src≠S.col.src
   rw[Co ω ω ω,if_pos rfl];exact hne⟩)
  exact⟨_,_,rfl,k1,k2,h2,.inr rfl⟩
 ·rw[if_neg hw];simp only[z_o];obtain⟨k1,k2⟩:=stay (S1:={ S with used:=true }) (g':=g) (col':={ S.col with pc:=5 }) rfl rfl rfl rfl B1 rfl h2 I.sh (Kp.refl _ _) rfl rfl rfl rfl (.inr ⟨rfl,hw⟩);exact⟨_,g,rfl,k1,k2,h2,.inr rfl⟩
end
end Sm
end
section
namespace Sm
variable {P:List (List Op)}
theorem Jy {S:Sim} (T:TOk S.A0):∀(n:Nat) (r p:Int),1≤r→r≤S.A0.length→16 * r≤p→S.A0.length - r < n→
  ∃r' p',S.renewTo n r p = some (r',p')∧1≤r'∧r'≤S.A0.length∧16 * r'≤p'∧((r' = r∧p' = p)∨p' = 16 * r')∧(r' < S.A0.length→(rv S.A0 r').kind≠4∧p' < 16 * r' + (rv S.A0 r').AH)∧(∀a:Int,p≤a→a < 16 * (a / 16) + (rv S.A0 (a / 16)).AH→(rv S.A0 (a / 16)).kind≠4→p'≤a):=by
 intro n;induction n with
 | zero=>intro r p _ _ _ h;omega
 | succ n ih=>
  intro r p r0 r1 p0 hn;have n1:=T.n1;unfold Sim.renewTo;by_cases c:r < S.A0.length
  ·have R:=T.row r r0 c;have R0:=R.t0;have R1:=R.t1;have R2:=R.l0;have R3:=R.l1;rw[if_pos c,CJ ω c];simp only[Tm,z_o];rw[CT ω ω,Av ω ω];simp only[z_o];have skip:((rv S.A0 r).kind = 4∨16 * r + (rv S.A0 r).AH≤p)→∃r' p',S.renewTo n (r + 1) ((r + 1) * 16) = some (r',p')∧1≤r'∧r'≤S.A0.length∧16 * r'≤p'∧((r' = r∧p' = p)∨p' = 16 * r')∧(r' < S.A0.length→(rv S.A0 r').kind≠4∧p' < 16 * r' + (rv S.A0 r').AH)∧(∀a:Int,p≤a→a < 16 * (a / 16) + (rv S.A0 (a / 16)).AH→(rv S.A0 (a / 16)).kind≠4→p'≤a):=λhs=>by
    obtain⟨r',p',e,g1,g2,g3,g4,g5,g6⟩:=ih (r + 1) ((r + 1) * 16) ω ω ω ω;refine⟨r',p',e,g1,g2,g3,?_,g5,λa h1 h2 h3=>g6 a ?_ h2 h3⟩
    ·rcases g4 with ⟨h1,h2⟩ | h
     ·right;omega
     ·exact .inr h
    ·by_cases d:a / 16 = r
     ·rw[d] at h2 h3;rcases hs with h | h
      ·exact absurd h h3
      ·omega
     ·omega
   by_cases k4:(rv S.A0 r).kind = 4
   ·rw[if_pos k4];simp only[z_o,if_true];exact skip (.inl k4)
   ·rw[if_neg k4];simp only[z_o,z_d];by_cases hl:16 * r + (rv S.A0 r).AH≤p
    ·rw[if_pos hl];exact skip (.inr hl)
    ·rw[if_neg hl];exact⟨r,p,rfl,r0,r1,p0,.inl ⟨rfl,rfl⟩,λ_=>⟨k4,ω⟩,λ_ h _ _=>h⟩
  ·rw[if_neg c];exact⟨r,p,rfl,r0,r1,p0,.inl ⟨rfl,rfl⟩,λh=>absurd h c,λ_ h _ _=>h⟩
def IL (x:Col):Col:={ x with i:=x.i + 1,pc:=if x.i + 1 = x.sh.refs then 6 else 7 }
theorem Ja {x:X} {c:Col} (C:C3 x c) (h7:7≤c.pc) (hn:¬ Aw x.t (wv x.w (c.f + 2 + c.i))):C3 x (IL c):=by
 obtain⟨f1,f2,f3,f4,f5,f6⟩:=C.f h7;have hpc:((IL c).pc = 6∧c.i + 1 = c.sh.refs)∨((IL c).pc = 7∧c.i + 1≠c.sh.refs):=by
  show ((if c.i + 1 = c.sh.refs then (6:Int) else 7) = 6∧_)∨((if c.i + 1 = c.sh.refs then (6:Int) else 7) = 7∧_);by_cases h:c.i + 1 = c.sh.refs
  ·rw[if_pos h];exact .inl ⟨rfl,h⟩
  ·rw[if_neg h];exact .inr ⟨rfl,h⟩
 refine⟨ω,C.r0,C.r1,C.p0,C.at_,λh=>?_,λh=>ω,λh=>ω,λh=>ω,λa j ha hna j0 j1 hf=>?_⟩
 ·refine⟨f1,f2,f3,by show 0≤c.i + 1;omega,by show c.i + 1 < c.sh.refs;omega,f6⟩
 ·rcases C.cl a j ha hna j0 j1 hf with h | ⟨h1,h2,h3⟩
  ·exact .inl h
  ·right;subst h2;have:j≠c.i:=λh=>by subst h;exact hn hf
   rw[f3] at hpc f5;refine⟨?_,rfl,by show c.i + 1≤j;omega⟩;omega
section
variable {c:Nat} {S:Sim} {g:Gh}
theorem Jx {x:Col} (h0:0≤x.i) (h1:x.i≤100):Eh x = some (IL x):=by
 unfold Eh;simp only[Tm];rw[Av ω ω];rfl
theorem OU (I:IG P S g) (B:Bd c S) (h3:S.AW = 3):∃S',S.renew = some S'∧IG P S' g∧Bd c S'∧S'.AW = 3∧(S'.stop = true∨S'.used = true):=by
 have C:=I.c3 h3;have hwl:=I.wl;have cpc:=C.pc;have hl:(S.A5.length:Int) = 16 * S.A0.length:=I.sh.g.len;have hml:S.AJ.length = S.A5.length:=I.sh.ml;have cr1:S.col.r≤S.A0.length:=C.r1;have B1:=B.usd true;have bs:S.col.AD.length + S.old.length + 5 * S.AJ.countP (λb=>!b)≤3000 + c:=by have:=B.st;omega
 have fin:∀{S1:Sim} {col' : Col},S1.th = S.th→(S1.AE,S1.c) = (S.AE,S.c)→S1.stop = S.stop→S1.full = S.full→Bd c S1→S1.col = S.col→Sh (xof (S1.setC col') g)→Kp S.th.length (xof S g) (xof (S1.setC col') g)→col'.AD = S.col.AD→col'.want = S.col.want→C3 (xof (S1.setC col') g) col'→IG P (S1.setC col') g∧Bd c (S1.setC col'):=λ{S1 col'} e1 e2 e3 e4 B1 e5 H K q3 q4 hc=>by
  refine⟨I.cstep (g':=g) (S':=S1.setC col') e1 e2 H K (λh=>ω) (λh=>ω) (λ_=>hc) (λh h'=>?_),⟨B1.ev,B1.old,B1.cy,B1.fu,?_,B1.pn⟩⟩
  ·show Wt (xof (S1.setC col') g) col'.want;rw[q4];exact (I.wt (by rw[← e3];exact h) (by rw[← e4];exact h')).stable I.sh K
  ·have:=B1.st;have hp:=hc.pc;show col'.AD.length + S1.old.length + 5 * S1.AJ.countP (λb=>!b) + (if col'.pc = 2 then _ else 0)≤3000 + c;rw[if_neg ω,q3,← e5];omega
 unfold Sim.renew;by_cases c6:S.col.pc = 6
 ·simp only[Tm];rw[if_pos c6];obtain⟨r,p,e,r0,r1,p0,hrp,hat,hno⟩:=Jy I.sh.g.ok (S.A0.length + 2) S.col.r S.col.p C.r0 cr1 C.p0 (by have:=C.r0;omega);rw[e];simp only[z_o];have cl0:∀a j,g.L a→¬ Aw S.A0 a→0≤j→j < (shp S.A5 a).refs→Aw S.A0 (wv S.A5 (a + 2 + j))→p≤a∧a < 16 * (a / 16) + (rv S.A0 (a / 16)).AH:=λa j ha hn j0 j1 hf=>by
   rcases C.cl a j ha hn j0 j1 hf with ⟨h1,h2⟩ | ⟨h1,_⟩
   ·have ha0:=I.in_ ha;exact⟨hno a h1 h2 λh=>hn ⟨ω,h⟩,h2⟩
   ·omega
  by_cases d:r = S.A0.length
  ·rw[if_pos d];refine⟨_,rfl,?_,⟨B.ev,B.old,B.cy,B.fu,?_,B.pn⟩,h3,.inl rfl⟩
   ·refine I.cstep (g':=g) (S':={ S with stop:=true,col:={ S.col with r:=r,p:=p,want:=0 } }) rfl rfl I.sh (Kp.refl _ _) (λh=>ω) (λh=>ω) (λ_=>⟨C.pc,r0,by show r≤S.A0.length;omega,p0,λh=>by have h:r < S.A0.length:=h;omega,λh=>by have h:7≤S.col.pc:=h;omega,λh=>by have h:8≤S.col.pc:=h;omega,λh=>by have h:S.col.pc = 9:=h;omega,λh=>by have h:8≤S.col.pc:=h;omega,λa j ha hn j0 j1 hf=>.inl (cl0 a j ha hn j0 j1 hf)⟩) (λ_ _=>.inr (.inr (.inr ⟨h3,rfl,λa j ha hn j0 j1 hf=>?_⟩)));have h1:=cl0 a j ha hn j0 j1 hf;have h2:=I.in_ ha;omega
   ·exact B.st
  ·rw[if_neg d];obtain⟨k4,pl⟩:=hat ω;have R:=I.sh.g.ok.row r r0 (by simp only;omega);have R1:=R.t1;have R3:=R.l1;simp only at R1 R3;have er:p / 16 = r:=ω
   have hB:g.B p:=by
    rcases hrp with ⟨h1,h2⟩ | h
    ·subst h1 h2;exact C.at_ (by simp only;omega) (by unfold lim;exact pl)
    ·rcases I.sh.g.bs r r0 (by simp only;omega) with h2 | h2
     ·simp only at h2;omega
     ·rw[h];exact h2
   obtain⟨a1,a2,a3,a4,a5,a6,a7,a8⟩:=I.sh.g.inn hB;simp only at a3 a4 a5 a6 a7 a8;have sb:=Dp S.A5 p;have hnF:¬ Aw S.A0 p:=λh=>k4 (by have:=h.2;rw[er] at this;exact this)
   rw[Av ω ω];simp only[z_o];rw[Bl ω ω];simp only[z_o];have es:(AN (wv S.A5 (p + 1))).1 = shp S.A5 p:=rfl;have esz:AC (shp S.A5 p) = sz S.A5 p:=rfl;rw[es,esz,Av ω ω];simp only[z_o];rw[CJ ω ω];simp only[z_o];have at' : r < S.A0.length→p + sz S.A5 p < 16 * r + (rv S.A0 r).AH→g.B (p + sz S.A5 p):=λ_ hlt=>by
    rcases I.sh.g.nx p hB with h | h
    ·simp only at h;rw[er] at h;omega
    ·exact h
   have nxt:∀a,g.L a→p≤a→a≠p→p + sz S.A5 p≤a:=λa ha h1 h2=>I.sh.g.dj p a hB (I.sh.lb a ha) ω
   have out:∀q:Int,(q = 7∧0 < (shp S.A5 p).refs∧g.L p)∨(q = 6∧(∀j,g.L p→0≤j→j < (shp S.A5 p).refs→False))→∃S',some (({ S with used:=true }:Sim).setC { S.col with r:=r,f:=p,sh:=shp S.A5 p,p:=p + sz S.A5 p,i:=0,pc:=q }) = some S'∧IG P S' g∧Bd c S'∧S'.AW = 3∧(S'.stop = true∨S'.used = true):=λq hq=>by
    obtain⟨k1,k2⟩:=fin (S1:={ S with used:=true }) (col':={ S.col with r:=r,f:=p,sh:=shp S.A5 p,p:=p + sz S.A5 p,i:=0,pc:=q }) rfl rfl rfl rfl B1 rfl I.sh (Kp.refl _ _) rfl rfl ⟨by show 6≤q∧q≤9;omega,r0,r1,by show 16 * r≤p + sz S.A5 p;omega,at',λh=>by
      rcases hq with ⟨_,h1,h2⟩ | ⟨h1,_⟩
      ·exact⟨h2,hnF,rfl,UI 0,h1,by show p < p + sz S.A5 p;omega⟩
      ·have h:7≤q:=h;omega,λh=>by have h:8≤q:=h;omega,λh=>by have h:q = 9:=h;omega,λh=>by have h:8≤q:=h;omega,λa j ha hn j0 j1 hf=>by
      obtain⟨h1,h2⟩:=cl0 a j ha hn j0 j1 hf
      by_cases d2:a = p
      ·rcases hq with ⟨h3,_⟩ | ⟨_,h3⟩
       ·exact .inr ⟨by show 7≤q;omega,d2,j0⟩
       ·subst d2;exact (h3 j ha j0 j1).elim
      ·exact .inl ⟨nxt a ha h1 d2,h2⟩⟩
    exact⟨_,rfl,k1,k2,h3,.inr rfl⟩
   by_cases hr:0 < (shp S.A5 p).refs
   ·rw[if_pos hr];by_cases ht:(rv S.A0 r).Al≤p
    ·rw[if_pos ht];simp only[z_o,if_true];exact out 7 (.inl ⟨rfl,hr,I.sh.nb (by show 1≤S.AW;omega) p hB (by show (rv S.A0 (p / 16)).Al≤p;rw[er];exact ht)⟩)
    ·rw[if_neg ht,M9 ω ω];simp only[z_o];cases hm:mv S.AJ p with
     | true=>
      simp only[if_true];exact out 7 (.inl ⟨rfl,hr,(I.sh.mt p ω hm).1⟩)
     | false=>
      simp only[U1,if_false];have:=out 6 (.inr ⟨rfl,λj hL _ _=>by
       have:mv S.AJ p = true:=I.sh.lm (by show 2≤S.AW;omega) p hL (by show p < (rv S.A0 (p / 16)).Al;rw[er];omega)
       rw[hm] at this;cases this⟩)
      rw[← c6] at this;exact this
   ·rw[if_neg hr];simp only[z_o,U1,if_false];have:=out 6 (.inr ⟨rfl,λj _ j0 j1=>ω⟩);rw[← c6] at this;exact this
 simp only[Tm];rw[if_neg c6];obtain⟨f1,f2,f3,f4,f5,f6⟩:=C.f ω;obtain⟨a1,a2,a3,a4,a5,a6⟩:=I.in_ f1;have sb:=Dp S.A5 S.col.f;have f3:S.col.sh = shp S.A5 S.col.f:=f3;have f5' : S.col.i < (shp S.A5 S.col.f).refs:=by rw[← f3];exact f5
 have hrf:=I.sh.rf S.col.f S.col.i f1 f4 f5';by_cases c7:S.col.pc = 7
 ·rw[if_pos c7,Av ω ω];simp only[z_o];rw[Av ω ω];simp only[z_o];rw[Bl ω ω];simp only[z_o];obtain⟨d,hd,hdf⟩:=(I.usd true).frm hrf;rw[hd];simp only[z_o];cases d with
  | true=>
   have hf:Aw S.A0 (wv S.A5 (S.col.f + 2 + S.col.i)):=hdf.1 rfl;rw[if_pos rfl];obtain⟨k1,k2⟩:=fin (S1:={ S with used:=true }) (col':={ S.col with v:=wv S.A5 (S.col.f + 2 + S.col.i),pc:=8 }) rfl rfl rfl rfl B1 rfl I.sh (Kp.refl _ _) rfl rfl ⟨⟨by show (6:Int)≤8;decide,by show (8:Int)≤9;decide⟩,C.r0,C.r1,C.p0,C.at_,λ_=>⟨f1,f2,f3,f4,f5,f6⟩,λ_=>⟨hrf (Mt I.sh.g hf),hf⟩,λh=>absurd (show (8:Int) = 9 from h) δ,λ_ _=>rfl,λa j ha hn j0 j1 hff=>by
    rcases C.cl a j ha hn j0 j1 hff with h | ⟨_,h2,h3⟩
    ·exact .inl h
    ·exact .inr ⟨by show (7:Int)≤8;decide,h2,h3⟩⟩
   exact⟨_,rfl,k1,k2,h3,.inr rfl⟩
  | false=>
   rw[if_neg δ,Jx (by exact f4) (by show S.col.i≤100;omega)];simp only[z_o];have C' : C3 (xof S g) { S.col with v:=wv S.A5 (S.col.f + 2 + S.col.i) }:=⟨C.pc,C.r0,C.r1,C.p0,C.at_,C.f,λh=>by have h:8≤S.col.pc:=h;omega,λh=>by have h:S.col.pc = 9:=h;omega,λh=>by have h:8≤S.col.pc:=h;omega,C.cl⟩;obtain⟨k1,k2⟩:=fin (S1:={ S with used:=true }) (col':=IL { S.col with v:=wv S.A5 (S.col.f + 2 + S.col.i) }) rfl rfl rfl rfl B1 rfl I.sh (Kp.refl _ _) rfl rfl (Ja C' (by show 7≤S.col.pc;omega) λh=>by
    have:=hdf.2 h;cases this)
   exact⟨_,rfl,k1,k2,h3,.inr rfl⟩
 rw[if_neg c7];obtain⟨v1,v2⟩:=C.v ω;obtain⟨b1,b2,b3,b4,b5,b6⟩:=I.in_ v1;have hne:wv S.A5 S.col.v≠S.col.v:=I.sh.af h3 _ v1 v2;by_cases c8:S.col.pc = 8
 ·rw[if_pos c8,Bl ω ω];simp only[z_o];rw[if_neg hne];obtain⟨k1,k2⟩:=fin (S1:={ S with used:=true }) (col':={ S.col with word:=wv S.A5 S.col.v,pc:=9 }) rfl rfl rfl rfl B1 rfl I.sh (Kp.refl _ _) rfl rfl ⟨⟨by show (6:Int)≤9;decide,by show (9:Int)≤9;decide⟩,C.r0,C.r1,C.p0,C.at_,λ_=>⟨f1,f2,f3,f4,f5,f6⟩,λ_=>⟨v1,v2⟩,λ_=>rfl,λ_=>C.u ω,λa j ha hn j0 j1 hff=>by
    rcases C.cl a j ha hn j0 j1 hff with h | ⟨_,h2,h3⟩
    ·exact .inl h
    ·exact .inr ⟨by show (7:Int)≤9;decide,h2,h3⟩⟩
  exact⟨_,rfl,k1,k2,h3,.inr rfl⟩
 rw[if_neg c8,if_pos ω,Av ω ω];have c9:S.col.pc = 9:=ω
 simp only[z_o];rw[Av ω ω];simp only[z_o];rw[Bl ω ω];simp only[z_o];have hw:S.col.word = wv S.A5 S.col.v:=C.w c9;by_cases hv:wv S.A5 (S.col.f + 2 + S.col.i) = S.col.v
 ·rw[if_pos hv,CM (S:={ S with used:=true }) ω (by show _ < (S.A5.length:Int);omega)];simp only[z_o];rw[Jx (by exact f4) (by show S.col.i≤100;omega)];simp only[z_o];obtain⟨w1,w2,_⟩:g.L (wv S.A5 S.col.v)∧¬ Aw S.A0 (wv S.A5 S.col.v)∧_:=I.sh.fw _ (I.sh.lb _ v1) v2 hne;obtain⟨H1,K⟩:=ref (o:=S.th.length) (v:=S.col.word) I.sh f1 f2 f4 f5' (λ_=>by rw[hw];exact w1) (λh=>absurd h (by show S.AW≠1;omega)) (λ_=>by rw[hw];exact w2);have C':=C.stable I.sh K (λ_ _=>rfl) h3;obtain⟨k1,k2⟩:=fin (S1:={ S with used:=true,A5:=AM S.A5 (S.col.f + 2 + S.col.i) S.col.word }) (col':=IL S.col) rfl rfl rfl rfl ⟨B.ev,B.old,B.cy,B.fu,B.st,B.pn⟩ rfl H1 K rfl rfl (Ja C' ω λh=>by
   have h:Aw S.A0 (wv (AM S.A5 (S.col.f + 2 + S.col.i) S.col.word) (S.col.f + 2 + S.col.i)):=h
   rw[Co ω ω ω,if_pos rfl,hw] at h
   exact w2 h)
  exact⟨_,rfl,k1,k2,h3,.inr rfl⟩
 ·rw[if_neg hv];simp only[z_o];rw[Jx (by exact f4) (by show S.col.i≤100;omega)];simp only[z_o];obtain⟨k1,k2⟩:=fin (S1:={ S with used:=true }) (col':=IL S.col) rfl rfl rfl rfl B1 rfl I.sh (Kp.refl _ _) rfl rfl (Ja C ω λh=>hv (C.u ω h));exact⟨_,rfl,k1,k2,h3,.inr rfl⟩
theorem Ox (hc:c < 900000):∀(n:Nat) (S:Sim) (g:Gh),IG P S g→Bd c S→1≤S.AW→0 < n→(S.used = true∨S.stop = true∨(S.AW = 1∧mu S + 1 < n)∨(2≤S.AW∧1 < n))→∃S' g',Sim.cloop n S = some S'∧IG P S' g'∧Bd c S':=by
 intro n;induction n with
 | zero=>intro S g _ _ _ h;omega
 | succ n ih=>
  intro S g I B h1 _ hr;unfold Sim.cloop;by_cases hs:S.used = true∨S.stop = true
  ·rw[if_neg (by simp;intro h;rcases hs with h2 | h2;simp[h2] at h;exact h2)];exact⟨S,g,rfl,I,B⟩
  ·have hu:S.used = false:=by cases h:S.used;rfl;exact absurd (.inl h) hs
   have hst:S.stop = false:=by cases h:S.stop;rfl;exact absurd (.inr h) hs
   rw[hu,hst];simp only[VF,Bool.and_self,if_true,Tm];have hp:S.AW≤3:=I.sh.ph.2;have hr:(S.AW = 1∧mu S + 1 < n + 1)∨(2≤S.AW∧1 < n + 1):=by
    rcases hr with h | h | h
    ·exact absurd (.inl h) hs
    ·exact absurd (.inr h) hs
    ·exact h
   unfold Sim.work;by_cases p1:S.AW = 1
   ·have C:=I.c1 p1;by_cases c1:S.col.pc = 1
    ·rw[if_pos ⟨p1,c1⟩];obtain⟨S',e,I',B',p',_,_,h⟩:=Mz hc I B p1 c1;rw[e];simp only[z_o];refine ih S' g I' B' ω ω ?_;rcases h with h | h
     ·exact .inr (.inl h.1)
     ·exact .inr (.inr (.inl ⟨p',ω⟩))
    ·rw[if_neg (λh=>c1 h.2),if_pos p1];have c2:S.col.pc = 2:=by rcases C.pc with h | h;exact absurd h c1;exact h
     obtain⟨S',e,I',B',p',_,_,hus,_⟩:=Mr hc I B p1 c2;rw[e];simp only[z_o];exact ih S' g I' B' ω ω (.inl hus)
   ·rw[if_neg (λh=>p1 h.1),if_neg p1];have fin:∀{S' : Sim} {g'},IG P S' g'→Bd c S'→(S'.AW = 2∨S'.AW = 3)→(S'.stop = true∨S'.used = true)→∃S2 g2,Sim.cloop n S' = some S2∧IG P S2 g2∧Bd c S2:=λ{S' g'} I' B' p' h=>ih S' g' I' B' ω ω (by
     rcases h with h | h
     ·exact .inr (.inl h)
     ·exact .inl h)
    by_cases p2:S.AW = 2
    ·by_cases c5:S.col.pc = 5
     ·rw[if_pos ⟨p2,c5⟩];obtain⟨S',e,I',B',p',h⟩:=QS I B p2 c5;rw[e];simp only[z_o];exact fin I' B' (.inl p') h
     ·rw[if_neg (λh=>c5 h.2),if_pos p2];obtain⟨S',g',e,I',B',p',h⟩:=PV I B p2 c5;rw[e];simp only[z_o];exact fin I' B' (.inl p') h
    ·rw[if_neg (λh=>p2 h.1),if_neg p2];obtain⟨S',e,I',B',p',h⟩:=OU I B ω;rw[e];simp only[z_o];exact fin I' B' (.inr p') h
theorem Ou (hc:c < 900000):∀(n:Nat) (S:Sim) (g:Gh),IG P S g→Bd c S→S.AW = 1→mu S < n→∃S',Sim.drain n S = some S'∧IG P S' g∧Bd c S'∧S'.AW = 1∧(S'.AI = S.AI∧S'.th = S.th)∧S'.full = S.full∧S'.stop = S.stop∧S'.col.want = S.col.want∧S'.col.AD = []∧S'.old = []∧S'.col.pc = 1:=by
 intro n;induction n with
 | zero=>intro S g _ _ _ h;omega
 | succ n ih=>
  intro S g I B h1 hn;have hz:=I.szok rfl B hc;have C:=I.c1 h1;unfold Sim.drain;rw[hz,if_neg δ];by_cases hs:0 < S.col.AD.length∨0 < S.old.length∨S.col.pc = 2
  ·rw[if_pos hs];simp only[Tm];by_cases c2:S.col.pc = 2
   ·rw[if_pos c2];obtain⟨S',e,I',B',p',q1,q2,_,hm,q3,q4⟩:=Mr hc I B h1 c2;rw[e];simp only[z_o];obtain⟨S2,e2,g1,g2,g3,g4,g5,g6,g7,g8⟩:=ih S' g I' B' p' ω;exact⟨S2,e2,g1,g2,g3,⟨by rw[g4.1,q1.1],by rw[g4.2,q1.2]⟩,by rw[g5,q2],by rw[g6,q3],by rw[g7,q4],g8⟩
   ·rw[if_neg c2];have c1:S.col.pc = 1:=by rcases C.pc with h | h;exact h;exact absurd h c2
    obtain⟨S',e,I',B',p',q1,q2,h⟩:=Mz hc I B h1 c1;rw[e];simp only[z_o];rcases h with ⟨_,h2,h3⟩ | ⟨hm,q3,q4⟩
    ·exfalso;rw[h2,h3] at hs;simp at hs;exact c2 hs
    ·obtain⟨S2,e2,g1,g2,g3,g4,g5,g6,g7,g8⟩:=ih S' g I' B' p' ω;exact⟨S2,e2,g1,g2,g3,⟨by rw[g4.1,q1.1],by rw[g4.2,q1.2]⟩,by rw[g5,q2],by rw[g6,q3],by rw[g7,q4],g8⟩
  ·rw[if_neg hs];have hs':=hs;rw[not_or,not_or] at hs';refine⟨S,rfl,I,B,h1,⟨rfl,rfl⟩,rfl,rfl,rfl,?_,?_,?_⟩
   ·exact UU.1 ω
   ·exact UU.1 ω
   ·rcases C.pc with h | h
    ·exact h
    ·exact absurd h hs'.2.2
end
end Sm
end
section
namespace Sm
variable {P:List (List Op)}
theorem Geo.tab {w:List Int} {t t' : List Rg} {B B' : Int→Prop} (G:Geo w t B) (T:TOk t') (hl:t'.length = t.length) (hB:∀a,B' a→B a)
  (h:∀r:Int,1≤r→r < t.length→((rv t' r).top = (rv t r).top∧∀a,B a→a / 16 = r→B' a)∨((rv t' r).top = 16 * r∧∀a,B' a→a / 16≠r)):Geo w t' B':=by
 have kept:∀a,B' a→(rv t' (a / 16)).top = (rv t (a / 16)).top∧∀b,B b→b / 16 = a / 16→B' b:=λa ha=>by
  have g:=G.inn (hB a ha);rcases h (a / 16) g.2.1 g.2.2.1 with h1 | ⟨_,h2⟩
  ·exact h1
  ·exact absurd rfl (h2 a ha)
 refine⟨by rw[hl];exact G.len,T,λa ha=>?_,λa ha=>?_,λr r0 r1=>?_,λa b ha hb=>G.dj a b (hB a ha) (hB b hb)⟩
 ·rw[(kept a ha).1];exact G.at_ a (hB a ha)
 ·rw[(kept a ha).1];have g:=G.inn (hB a ha);rcases G.nx a (hB a ha) with h1 | h1
  ·exact .inl h1
  ·by_cases c:(a + sz w a) / 16 = a / 16
   ·exact .inr ((kept a ha).2 _ h1 c)
   ·left;omega
 ·rw[hl] at r1;rcases h r r0 r1 with ⟨h1,h2⟩ | ⟨h1,_⟩
  ·rw[h1];rcases G.bs r r0 r1 with h3 | h3
   ·exact .inl h3
   ·exact .inr (h2 _ h3 ω)
  ·exact .inl h1
theorem Bg {f:Int→Rg→Rg} {t:List Rg}:(rows f t).length = t.length:=by simp[rows]
theorem DQ {f:Int→Rg→Rg} {t:List Rg} {r:Int} (h0:0≤r) (h1:r < t.length):rv (rows f t) r = if r = 0 then rv t r else f r (rv t r):=by
 obtain⟨k,rfl⟩:∃k:Nat,r = k:=⟨r.toNat,ω⟩;rw[rv,Ek (by rw[Bg];omega),rv,Ek ω];simp only[rows,VE];by_cases c:k = 0
 ·rw[if_pos c,if_pos ω]
 ·rw[if_neg c,if_neg ω]
theorem KK {n:Nat} {a:Int}:mv (List.replicate n false) a = false:=by
 unfold mv gv;rw[Ty,List.getElem?_replicate];split<;>rfl
open Classical in
theorem P3 {x:X} (h:∀a,0≤a→mv x.m a = false) (r:Int):cnt x r = 0:=by
 unfold cnt;rw[List.countP_eq_zero];intro k _ hk;obtain⟨a,a0,ha,_⟩:=z_f hk;rw[h a a0] at ha;cases ha
theorem TOk.rows {f:Int→Rg→Rg} {t:List Rg} (T:TOk t) (h:∀r x,Is r x→Is r (f r x)∧(f r x).AR = x.AR):TOk (rows f t):=by
 have e:∀r:Int,1≤r→r < t.length→rv (Sm.rows f t) r = f r (rv t r):=λr r0 r1=>by rw[DQ ω r1,if_neg ω]
 refine⟨by rw[Bg];exact T.n0,by rw[Bg];exact T.n1,?_,λr r0 r1=>?_,λr s r0 r1 s0 s1 ho he=>?_⟩
 ·have:=T.n0;rw[DQ ω ω,if_pos rfl];exact T.e
 ·rw[Bg] at r1;rw[e r r0 r1];exact (h r _ (T.row r r0 r1)).1
 ·rw[Bg] at r1 s1;rw[e r r0 r1] at ho he;rw[e s s0 s1] at he;rw[(h r _ (T.row r r0 r1)).2] at ho he;rw[(h s _ (T.row s s0 s1)).2] at he;exact T.own r s r0 r1 s0 s1 ho he
structure Ha (L:Int→Prop) (t:Thr):Prop where
 pc:t.pc = 0
 g:t.g = 0
 k:t.k = 0
 nx:0≤t.next
 rl:t.AA.length≤8
 rt:∀a∈t.AA,a≠0→L a
theorem Ha.ti {x:X} {i:Int} {po:Option Op} {t:Thr} (s:Ha x.L t):TI x i po t:=⟨s.rt,s.rl,s.nx,λ_ _ h=>absurd s.pc h,.inl ⟨s.pc,s.g,s.k⟩⟩
theorem IG.still {S:Sim} {g:Gh} (I:IG P S g) (hc:S.calm = true):∀t∈S.th,Ha g.L t:=λt ht=>by
 obtain⟨i,_,_,hi⟩:=Je ht;have T:=I.ti i t hi;have hp:t.pc = 0:=by
  have:=UB.1 (show (S.th.all λt=>t.pc == 0) = true from hc) t ht;simpa using this
 rcases T.run with h | ⟨o,_,r⟩
 ·exact⟨hp,h.2.1,h.2.2,T.nx,T.rl,T.rt⟩
 ·exfalso;cases r with
  | bs b=>have:=b.p;omega
  | cp _ _ _ cp=>have:=cp.p;omega
  | mg m=>have:=m.p;omega
theorem IG.mk' {S S' : Sim} {g g' : Gh} (I:IG P S g) (hpc:(S'.AE,S'.c) = (S.AE,S.c)) (hl:S'.th.length = S.th.length) (hsh:Sh (xof S' g')) (ht:∀t∈S'.th,Ha g'.L t) (c1:S'.AW = 1→C1 (xof S' g') S'.col) (c2:S'.AW = 2→C2 (xof S' g') S'.th.length S'.col)
  (c3:S'.AW = 3→C3 (xof S' g') S'.col) (wt:S'.stop = true→S'.full = false→Wt (xof S' g') S'.col.want):IG P S' g':=
 have hpg:S'.AE = S.AE:=congrArg Prod.fst hpc;have hcc:S'.c = S.c:=congrArg Prod.snd hpc
 ⟨by rw[hpg];exact I.pg,hsh,by rw[hl];exact I.n0,by rw[hl];exact I.n1,by rw[hl,hpg];exact I.pl,by rw[hpg];exact I.pp,λi t h=>(ht t (Fo h)).ti,c1,c2,c3,wt,by rw[hcc];exact I.rs⟩
inductive Rch (w:List Int) (r0:Int→Prop):Int→Prop
 | base {a:Int} (h:r0 a):Rch w r0 a
 | step {a j:Int} (h:Rch w r0 a) (j0:0≤j) (j1:j < (shp w a).refs) (hn:wv w (a + 2 + j)≠0):Rch w r0 (wv w (a + 2 + j))
section
variable {c:Nat} {S:Sim} {g:Gh}
theorem IG.nofrom (I:IG P S g) (h:S.AW≤1) (a:Int):¬ Aw S.A0 a:=λhf=>I.sh.nf h (a / 16) (by have:=hf.1;omega) hf.2
theorem IQ (l:List Bool):l.countP (λb=>!b)≤l.length:=List.countP_le_length
theorem Kx (I:IG P S g) (B:Bd c S) (hc:S.calm = true) (h0:S.AW = 0):∃g',IG P (({ S with stop:=false }:Sim).snapshot) g'∧Bd c (({ S with stop:=false }:Sim).snapshot):=by
 have st:=I.still hc;have H:=I.sh;have g0:=H.g;have hwl:=I.wl;have hml:S.AJ.length = S.A5.length:=H.ml
 let sk:List Int:=(S.th.flatMap λt=>t.AA.filter (·≠0)) ++ S.AI
 have hsk:∀a∈sk,g.L a:=λa ha=>by
  rcases U7.1 ha with h | h
  ·obtain⟨t,ht,h⟩:=List.mem_flatMap.1 h;rw[V3] at h;exact (st t ht).rt a h.1 (by simpa using h.2)
  ·exact (H.pl a h).1
 have hsub:∀a,Rch S.A5 (·∈sk) a→g.L a:=λa h=>by
  induction h with
  | base h=>exact hsk _ h
  | step h j0 j1 hn ih=>exact H.rf _ _ ih j0 j1 hn
 have T' : TOk (rows (λ_ x=>{ x with Al:=x.top,AH:=0 }) S.A0):=TOk.rows g0.ok λr x R=>⟨⟨R.k0,R.k1,R.t0,R.t1,R.t0,UI _,UI 0,by show 0≤x.top - 16 * r;have:=R.t0;omega,R.fr,R.ow,R.o0,R.o1⟩,rfl⟩
 have er:∀r:Int,0≤r→r < S.A0.length→rv (rows (λ_ x=>{ x with Al:=x.top,AH:=0 }) S.A0) r = if r = 0 then rv S.A0 r else { rv S.A0 r with Al:=(rv S.A0 r).top,AH:=0 }:=λr r0 r1=>DQ r0 r1
 have ek:∀r:Int,0≤r→(rv (rows (λ_ x=>{ x with Al:=x.top,AH:=0 }) S.A0) r).kind = (rv S.A0 r).kind:=λr r0=>by
  by_cases c:r < S.A0.length
  ·rw[er r r0 c];split<;>rfl
  ·rw[Cn r0 (by rw[Bg];omega),Cn r0 ω]
 have tm:∀a,g.B a→(rv (rows (λ_ x=>{ x with Al:=x.top,AH:=0 }) S.A0) (a / 16)).Al = (rv S.A0 (a / 16)).top:=λa h=>by
  have i:=g0.inn h;rw[er _ ω i.2.2.1,if_neg ω]
 have lt:∀a,g.B a→a < (rv (rows (λ_ x=>{ x with Al:=x.top,AH:=0 }) S.A0) (a / 16)).Al:=λa h=>by
  have i:=g0.inn h;rw[tm a h];simp only at i;omega
 have nf:∀a,¬ Aw (rows (λ_ x=>{ x with Al:=x.top,AH:=0 }) S.A0) a:=λa hf=>by
  have:=hf.2;rw[ek _ (by have:=hf.1;omega)] at this;exact I.nofrom ω a ⟨hf.1,this⟩
 have f0:∀a,mv (List.replicate S.AJ.length false) a = false:=λa=>KK
 refine⟨⟨g.B,Rch S.A5 (·∈sk),λa=>wv S.A5 a,(·∈sk)⟩,I.mk' (S':=({ S with stop:=false }:Sim).snapshot) rfl rfl ?_ (λt ht=>?_) (λ_=>?_) (λh=>absurd (show (1:Int) = 2 from h) δ) (λh=>absurd (show (1:Int) = 3 from h) δ) (λh=>by cases h),?_⟩
 ·refine⟨Geo.tab g0 T' (Bg (f:=λ_ x=>{ x with Al:=x.top,AH:=0 }) (t:=S.A0)) (λ_ h=>h) λr r0 r1=>.inl ⟨?_,λ_ h _=>h⟩,λa h=>H.lb a (hsub a h),λa j h j0 j1 hn=>.step h j0 j1 hn,λa h _=>H.st a h (I.nofrom ω a),λa _ hf=>absurd hf (nf a),by show (List.replicate S.AJ.length false).length = _;rw[Tz];exact hml,λa _ h=>?_,by show (0:Int)≤1∧(1:Int)≤3;decide,λ_ r r0 hk=>?_,λh=>absurd (show (2:Int)≤1 from h) δ,λa h=>⟨.base (UQ _ h),nf a⟩,λa _ hf=>absurd hf (nf a),λ_ a h ht=>?_,λh=>absurd (show (1:Int) = 3 from h) δ,λ_=>?_⟩
  ·show (rv (rows (λ_ x=>{ x with Al:=x.top,AH:=0 }) S.A0) r).top = _;rw[er r ω r1,if_neg ω]
  ·have h:mv (List.replicate S.AJ.length false) a = true:=h;rw[f0] at h;cases h
  ·have hk:(rv (rows (λ_ x=>{ x with Al:=x.top,AH:=0 }) S.A0) r).kind = 4:=hk;rw[ek r r0] at hk;exact H.nf (by show S.AW≤1;omega) r r0 hk
  ·have:=lt a h;have ht:(rv (rows (λ_ x=>{ x with Al:=x.top,AH:=0 }) S.A0) (a / 16)).Al≤a:=ht;omega
  ·refine⟨λa h=>.base h,λa h=>(by cases h),λY h1 h2 a h _=>?_,λa h=>⟨.base h,lt a (H.lb a (hsk a h)),.inr (.inr (.inl h))⟩,λa j h _ j0 j1 hq=>⟨.step h j0 j1 hq,lt _ (H.lb _ (hsub _ (.step h j0 j1 hq)))⟩,λa j _ _ _ _=>.inl rfl,λr r0 r1=>?_⟩
   ·induction h with
    | base h=>exact h1 _ h
    | step h j0 j1 hn ih=>exact h2 _ _ h (lt _ (H.lb _ (hsub _ h))) (ih (lt _ (H.lb _ (hsub _ h)))) j0 j1 hn
   ·rw[P3 λa _=>f0 a];have r1:r < S.A0.length:=by
     have:r < (rows (λ_ x=>{ x with Al:=x.top,AH:=0 }) S.A0).length:=r1;rw[Bg] at this;exact this
    show (rv (rows (λ_ x=>{ x with Al:=x.top,AH:=0 }) S.A0) r).AH = _;rw[er r ω r1,if_neg ω];rfl
 ·have s:=st t ht;refine⟨s.pc,s.g,s.k,s.nx,s.rl,λa ha h0=>.base (UH _ (List.mem_flatMap.2 ⟨t,ht,V3.2 ⟨ha,by simpa using h0⟩⟩))⟩
 ·refine⟨.inl rfl,λh=>absurd (show (1:Int) = 2 from h) δ,λa j _ h=>?_⟩;have h:mv (List.replicate S.AJ.length false) a = true:=h;rw[f0] at h;cases h
 ·refine⟨B.ev,VG _,B.cy,B.fu,?_,B.pn⟩;have h1:sk.length≤8 * S.th.length + 8:=by
   have hp:=B.pn;have:(S.th.flatMap λt=>t.AA.filter (·≠0)).length≤8 * S.th.length:=by
    have hs:∀t∈S.th,t.AA.length≤8:=λt ht=>(st t ht).rl
    revert hs;induction S.th with
    | nil=>intro _;simp
    | cons t r ih=>
     intro hs;rw[List.flatMap_cons,Tn,U4];have h1:=ih λt ht=>hs t (by simp[ht])
     have h2:=hs t σ;have h3:=List.length_filter_le (λx=>decide (x≠0)) t.AA;omega
   show ((S.th.flatMap λt=>t.AA.filter (·≠0)) ++ S.AI).length≤_;rw[Tn];omega
  have h2:=IQ (List.replicate S.AJ.length false);rw[Tz] at h2;have h3:=I.n1;show sk.length + ([]:List Int).length + 5 * (List.replicate S.AJ.length false).countP (λb=>!b) + (if (1:Int) = 2 then _ else 0)≤3000 + c;rw[if_neg δ,Ug];omega
theorem Nd (I:IG P S g) (B:Bd c S) (hc:S.calm = true) (h2:S.AW = 2) (hfw:∀a,g.L a→Aw S.A0 a→wv S.A5 a≠a):∃S',({ S with stop:=false }:Sim).update = some S'∧IG P S' g∧Bd c S':=by
 have st:=I.still hc;have H:=I.sh;have g0:=H.g;have T:=g0.ok;have n1:S.A0.length≤12:=T.n1;have Bf:(S.A0.all λx=>decide (-1000≤x.top) && decide (x.top≤1000)) = true:=by
  rw[UB];intro x hx;obtain⟨i,i0,i1,hi⟩:=Je hx;have e:rv S.A0 i = x:=(GL DY hi).2.2;by_cases c:i = 0
  ·subst c;rw[← e,show rv S.A0 0 = DY from T.e];decide
  ·have R:=T.row i ω i1;have h1:=R.t0;have h2:=R.t1;rw[← e];simp only[z_b,z_d];simp only at h1 h2;omega
 have T' : TOk (rows (λi x=>{ x with AH:=x.top - AG i }) S.A0):=by
  refine⟨by rw[Bg];exact T.n0,by rw[Bg];exact T.n1,?_,λr r0 r1=>?_,λr s r0 r1 s0 s1 ho he=>?_⟩
  ·have:=T.n0;simp only at this;rw[DQ ω ω,if_pos rfl];exact T.e
  ·rw[Bg] at r1;rw[DQ ω r1,if_neg ω];have R:=T.row r r0 r1;have hb:=CT (r:=r) ω ω;refine⟨R.k0,R.k1,R.t0,R.t1,R.s0,R.s1,?_,?_,R.fr,R.ow,R.o0,R.o1⟩
   ·show 0≤(rv S.A0 r).top - AG r;have:=R.t0;simp only at this;rw[hb];omega
   ·show (rv S.A0 r).top - AG r≤_;rw[hb];exact UI _
  ·rw[Bg] at r1 s1;rw[DQ ω r1,if_neg ω] at ho he;rw[DQ ω s1,if_neg ω] at he;exact T.own r s r0 r1 s0 s1 ho he
 have er:∀r:Int,1≤r→r < S.A0.length→rv (rows (λi x=>{ x with AH:=x.top - AG i }) S.A0) r = { rv S.A0 r with AH:=(rv S.A0 r).top - 16 * r }:=λr r0 r1=>by
  rw[DQ ω r1,if_neg ω,CT ω ω]
 have e0:∀r:Int,0≤r→(rv (rows (λi x=>{ x with AH:=x.top - AG i }) S.A0) r).kind = (rv S.A0 r).kind∧(rv (rows (λi x=>{ x with AH:=x.top - AG i }) S.A0) r).Al = (rv S.A0 r).Al∧(rv (rows (λi x=>{ x with AH:=x.top - AG i }) S.A0) r).top = (rv S.A0 r).top:=λr r0=>by
  by_cases c:r < S.A0.length
  ·rw[DQ r0 c];split<;>exact⟨rfl,rfl,rfl⟩
  ·rw[Cn r0 (by rw[Bg];omega),Cn r0 ω];exact⟨rfl,rfl,rfl⟩
 have hf:∀a,Aw (rows (λi x=>{ x with AH:=x.top - AG i }) S.A0) a↔Aw S.A0 a:=λa=>⟨λh=>⟨h.1,by have:=h.1;have:=h.2;rw[(e0 _ ω).1] at this;exact this⟩,λh=>⟨h.1,by have:=h.1;rw[(e0 _ ω).1];exact h.2⟩⟩
 have tm:∀a,0≤a→(rv (rows (λi x=>{ x with AH:=x.top - AG i }) S.A0) (a / 16)).Al = (rv S.A0 (a / 16)).Al:=λa h=>(e0 (a / 16) ω).2.1
 have B0:∀a,g.B a→0≤a:=λa h=>by have:=g0.inn h;omega
 unfold Sim.update;simp only[Tm];rw[if_pos Bf];simp only[z_o];refine⟨_,rfl,I.mk' (g':=g) (S':={ S with stop:=false,AW:=3,A0:=rows (λi x=>{ x with AH:=x.top - AG i }) S.A0,col:={ Cd S.col.Ai S.col.want with pc:=6,r:=1,p:=16 } }) rfl rfl ?_ st (λh=>absurd (show (3:Int) = 1 from h) δ) (λh=>absurd (show (3:Int) = 2 from h) δ) (λ_=>?_) (λh=>by cases h),?_⟩
 ·refine⟨Geo.tab g0 T' (Bg (f:=λi x=>{ x with AH:=x.top - AG i }) (t:=S.A0)) (λ_ h=>h) λr r0 r1=>.inl ⟨(e0 r ω).2.2,λ_ h _=>h⟩,H.lb,H.rf,λa h hn=>H.st a h λc=>hn ((hf a).2 c),λa h hff hne=>?_,H.ml,λa a0 h=>?_,by show (0:Int)≤3∧(3:Int)≤3;decide,λh=>absurd (show (3:Int)≤1 from h) δ,λ_ a h ht=>?_,λa h=>⟨(H.pl a h).1,λc=>(H.pl a h).2 ((hf a).1 c)⟩,λa h hff=>H.fm a h ((hf a).1 hff),λ_ a h ht=>?_,λ_ a h hff=>hfw a h ((hf a).1 hff),λh=>absurd (show (3:Int) = 1 from h) δ⟩
  ·obtain⟨b1,b2,b3⟩:=H.fw a h ((hf a).1 hff) hne;exact⟨b1,λc=>b2 ((hf _).1 c),b3⟩
  ·obtain⟨b1,b2⟩:=H.mt a a0 h;refine⟨b1,?_⟩;show a < (rv (rows (λi x=>{ x with AH:=x.top - AG i }) S.A0) (a / 16)).Al;rw[tm a a0];exact b2
  ·have ht:a < (rv (rows (λi x=>{ x with AH:=x.top - AG i }) S.A0) (a / 16)).Al:=ht;rw[tm a (B0 a (H.lb a h))] at ht;exact H.lm (by show 2≤S.AW;omega) a h ht
  ·have ht:(rv (rows (λi x=>{ x with AH:=x.top - AG i }) S.A0) (a / 16)).Al≤a:=ht;rw[tm a (B0 a h)] at ht;exact H.nb (by show 1≤S.AW;omega) a h ht
 ·refine⟨by show (6:Int)≤6∧(6:Int)≤9;decide,UI 1,?_,by show (16:Int) * 1≤16;decide,λh1 h2=>?_,λh=>absurd (show (7:Int)≤6 from h) δ,λh=>absurd (show (8:Int)≤6 from h) δ,λh=>absurd (show (6:Int) = 9 from h) δ,λh=>absurd (show (8:Int)≤6 from h) δ,λa j h hn j0 j1 _=>.inl ?_⟩
  ·have:=T.n0;show (1:Int)≤(rows (λi x=>{ x with AH:=x.top - AG i }) S.A0).length;rw[Bg];simp only at this;omega
  ·have h1:(1:Int) < (rows (λi x=>{ x with AH:=x.top - AG i }) S.A0).length:=h1;rw[Bg] at h1;have h2:(16:Int) < 16 * 1 + (rv (rows (λi x=>{ x with AH:=x.top - AG i }) S.A0) 1).AH:=h2;rw[er 1 δ h1] at h2;simp only at h2;rcases g0.bs 1 δ h1 with h | h
   ·simp only at h;omega
   ·exact h
  ·have i:=g0.inn (H.lb a h);simp only at i;refine⟨by show 16≤a;omega,?_⟩;show a < 16 * (a / 16) + (rv (rows (λi x=>{ x with AH:=x.top - AG i }) S.A0) (a / 16)).AH;rw[er (a / 16) ω ω];simp only;omega
 ·refine⟨B.ev,B.old,B.cy,B.fu,?_,B.pn⟩;have:=B.st;show ([]:List Int).length + S.old.length + 5 * S.AJ.countP (λb=>!b) + (if (6:Int) = 2 then _ else 0)≤3000 + c;rw[if_neg δ,Ug];omega
end
end Sm
end
section
namespace Sm
variable {P:List (List Op)}
theorem Ck {r:Int} (h0:1≤r) (h1:r < 12):Is r (DJ r)∧DJ r = ⟨1,-1,16 * r,16 * r,0⟩:=by
 have hb:=CT (r:=r) ω h1;have e:DJ r = ⟨1,-1,16 * r,16 * r,0⟩:=by unfold DJ;rw[hb]
 refine⟨?_,e⟩;rw[e];exact⟨σ,σ,σ,by simp;omega,σ,σ,σ,σ,σ,σ,σ,σ⟩
theorem Ey {t:List Rg} {r:Int} (T:TOk t) (h0:1≤r) (h1:r < t.length) (hk:(rv t r).kind≠1):BU t r = some (AM t r (DJ r))∧TOk (AM t r (DJ r)):=by
 have n1:=T.n1;obtain⟨fr,fe⟩:=Ck h0 (by omega:r < 12);constructor
 ·unfold BU;rw[if_pos (by simp[BL.2 T,h0]),CJ ω h1];simp only[];rw[if_neg (by simpa using hk)]
 ·refine T.set h0 h1 fr λs _ _ _ ho=>?_
  rw[fe] at ho;simp at ho
theorem Ix:∀(n i:Nat) (t:List Rg),TOk t→1≤i→t.length≤i + n→TOk (CG n i t)∧(CG n i t).length = t.length∧∀r:Int,1≤r→r < t.length→rv (CG n i t) r = if i≤r∧(rv t r).kind = 4 then DJ r else rv t r:=by
 intro n;induction n with
 | zero=>intro i t T hi hn;exact⟨T,rfl,λr r0 r1=>by rw[if_neg ω];rfl⟩
 | succ n ih=>
  intro i t T hi hn;unfold CG;by_cases c:i < t.length
  ·have e:t[i]? = some (rv t i):=by rw[Tl c,rv,Ek c]
   rw[e];simp only[];by_cases k4:(rv t i).kind = 4
   ·obtain⟨d1,d2⟩:=Ey (r:=i) T ω ω ω;rw[if_pos (by simpa using k4),d1];simp only[Uj];obtain⟨g1,g2,g3⟩:=ih (i + 1) (AM t i (DJ i)) d2 ω (by simp;omega);refine⟨g1,by rw[g2];simp,λr r0 r1=>?_⟩;rw[g3 r r0 (by simpa using r1),Cv ω ω ω];by_cases h:r = i
    ·subst h;rw[if_neg ω,if_pos rfl,if_pos ⟨ω,k4⟩]
    ·rw[if_neg h];by_cases h2:((i + 1:Nat):Int)≤r∧(rv t r).kind = 4
     ·rw[if_pos h2,if_pos ⟨ω,h2.2⟩]
     ·rw[if_neg h2,if_neg (λh3=>h2 ⟨ω,h3.2⟩)]
   ·rw[if_neg (by simpa using k4)];obtain⟨g1,g2,g3⟩:=ih (i + 1) t T ω ω;refine⟨g1,g2,λr r0 r1=>?_⟩;rw[g3 r r0 r1];by_cases h2:((i + 1:Nat):Int)≤r∧(rv t r).kind = 4
    ·rw[if_pos h2,if_pos ⟨ω,h2.2⟩]
    ·rw[if_neg h2,if_neg (λh3=>h2 ⟨by
      by_cases h:r = i
      ·subst h;exact absurd h3.2 k4
      ·omega,h3.2⟩)]
  ·rw[UM ω];simp only[];exact⟨T,trivial,λr r0 r1=>by rw[if_neg ω]⟩
theorem JD:∀(l:List Int) (t:List Rg),TOk t→l.Nodup→(∀r∈l,1≤r∧r < t.length∧(rv t r).kind≠1)→TOk (l.foldl (λt r=>(BU t r).getD []) t)∧(l.foldl (λt r=>(BU t r).getD []) t).length = t.length∧∀r:Int,1≤r→r < t.length→rv (l.foldl (λt r=>(BU t r).getD []) t) r = if r∈l then DJ r else rv t r:=by
 intro l;induction l with
 | nil=>intro t T _ _;exact⟨T,rfl,λr _ _=>σ⟩
 | cons a l ih=>
  intro t T hn h;rw[Ux] at hn;obtain⟨a0,a1,ak⟩:=h a σ;obtain⟨d1,d2⟩:=Ey T a0 a1 ak;simp only[V2,d1,Uj];obtain⟨g1,g2,g3⟩:=ih (AM t a (DJ a)) d2 hn.2 λr hr=>by
   obtain⟨r0,r1,rk⟩:=h r (by simp[hr]);refine⟨r0,by simpa using r1,?_⟩;rw[Cv ω a1 ω,if_neg (λc=>by subst c;exact hn.1 hr)];exact rk
  refine⟨g1,by rw[g2];simp,λr r0 r1=>?_⟩;rw[g3 r r0 (by simpa using r1),Cv ω a1 ω];by_cases c:r = a
  ·subst c;rw[if_neg hn.1,if_pos rfl,if_pos σ]
  ·rw[if_neg c];by_cases d:r∈l
   ·rw[if_pos d,if_pos (by simp[d])]
   ·rw[if_neg d,if_neg (by simp[c,d])]
theorem Mq:∀(l:List Int) (t:List Rg),TOk t→(∀r∈l,1≤r∧r < t.length∧((rv t r).kind = 3∨(rv t r).kind = 4))→∃t',Ih l t = some t'∧TOk t'∧t'.length = t.length∧∀r:Int,1≤r→r < t.length→rv t' r = if r∈l then { rv t r with kind:=4 } else rv t r:=by
 intro l;induction l with
 | nil=>intro t T _;exact⟨t,rfl,T,rfl,λr _ _=>σ⟩
 | cons a l ih=>
  intro t T h;obtain⟨a0,a1,ak⟩:=h a σ;unfold Ih;rw[CJ ω a1];simp only[Tm,z_o];have R:=T.row a a0 a1;have ho:(rv t a).AR < 0:=by
   have:=R.ow;by_cases c:0≤(rv t a).AR
   ·have:=this.2 c;omega
   ·omega
  have T2:TOk (AM t a { rv t a with kind:=4 }):=T.set a0 a1 ⟨σ,σ,R.t0,R.t1,R.s0,R.s1,R.l0,R.l1,λh=>by simp at h,by simp;omega,R.o0,R.o1⟩ λs _ _ _ h=>by simp at h;omega
  obtain⟨t',e,g1,g2,g3⟩:=ih _ T2 λr hr=>by
   obtain⟨r0,r1,rk⟩:=h r (by simp[hr]);refine⟨r0,by simpa using r1,?_⟩;rw[Cv ω a1 ω];split
   ·exact .inr rfl
   ·exact rk
  refine⟨t',e,g1,by rw[g2];simp,λr r0 r1=>?_⟩;rw[g3 r r0 (by simpa using r1),Cv ω a1 ω];by_cases c:r = a
  ·subst c;rw[if_pos rfl,if_pos (show r∈r :: l by simp)];split<;>rfl
  ·rw[if_neg c];by_cases d:r∈l
   ·rw[if_pos d,if_pos (by simp[d])]
   ·rw[if_neg d,if_neg (by simp[c,d])]
theorem KY {held:List Int}:∀(l:List Rg) (i:Nat),(CO held i l).Nodup∧∀r∈CO held i l,∃k,∃h:k < l.length,r = (i + k:Nat)∧BN held 0 (i + k) l[k] = true:=by
 intro l;induction l with
 | nil=>intro i;exact⟨by simp[CO],λr hr=>by simp[CO] at hr⟩
 | cons x l ih=>
  intro i;obtain⟨h1,h2⟩:=ih (i + 1);have h2' : ∀r∈CO held (i + 1) l,∃k,∃h:k < (x :: l).length,r = (i + k:Nat)∧BN held 0 (i + k) (x :: l)[k] = true:=λr hr=>by
   obtain⟨k,hk,e,hc⟩:=h2 r hr;exact⟨k + 1,by simpa using hk,by rw[e];congr 1;omega,by rw[show i + (k + 1) = i + 1 + k from ω];exact hc⟩
  simp only[CO];split
  ·refine⟨Ux.2 ⟨λhm=>?_,h1⟩,λr hr=>?_⟩
   ·obtain⟨k,_,e,_⟩:=h2 _ hm;omega
   ·rcases Tv.1 hr with h | h
    ·exact⟨0,σ,by rw[h];rfl,by assumption⟩
    ·exact h2' r h
  ·exact⟨h1,h2'⟩
theorem J4 {held:List Int} {n:Int}:∀(l:List Rg) (i:Nat) (left:Int),∀r∈(Bu held n i l left).2,∃k,∃h:k < l.length,r = (i + k:Nat)∧BN held n (i + k) l[k] = true:=by
 intro l;induction l with
 | nil=>intro i left r hr;simp[Bu] at hr
 | cons x l ih=>
  intro i left r hr;have h2' : ∀left,r∈(Bu held n (i + 1) l left).2→∃k,∃h:k < (x :: l).length,r = (i + k:Nat)∧BN held n (i + k) (x :: l)[k] = true:=λleft hr=>by
   obtain⟨k,hk,e,hc⟩:=ih (i + 1) left r hr;exact⟨k + 1,by simpa using hk,by rw[e];congr 1;omega,by rw[show i + (k + 1) = i + 1 + k from ω];exact hc⟩
  simp only[Bu] at hr;split at hr
  ·rename_i hc;rcases Tv.1 hr with h | h
   ·exact⟨0,σ,by rw[h];rfl,by simp only[z_b] at hc;exact hc.1⟩
   ·exact h2' _ h
  ·exact h2' _ hr
theorem HC {t:List Rg} {held:List Int}:∀(k:Nat) (n left:Int),∀r∈BK t held k n left,∃m,n≤m∧∃j,∃h:j < t.tail.length,r = (1 + j:Nat)∧BN held m (1 + j) t.tail[j] = true:=by
 intro k;induction k with
 | zero=>intro n left r hr;simp[BK] at hr
 | succ k ih=>
  intro n left r hr;simp only[BK,U7] at hr;rcases hr with h | h
  ·obtain⟨j,hj,e,hc⟩:=J4 t.tail 1 left r h;exact⟨n,UI n,j,hj,e,hc⟩
  ·obtain⟨m,hm,h2⟩:=ih (n + 1) _ r h;exact⟨m,ω,h2⟩
theorem choose_spec {t:List Rg} {AF:Int} {held:List Int} (T:TOk t):((AX t AF held).2).Nodup∧
  (∀r∈(AX t AF held).2,1≤r∧r < t.length∧(rv t r).kind = 3∧(rv t r).top = (rv t r).Al∧(rv t r).AH = 0∧r ∉ held)∧
  (∀r∈(AX t AF held).1,1≤r∧r < t.length∧(rv t r).kind = 3∧(rv t r).top = (rv t r).Al∧1≤(rv t r).AH∧r ∉ held):=by
 have key:∀(m:Int) (j:Nat) (h:j < t.tail.length),BN held m (1 + j) t.tail[j] = true→1≤((1 + j:Nat):Int)∧((1 + j:Nat):Int) < t.length∧(rv t (1 + j:Nat)).kind = 3∧(rv t (1 + j:Nat)).top = (rv t (1 + j:Nat)).Al∧(rv t (1 + j:Nat)).AH = m∧((1 + j:Nat):Int) ∉ held:=λm j h hc=>by
  rw[G6 h] at hc;simp only[BN,z_b,z_d,beq_iff_eq,UC,List.contains_eq_mem,decide_eq_false_iff_not] at hc;simp only[V7] at h;exact⟨ω,ω,hc.1.1.1.1,hc.1.1.1.2,hc.1.1.2,hc.2⟩
 unfold AX;rw[if_pos (BL.2 T)];obtain⟨f1,f2⟩:=KY (held:=held) t.tail 1;refine⟨f1,λr hr=>?_,λr hr=>?_⟩
 ·obtain⟨k,hk,e,hc⟩:=f2 r hr;rw[e];exact key 0 k hk hc
 ·obtain⟨m,hm,j,hj,e,hc⟩:=HC 16 1 AF r hr;obtain⟨h1,h2,h3,h4,h5,h6⟩:=key m j hj hc;rw[e];exact⟨h1,h2,h3,h4,ω,h6⟩
theorem N0 {c:Nat} {S:Sim} {B L q r0} (hc:c < 900000) (n0:1≤S.th.length) (n1:S.th.length≤3) (pl:S.AE.length = S.th.length) (pp:∀p∈S.AE,p.length≤40) (pg:S.AE = P) (rs:0≤S.c.AF∧S.c.AF≤100) (G:Geo S.A5 S.A0 B) (lb:∀a,L a→B a)
  (rf:∀a j,L a→0≤j→j < (shp S.A5 a).refs→wv S.A5 (a + 2 + j)≠0→L (wv S.A5 (a + 2 + j))) (st:∀a,B a→wv S.A5 a = a) (nf:∀r:Int,0≤r→(rv S.A0 r).kind≠4) (ml:S.AJ.length = S.A5.length)
  (AI:∀a∈S.AI,L a) (th:∀t∈S.th,Ha L t) (hst:S.stop = false) (Bb:Bd c S):∃S',S.idle = some S'∧IG P S' ⟨B,L,q,r0⟩∧Bd (c + 1) S':=by
 have wl:S.A5.length≤192:=by
  have h1:=G.len;have h2:=G.ok.n1;omega
 unfold Sim.idle;simp only[Tm];rw[Av (by have:=Bb.cy.1;omega) (by have:=Bb.cy.2;omega)];simp only[z_o];have T:=G.ok;have T' : TOk (rows (λ_ x=>{ x with AH:=0 }) S.A0):=TOk.rows T λr x R=>⟨⟨R.k0,R.k1,R.t0,R.t1,R.s0,R.s1,UI 0,by show 0≤x.top - 16 * r;have:=R.t0;omega,R.fr,R.ow,R.o0,R.o1⟩,rfl⟩
 have er:∀r:Int,0≤r→(rv (rows (λ_ x=>{ x with AH:=0 }) S.A0) r).kind = (rv S.A0 r).kind∧(rv (rows (λ_ x=>{ x with AH:=0 }) S.A0) r).top = (rv S.A0 r).top:=λr r0=>by
  by_cases c:r < S.A0.length
  ·rw[DQ r0 c];split<;>exact⟨rfl,rfl⟩
  ·rw[Cn r0 (by rw[Bg];omega),Cn r0 ω];exact⟨rfl,rfl⟩
 have nf' : ∀a,¬ Aw (rows (λ_ x=>{ x with AH:=0 }) S.A0) a:=λa hf=>nf (a / 16) (by have:=hf.1;omega) (by rw[← (er _ (by have:=hf.1;omega)).1];exact hf.2)
 have f0:∀a,mv (List.replicate S.AJ.length false) a = false:=λa=>KK
 refine⟨_,rfl,⟨pg,?_,n0,n1,pl,pp,λi t h=>(th t (Fo h)).ti,λh=>absurd (show (0:Int) = 1 from h) δ,λh=>absurd (show (0:Int) = 2 from h) δ,λh=>absurd (show (0:Int) = 3 from h) δ,(λh=>absurd (hst.symm.trans h) δ),rs⟩,?_⟩
 ·exact⟨Geo.tab G T' (Bg (f:=λ_ x=>{ x with AH:=0 }) (t:=S.A0)) (λ_ h=>h) λr r0 r1=>.inl ⟨(er r ω).2,λ_ h _=>h⟩,lb,rf,λa h _=>st a h,λa _ hf=>absurd hf (nf' a),by show (List.replicate S.AJ.length false).length = _;rw[Tz];exact ml,λa _ h=>(by
   have h:mv (List.replicate S.AJ.length false) a = true:=h
   rw[f0] at h;cases h),by show (0:Int)≤0∧(0:Int)≤3;decide,λ_ r r0 hk=>nf r r0 (by rw[← (er r r0).1];exact hk),λh=>absurd (show (2:Int)≤0 from h) δ,λa h=>⟨AI a h,nf' a⟩,λa _ hf=>absurd hf (nf' a),λh=>absurd (show (1:Int)≤0 from h) δ,λh=>absurd (show (0:Int) = 3 from h) δ,λh=>absurd (show (0:Int) = 1 from h) δ⟩
 ·have h2:=IQ (List.replicate S.AJ.length false);rw[Tz] at h2;have h3:=Bb.old;refine⟨by have:=Bb.ev;show S.ev.length≤c + 1;omega,by show S.old.length≤c + 1;omega,by have:=Bb.cy;show 0≤S.B8 + 1∧S.B8 + 1≤((c + 1:Nat):Int);omega,by have:=Bb.fu;show 0≤S.Be∧S.Be≤((c + 1:Nat):Int);omega,?_,Bb.pn⟩;show ([]:List Int).length + S.old.length + 5 * (List.replicate S.AJ.length false).countP (λb=>!b) + (if (0:Int) = 2 then _ else 0)≤3000 + (c + 1);rw[if_neg δ,Ug];omega
section
variable {c:Nat} {S:Sim} {g:Gh}
theorem Nl (I:IG P S g) (h3:S.AW = 3):∀l:List Int,(∀a∈l,a≠0→g.L a)→∃l',S.rootsF l = some l'∧l'.length = l.length∧∀a∈l',a≠0→g.L a∧¬ Aw S.A0 a:=by
 intro l;induction l with
 | nil=>intro _;exact⟨[],rfl,rfl,λa h=>by cases h⟩
 | cons a l ih=>
  intro h;obtain⟨l',e,hl,hm⟩:=ih λb hb=>h b (by simp[hb])
  obtain⟨d,hd,hdf⟩:=I.frm (h a σ);unfold Sim.rootsF;rw[hd,e];simp only[Tm,z_o];cases d with
  | false=>
   simp only[U1,if_false,z_o];refine⟨_,rfl,by simp[hl],λb hb b0=>?_⟩;rcases Tv.1 hb with hb | hb
   ·subst hb;exact⟨h b σ b0,λc=>by have:=hdf.2 c;cases this⟩
   ·exact hm b hb b0
  | true=>
   have hf:Aw S.A0 a:=hdf.1 rfl;have hL:=h a σ (Mt I.sh.g hf);obtain⟨a1,a2,a3,a4,a5,a6⟩:=I.in_ hL;simp only[if_true];rw[Ob ω ω];simp only[z_o];obtain⟨f1,f2,_⟩:g.L (wv S.A5 a)∧¬ Aw S.A0 (wv S.A5 a)∧_:=I.sh.fw _ (I.sh.lb _ hL) hf (I.sh.af h3 a hL hf);refine⟨_,rfl,by simp[hl],λb hb b0=>?_⟩;rcases Tv.1 hb with hb | hb
   ·subst hb;exact⟨f1,f2⟩
   ·exact hm b hb b0
theorem Qv (I:IG P S g) (h3:S.AW = 3):∀l:List Thr,(∀t∈l,Ha g.L t)→∃l',S.thsF l = some l'∧l'.length = l.length∧∀t∈l',Ha (λa=>g.L a∧¬ Aw S.A0 a) t:=by
 intro l;induction l with
 | nil=>intro _;exact⟨[],rfl,rfl,λa h=>by cases h⟩
 | cons t l ih=>
  intro h;obtain⟨l',e,hl,hm⟩:=ih λb hb=>h b (by simp[hb])
  have s:=h t σ;obtain⟨r',e',hl',hm'⟩:=Nl I h3 t.AA s.rt;unfold Sim.thsF;rw[e',e];simp only[Tm,z_o];refine⟨_,rfl,by simp[hl],λb hb=>?_⟩;rcases Tv.1 hb with hb | hb
  ·subst hb;exact⟨s.pc,s.g,s.k,s.nx,by show r'.length≤8;rw[hl'];exact s.rl,hm'⟩
  ·exact hm b hb
theorem No (hc:c < 900000) (I:IG P S g) (B:Bd c S) (hcm:S.calm = true) (h3:S.AW = 3) (hcl:∀a j,g.L a→¬ Aw S.A0 a→0≤j→j < (shp S.A5 a).refs→¬ Aw S.A0 (wv S.A5 (a + 2 + j))):∃S' g',({ S with stop:=false }:Sim).finish = some S'∧IG P S' g'∧Bd (c + 1) S':=by
 have st:=I.still hcm;have H:=I.sh;have G:=H.g;have I0:IG P { S with stop:=false } g:=⟨I.pg,I.sh,I.n0,I.n1,I.pl,I.pp,I.ti,I.c1,I.c2,I.c3,(λh=>by cases h),I.rs⟩;obtain⟨th,e,hl,hm⟩:=Qv I0 h3 S.th st;unfold Sim.finish;simp only[Tm];rw[e];simp only[z_o];have T:=G.ok;have n1:S.A0.length≤12:=T.n1;obtain⟨d1,d2,d3⟩:=Ix S.A0.length 1 S.A0 T ω ω;have d3:∀r:Int,1≤r→r < S.A0.length→rv (CG S.A0.length 1 S.A0) r = if (rv S.A0 r).kind = 4 then DJ r else rv S.A0 r:=λr r0 r1=>by
  rw[d3 r r0 r1];by_cases h:(rv S.A0 r).kind = 4
  ·rw[if_pos ⟨ω,h⟩,if_pos h]
  ·rw[if_neg (λh'=>h h'.2),if_neg h]
 obtain⟨S',e',I',B'⟩:=N0 (P:=P) (S:={ S with stop:=false,th:=th,A0:=CG S.A0.length 1 S.A0 }) (B:=λa=>g.B a∧¬ Aw S.A0 a) (L:=λa=>g.L a∧¬ Aw S.A0 a) (q:=g.q) (r0:=g.r0) hc (by show 1≤th.length;rw[hl];exact I.n0) (by show th.length≤3;rw[hl];exact I.n1) (by show S.AE.length = th.length;rw[hl];exact I.pl) I.pp I.pg I.rs
  (Geo.tab G d1 d2 (λa h=>h.1) λr r0 r1=>by
   rw[d3 r r0 r1]
   by_cases h:(rv S.A0 r).kind = 4
   ·right
    rw[if_pos h,(Ck r0 (by simp only at r1;omega)).2]
    exact⟨rfl,λa ha hr=>ha.2 ⟨by have:=G.inn ha.1;omega,by rw[hr];exact h⟩⟩
   ·left
    rw[if_neg h]
    exact⟨rfl,λa ha hr=>⟨ha,λhf=>h (by rw[← hr];exact hf.2)⟩⟩) (λa h=>⟨H.lb a h.1,h.2⟩) (λa j h j0 j1 hn=>⟨H.rf a j h.1 j0 j1 hn,hcl a j h.1 h.2 j0 j1⟩) (λa h=>H.st a h.1 h.2) (λr r0 hk=>by
   have hk:(rv (CG S.A0.length 1 S.A0) r).kind = 4:=hk
   by_cases c1:r < S.A0.length
   ·by_cases c2:1≤r
    ·rw[d3 r c2 c1] at hk
     split at hk
     ·rw[(Ck c2 ω).2] at hk;cases hk
     ·contradiction
    ·rw[show r = 0 from ω,d1.e] at hk;cases hk
   ·rw[Cn r0 (by rw[d2];omega)] at hk;cases hk) H.ml (λa h=>H.pl a h) hm rfl ⟨B.ev,B.old,B.cy,B.fu,B.st,B.pn⟩
 exact⟨S',_,e',I',B'⟩
theorem QW {x:X} (H:Sh x) {a:Int} (ha:x.L a) (hm:mv x.m a = true):0 < cnt x (a / 16):=by
 have g:=H.g.inn (H.lb a ha);unfold cnt;rw[List.countP_pos_iff];refine⟨(a - 16 * (a / 16)).toNat,UZ.2 ω,?_⟩
 classical
 have:∃b,0≤b∧mv x.m b = true∧b≤16 * (a / 16) + ((a - 16 * (a / 16)).toNat:Int)∧16 * (a / 16) + ((a - 16 * (a / 16)).toNat:Int) < b + sz x.w b:=⟨a,ω,hm,ω,ω⟩;exact decide_eq_true this
theorem O3 {n:Nat} (hc:c < 900000) (hn:mu S < n) (I:IG P S g) (B:Bd c S) (hcm:S.calm = true) (h1:S.AW = 1):∃S' g',({ S with stop:=false }:Sim).choose n = some S'∧IG P S' g'∧Bd (c + 1) S':=by
 have I0:IG P { S with stop:=false } g:=⟨I.pg,I.sh,I.n0,I.n1,I.pl,I.pp,I.ti,I.c1,I.c2,I.c3,(λh=>by cases h),I.rs⟩;have B0:Bd c { S with stop:=false }:=⟨B.ev,B.old,B.cy,B.fu,B.st,B.pn⟩;obtain⟨S1,e1,I1,B1,p1,⟨_,t1⟩,_,s1,_,k1,o1,pc1⟩:=Ou hc n { S with stop:=false } g I0 B0 h1 hn;have hcm1:S1.calm = true:=by
  show (S1.th.all λt=>t.pc == 0) = true;rw[t1];exact hcm
 have st:=I1.still hcm1;have H:=I1.sh;have G:=H.g;have T:=G.ok;have n1:S1.A0.length≤12:=T.n1;have M:=H.mp p1;have C:=I1.c1 p1;have lg:∀v,Lg (xof S1 g) v→v≠0→v < (xof S1 g).tm v→mv S1.AJ v = true:=λv h h0 ht=>by
  rcases h with h | h | h | h | h
  ·exact absurd h h0
  ·exact h
  ·have h:v∈S1.col.AD:=h;rw[k1] at h;cases h
  ·have h:v∈S1.old:=h;rw[o1] at h;cases h
  ·have:=h.2;omega
 have L0:∀a,g.L a→16≤a:=λa h=>(I1.in_ h).1
 have lm:∀a,g.L a→a < (xof S1 g).tm a→mv S1.AJ a = true:=M.mn (λa=>mv S1.AJ a = true) (λa h=>by
  obtain⟨q1,q2,q3⟩:=M.l0 a h
  exact lg a q3 (by have:=L0 a q1;omega) q2) (λa j ha ht hm j0 j1 hq=>by
  obtain⟨q1,q2⟩:=M.ql a j ha ht j0 j1 hq
  rcases C.sc a j (by have:=L0 a ha;omega) hm j0 j1 with ⟨h,_⟩ | h
  ·omega
  ·exact lg _ h hq q2)
 obtain⟨c1,c2,c3⟩:=choose_spec (AF:=S1.c.AF) (held:=S1.AI.map AQ) T;obtain⟨f1,f2,f3⟩:=JD (AX S1.A0 S1.c.AF (S1.AI.map AQ)).2 S1.A0 T c1 λr hr=>by
  obtain⟨h1,h2,h3,_⟩:=c2 r hr;exact⟨h1,h2,by simp only at h3;omega⟩
 have dis:∀r∈(AX S1.A0 S1.c.AF (S1.AI.map AQ)).1,r ∉ (AX S1.A0 S1.c.AF (S1.AI.map AQ)).2:=λr h h'=>by
  have a1:=(c3 r h).2.2.2.2.1;have a2:=(c2 r h').2.2.2.2.1;omega
 obtain⟨t',e2,k1',k2,k3⟩:=Mq (AX S1.A0 S1.c.AF (S1.AI.map AQ)).1 _ f1 λr hr=>by
  obtain⟨h1,h2,h3,_⟩:=c3 r hr;refine⟨h1,by rw[f2];exact h2,.inl ?_⟩;rw[f3 r h1 h2,if_neg (dis r hr)];exact h3
 have kr:∀r:Int,1≤r→r < S1.A0.length→rv t' r = if r∈(AX S1.A0 S1.c.AF (S1.AI.map AQ)).1 then { rv S1.A0 r with kind:=4 } else if r∈(AX S1.A0 S1.c.AF (S1.AI.map AQ)).2 then DJ r else rv S1.A0 r:=λr r0 r1=>by
  rw[k3 r r0 (by rw[f2];exact r1),f3 r r0 r1];by_cases h:r∈(AX S1.A0 S1.c.AF (S1.AI.map AQ)).1
  ·rw[if_pos h,if_pos h,if_neg (dis r h)]
  ·rw[if_neg h,if_neg h]
 have lt' : t'.length = S1.A0.length:=by rw[k2,f2]
 have nofree:∀a,g.L a→a / 16 ∉ (AX S1.A0 S1.c.AF (S1.AI.map AQ)).2:=λa ha h=>by
  obtain⟨h1,h2,h3,h4,h5,_⟩:=c2 _ h;have i:=G.inn (H.lb a ha);simp only at i h4 h5 h2;have hm:=lm a ha (by show a < (rv S1.A0 (a / 16)).Al;omega);have h6:=QW H ha hm;have h7:=M.cov (a / 16) i.2.1 i.2.2.1;have h8:(rv S1.A0 (a / 16)).AH = cnt (xof S1 g) (a / 16):=h7;rw[h5] at h8;omega
 have hB:∀a,(g.B a∧a / 16 ∉ (AX S1.A0 S1.c.AF (S1.AI.map AQ)).2)→g.B a:=λa h=>h.1
 have stW:∀a,g.B a→wv S1.A5 a = a:=λa h=>H.st a h (I1.nofrom ω a)
 have geo:Geo S1.A5 t' (λa=>g.B a∧a / 16 ∉ (AX S1.A0 S1.c.AF (S1.AI.map AQ)).2):=Geo.tab G k1' lt' hB λr r0 r1=>by
  rw[kr r r0 r1];by_cases h:r∈(AX S1.A0 S1.c.AF (S1.AI.map AQ)).1
  ·left;rw[if_pos h];exact⟨rfl,λa ha hr=>⟨ha,by rw[hr];exact dis r h⟩⟩
  ·rw[if_neg h];by_cases h2:r∈(AX S1.A0 S1.c.AF (S1.AI.map AQ)).2
   ·right;rw[if_pos h2,(Ck r0 (by simp only at r1;omega)).2];exact⟨rfl,λa ha hr=>ha.2 (by rw[hr];exact h2)⟩
   ·left;rw[if_neg h2];exact⟨rfl,λa ha hr=>⟨ha,by rw[hr];exact h2⟩⟩
 unfold Sim.choose;simp only[Tm];rw[e1];simp only[z_o];rw[e2];simp only[z_o];by_cases hz:(AX S1.A0 S1.c.AF (S1.AI.map AQ)).1.length = 0
 ·rw[if_pos hz];have hnil:=UU.1 hz;obtain⟨S',e',I',B'⟩:=N0 (P:=P) (S:={ S1 with stop:=false,A0:=t' }) (B:=λa=>g.B a∧a / 16 ∉ (AX S1.A0 S1.c.AF (S1.AI.map AQ)).2) (L:=g.L) (q:=g.q) (r0:=g.r0) hc I1.n0 I1.n1 I1.pl I1.pp I1.pg I1.rs geo (λa h=>⟨H.lb a h,nofree a h⟩) H.rf (λa h=>stW a h.1) (λr r0 hk=>by
   have hk:(rv t' r).kind = 4:=hk
   by_cases c1:r < S1.A0.length
   ·by_cases c2:1≤r
    ·rw[kr r c2 c1,hnil,if_neg σ] at hk
     split at hk
     ·rw[(Ck c2 ω).2] at hk;cases hk
     ·exact H.nf (by show S1.AW≤1;omega) r r0 hk
    ·rw[show r = 0 from ω,k1'.e] at hk;cases hk
   ·rw[Cn r0 (by rw[lt'];omega)] at hk;cases hk) H.ml (λa h=>(H.pl a h).1) st rfl ⟨B1.ev,B1.old,B1.cy,B1.fu,B1.st,B1.pn⟩
  exact⟨S',_,e',I',B'⟩
 ·rw[if_neg hz];have tmB:∀a,g.B a→a / 16 ∉ (AX S1.A0 S1.c.AF (S1.AI.map AQ)).2→(rv t' (a / 16)).Al = (rv S1.A0 (a / 16)).Al:=λa h h2=>by
   have i:=G.inn h;rw[kr _ i.2.1 i.2.2.1];by_cases hh:a / 16∈(AX S1.A0 S1.c.AF (S1.AI.map AQ)).1
   ·rw[if_pos hh]
   ·rw[if_neg hh,if_neg h2]
  have fmem:∀a,g.B a→Aw t' a→a / 16∈(AX S1.A0 S1.c.AF (S1.AI.map AQ)).1:=λa h hf=>by
   have i:=G.inn h;have hk:=hf.2;rw[kr _ i.2.1 i.2.2.1] at hk;split at hk
   ·assumption
   ·split at hk
    ·rw[(Ck i.2.1 (by have:=i.2.2.1;simp only at this;omega)).2] at hk;cases hk
    ·exact absurd hk (H.nf (by show S1.AW≤1;omega) _ ω)
  refine⟨_,⟨λa=>g.B a∧a / 16 ∉ (AX S1.A0 S1.c.AF (S1.AI.map AQ)).2,g.L,g.q,g.r0⟩,rfl,I1.mk' (S':={ S1 with stop:=false,A0:=t',AW:=2,col:={ Cd S1.col.Ai S1.col.want with pc:=5,r:=1,p:=16 } }) rfl rfl ?_ st (λh=>absurd (show (2:Int) = 1 from h) δ) (λ_=>?_) (λh=>absurd (show (2:Int) = 3 from h) δ) (λh=>by cases h),?_⟩
  ·refine⟨geo,λa h=>⟨H.lb a h,nofree a h⟩,H.rf,λa h _=>stW a h.1,λa h _ hne=>absurd (stW a h.1) hne,H.ml,λa a0 h=>?_,by show (0:Int)≤2∧(2:Int)≤3;decide,λh=>absurd (show (2:Int)≤1 from h) δ,λ_ a h ht=>lm a h ?_,λa h=>⟨(H.pl a h).1,λhf=>?_⟩,λa h hf=>?_,λ_ a h ht=>?_,λh=>absurd (show (2:Int) = 3 from h) δ,λh=>absurd (show (2:Int) = 1 from h) δ⟩
   ·obtain⟨b1,b2⟩:=H.mt a a0 h;refine⟨b1,?_⟩;show a < (rv t' (a / 16)).Al;rw[tmB a (H.lb a b1) (nofree a b1)];exact b2
   ·have ht:a < (rv t' (a / 16)).Al:=ht;rw[tmB a (H.lb a h) (nofree a h)] at ht;exact ht
   ·have hL:=(H.pl a h).1;have:=(c3 _ (fmem a (H.lb a hL) hf)).2.2.2.2.2;refine this (UK.2 ⟨a,h,?_⟩);have:=L0 a hL;rw[CH ω]
   ·obtain⟨_,_,_,h4,_⟩:=c3 _ (fmem a (H.lb a h) hf);have i:=G.inn (H.lb a h);simp only at i h4;exact lm a h (by show a < (rv S1.A0 (a / 16)).Al;omega)
   ·have ht:(rv t' (a / 16)).Al≤a:=ht;rw[tmB a h.1 h.2] at ht;exact H.nb (by show 1≤S1.AW;omega) a h.1 ht
  ·refine⟨UI 1,by show (1:Int)≤t'.length;rw[lt'];have:=T.n0;simp only at this;omega,by show (16:Int) * 1≤16;decide,by show (16:Int)≤16 * 1 + 16;decide,λa h _ hlt=>?_,.inl rfl⟩;have hlt:a < 16:=hlt;have:=L0 a h;omega
  ·refine⟨by have:=B1.ev;show S1.ev.length≤c + 1;omega,by have:=B1.old;show S1.old.length≤c + 1;omega,by have:=B1.cy;show 0≤S1.B8∧S1.B8≤((c + 1:Nat):Int);omega,by have:=B1.fu;show 0≤S1.Be∧S1.Be≤((c + 1:Nat):Int);omega,?_,B1.pn⟩;have:=B1.st;show ([]:List Int).length + S1.old.length + 5 * S1.AJ.countP (λb=>!b) + (if (5:Int) = 2 then _ else 0)≤3000 + (c + 1);rw[if_neg δ,Ug];omega
end
end Sm
end
