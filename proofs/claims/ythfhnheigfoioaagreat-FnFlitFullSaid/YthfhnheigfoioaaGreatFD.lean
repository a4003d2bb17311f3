/- A part of the proof of the given row. Conditions: none. -/
import Derived.Test.YthfhnheigfoioaaGreatFC
set_option linter.unusedVariables false
set_option linter.unusedSimpArgs false
set_option maxRecDepth 100000
section
namespace Sm
def gv {α:Type} (d:α) (l:List α) (a:Int):α:=l.getD a.toNat d
theorem TG {α:Type} {d:α} {l:List α} {a x:Int} {v:α} (h0:0<=a) (j:a < l.length) (y:0<=x):gv d (AU l a v) x = if x = a then v else gv d l x:=by
 unfold gv AU;rw[dZ,dZ,gO];by_cases h:x = a
 .subst h;rw[if_pos rfl,if_pos rfl,if_pos Z];rfl
 .rw[if_neg Z,if_neg h]
theorem Ox {α:Type} {d:α} {l:List α} {a:Int} (h0:0<=a) (j:a < l.length):idx l a = some (gv d l a):=by
 unfold idx gv;rw[if_pos h0,dZ,dY Z];rfl
theorem G4 {α:Type} {l:List α} {a:Int} {v:α} (d:α) (h:idx l a = some v):0<=a/\a < l.length/\gv d l a = v:=by
 unfold idx at h;split at h
 .obtain⟨j,he⟩:=eY.1 h;refine⟨‹_›,Z,?_⟩;unfold gv;rw[dZ,h];rfl
 .cases h
theorem Gd {α:Type} {d:α} {l:List α} {k:Nat} (h:k < l.length):gv d l (k:Int) = l[k]:=by
 unfold gv;rw[da,dZ,dY h];rfl
theorem Zz {α:Type} {d:α} {l:List α} {a:Int} (h0:0<=a) (h:l.length<=a):gv d l a = d:=by
 unfold gv;rw[dZ,fG Z];rfl
@[simp] theorem DO {α:Type} {l:List α} {a:Int} {v:α}:(AU l a v).length = l.length:=by simp[AU]
@[reducible] def wv (l:List Int) (a:Int):Int:=gv 0 l a
@[reducible] def mv (l:List Bool) (a:Int):Bool:=gv false l a
@[reducible] def rv (t:List Rg) (r:Int):Rg:=gv Dm t r
theorem WQ {l:List Int} {a:Int} (h0:0<=a) (j:a < l.length):idx l a = some (wv l a):=Ox h0 j
theorem Sy {l:List Bool} {a:Int} (h0:0<=a) (j:a < l.length):idx l a = some (mv l a):=Ox h0 j
theorem Cz {l:List Rg} {a:Int} (h0:0<=a) (j:a < l.length):idx l a = some (rv l a):=Ox h0 j
theorem Cn {l:List Int} {a x v:Int} (h0:0<=a) (j:a < l.length) (y:0<=x):wv (AU l a v) x = if x = a then v else wv l x:=TG h0 j y
theorem Tl {l:List Bool} {a x:Int} {v:Bool} (h0:0<=a) (j:a < l.length) (y:0<=x):mv (AU l a v) x = if x = a then v else mv l x:=TG h0 j y
theorem DV {l:List Rg} {a x:Int} {v:Rg} (h0:0<=a) (j:a < l.length) (y:0<=x):rv (AU l a v) x = if x = a then v else rv l x:=TG h0 j y
theorem Dg {t:List Rg} {r:Int} (h0:0<=r) (h:t.length<=r):rv t r = Dm:=Zz h0 h
structure LF (r:Int) (x:Rg):Prop where
 k0:1<=x.kind
 k1:x.kind<=4
 t0:16 * r<=x.top
 t1:x.top<=16 * r + 16
 s0:16 * r<=x.BH
 s1:x.BH<=x.top
 l0:0<=x.AJ
 l1:x.AJ<=x.top - 16 * r
 fr:x.kind = 1->x.top = 16 * r
 ow:x.kind = 2↔0<=x.AX
 o0:-1<=x.AX
 o1:x.AX<=3
structure TOk (t:List Rg):Prop where
 n0:2<=t.length
 n1:t.length<=12
 e:rv t 0 = Dm
 row:∀r:Int,1<=r->r < t.length->LF r (rv t r)
 own:∀r s:Int,1<=r->r < t.length->1<=s->s < t.length->0<=(rv t r).AX->(rv t r).AX = (rv t s).AX->r = s
theorem Br {r:Int} (h0:0<=r) (j:r < 12):AK r = 16 * r:=by
 unfold AK;rw[if_neg Z];omega
theorem Js {r:Int} {x:Rg} (h0:0<=r) (A:r < 12):Jh r x = true↔LF r x:=by
 unfold Jh;rw[Br h0 A];simp only[z_b,z_d,eN,eL,beq_eq_false_iff_ne,beq_iff_eq];constructor
 .rintro⟨⟨⟨⟨⟨⟨⟨⟨⟨⟨⟨a,b⟩,c⟩,d⟩,e⟩,f⟩,g⟩,h⟩,i⟩,j⟩,k⟩,l⟩;refine⟨a,b,c,d,e,f,g,h,λy=>?_,?_,k,l⟩
  .rcases i with i | i
   .exact absurd y i
   .exact i
  .rw[fL] at j;simpa using j
 .rintro⟨a,b,c,d,e,f,g,h,i,j,k,l⟩;refine⟨⟨⟨⟨⟨⟨⟨⟨⟨⟨⟨a,b⟩,c⟩,d⟩,e⟩,f⟩,g⟩,h⟩,?_⟩,?_⟩,k⟩,l⟩
  .by_cases y:x.kind = 1
   .exact .inr (i y)
   .exact .inl y
  .rw[fL];simpa using j
theorem Mq:∀(l:List Rg) (i:Nat),i + l.length<=12->(Lr i l = true↔(∀k (h:k < l.length),LF (i + k:Nat) l[k])/\∀k m (h:k < m) (A:m < l.length),0<=(l[k]).AX->(l[m]).AX≠(l[k]).AX):=by
 intro l;induction l with
 | nil=>intro i _;simp[Lr]
 | cons x r T=>
  intro i O;simp only[dl] at O;simp only[Lr,z_b,T (i + 1) Z,Js (r:=(i:Int)) Z Z,eN,z_d,eG,eL,beq_eq_false_iff_ne];constructor
  .rintro⟨⟨D,j⟩,K,N⟩;refine⟨λk h=>?_,λk m h A G=>?_⟩
   .cases k with
    | zero=>exact D
    | succ k=>
     have:=K k (by simpa using h);rw[show i + (k + 1) = i + 1 + k from Z];exact this
   .cases m with
    | zero=>omega
    | succ m=>
     cases k with
     | zero=>
      simp only[List.getElem_cons_zero] at G;rcases j with j | j
      .omega
      .exact j _ (dc (by simpa using A))
     | succ k=>exact N k m Z (by simpa using A) (by simpa using G)
  .rintro⟨D,j⟩;refine⟨⟨D 0 V,?_⟩,λk h=>?_,λk m h A G=>?_⟩
   .by_cases H:x.AX < 0
    .exact .inl H
    .refine .inr λy R=>?_
     obtain⟨n,Q,rfl⟩:=eJ R;exact j 0 (n + 1) Z (by simpa using Q) (by simpa using H)
   .have:=D (k + 1) (by simpa using h);rw[show i + 1 + k = i + (k + 1) from Z];exact this
   .exact j (k + 1) (m + 1) Z (by simpa using A) (by simpa using G)
theorem Bj {t:List Rg}:BR t = true↔TOk t:=by
 cases t with
 | nil=>simp[BR];intro h;have:=h.n0;simp at this
 | cons e r=>
  simp only[BR,z_b,z_d,beq_iff_eq];have O:rv (e :: r) 0 = e:=rfl;have gs:∀k (h:k < r.length),rv (e :: r) ((1 + k:Nat):Int) = r[k]:=λk h=>by
   rw[rv,Gd (by simp;omega)];simp only[Nat.add_comm 1 k,gq]
  constructor
  .rintro⟨⟨⟨h1,h2⟩,h3⟩,D⟩;rw[Mq r 1 Z] at D;have sp:∀x:Int,1<=x->x < (e :: r).length->∃k,∃h:k < r.length,x = ((1 + k:Nat):Int)/\rv (e :: r) x = r[k]:=λx H j=>by
    simp only[dl] at j;refine⟨x.toNat - 1,Z,Z,?_⟩;have:=gs (x.toNat - 1) Z;rw[show ((1 + (x.toNat - 1):Nat):Int) = x from Z] at this;exact this
   refine⟨by simp;omega,by simp;omega,by rw[O];exact h3,λx H j=>?_,λx y H j hy N A he=>?_⟩
   .obtain⟨k,h,Q,G⟩:=sp x H j;rw[G,Q];exact D.1 k h
   .obtain⟨k,h,Q,G⟩:=sp x H j;obtain⟨m,W,R,K⟩:=sp y hy N;rw[G,K] at he;rw[G] at A;rcases Nat.lt_trichotomy k m with c | c | c
    .exact absurd he.symm (D.2 k m c W A)
    .omega
    .exact absurd he (D.2 m k c h (he▸A))
  .intro T;have n0:=T.n0;have n1:=T.n1;simp only[dl] at n0 n1;refine⟨⟨⟨Z,Z⟩,by rw[<- O];exact T.e⟩,?_⟩;rw[Mq r 1 Z];refine⟨λk h=>?_,λk m h R A he=>?_⟩
   .rw[<- gs k h];exact T.row _ Z (by simp;omega)
   .rw[<- gs m R,<- gs k Z] at he;rw[<- gs k Z] at A;have:=T.own _ _ Z (by simp;omega) Z (by simp;omega) A he.symm;omega
theorem TOk.set {t:List Rg} {r:Int} {x:Rg} (T:TOk t) (h0:1<=r) (H:r < t.length) (K:LF r x) (D:∀s:Int,1<=s->s < t.length->s≠r->0<=x.AX->(rv t s).AX≠x.AX):TOk (AU t r x):=by
 have gs:∀s,0<=s->rv (AU t r x) s = if s = r then x else rv t s:=λs A=>DV Z H A
 refine⟨by simpa using T.n0,by simpa using T.n1,?_,λs A j=>?_,λs u A j G y h he=>?_⟩
 .rw[gs 0 Z,if_neg Z];exact T.e
 .rw[gs s Z];by_cases c:s = r
  .rw[if_pos c,c];exact K
  .rw[if_neg c];exact T.row s A (by simpa using j)
 .simp only[DO] at j y;rw[gs s Z] at h he;rw[gs u Z] at he;by_cases c:s = r<;>by_cases d:u = r
  .omega
  .rw[if_pos c] at h he;rw[if_neg d] at he;exact absurd he.symm (D u G y d h)
  .rw[if_neg c] at h he;rw[if_pos d] at he;exact absurd he (D s A j c (he▸h))
  .rw[if_neg c] at h he;rw[if_neg d] at he;exact T.own s u A j G y h he
theorem Vm (p:Rg->Bool):∀(l:List Rg) (n:Nat),(CM p n l = -1/\∀k (h:k < l.length),p l[k] = false)\/∃k,∃h:k < l.length,CM p n l = (n + k:Nat)/\p l[k] = true:=by
 intro l;induction l with
 | nil=>intro n;left;exact⟨rfl,λk h=>by simp at h⟩
 | cons x r D=>
  intro n;simp only[CM];cases A:p x with
  | true=>right;exact⟨0,V,V,by simpa using A⟩
  | false=>
   rcases D (n + 1) with ⟨j,y⟩ | ⟨k,h,j,y⟩
   .left;refine⟨by simpa using j,λk h=>?_⟩;cases k with
    | zero=>exact A
    | succ k=>exact y k (by simpa using h)
   .right;exact⟨k + 1,by simpa using h,by simp[j];omega,by simpa using y⟩
theorem JS {t:List Rg} {k:Nat} (h:k < t.tail.length):t.tail[k] = rv t ((1 + k:Nat):Int):=by
 rw[rv,Gd (by simp at h;omega)];simp[List.getElem_tail,Nat.add_comm]
theorem GC (p:Rg->Bool) (t:List Rg):(CM p 1 t.tail = -1/\∀r:Int,1<=r->r < t.length->p (rv t r) = false)\/(1<=CM p 1 t.tail/\CM p 1 t.tail < t.length/\p (rv t (CM p 1 t.tail)) = true):=by
 rcases Vm p t.tail 1 with ⟨x,j⟩ | ⟨k,h,x,j⟩
 .left;refine⟨x,λr h0 y=>?_⟩;have:=j (r.toNat - 1) (by simp;omega);rw[JS,show ((1 + (r.toNat - 1):Nat):Int) = r from Z] at this;exact this
 .right;rw[JS h] at j;rw[x];simp at h;exact⟨Z,Z,j⟩
structure UT (t:List Rg) (o size:Int) (t' : List Rg) (d:Int):Prop where
 ok:TOk t'
 len:t'.length = t.length
 d0:16<=d
 dk:(rv t' (d / 16)).kind = 2
 do_:(rv t' (d / 16)).AX = o
 dt:(rv t' (d / 16)).top = d
 fit:d + size<=16 * (d / 16) + 16
 top:∀r,0<=r->(rv t' r).top = (rv t r).top
 BH:∀r,0<=r->(rv t' r).BH = (rv t r).BH
 AJ:∀r,0<=r->(rv t' r).AJ = (rv t r).AJ
 frm:∀r,0<=r->((rv t' r).kind = 4↔(rv t r).kind = 4)
 oth:∀r,0<=r->(rv t r).kind = 2->(rv t r).AX≠o->rv t' r = rv t r
theorem OC {t:List Rg} {o size:Int} (T:TOk t) (o0:0<=o) (o1:o<=3) (Q:own t o < 0) (s1:size<=16):CX t o = none\/∃W r,CX t o = some (W,r)/\UT t o size W (AK r):=by
 unfold CX;rw[if_pos (by simp[Bj.2 T,o0,o1,Q])];rcases GC (λx=>x.kind == 1) t with ⟨A,_⟩ | ⟨A,D,N⟩
 .left;simp only[A];rfl
 .right;generalize CM (λx=>x.kind == 1) 1 t.tail = r at A D N;have hk:(rv t r).kind = 1:=by simpa using N
  have n1:=T.n1;have hb:=Br (r:=r) Z Z;have R:=T.row r A D;have H:∀s:Int,1<=s->s < t.length->¬ ((rv t s).kind = 2/\(rv t s).AX = o):=by
   intro s j y O;rcases GC (λx=>x.kind == 2 && x.AX == o) t with ⟨_,g⟩ | ⟨g,_,_⟩
   .have:=g s j y;simp[O.1,O.2] at this
   .unfold own at Q;omega
  have K:=R.fr hk;refine⟨_,_,by dsimp only;rw[if_neg Z,hb],?_⟩;have gs:∀s,0<=s->rv (AU t r ⟨2,o,16 * r,16 * r,0⟩) s = if s = r then ⟨2,o,16 * r,16 * r,0⟩ else rv t s:=λs j=>DV Z D j
  have G:16 * r / 16 = r:=Z
  have a4:=R.s0;have a5:=R.s1;have a2:=R.l0;have a3:=R.l1;refine⟨?_,V,by rw[hb];omega,?_,?_,?_,by rw[hb];omega,?_,?_,?_,?_,?_⟩
  .refine T.set A D ⟨V,V,by exact eQ _,?_,by exact eQ _,by exact eQ _,V,?_,?_,?_,?_,o1⟩ λs j y a1 ho he=>?_
   .show 16 * r<=16 * r + 16;omega
   .show 0<=16 * r - 16 * r;omega
   .intro h;cases h
   .exact⟨λ_=>o0,λ_=>rfl⟩
   .show -1<=o;omega
   .have:=(T.row s j y).ow.2 (by rw[he];exact o0);exact H s j y ⟨this,he⟩
  .rw[hb,G,gs r Z,if_pos rfl]
  .rw[hb,G,gs r Z,if_pos rfl]
  .rw[hb,G,gs r Z,if_pos rfl]
  .intro s j;rw[gs s j];split
   .subst s;exact K.symm
   .rfl
  .intro s j;rw[gs s j];split
   .subst s;simp only[];omega
   .rfl
  .intro s j;rw[gs s j];split
   .subst s;simp only[];omega
   .rfl
  .intro s j;rw[gs s j];split
   .subst s;simp only[];omega
   .exact Iff.rfl
  .intro s j a0 ho;rw[gs s j];split
   .subst s;omega
   .rfl
theorem GG {t:List Rg} {o size:Int} (T:TOk t) (o0:0<=o) (o1:o<=3) (s0:1<=size) (s1:size<=16):BZ t o size = none\/∃O d,BZ t o size = some (O,d)/\UT t o size O d:=by
 unfold BZ;rw[if_pos (by simp[Bj.2 T,o0,o1,s0,s1])];have n1:=T.n1;dsimp only;rcases GC (λx=>x.kind == 2 && x.AX == o) t with ⟨D,y⟩ | ⟨D,y,G⟩
 .have H:own t o = -1:=D;rw[H];rw[if_neg Z];rcases OC (size:=size) T o0 o1 (by rw[H];omega) s1 with h | ⟨O,r,h,hr⟩
  .left;simp only[h]
  .right;simp only[h];exact⟨_,_,rfl,hr⟩
 .have H:own t o = CM (λx=>x.kind == 2 && x.AX == o) 1 t.tail:=rfl;rw[<- H] at D y G;generalize own t o = r at D y G;simp only[z_b,beq_iff_eq] at G;have R:=T.row r D y;have hb:=Br (r:=r) Z Z;rw[if_pos Z,Cz Z y];dsimp only;rw[hb];by_cases W:(rv t r).top + size<=16 * r + 16
  .right;have t0:=R.t0;have N:(rv t r).top / 16 = r:=Z
   refine⟨_,_,by rw[if_pos W],T,rfl,Z,by rw[N];exact G.1,by rw[N];exact G.2,by rw[N],by rw[N];exact W,λ_ _=>rfl,λ_ _=>rfl,λ_ _=>rfl,λ_ _=>Iff.rfl,λ_ _ _ _=>rfl⟩
  .rw[if_neg W];have Q:Co t r = some (AU t r { rv t r with kind:=3,AX:=-1 }):=by
    unfold Co;rw[if_pos (by simp[Bj.2 T,D]),Cz Z y];dsimp only;rw[if_pos (by simpa using G.1)]
   rw[Q];simp only[eR];have gs:∀s,0<=s->rv (AU t r { rv t r with kind:=3,AX:=-1 }) s = if s = r then { rv t r with kind:=3,AX:=-1 } else rv t s:=λs j=>DV Z y j
   have T2:TOk (AU t r { rv t r with kind:=3,AX:=-1 }):=by
    refine T.set D y ⟨V,V,R.t0,R.t1,R.s0,R.s1,R.l0,R.l1,?_,?_,V,V⟩ λs j a1 A H he=>?_
    .intro h;cases h
    .simp
    .simp at H
   have a0:own (AU t r { rv t r with kind:=3,AX:=-1 }) o < 0:=by
    rcases GC (λx=>x.kind == 2 && x.AX == o) (AU t r { rv t r with kind:=3,AX:=-1 }) with ⟨g,_⟩ | ⟨g1,g2,g3⟩
    .unfold own;rw[g];decide
    .exfalso;generalize CM (λx=>x.kind == 2 && x.AX == o) 1 (AU t r { rv t r with kind:=3,AX:=-1 }).tail = s at g1 g2 g3;rw[gs s Z] at g3;simp only[DO] at g2;by_cases c:s = r
     .rw[if_pos c] at g3;simp at g3
     .rw[if_neg c] at g3;simp only[z_b,beq_iff_eq] at g3;exact c (T.own s r g1 g2 D y (by rw[g3.2];exact o0) (by rw[g3.2,G.2]))
   rcases OC (size:=size) T2 o0 o1 a0 s1 with h | ⟨O,u,h,hr⟩
   .left;simp only[h]
   .right;simp only[h];refine⟨_,_,rfl,hr.ok,by rw[hr.len];simp,hr.d0,hr.dk,hr.do_,hr.dt,hr.fit,λs j=>?_,λs j=>?_,λs j=>?_,λs j=>?_,λs j hk K=>?_⟩
    .rw[hr.top s j,gs s j];split
     .subst s;rfl
     .rfl
    .rw[hr.BH s j,gs s j];split
     .subst s;rfl
     .rfl
    .rw[hr.AJ s j,gs s j];split
     .subst s;rfl
     .rfl
    .rw[hr.frm s j,gs s j];split
     .subst s;simp only[];omega
     .exact Iff.rfl
    .have A:s≠r:=by intro c;subst c;exact K G.2
     have:=hr.oth s j (by rw[gs s j,if_neg A];exact hk) (by rw[gs s j,if_neg A];exact K);rw[this,gs s j,if_neg A]
end Sm
end
section
namespace Go.Lf
open Go Sm
def Ro (f:Nat) (args:List Value) (v:Value) (R:RM) (D:Chs):Prop:=Fn P f args R D λv' _ A=>v' = v/\A = D
theorem jro {f:Nat} {j:List Value} {v:Value} {R:RM} {D:Chs} {k:Value->M} (G:Ro f j v R D) (H:J R D (k v)):J R D (CA P f j k):=by
 intro h K;refine Fq ?_ (G [] h (by simpa using K));rintro Q x ⟨O,N,y,A,rfl,rfl⟩;exact H x (by simpa using A.le y)
theorem B9 {v j : Value} {R:RM} {D E G F:Chs} (y:j = v) [s:Sp G (D ++ F) E]:J R G (Fj R F (λj _ A=>j = v/\A = D) j):=by
 intro h x;refine⟨R,D,RM.le.refl R,((x.perm s.p).keep),y,rfl⟩
theorem jln {R:RM} {D:Chs} {a:Option Addr} {n c:Nat} {k:Value->M} (H:J R D (k (I n))):J R D (LN (.slice a n c) k):=H
def Or2 (c u:Value) (v:Bool):Prop:=∀k:Value->M,zP c u k = k (.bool v)
def GW (c u:Value) (v:Bool):Prop:=∀k:Value->M,zA c u k = k (.bool v)
theorem DQ {u:Value}:Or2 (.bool true) u true:=λ_=>rfl
theorem Bn {b:Bool}:Or2 (.bool false) (.bool b) b:=λ_=>rfl
theorem Bm {b:Bool}:GW (.bool true) (.bool b) b:=λ_=>rfl
theorem Bu {u:Value}:GW (.bool false) u false:=λ_=>rfl
section ways
variable {R:RM} {D:Chs} {K' : List Value->M} {pre:List Value} {acc new:Bool} {S T:M}
theorem jgO (j:∀c u w,Or2 c u w->w = (acc || new)->J R D (K' (pre ++ [c,u]))) (H:acc = false->J R D (K' (pre ++ [.bool acc,.bool new]))->J R D S) (x:K' (pre ++ [.bool acc,U]) = T:=by rfl):J R D (GT (.bool acc) false S T):=by
 subst x;cases acc
 .exact H rfl (j _ _ _ Bn rfl)
 .exact j _ _ _ DQ rfl
theorem jgA (j:∀c u w,GW c u w->w = (acc && new)->J R D (K' (pre ++ [c,u]))) (H:acc = true->J R D (K' (pre ++ [.bool acc,.bool new]))->J R D S) (x:K' (pre ++ [.bool acc,U]) = T:=by rfl):J R D (GT (.bool acc) true S T):=by
 subst x;cases acc
 .exact j _ _ _ Bu rfl
 .exact H rfl (j _ _ _ Bm rfl)
end ways
section cuts
variable {R:RM} {D:Chs} {lv:List Nat} {B:(List Value->M)->M} {K:Env->M}
theorem jor (pre:List Value) (v:Bool) (y:∀K' : List Value->M,(∀c u w,Or2 c u w->w = v->J R D (K' (pre ++ [c,u])))->J R D (B K')) (A:∀e c u,Or2 c u v->lv.map e = pre ++ [c,u]->J R D (K e)):J R D (CUT lv B K):=
 Ab (λT x j=>x = R/\j = D/\∃c u,T = pre ++ [c,u]/\Or2 c u v) (λK' h=>y K' λc u w hc Q=>h _ _ _ ⟨rfl,rfl,c,u,rfl,Q▸hc⟩) λe x j ⟨G,H,c,u,N,O⟩=>by
  subst G H;exact A e c u O N
theorem jan (pre:List Value) (v:Bool) (y:∀K' : List Value->M,(∀c u w,GW c u w->w = v->J R D (K' (pre ++ [c,u])))->J R D (B K')) (A:∀e c u,GW c u v->lv.map e = pre ++ [c,u]->J R D (K e)):J R D (CUT lv B K):=
 Ab (λT x j=>x = R/\j = D/\∃c u,T = pre ++ [c,u]/\GW c u v) (λK' h=>y K' λc u w hc Q=>h _ _ _ ⟨rfl,rfl,c,u,rfl,Q▸hc⟩) λe x j ⟨G,H,c,u,N,O⟩=>by
  subst G H;exact A e c u O N
theorem Bk (pre:List Value) (y:∀K' : List Value->M,J R D (K' pre)->J R D (B K')) (A:∀e,lv.map e = pre->J R D (K e)):J R D (CUT lv B K):=
 Ab (λO x j=>x = R/\j = D/\O = pre) (λK' h=>y K' (h _ _ _ ⟨rfl,rfl,rfl⟩)) λe x j ⟨G,H,N⟩=>by
  subst G H;exact A e N
end cuts
theorem CF {t:List Rg} {sp:List Value} {i:Nat} (h:i < t.length) {f:Nat} {v:Value} (x:(eRg (t[i]))[f]? = some v):(Af eRg t ++ sp)[i * 5 + f]? = some v:=by
 have:=Dc (f:=eRg) (w:=5) (λ_=>rfl) (sp:=sp) h;have j:=congrArg (λl=>l[f]?) this;simp only[ff,fJ] at j;have y:f < 5:=by
  by_cases c:f < 5
  .exact c
  .have:(eRg (t[i]))[f]? = none:=fG (by show 5<=f;omega);rw[this] at x;cases x
 rw[if_pos y] at j;rw[j,x]
theorem Fs {t:List Rg} {sp:List Value} {i:Nat} (h:i < t.length):i * 5 + 5<=(Af eRg t ++ sp).length:=by
 rw[de,DW (w:=5) (λ_=>rfl)];omega
section AA
variable {t:List Rg} {sp:List Value} {b cap:Nat} {R:RM} {D:Chs}
theorem Ua (AX:Int) (hl:t.length < 1000000) [a:At D b (C AS (Af eRg t ++ sp))]:Ro OY [S0 b t.length cap,I AX] (I (own t AX)) R D:=by
 refine VZ λF=>?_
 refine z_2 ?_;have ex:=GC (λx=>x.kind == 2 && x.AX == AX) t;refine jlp (λn Q H G=>H = R/\G = D ++ F/\∃r:Nat,1<=r/\r<=t.length + 1/\Q = [S0 b t.length cap,I AX,I r]/\n = t.length + 1 - r/\own t AX = CM (λx=>x.kind == 2 && x.AX == AX) r (t.drop r))
  (n:=t.length) ⟨rfl,rfl,1,Z,Z,rfl,Z,by rw[own,List.drop_one]⟩ ?_
 rintro n e H G K ⟨rfl,rfl,r,r0,W,he,T,j⟩ O;refine z_V ?_;refine jln (jlt (jif (λhc=>?_) (λhc=>?_)))
 .have hc:r < t.length:=by have:=z_f hc;omega
  have hd:t.drop r = t[r] :: t.drop (r + 1):=dq hc;rw[hd] at j;simp only[CM] at j;refine jan [S0 b t.length cap,I AX,I r] (t[r].kind == 2 && t[r].AX == AX) (λK' A=>?_) (λe c u N he=>?_)
  .refine jia Z Z (jl (v:=I t[r].kind) ?_ (jeq (Dl (λy=>?_) (λy=>?_))))
   .rw[eH];exact CF hc rfl
   .refine jia Z Z (jl ?_ (jeq (A _ _ _ (y▸Bm) (by rw[y,f7]))));rw[eH];exact CF hc rfl
   .exact A _ _ _ (y▸Bu) (by rw[y,fM])
  .refine z_V ?_;rw[N];refine jif (λh=>?_) (λh=>?_)
   .rw[if_pos h] at j;exact B9 (by rw[j])
   .rw[if_neg (by rw[h];decide)] at j;refine jad (O (t.length + 1 - (r + 1)) _ _ _ Z ⟨rfl,rfl,r + 1,Z,Z,rfl,rfl,j⟩)
 .have hc:¬ r < t.length:=by have:=z_g hc;omega
  rw[dv Z] at j;exact B9 (by rw[j];rfl)
end AA
section AA
variable {t:List Rg} {sp:List Value} {b cap:Nat} {R:RM} {D:Chs}
theorem EL {t:List Rg} {r:Nat} (h:r < t.length):rv t r = t[r]:=Gd h
theorem FM (hl:t.length < 1000000) [a:At D b (C AS (Af eRg t ++ sp))]:Ro Ka [S0 b t.length cap] (.bool (BR t)) R D:=by
 refine QL λF=>?_
 refine z_1 ?_;have a2:(TOk t->False)->Value.bool false = Value.bool (BR t):=λh=>by
  cases hh:BR t
  .rfl
  .exact (h (Bj.1 hh)).elim
 refine jor [S0 b t.length cap] (decide ((t.length:Int) < 2) || decide ((t.length:Int) > 12)) (λK' j=>?_) (λe c u A he=>?_)
 .refine jln (jlt (jgO j λx G=>jln (jgr G)))
 refine z_V ?_;refine jor [S0 b t.length cap] ((decide ((t.length:Int) < 2) || decide ((t.length:Int) > 12)) || !(rv t 0 == Dm)) (λK' j=>?_) (λe c u A he=>?_)
 .rw[A];refine F6 (λx=>?_) (λx=>?_)
  .have y:=x;simp only[eF,decide_eq_false_iff_not] at y;have h0:0 < t.length:=Z
   refine jia Z Z (jla (Fs h0) (Dc (w:=5) (λ_=>rfl) h0) (jbd (cs:=[I 0,I (-1),I 0,I 0,I 0]) rfl rfl ?_));have ee:[I 0,I (-1),I 0,I 0,I 0] = eRg Dm:=rfl;rw[ee];refine @an (t[0]) Dm _ _ _ _ _ (j _ _ _ (x▸Bn) ?_);rw[x,fH,show rv t 0 = t[0] from EL h0]
  .exact j _ _ _ (x▸DQ) (by rw[x,gB])
 refine z_V ?_;rw[A];refine jif (λh0=>?_) (λh0=>?_)
 .refine B9 (a2 λT=>?_);have n0:=T.n0;have n1:=T.n1;have e:=T.e;simp only[eN,z_d,eL,beq_eq_false_iff_ne] at h0;rcases h0 with (h | h) | h
  .omega
  .omega
  .exact h e
 simp only[eF,decide_eq_false_iff_not,ei,beq_iff_eq] at h0;obtain⟨⟨n0,n1⟩,a3⟩:=h0;refine jlp (λn vs R' D'=>R' = R/\D' = D ++ F/\∃r:Nat,1<=r/\r<=t.length/\vs = [S0 b t.length cap,I r]/\n = t.length - r/\(∀k:Nat,1<=k->k < r->LF k (rv t k)/\∀m:Nat,1<=m->m < k->0<=(rv t k).AX->(rv t m).AX≠(rv t k).AX))
  ⟨rfl,rfl,1,Z,Z,rfl,rfl,λk x h2=>Z⟩ ?_
 rintro n e R' D' K ⟨rfl,rfl,r,r0,hr,he,hn,O⟩ hK;refine z_V ?_;refine jln (jlt (jif (λhc=>?_) (λhc=>?_)));rotate_left
 .have hc:=z_g hc;refine B9 ?_;rw[Bj.2 ⟨Z,Z,a3,λq q0 q1=>?_,λq s q0 q1 s0 s1 Q a0=>?_⟩]
  .have:=(O q.toNat Z Z).1;rwa [show ((q.toNat:Nat):Int) = q from Z] at this
  .have x:=(O q.toNat Z Z).2 s.toNat Z;have h2:=(O s.toNat Z Z).2 q.toNat Z;rw[show ((q.toNat:Nat):Int) = q from Z,show ((s.toNat:Nat):Int) = s from Z] at x h2;rcases Int.lt_trichotomy q s with c | c | c
   .exact absurd a0 (h2 Z (by rw[<- a0];exact Q))
   .exact c
   .exact absurd a0.symm (x Z Q)
 have hc:=z_f hc;have a5:r < t.length:=Z
 have H:=EL a5;have hb:=Br (r:=(r:Int)) Z Z;refine Ab (λvs R2 D2=>R2 = R'/\D2 = D ++ F/\vs = [S0 b t.length cap,I r]/\LF r (rv t r)/\∀m:Nat,1<=m->m < r->0<=(rv t r).AX->(rv t m).AX≠(rv t r).AX) (λK2 a8=>?_) ?_;rotate_left
 .rintro e _ _ ⟨rfl,rfl,he,a1,W⟩;refine z_V ?_;refine jad (hK (t.length - (r + 1)) _ _ _ Z ⟨rfl,rfl,r + 1,Z,Z,rfl,rfl,λk k1 k2=>?_⟩);by_cases c:k = r
  .subst c;exact⟨a1,W⟩
  .exact O k k1 Z
 refine jcI a8 λK3 a9=>?_
 refine jia Z Z (jla (l:=eRg (t[r])) (by rw[eH];exact Fs a5) (by rw[eH];exact Dc (w:=5) (λ_=>rfl) a5) (ja λN=>(js rfl rfl V rfl (jp (Bf r) ?_))));rw[hb];refine jor [S0 b t.length cap,I r,Pt N,I (16 * (r:Int))] (decide (t[r].kind < 1) || decide (t[r].kind > 4)) (λK' j=>?_) (λe c u A he=>?_)
 .refine jl rfl (jlt (jgO j λx G=>?_));have y:=x;simp only[eF,decide_eq_false_iff_not] at y;refine jl rfl (jgr G)
 refine z_V ?_;refine jor [S0 b t.length cap,I r,Pt N,I (16 * (r:Int))] ((decide (t[r].kind < 1) || decide (t[r].kind > 4)) || decide (t[r].top < 16 * r)) (λK' j=>?_) (λe c u A he=>?_)
 .rw[A];refine jgO j λx G=>?_
  have y:=x;simp only[eF,decide_eq_false_iff_not] at y;refine jl rfl (jlt G)
 refine z_V ?_;refine jor [S0 b t.length cap,I r,Pt N,I (16 * (r:Int))] (((decide (t[r].kind < 1) || decide (t[r].kind > 4)) || decide (t[r].top < 16 * r)) || decide (t[r].top > 16 * r + 16)) (λK' j=>?_) (λe c u A he=>?_)
 .rw[A];refine jgO j λx G=>?_
  have y:=x;simp only[eF,decide_eq_false_iff_not] at y;refine jl rfl (jad (jgr G))
 refine z_V ?_;refine jor [S0 b t.length cap,I r,Pt N,I (16 * (r:Int))] ((((decide (t[r].kind < 1) || decide (t[r].kind > 4)) || decide (t[r].top < 16 * r)) || decide (t[r].top > 16 * r + 16)) || decide (t[r].BH < 16 * r)) (λK' j=>?_) (λe c u A he=>?_)
 .rw[A];refine jgO j λx G=>?_
  have y:=x;simp only[eF,decide_eq_false_iff_not] at y;refine jl rfl (jlt G)
 refine z_V ?_;refine jor [S0 b t.length cap,I r,Pt N,I (16 * (r:Int))] (((((decide (t[r].kind < 1) || decide (t[r].kind > 4)) || decide (t[r].top < 16 * r)) || decide (t[r].top > 16 * r + 16)) || decide (t[r].BH < 16 * r)) || decide (t[r].BH > t[r].top)) (λK' j=>?_) (λe c u A he=>?_)
 .rw[A];refine jgO j λx G=>?_
  have y:=x;simp only[eF,decide_eq_false_iff_not] at y;refine jl rfl (jl rfl (jgr G))
 refine z_V ?_;refine jor [S0 b t.length cap,I r,Pt N,I (16 * (r:Int))] ((((((decide (t[r].kind < 1) || decide (t[r].kind > 4)) || decide (t[r].top < 16 * r)) || decide (t[r].top > 16 * r + 16)) || decide (t[r].BH < 16 * r)) || decide (t[r].BH > t[r].top)) || decide (t[r].AJ < 0)) (λK' j=>?_) (λe c u A he=>?_)
 .rw[A];refine jgO j λx G=>?_
  have y:=x;simp only[eF,decide_eq_false_iff_not] at y;refine jl rfl (jlt G)
 refine z_V ?_;refine jor [S0 b t.length cap,I r,Pt N,I (16 * (r:Int))] (((((((decide (t[r].kind < 1) || decide (t[r].kind > 4)) || decide (t[r].top < 16 * r)) || decide (t[r].top > 16 * r + 16)) || decide (t[r].BH < 16 * r)) || decide (t[r].BH > t[r].top)) || decide (t[r].AJ < 0)) || decide (t[r].AJ > t[r].top - 16 * r)) (λK' j=>?_) (λe c u A he=>?_)
 .rw[A];refine jgO j λx G=>?_
  have y:=x;simp only[eF,decide_eq_false_iff_not] at y;refine jl rfl (jl rfl (jsu (jgr G)))
 refine z_V ?_;rw[A];refine jif (λh0=>?_) (λh0=>?_)
 .refine BT (B9 (a2 λT=>?_));have P:=T.row r Z Z;rw[H] at P;obtain⟨p1,p2,p3,p4,p5,p6,p7,p8,_⟩:=P;simp only[eN,z_d] at h0;omega
 simp only[eF,decide_eq_false_iff_not] at h0;obtain⟨⟨⟨⟨⟨⟨⟨q1,q2⟩,q3⟩,q4⟩,q5⟩,q6⟩,q7⟩,q8⟩:=h0;refine jan [S0 b t.length cap,I r,Pt N] (t[r].kind == 1 && t[r].top != 16 * (r:Int)) (λK' j=>?_) (λe c u A he=>?_)
 .refine jl rfl (jeq (jgA j λx G=>jl rfl (jne G)))
 refine z_V ?_;rw[A];refine jif (λh0=>?_) (λh0=>?_)
 .refine BT (B9 (a2 λT=>?_));have P:=T.row r Z Z;rw[H] at P;have p9:=P.fr;simp only[z_b,beq_iff_eq,bne_iff_ne,ne_eq] at h0;exact h0.2 (p9 h0.1)
 have b1:t[r].kind = 1->t[r].top = 16 * r:=λhk=>by
  simp only[hk,beq_self_eq_true,f7,bne_eq_false_iff_eq] at h0;exact h0
 clear h0;refine jor [S0 b t.length cap,I r,Pt N] (((t[r].kind == 2) != decide (t[r].AX>=0)) || decide (t[r].AX < -1)) (λK' j=>?_) (λe c u A he=>?_)
 .refine jl rfl (jeq (jl rfl (jge ?_)));refine @jxb (t[r].kind == 2) (decide (t[r].AX>=0)) _ _ _ _ _ ?_;refine jgO j λx G=>jl rfl (jlt G)
 refine z_V ?_;refine jor [S0 b t.length cap,I r,Pt N] ((((t[r].kind == 2) != decide (t[r].AX>=0)) || decide (t[r].AX < -1)) || decide (t[r].AX > 3)) (λK' j=>?_) (λe c u A he=>?_)
 .rw[A];refine jgO j λx G=>jl rfl (jgr G)
 refine z_V ?_;rw[A];have a7:((t[r].kind == 2) != decide (t[r].AX>=0)) = false↔(t[r].kind = 2↔0<=t[r].AX):=by
  rw[bne_eq_false_iff_eq,fL];simp
 refine jif (λh0=>?_) (λh0=>?_)
 .refine BT (B9 (a2 λT=>?_));have P:=T.row r Z Z;rw[H] at P;rw[a7.2 P.ow] at h0;have o0:=P.o0;have o1:=P.o1;simp only[fH,eN,z_d] at h0;omega
 simp only[eF,decide_eq_false_iff_not] at h0;obtain⟨⟨w1,w2⟩,w3⟩:=h0;have a1:LF r (rv t r):=by
  rw[H];exact⟨Z,Z,Z,Z,Z,Z,Z,Z,b1,a7.1 w1,Z,Z⟩
 refine Ab (λvs R2 D2=>R2 = R'/\D2 = (N,C AS (eRg (t[r]))) :: (D ++ F)/\vs = [S0 b t.length cap,I r]/\∀m:Nat,1<=m->m < r->0<=(rv t r).AX->(rv t m).AX≠(rv t r).AX) (λK4 b0=>?_) ?_;rotate_left
 .rintro e _ _ ⟨rfl,rfl,he,W⟩;refine z_V ?_;exact BT (a9 _ _ _ ⟨rfl,rfl,rfl,a1,W⟩)
 refine jlp (λn vs R2 D2=>R2 = R'/\D2 = (N,C AS (eRg (t[r]))) :: (D ++ F)/\∃k:Nat,1<=k/\k<=r/\vs = [S0 b t.length cap,I r,Pt N,I k]/\n = r - k/\∀m:Nat,1<=m->m < k->0<=(rv t r).AX->(rv t m).AX≠(rv t r).AX)
  ⟨rfl,rfl,1,Z,Z,rfl,rfl,λm x h2=>Z⟩ ?_
 rintro n e _ _ K' ⟨rfl,rfl,k,k0,k1,he,hn,W⟩ j;refine z_V ?_;refine jlt (jif (λhd=>?_) (λhd=>?_));rotate_left
 .have hd:=z_g hd;exact b0 _ _ _ ⟨rfl,rfl,rfl,λm x h2=>W m x Z⟩
 have hd:=z_f hd;have a4:k < t.length:=Z
 refine jan [S0 b t.length cap,I r,Pt N,I k] (decide (t[r].AX>=0) && t[k].AX == t[r].AX) (λK5 a6=>?_) (λe c u A he=>?_)
 .refine jl rfl (jge (Dl (λx=>?_) (λx=>?_)))
  .refine jia Z Z (jl (by rw[eH];exact CF a4 rfl) (jl rfl (jeq (a6 _ _ _ (x▸Bm) (by rw[x,f7])))))
  .exact a6 _ _ _ (x▸Bu) (by rw[x,fM])
 refine z_V ?_;rw[A];refine jif (λh0=>?_) (λh0=>?_)
 .refine BT (B9 (a2 λT=>?_));simp only[z_b,z_d,beq_iff_eq] at h0;have:=T.own r k Z Z Z Z (by rw[H];exact h0.1) (by rw[H,EL a4];exact h0.2.symm);omega
 refine jad (j (r - (k + 1)) _ _ _ Z ⟨rfl,rfl,k + 1,Z,Z,rfl,rfl,λm x h2 Q=>?_⟩);by_cases c:m = k
 .subst c;rw[H] at Q ⊢;rw[EL a4];intro a0;simp[a0,Q] at h0
 .exact W m x Z Q
end AA
def Mk (f:Nat) (args:List Value) (R:RM) (D:Chs) (q:Value->Chs->Prop):Prop:=Fn P f args R D λv _ A=>∃N,A = N ++ D/\q v N
theorem jmk {f:Nat} {j:List Value} {R:RM} {D:Chs} {q:Value->Chs->Prop} {k:Value->M} (G:Mk f j R D q) (H:∀v N,q v N->J R (N ++ D) (k v)):J R D (CA P f j k):=by
 intro h O;refine Fq ?_ (G [] h (by simpa using O));rintro Q x ⟨W,T,y,A,N,rfl,K⟩;exact H Q N K x (by simpa using A.le y)
theorem DT {v:Value} {R:RM} {D E G F:Chs} {q:Value->Chs->Prop} (N:Chs) (K:q v N) [s:Sp G N E] [x:Sf E (D ++ F)]:J R G (Fj R F (λv _ A=>∃N,A = N ++ D/\q v N) v):=by
 intro h H;obtain⟨X,y⟩:=x.p;refine⟨R,N ++ D,RM.le.refl R,?_,N,rfl,K⟩;have j:=H.perm s.p;subst y;have:St h R (X ++ (N ++ D ++ F)):=j.perm (by
  rw[dm N D F,<- dm N X,<- dm X N]
  exact gX _ fO)
 exact this.drop
theorem jex {R:RM} {D:Chs} {i:Nat} {j:Array Value} {v:Value} {k:Value->M} (h:j.toList[i]? = some v) (H:J R D (k v)):J R D (EX i (.tuple j) k):=by
 have e:EX i (.tuple j) k = k v:=by simp only[EX,h]
 rw[e];exact H
theorem CC {R:RM} {D:Chs} {k:Value->M} {n b j len x r:Nat} (h:r < len) (H:J R D (k (.pointer (some ⟨b,j + r * n,none⟩)))):J R D (IA n (.slice (some ⟨b,j,none⟩) len x) (I (r:Int)) k):=
 jia Z Z (by rw[da];exact H)
def Yv (t:List Rg) (v:Value) (N:Chs):Prop:=∃b c sp,t.length<=c/\v = S0 b t.length c/\N = [(b,C AS (Af eRg t ++ sp))]
def Zb (r:Option (List Rg × Int)) (v:Value) (N:Chs):Prop:=match r with
 | none=>v = .tuple #[SN,I 0,.bool false]/\N = []
 | some (t',i)=>∃sv,Yv t' sv N/\v = .tuple #[sv,I i,.bool true]
def Zg (r:Option (List Rg)) (v:Value) (N:Chs):Prop:=match r with
 | none=>v = .tuple #[SN,.bool false]/\N = []
 | some t'=>∃sv,Yv t' sv N/\v = .tuple #[sv,.bool true]
theorem HA {t:List Rg} {sp:List Value} {b i:Nat} {x:Rg} {R:RM} {D D' : Chs} {m:M} (j:i < t.length) [a:At D b (C AS (Af eRg t ++ sp))] [u:Up D b (C AS (Af eRg t ++ sp)) (C AS (Af eRg (t.set i x) ++ sp)) D'] (H:J R D' m):J R D (ST 5 (.pointer (some ⟨b,0 + i * 5,none⟩)) (.agg (eRg x).toArray) m):=by
 rw[eH];exact js rfl rfl (Fs j) (OB (w:=5) (λ_=>rfl) j) H
theorem O6 {t:List Rg} {sp:List Value} {b i:Nat} {R:RM} {D:Chs} {k:Value->M} (j:i < t.length) [a:At D b (C AS (Af eRg t ++ sp))] (H:J R D (k (.agg (eRg (t[i])).toArray))):J R D (LA 5 (.pointer (some ⟨b,0 + i * 5,none⟩)) k):=by
 rw[eH];exact jla (Fs j) (Dc (w:=5) (λ_=>rfl) j) H
section AA
variable {t:List Rg} {sp:List Value} {b cap:Nat} {R:RM} {D:Chs}
theorem GB (hl:t.length < 1000000) [a:At D b (C AS (Af eRg t ++ sp))]:Mk Le [S0 b t.length cap] R D (Yv t):=by
 refine TC λF=>?_
 refine z_1 ?_;have j:=DW (f:=eRg) (w:=5) (λ_=>rfl) t;refine jbs (cs:=[]) rfl rfl λx=>?_
 have A:BY R ((x,C 113 []) :: (D ++ F)) (some ⟨b,0,none⟩) (t.length * 5) (Af eRg t):=by
  have:=BY.held (R:=R) (D:=(x,C 113 []) :: (D ++ F)) (b:=b) (o:=0) (n:=t.length * 5) (by simp[j]);rw[fk,fK Z,<- j,List.take_length] at this;rw[<- j];exact this
 refine Ww A δ Z (λ_=>rfl) (λh0=>?_) (λy c hc=>?_)
 .have G:t = []:=eV.1 h0;subst G;exact DT [(x,C 113 [])] ⟨x,0,[],z_n _,rfl,rfl⟩
 .exact DT [(y,C 113 (Af eRg t ++ (List.replicate (c - t.length) (cl cE)).flatten))] ⟨y,c,_,hc,rfl,rfl⟩
theorem KT (AX:Int) (hl:t.length < 1000000) [a:At D b (C AS (Af eRg t ++ sp))]:Mk IP [S0 b t.length cap,I AX] R D (Zb (CX t AX)):=by
 refine Ns λF=>?_
 refine z_2 ?_;refine jor [S0 b t.length cap,I AX] (!BR t || decide (AX < 0)) (λK' y=>?_) (λe c u G he=>?_)
 .refine jro (FM hl) (jgO y λh1 A=>jlt A)
 refine z_V ?_;refine jor [S0 b t.length cap,I AX] ((!BR t || decide (AX < 0)) || decide (AX > 3)) (λK' y=>?_) (λe c u G he=>?_)
 .rw[G];refine jgO y λh1 A=>jgr A
 refine z_V ?_;refine jor [S0 b t.length cap,I AX] (((!BR t || decide (AX < 0)) || decide (AX > 3)) || decide (own t AX>=0)) (λK' y=>?_) (λe c u G he=>?_)
 .rw[G];refine jgO y λh1 A=>jro (Ua AX hl) (jge A)
 refine z_V ?_;rw[G];refine jif (λh0=>?_) (λh0=>?_)
 .refine DT [] ?_;have:CX t AX = none:=by
   unfold CX;rw[if_neg];intro hh;simp only[eN,eL,z_d,z_b] at h0 hh;rcases h0 with ((h | h) | h) | h
   .rw[hh.1.1.1] at h;cases h
   .omega
   .omega
   .omega
  rw[this];exact⟨rfl,rfl⟩
 simp only[eF,ei,decide_eq_false_iff_not] at h0;obtain⟨⟨⟨H,h2⟩,h3⟩,h4⟩:=h0;have n1:=(Bj.1 H).n1;have eq:CX t AX = (let i:=CM (λx=>x.kind == 1) 1 t.tail;if i < 0 then none else some (AU t i ⟨2,AX,AK i,AK i,0⟩,i)):=by
  unfold CX;rw[if_pos (by simp[H];omega)]
 refine Ab (λvs Q O=>Q = R/\O = D ++ F/\vs = []/\CX t AX = none) (λK2 T=>?_) ?_;rotate_left
 .rintro e _ _ ⟨rfl,rfl,-,hn⟩;exact DT [] (by rw[hn];exact⟨rfl,rfl⟩)
 refine jlp (λn vs Q O=>Q = R/\O = D ++ F/\∃r:Nat,1<=r/\r<=t.length + 1/\vs = [S0 b t.length cap,I AX,I r]/\n = t.length + 1 - r/\CM (λx=>x.kind == 1) 1 t.tail = CM (λx=>x.kind == 1) r (t.drop r))
  (n:=t.length) ⟨rfl,rfl,1,Z,Z,rfl,Z,by rw[List.drop_one]⟩ ?_
 rintro n e Q O K ⟨rfl,rfl,r,r0,hr,he,hn,j⟩ hK;refine z_V ?_;refine jln (jlt (jif (λhc=>?_) (λhc=>?_)));rotate_left
 .have hc:=z_g hc;refine T _ _ _ ⟨rfl,rfl,rfl,?_⟩;rw[eq,j,dv Z];rfl
 have hc:r < t.length:=by have:=z_f hc;omega
 have hd:t.drop r = t[r] :: t.drop (r + 1):=dq hc;rw[hd] at j;simp only[CM] at j;refine jia Z Z (jl (by rw[eH];exact CF hc rfl) (jeq (jif (λh=>?_) (λh=>?_))))
 .rw[if_pos h] at j;refine jmk (GB hl) ?_;rintro _ _ ⟨b',c',N,W,rfl,rfl⟩;refine jp (Bf r) (jp (Bf r) (jbd rfl rfl (CC hc (HA (x:=⟨2,AX,AK r,AK r,0⟩) hc (DT [(b',C AS (Af eRg (t.set r ⟨2,AX,AK r,AK r,0⟩) ++ N))] ?_)))));rw[eq,j];simp only;rw[if_neg Z];refine⟨_,⟨b',c',N,?_,rfl,?_⟩,?_⟩
  .simpa [AU] using W
  .simp[AU]
  .simp
 .rw[if_neg (by rw[h];decide)] at j;refine jad (hK (t.length + 1 - (r + 1)) _ _ _ Z ⟨rfl,rfl,r + 1,Z,Z,rfl,rfl,j⟩)
end AA
section AA
variable {t:List Rg} {sp:List Value} {b cap:Nat} {R:RM} {D:Chs}
theorem PE (r:Int) (hl:t.length < 1000000) [a:At D b (C AS (Af eRg t ++ sp))]:Mk HV [S0 b t.length cap,I r] R D (Zg (Co t r)):=by
 refine M9 λF=>?_
 refine z_2 ?_;refine jor [S0 b t.length cap,I r] (!BR t || decide (r < 1)) (λK' j=>?_) (λe c u A he=>?_)
 .refine jro (FM hl) (jgO j λy K=>jlt K)
 refine z_V ?_;refine jor [S0 b t.length cap,I r] ((!BR t || decide (r < 1)) || decide (r>=t.length)) (λK' j=>?_) (λe c u A he=>?_)
 .rw[A];refine jgO j λy K=>jln (jge K)
 refine z_V ?_;refine jor [S0 b t.length cap,I r] (((!BR t || decide (r < 1)) || decide (r>=t.length)) || (rv t r).kind != 2) (λK' j=>?_) (λe c u A he=>?_)
 .rw[A];refine F6 (λy=>?_) (λy=>?_)
  .have H:=y;simp only[eF,decide_eq_false_iff_not] at H;obtain⟨k,rfl⟩:∃k:Nat,r = k:=⟨r.toNat,Z⟩;have x:k < t.length:=Z
   refine CC x (jl (by rw[eH];exact CF x rfl) (jne (j _ _ _ (y▸Bn) (by rw[y,fH,EL x]))))
  .exact j _ _ _ (y▸DQ) (by rw[y,gB])
 refine z_V ?_;rw[A];refine jif (λh0=>?_) (λh0=>?_)
 .refine DT [] ?_;have:Co t r = none:=by
   unfold Co;split
   .rename_i hh;simp only[eN,eL,z_d,z_b,bne_iff_ne,ne_eq] at h0 hh;by_cases c:r < t.length
    .rw[Cz Z c];simp only;rw[if_neg];intro T;rcases h0 with ((h | h) | h) | h
     .rw[hh.1] at h;cases h
     .omega
     .omega
     .exact h (by simpa using T)
    .unfold idx;rw[if_pos Z,fG Z]
   .rfl
  rw[this];exact⟨rfl,rfl⟩
 simp only[eF,ei,decide_eq_false_iff_not,bne_eq_false_iff_eq] at h0;obtain⟨⟨⟨O,T⟩,h3⟩,W⟩:=h0;obtain⟨k,rfl⟩:∃k:Nat,r = k:=⟨r.toNat,Z⟩;have x:k < t.length:=Z
 refine jmk (GB hl) ?_;rintro _ _ ⟨Q,c',G,N,rfl,rfl⟩;refine CC x (O6 x (ja λb2=>(js (cs':=eRg (t[k])) rfl rfl V rfl (js (cs':=eRg { t[k] with kind:=3 }) rfl rfl V rfl (js (cs':=eRg { t[k] with kind:=3,AX:=-1 }) rfl rfl V rfl (jla V rfl (CC x (HA x (DT [(Q,C AS (Af eRg (t.set k { t[k] with kind:=3,AX:=-1 }) ++ G))] ?_)))))))));have:Co t k = some (AU t k { t[k] with kind:=3,AX:=-1 }):=by
  unfold Co;rw[if_pos (by simp[O];omega),Cz Z Z,EL x];simp only;rw[EL x] at W;rw[if_pos (by simpa using W)]
 rw[this];exact⟨_,⟨Q,c',G,by simpa [AU] using N,rfl,by simp[AU]⟩,V⟩
theorem Kk (r:Int) (hl:t.length < 1000000) [a:At D b (C AS (Af eRg t ++ sp))]:Mk IC [S0 b t.length cap,I r] R D (Zg (CG t r)):=by
 refine Nu λF=>?_
 refine z_2 ?_;refine jor [S0 b t.length cap,I r] (!BR t || decide (r < 1)) (λK' j=>?_) (λe c u G he=>?_)
 .refine jro (FM hl) (jgO j λy N=>jlt N)
 refine z_V ?_;refine jor [S0 b t.length cap,I r] ((!BR t || decide (r < 1)) || decide (r>=t.length)) (λK' j=>?_) (λe c u G he=>?_)
 .rw[G];refine jgO j λy N=>jln (jge N)
 refine z_V ?_;refine jor [S0 b t.length cap,I r] (((!BR t || decide (r < 1)) || decide (r>=t.length)) || (rv t r).kind == 1) (λK' j=>?_) (λe c u G he=>?_)
 .rw[G];refine F6 (λy=>?_) (λy=>?_)
  .have K:=y;simp only[eF,decide_eq_false_iff_not] at K;obtain⟨k,rfl⟩:∃k:Nat,r = k:=⟨r.toNat,Z⟩;have A:k < t.length:=Z
   refine CC A (jl (by rw[eH];exact CF A rfl) (jeq (j _ _ _ (y▸Bn) (by rw[y,fH,EL A]))))
  .exact j _ _ _ (y▸DQ) (by rw[y,gB])
 refine z_V ?_;rw[G];refine jif (λh0=>?_) (λh0=>?_)
 .refine DT [] ?_;have:CG t r = none:=by
   unfold CG;split
   .rename_i W;simp only[eN,eL,z_d,z_b,beq_iff_eq] at h0 W;by_cases c:r < t.length
    .rw[Cz Z c];simp only;rcases h0 with ((h | h) | h) | h
     .rw[W.1] at h;cases h
     .omega
     .omega
     .rw[if_pos (by simpa using h)]
    .unfold idx;rw[if_pos Z,fG Z]
   .rfl
  rw[this];exact⟨rfl,rfl⟩
 simp only[eF,ei,decide_eq_false_iff_not,beq_eq_false_iff_ne] at h0;obtain⟨⟨⟨Q,h2⟩,h3⟩,h4⟩:=h0;obtain⟨k,rfl⟩:∃k:Nat,r = k:=⟨r.toNat,Z⟩;have A:k < t.length:=Z
 refine jmk (GB hl) ?_;rintro _ _ ⟨T,c',H,O,rfl,rfl⟩;refine jp (Bf k) (jp (Bf k) (jbd rfl rfl (CC A (HA (x:=Dn k) A (DT [(T,C AS (Af eRg (t.set k (Dn k)) ++ H))] ?_)))));have:CG t k = some (AU t k (Dn k)):=by
  unfold CG;rw[if_pos (by simp[Q];omega),Cz Z Z];simp only;rw[if_neg (by simpa using h4)]
 rw[this];exact⟨_,⟨T,c',H,by simpa [AU] using O,rfl,by simp[AU]⟩,V⟩
theorem HB (AX size:Int) (hl:t.length < 1000000) [a:At D b (C AS (Af eRg t ++ sp))]:Mk ID [S0 b t.length cap,I AX,I size] R D (Zb (BZ t AX size)):=by
 refine Nv λF=>?_
 refine z_3 ?_;refine jor [S0 b t.length cap,I AX,I size] (!BR t || decide (AX < 0)) (λK' j=>?_) (λe c u ho he=>?_)
 .refine jro (FM hl) (jgO j λh1 Q=>jlt Q)
 refine z_V ?_;refine jor [S0 b t.length cap,I AX,I size] ((!BR t || decide (AX < 0)) || decide (AX > 3)) (λK' j=>?_) (λe c u ho he=>?_)
 .rw[ho];refine jgO j λh1 Q=>jgr Q
 refine z_V ?_;refine jor [S0 b t.length cap,I AX,I size] (((!BR t || decide (AX < 0)) || decide (AX > 3)) || decide (size < 1)) (λK' j=>?_) (λe c u ho he=>?_)
 .rw[ho];refine jgO j λh1 Q=>jlt Q
 refine z_V ?_;refine jor [S0 b t.length cap,I AX,I size] ((((!BR t || decide (AX < 0)) || decide (AX > 3)) || decide (size < 1)) || decide (size > 16)) (λK' j=>?_) (λe c u ho he=>?_)
 .rw[ho];refine jgO j λh1 Q=>jgr Q
 refine z_V ?_;rw[ho];refine jif (λh0=>?_) (λh0=>?_)
 .refine DT [] ?_;have:BZ t AX size = none:=by
   unfold BZ;rw[if_neg];intro hh;simp only[eN,eL,z_d,z_b] at h0 hh;rcases h0 with (((h | h) | h) | h) | h
   .rw[hh.1.1.1.1] at h;cases h
   .omega
   .omega
   .omega
   .omega
  rw[this];exact⟨rfl,rfl⟩
 simp only[eF,ei,decide_eq_false_iff_not] at h0;obtain⟨⟨⟨⟨a1,h2⟩,h3⟩,h4⟩,h5⟩:=h0;have T:=Bj.1 a1;have n1:=T.n1;have eq:BZ t AX size = (match (if 0<=own t AX then idx t (own t AX) else none) with
  | some x=>if x.top + size<=AK (own t AX) + 16 then some (t,x.top) else
    (match CX ((Co t (own t AX)).getD []) AX with | some (u,n)=>some (u,AK n) | none=>none)
  | none=>(match CX t AX with | some (u,n)=>some (u,AK n) | none=>none)):=by
  unfold BZ;rw[if_pos (by simp[a1];omega)];rfl
 refine jro (Ua AX hl) ?_;have a4:own t AX < 0\/(1<=own t AX/\own t AX < t.length/\(rv t (own t AX)).kind = 2):=by
  rcases GC (λx=>x.kind == 2 && x.AX == AX) t with ⟨h,_⟩ | ⟨h,h',a2⟩
  .left;unfold own;rw[h];decide
  .right;simp only[z_b] at a2;exact⟨h,h',by have:=a2.1;exact eq_of_beq this⟩
 rcases a4 with a9 | ⟨hp,a8,a3⟩
 .have hb:decide (own t AX>=0) = false:=decide_eq_false Z;rw[if_neg Z] at eq;refine Ce (Ce (jge ?_));rw[hb];refine jft (C6 λe he=>?_);refine z_V ?_;refine jft (ER (Ak jev (C6 λe he=>?_)));refine z_V ?_;refine CK (jmk (GB hl) ?_);rintro _ _ ⟨b',c',O,W,rfl,rfl⟩;refine Ce (jge ?_);rw[hb];refine CK (C6 λe he=>?_);refine z_V ?_;refine jmk (KT AX hl) ?_;intro v N y;cases G:CX t AX with
  | none=>
   rw[G] at y eq;obtain⟨rfl,rfl⟩:=y;refine jex rfl (jex rfl (jex rfl (DJ (DT [] (by rw[eq];exact⟨rfl,rfl⟩)))))
  | some un=>
   obtain⟨u,n⟩:=un;rw[G] at y eq;obtain⟨sv,⟨b2,c2,H,a0,rfl,rfl⟩,rfl⟩:=y;refine jex rfl (jex rfl (jex rfl (CK (jp (Bf n) (DT [(b2,C AS (Af eRg u ++ H))] (by rw[eq];exact⟨_,⟨b2,c2,H,a0,rfl,rfl⟩,rfl⟩))))))
 .have hb:decide (own t AX>=0) = true:=decide_eq_true Z;have RR:=T.row _ hp a8;have t0:=RR.t0;have t1:=RR.t1;obtain⟨k,a7⟩:∃k:Nat,own t AX = k:=⟨(own t AX).toNat,Z⟩;rw[a7] at eq hb t0 t1 a3 ⊢;have K:k < t.length:=Z
  rw[EL K] at t0 t1;have a5:=Br (r:=(k:Int)) Z Z;rw[if_pos Z,Cz Z Z,EL K] at eq;simp only at eq;refine Ce (Ce (jge ?_));rw[hb];refine jtt (CC K (jl (by rw[eH];exact CF K rfl) (jad (C6 λe he=>?_))));refine z_V ?_;refine jtt (jp (Bf k) (jad (jle (EN (Ak (jl (by rw[eH];exact CF K rfl) jev) (C6 λe he=>?_))))));refine z_V ?_;refine jif (λA=>?_) (λA=>?_)
  .rw[if_pos (z_f A)] at eq;refine CC K (jl (by rw[eH];exact CF K rfl) (jmk (GB hl) ?_));rintro _ _ ⟨b',c',O,W,rfl,rfl⟩;refine Ak (jl (by rw[eH];exact CF K rfl) jev) (Ak (jl (by rw[eH];exact CF K rfl) jev) (DT [(b',C AS (Af eRg t ++ O))] (by rw[eq];exact⟨_,⟨b',c',O,W,rfl,rfl⟩,rfl⟩)))
  .rw[if_neg (z_g A)] at eq;refine jmk (GB hl) ?_;rintro _ _ ⟨b',c',O,W,rfl,rfl⟩;refine Ce (jge ?_);rw[hb];refine DJ (jmk (PE k hl) ?_);intro v N y;have a6:Co t k = some (AU t k { rv t k with kind:=3,AX:=-1 }):=by
    unfold Co;rw[if_pos (by simp[a1];omega),Cz Z Z];simp only;rw[if_pos (by simpa using a3)]
   rw[a6] at y eq;simp only[eR] at eq;obtain⟨sv,⟨b3,c3,b1,b0,rfl,rfl⟩,rfl⟩:=y;refine jex rfl (jex rfl (C6 λe he=>?_));refine z_V ?_;refine jmk (KT AX (by simpa using hl)) ?_;intro v N y;cases G:CX (AU t k { rv t k with kind:=3,AX:=-1 }) AX with
   | none=>
    rw[G] at y eq;obtain⟨rfl,rfl⟩:=y;refine jex rfl (jex rfl (jex rfl (DJ (DT [] (by rw[eq];exact⟨rfl,rfl⟩)))))
   | some un=>
    obtain⟨u,n⟩:=un;rw[G] at y eq;obtain⟨sv,⟨b2,c2,H,a0,rfl,rfl⟩,rfl⟩:=y;refine jex rfl (jex rfl (jex rfl (CK (jp (Bf n) (DT [(b2,C AS (Af eRg u ++ H))] (by rw[eq];exact⟨_,⟨b2,c2,H,a0,rfl,rfl⟩,rfl⟩))))))
end AA
theorem jrp {f:Nat} {j:List Value} {v:Value} {R:RM} {D:Chs} {k:Value->M} (G:Ro f j v R []) (H:J R D (k v)):J R D (CA P f j k):=by
 intro h K;refine Fq ?_ (G D h K);rintro Q x ⟨O,N,y,A,rfl,rfl⟩;exact H x (A.le y)
theorem jfo {R:RM} {D:Chs} {o b j:Nat} {k:Value->M} (H:J R D (k (.pointer (some ⟨b,j + o,none⟩)))):J R D (FO o (.pointer (some ⟨b,j,none⟩)) k):=H
theorem bE (o:Sm.Op):Pu QU [.agg (eOp o).toArray] (.bool (Tr o)):=by
 intro R;refine WK λF=>?_
 refine z_1 ?_;refine ja λb=>?_
 have e0:cl (.agg (eOp o).toArray) = eOp o:=rfl;rw[e0];refine jan [Pt b] ((decide (o.kind>=1)) && (decide (o.kind<=11))) (λK' j=>?_) (λe c u D he=>?_)
 .refine jl rfl (jge (jgA j λx G=>jl rfl (jle G)))
 refine z_V ?_;refine jan [] ((decide (o.kind>=1) && decide (o.kind<=11)) && (o.kind != 1 || BN o.sh)) (λK' j=>?_) (λe c u D he=>?_)
 .rw[D];refine Dl (λx=>?_) (λx=>?_)
  .refine jl rfl (jne (F6 (λy=>?_) (λy=>?_)))
   .refine jfo (jla (by exact z_n 8) τ (jp (Jl o.sh) ?_));rw[y];exact ER (j _ _ _ (x▸Bm) (by rw[x,y,f7,fH]))
   .rw[y];exact EN (j _ _ _ (x▸Bm) (by rw[x,y,f7,gB]))
  .exact j _ _ _ (x▸Bu) (by rw[x,fM])
 refine z_V ?_;rw[D];refine Ao (A:=[]) (RM.le.refl _) ?_;congr 1
theorem SQ (k:Int):Pu JW [I k] (.bool (Ee k)):=by
 intro R;refine PU λF=>?_
 refine z_1 ?_;refine jor [I k] ((k == 2) || (k == 3)) (λK' j=>?_) (λe c u y he=>?_)
 .refine jeq (jgO j λD x=>jeq x)
 refine z_V ?_;refine jor [I k] (((k == 2) || (k == 3)) || (k == 4)) (λK' j=>?_) (λe c u y he=>?_)
 .rw[y];refine jgO j λD x=>jeq x
 refine z_V ?_;refine jor [I k] ((((k == 2) || (k == 3)) || (k == 4)) || (k == 5)) (λK' j=>?_) (λe c u y he=>?_)
 .rw[y];refine jgO j λD x=>jeq x
 refine z_V ?_;refine jor [] (((((k == 2) || (k == 3)) || (k == 4)) || (k == 5)) || (k == 7)) (λK' j=>?_) (λe c u y he=>?_)
 .rw[y];refine jgO j λD x=>jeq x
 refine z_V ?_;rw[y];exact Ao (A:=[]) (RM.le.refl _) rfl
theorem Z8 (b:Bool):Pu ON [.bool b] (I (Sm.one b)):=by
 intro R;refine VS λF=>?_
 refine z_1 ?_;cases b
 .exact CK (Ao (A:=[]) (RM.le.refl _) rfl)
 .exact DJ (Ao (A:=[]) (RM.le.refl _) rfl)
theorem VO (o:Sm.Op) (refs nums:Int):Pu Ky [.agg (eOp o).toArray,I refs,I nums] (.bool (Hq o refs nums)):=by
 intro R;refine QZ λF=>?_
 refine z_3 ?_;refine ja λb=>?_
 have e0:cl (.agg (eOp o).toArray) = eOp o:=rfl;rw[e0];refine jor [I refs,I nums,Pt b] ((o.kind == 4) || (o.kind == 5)) (λK' j=>?_) (λe c u y he=>?_)
 .refine jl rfl (jeq (jgO j λD x=>jl rfl (jeq x)))
 refine z_V ?_;rw[y];refine jif (λh0=>?_) (λh0=>?_)
 .refine jan [] ((decide (o.f>=0)) && (decide (o.f < nums))) (λK' j=>?_) (λe c u y he=>?_)
  .refine jl rfl (jge (jgA j λD x=>jl rfl (jlt x)))
  refine z_V ?_;rw[y];refine Ao (A:=[]) (RM.le.refl _) ?_;unfold Hq;rw[if_pos h0]
 .refine jan [] ((decide (o.f>=0)) && (decide (o.f < refs))) (λK' j=>?_) (λe c u y he=>?_)
  .refine jl rfl (jge (jgA j λD x=>jl rfl (jlt x)))
  refine z_V ?_;rw[y];refine Ao (A:=[]) (RM.le.refl _) ?_;unfold Hq;rw[if_neg (by rw[h0];decide)]
theorem C5 {R:RM} {D:Chs} {v:Value} {l:List Int} {i:Int} {k:Value->M} (h:Aw R v l) (h0:0<=i) (y:i < l.length) (H:J R D (k (I (l[i.toNat]'(Z))))):J R D (IA 1 v (I i) λx=>L1 x k):=by
 rcases h with ⟨_,j,_⟩ | ⟨b,o,cap,t,G,rfl,j,K,A,N⟩
 .omega
 .refine jia h0 y (jlr j ?_ H);have:=congrArg (λl=>l[i.toNat]?) A;simp only[ff,fJ,eU] at this;rw[if_pos Z,dY (by omega:i.toNat < l.length)] at this;rw[fY,this];rfl
theorem KD {R:RM} {D:Chs} {v:Value} {w n:Nat} {j:List Value} {k:Value->M} (h:Fz R v w n j) (H:J R D (k (I n))):J R D (LN v k):=by
 rcases h with ⟨rfl,rfl,_⟩ | ⟨b,o,cap,t,x,rfl,_⟩<;>exact H
theorem W1 {R:RM} {rv:Value} {AD:List Int} (o:Sm.Op) (nn:Int) (h:Aw R rv AD):Ro L8 [.agg (eOp o).toArray,rv,I nn] (I (Dk o AD nn)) R []:=by
 refine Rp λF=>?_
 refine z_3 ?_;refine ja λb=>?_
 have e0:cl (.agg (eOp o).toArray) = eOp o:=rfl;rw[e0];refine KD h (jan [rv,I nn,Pt b,I AD.length] ((decide (o.a>=0)) && (decide (o.a < AD.length))) (λK' j=>?_) (λe c u D he=>?_))
 .refine jl rfl (jge (jgA j λO K=>jl rfl (jlt K)))
 refine z_V ?_;rw[D];refine jan [rv,I nn,Pt b,I AD.length,.bool (hnd AD.length o.a)] ((decide (o.b>=0)) && (decide (o.b < AD.length))) (λK' j=>?_) (λe c u D he=>?_)
 .refine jl rfl (jge (jgA j λO K=>jl rfl (jlt K)))
 refine z_V ?_;rw[D];refine jan [rv,I nn,Pt b,I AD.length,.bool (hnd AD.length o.a),.bool (hnd AD.length o.b)] ((decide (o.c>=0)) && (decide (o.c < AD.length))) (λK' j=>?_) (λe c u D he=>?_)
 .refine jl rfl (jge (jgA j λO K=>jl rfl (jlt K)))
 refine z_V ?_;rw[D];have W:∀v,v = Dk o AD nn->J R ((b,C 86 (eOp o)) :: ([] ++ F)) (Fj R F (λv' x A=>v' = I (Dk o AD nn)/\A = []) (I v)):=λv hv=>B9 (by rw[hv])
 have hA:∃A B Cc:Bool,A = (o.kind == 1 || (if o.kind == 8 then decide (0 < AD.length) else hnd AD.length o.a))/\B = (o.kind == 1 || o.kind == 8 || o.kind == 2 || o.kind == 4 || o.kind == 5 || o.kind == 9 || o.kind == 10 || o.kind == 11 || hnd AD.length o.b)/\Cc = (!(o.kind == 7) && (decide (1<=o.kind) && decide (o.kind<=11)) || hnd AD.length o.c):=⟨_,_,_,rfl,rfl,rfl⟩;obtain⟨A,B,Cc,T,eB,eC⟩:=hA;refine Bk [rv,I nn,Pt b,I AD.length,.bool A,.bool B,.bool Cc] (λK1 a5=>?_) (λe he=>?_)
 .refine jl rfl (Bk [rv,I nn,Pt b,I AD.length,.bool A,.bool B,.bool Cc] (λK2 a6=>?_) (λe he=>?_));rotate_left
  .refine z_V ?_;exact a5
  have N:∀x y z:Bool,x = A->y = B->z = Cc->J R ((b,C 86 (eOp o)) :: ([] ++ F)) (K2 [rv,I nn,Pt b,I AD.length,.bool x,.bool y,.bool z]):=by
   rintro x y z rfl rfl rfl;exact a6
  refine jeq (jif (λk1=>?_) (λk1=>?_))
  .have k1:=eq_of_beq k1;refine N _ _ _ ?_ ?_ ?_<;>simp[T,eB,eC,k1]
  have k1:o.kind≠1:=by simpa using k1
  refine jeq (jif (λk8=>?_) (λk8=>?_))
  .have k8:=eq_of_beq k8;refine jgr (N _ _ _ ?_ ?_ ?_)<;>simp[T,eB,eC,k8]
  have k8:o.kind≠8:=by simpa using k8
  refine Ab (λvs R' D'=>R' = R/\D' = (b,C 86 (eOp o)) :: ([] ++ F)/\∃v:Bool,vs = [rv,I nn,Pt b,I AD.length,.bool (hnd AD.length o.a),.bool (hnd AD.length o.b),.bool (hnd AD.length o.c),I o.kind,.bool v]/\(v = true↔o.kind = 2\/o.kind = 4\/o.kind = 5\/o.kind = 9\/o.kind = 10\/o.kind = 11)) (λK3 H=>?_) ?_
  .refine jeq (jif (λh=>H _ _ _ ⟨rfl,rfl,_,rfl,?_⟩) (λn2=>?_))
   .rw[h];simp[eq_of_beq h]
   refine jeq (jif (λh=>H _ _ _ ⟨rfl,rfl,_,rfl,?_⟩) (λn4=>?_))
   .rw[h];simp[eq_of_beq h]
   refine jeq (jif (λh=>H _ _ _ ⟨rfl,rfl,_,rfl,?_⟩) (λn5=>?_))
   .rw[h];simp[eq_of_beq h]
   refine jeq (jif (λh=>H _ _ _ ⟨rfl,rfl,_,rfl,?_⟩) (λn9=>?_))
   .rw[h];simp[eq_of_beq h]
   refine jeq (jif (λh=>H _ _ _ ⟨rfl,rfl,_,rfl,?_⟩) (λa4=>?_))
   .rw[h];simp[eq_of_beq h]
   refine jeq (H _ _ _ ⟨rfl,rfl,_,rfl,?_⟩);simp only[beq_eq_false_iff_ne,ne_eq] at n2 n4 n5 n9 a4;simp[n2,n4,n5,n9,a4]
  .rintro e R3 _ ⟨rfl,rfl,v,he,hv⟩;refine z_V ?_;refine jif (λa2=>?_) (λQ=>?_)
   .have hk:=hv.1 a2;refine N _ _ _ ?_ ?_ ?_
    .simp[T,k1,k8]
    .rw[eB];rcases hk with h | h | h | h | h | h<;>simp[h]
    .rw[eC];rcases hk with h | h | h | h | h | h<;>simp[h]
   .have hk:¬ (o.kind = 2\/o.kind = 4\/o.kind = 5\/o.kind = 9\/o.kind = 10\/o.kind = 11):=λh=>by rw[hv.2 h] at Q;cases Q
    simp only[not_or] at hk;obtain⟨q2,q4,q5,q9,a9,b0⟩:=hk;refine Ab (λvs R2 D2=>R2 = R3/\D2 = (b,C 86 (eOp o)) :: ([] ++ F)/\∃v:Bool,vs = [rv,I nn,Pt b,I AD.length,.bool (hnd AD.length o.a),.bool (hnd AD.length o.b),.bool (hnd AD.length o.c),.bool v]/\(v = true↔o.kind = 3\/o.kind = 6)) (λK3 H=>?_) ?_
    .refine jeq (jif (λh=>H _ _ _ ⟨rfl,rfl,_,rfl,?_⟩) (λn3=>?_))
     .rw[h];simp[eq_of_beq h]
     refine jeq (H _ _ _ ⟨rfl,rfl,_,rfl,?_⟩);simp only[beq_eq_false_iff_ne,ne_eq] at n3;simp[n3]
    .rintro e _ _ ⟨rfl,rfl,v,he,hv⟩;refine z_V ?_;refine jif (λa2=>?_) (λQ=>?_)
     .refine N _ _ _ ?_ ?_ ?_
      .simp[T,k1,k8]
      .rw[eB];rcases hv.1 a2 with h | h<;>simp[h]
      .rw[eC];rcases hv.1 a2 with h | h<;>simp[h]
     .have hk:¬ (o.kind = 3\/o.kind = 6):=λh=>by rw[hv.2 h] at Q;cases Q
      rw[not_or] at hk;refine N _ _ _ ?_ ?_ ?_
      .simp[T,k1,k8]
      .simp[eB,k1,k8,q2,q4,q5,q9,a9,b0]
      .rw[eC];by_cases q7:o.kind = 7
       .simp[q7]
       .have:(decide (1<=o.kind) && decide (o.kind<=11)) = false:=by
         rw[gj,decide_eq_false_iff_not,decide_eq_false_iff_not];omega
        simp[this]
 refine z_V ?_;refine jor [rv,I nn,Pt b,I AD.length,.bool Cc] ((!A) || (!B)) (λK' j=>?_) (λe c u D he=>?_)
 .refine id (jgO j λO K=>id K)
 refine z_V ?_;refine jor [rv,I nn,Pt b,I AD.length] ((!A || !B) || (!Cc)) (λK' j=>?_) (λe c u D he=>?_)
 .rw[D];refine jgO j λO K=>id K
 refine z_V ?_;rw[D];have fa:¬ ((!A || !B) || !Cc) = true->o.kind≠1->o.kind≠8->0<=o.a/\o.a < AD.length:=λhh k1 k8=>by
  have:A = true:=by
   cases A
   .simp at hh
   .rfl
  rw[this] at T;simp[k1,k8,hnd] at T;exact T
 have G:Dk o AD nn = if (!A || !B || !Cc) = true then 2 else if ((Ee o.kind || o.kind == 10 || o.kind == 11) && (idx AD o.a).getD 0 == nn) = true then 3 else if ((o.kind == 1 || o.kind == 2 || o.kind == 9) && AD.length == 8) = true then 5 else 0:=by
  unfold Dk;rw[T,eB,eC]
 refine jif (λh0=>W _ (by rw[G,if_pos h0])) (λh0=>?_);have a3 : ¬ ((!A || !B) || !Cc) = true:=by rw[h0];decide
 rw[if_neg a3] at G;have a8:∀x:Bool,x = (Ee o.kind || o.kind == 10 || o.kind == 11)->x = true->o.kind≠1/\o.kind≠8:=λx hx a7=>by
  rw[a7] at hx;constructor<;>intro hk<;>rw[hk] at hx<;>simp[Ee] at hx
 refine jor [rv,I nn,Pt b,I AD.length] (Ee o.kind || o.kind == 10) (λK' j=>?_) (λe c u D he=>?_)
 .refine jl rfl (jp (SQ o.kind) (jgO j λO K=>jl rfl (jeq K)))
 refine z_V ?_;refine jor [rv,I nn,Pt b,I AD.length] ((Ee o.kind || o.kind == 10) || (o.kind == 11)) (λK' j=>?_) (λe c u D he=>?_)
 .rw[D];refine jgO j λO K=>jl rfl (jeq K)
 refine z_V ?_;refine jan [Pt b,I AD.length] ((Ee o.kind || o.kind == 10 || o.kind == 11) && (idx AD o.a).getD 0 == nn) (λK' j=>?_) (λe c u D he=>?_)
 .rw[D];refine Dl (λO=>?_) (λO=>?_)
  .obtain⟨n1,n8⟩:=a8 _ rfl O;obtain⟨a0,a1⟩:=fa a3 n1 n8;refine jl rfl (C5 h a0 a1 (jeq (j _ _ _ (O▸Bm) ?_)));rw[O,f7];have:idx AD o.a = some (AD[o.a.toNat]'(Z)):=by unfold idx;rw[if_pos a0,dY]
   rw[this];rfl
  .exact j _ _ _ (O▸Bu) (by rw[O,fM])
 refine z_V ?_;rw[D];refine jif (λh3=>W _ (by rw[G,if_pos h3])) (λh3=>?_);rw[if_neg (by rw[h3];decide)] at G;refine jor [Pt b,I AD.length] ((o.kind == 1) || (o.kind == 2)) (λK' j=>?_) (λe c u D he=>?_)
 .refine jl rfl (jeq (jgO j λO K=>jl rfl (jeq K)))
 refine z_V ?_;refine jor [I AD.length] ((o.kind == 1 || o.kind == 2) || (o.kind == 9)) (λK' j=>?_) (λe c u D he=>?_)
 .rw[D];refine jgO j λO K=>jl rfl (jeq K)
 refine z_V ?_;refine jan [] (((o.kind == 1 || o.kind == 2) || o.kind == 9) && (AD.length:Int) == 8) (λK' j=>?_) (λe c u D he=>?_)
 .rw[D];refine jgA j λO K=>jeq K
 refine z_V ?_;rw[D];have e8:((AD.length:Int) == 8) = (AD.length == 8):=by rw[fL];simp;omega
 rw[e8];refine jif (λh5=>W _ (by rw[G,if_pos h5])) (λh5=>W _ (by rw[G,if_neg (by rw[h5];decide)]))
end Go.Lf
end
section
namespace Go.Lf
open Go Sm
theorem XW {R:RM} {D:Chs} {v:Value} {l:List Int} {u:Int} {k:Value->M} (h:Aw R v l) (h0:0<=u) (K:u<=l.length) (H:∀A,Aw R A (l.take u.toNat)->J R D (k A)):J R D (SL 1 v none (some (I u)) k):=by
 rcases h with ⟨rfl,x,_⟩ | ⟨b,o,cap,t,G,rfl,x,O,N,Q⟩
 .intro j y;refine⟨⟨h0,Z⟩,H _ ?_ j y⟩;have:l = []:=eV.1 x;subst this;have:u = 0:=by simp at K;omega
  subst this;exact .inl ⟨rfl,V,V⟩
 .intro j y;refine⟨⟨h0,Z⟩,H _ (.inr ⟨b,o,cap,t,G,?_,x,?_,?_,?_⟩) j y⟩
  .simp only[dp];congr 1;omega
  .simp only[dp];omega
  .simp only[dp];rw[List.map_take,<- N,gr];congr 1;omega
  .simp only[dp];omega
theorem cN {R:RM} {D:Chs} {v:Value} {l:List Int} {u:Int} {k:Value->M} (h:Aw R v l) (h0:0<=u) (G:u<=l.length) (H:∀K,Aw R K (l.drop u.toNat)->J R D (k K)):J R D (SL 1 v (some (I u)) none k):=by
 rcases h with ⟨rfl,j,_⟩ | ⟨b,o,cap,t,A,rfl,j,O,N,Q⟩
 .intro x y;refine⟨⟨h0,Z,Z⟩,H _ ?_ x y⟩;have:l = []:=eV.1 j;subst this;have:u = 0:=by simp at G;omega
  subst this;exact .inl ⟨rfl,V,V⟩
 .intro x y;refine⟨⟨h0,G,Z⟩,H _ ?_ x y⟩;by_cases c:cap = u.toNat
  .have hl:l.length = u.toNat:=Z
   refine .inr ⟨b,o,cap - u.toNat,t,A,?_,j,?_,?_,?_⟩
   .rw[if_pos c];simp
   .simp[hl];omega
   .simp[hl]
   .simp[hl]
  .refine .inr ⟨b,o + u.toNat * 1,cap - u.toNat,t,A,?_,j,?_,?_,?_⟩
   .rw[if_neg c];simp
   .simp only[fA];omega
   .simp only[fA];rw[List.map_drop,<- N,gm,gt];congr 1
    .omega
    .congr 1;omega
   .simp only[fA];omega
theorem dG {R:RM} {D E:Chs} {l l2:List Int} {b c Q m:Nat} {sp:List Value} {O:Option Addr} {k:Value->M} [tk:Tk D b (C Ad (l.map I ++ sp)) E] (W:m = l2.length) (hc:l.length<=c) (hsp:sp.length = c - l.length) (hl:l.length + l2.length < 2000000) (A:BY R D O (m * 1) (l2.map I))
  (H:∀K j G,(l ++ l2).length<=j->G.length = j - (l ++ l2).length->J R ((K,C Ad ((l ++ l2).map I ++ G)) :: E) (k (.slice (some ⟨K,0,none⟩) (l ++ l2).length j))) :
  J R D (AP Ad 1 8 [I 0] (S0 b l.length c) (.slice O m Q) k):=by
 subst W;have N:Bz (l2.map I) = true:=by
  unfold Bz;rw[eG];intro x A;obtain⟨y,_,rfl⟩:=eE.1 A;rfl
 refine XS A (by simp;omega) hc V N δ Z (λh=>?_) (λK j h=>?_)
 .have T:lay (l.map I ++ sp) (l.length * 1) (l2.map I) = (l ++ l2).map I ++ sp.drop l2.length:=by
   rw[Hs V];simp[lay]
  rw[T];have:=H b c (sp.drop l2.length) (by simpa using h) (by simp;omega);simpa using this
 .refine BC (tk.p.cons _) (BC (fW _ _ _) (BT ?_));have:=H K j (List.replicate (j - (l.length + l2.length)) [I 0]).flatten (by simpa using h) (by rw[C4 (w:=1) (by intro x A;rw[(fE.1 A).2];rfl)];simp);rw[fK V,dh V];simpa using this
theorem Aw.reads {R:RM} {D:Chs} {v:Value} {l:List Int} (h:Aw R v l):∃a cap,v = .slice a l.length cap/\BY R D a (l.length * 1) (l.map I):=Fz.reads h
def bU (r:Option (List Int)) (v:Value) (A:Chs):Prop:=match r with
 | none=>v = .tuple #[SN,.bool false]/\A = []
 | some l=>∃sv,XC l sv A/\v = .tuple #[sv,.bool true]
theorem Oh {l:List Int} {a:Int}:∀{n k:Nat},EP l a n = some k->l[k]? = some a/\k < n/\∀j,k < j->j < n->l[j]?≠some a:=by
 intro n;induction n with
 | zero=>intro k h;cases h
 | succ n H=>
  intro k h;simp only[EP] at h;split at h
  .cases h;exact⟨by assumption,Z,λj x y=>Z⟩
  .rename_i G;obtain⟨x,y,A⟩:=H h;refine⟨x,Z,λj D K=>?_⟩;by_cases c:j = n
   .subst c;exact G
   .exact A j D Z
theorem YF {R:RM} {v:Value} {AI:List Int} (kind a:Int) (h:Aw R v AI) (hl:AI.length < 1000000):Fn P Mn [v,I kind,I a] R [] (λv' _ A=>bU (Ga AI kind a) v' A):=by
 refine TQ λF=>?_
 refine z_3 ?_;refine jeq (jif (λhk=>?_) (λhk=>?_))
 .refine KD h (jeq (jif (λH=>?_) (λH=>?_)))
  .refine Ao (A:=[]) (RM.le.refl _) ?_;have H:AI.length = 8:=by have:=eq_of_beq H;omega
   unfold Ga;rw[if_pos hk,if_pos H];exact⟨rfl,rfl⟩
  .have H:AI.length≠8:=by have:=ne_of_beq_false H;omega
   refine jc (Ca h Z) ?_;rintro _ y _ hR ⟨b,c,sp,hc,hsp,rfl,rfl⟩;refine jbs rfl rfl λb1=>(ZP hc hsp Z (BY.held (cs:=[I a]) (z_n 1)) λT c' x N j=>(Ao (A:=[(T,C Ad ((AI ++ [a]).map I ++ x))]) hR ?_))
   unfold Ga;rw[if_pos hk,if_neg H];exact⟨.slice (some ⟨T,0,none⟩) (AI.length + 1) c',⟨T,c',x,by simpa using N,by simpa using j,V,rfl⟩,rfl⟩
 .refine Ab (λQ y G=>y = R/\G = [] ++ F/\Q = [v,I (match EP AI a AI.length with | some i=>(i:Int) | none=>-1)]) (λK' a1=>?_) ?_
  .refine Ab (λQ y G=>y = R/\G = [] ++ F/\Q = [v,I (match EP AI a AI.length with | some i=>(i:Int) | none=>-1)]) (λK2 a2=>?_) ?_
   .refine jlp (λn Q y G=>y = R/\G = [] ++ F/\∃i:Nat,i<=AI.length/\Q = [v,I a,I (match EP AI a i with | some i=>(i:Int) | none=>-1),I i]/\n = AI.length - i)
     (n:=AI.length) ⟨rfl,rfl,0,Z,rfl,Z⟩ ?_
    rintro n e R3 D3 K ⟨rfl,hD,i,hi,he,hn⟩ hK;refine z_W ?_;refine KD h (jlt (jif (λhc=>?_) (λhc=>?_)))
    .have hc:=z_f hc;have a0:i < AI.length:=Z
     refine Ab (λQ y G=>y = R3/\G = [] ++ F/\Q = [v,I a,I (match EP AI a (i + 1) with | some i=>(i:Int) | none=>-1),I i]) (λK4 a3=>?_) ?_;rotate_left
     .rintro e R4 D4 ⟨rfl,hD,he⟩;refine z_W ?_;refine jad (hK (AI.length - (i + 1)) _ _ _ Z ⟨rfl,rfl,i + 1,Z,rfl,rfl⟩)
     refine jcI a3 λK5 W=>?_
     refine C5 h Z Z (jeq (jif (λD=>?_) (λD=>?_)))
     .have D:=eq_of_beq D;simp only[da] at D;refine W _ _ _ ⟨rfl,rfl,?_⟩;simp only[EP];rw[if_pos (by rw[dY a0,D])]
     .have D:=ne_of_beq_false D;simp only[da] at D;refine W _ _ _ ⟨rfl,rfl,?_⟩;simp only[EP];rw[if_neg (by rw[dY a0];simpa using D)]
    .have hc:=z_g hc;have:i = AI.length:=Z
     subst this;exact a2 _ _ _ ⟨rfl,rfl,rfl⟩
   .rintro e R4 D4 ⟨rfl,hD,he⟩;refine z_W ?_;exact a1 _ _ _ ⟨rfl,rfl,rfl⟩
  .rintro e R4 D4 ⟨rfl,hD,he⟩;refine z_W ?_;cases O:EP AI a AI.length with
   | none=>
    refine jlt (jif (λ_=>?_) (λhh=>?_))
    .refine Ao (A:=[]) (RM.le.refl _) ?_;unfold Ga;rw[if_neg (by rw[hk];decide),O];exact⟨rfl,rfl⟩
    .exact absurd hh δ
   | some i=>
    obtain⟨q1,q2,_⟩:=Oh O;refine jlt (jif (λhh=>?_) (λhh=>?_))
    .exact absurd (z_f hh) (by simp only;omega)
    .refine XW h (by simp only;omega) (by simp only;omega) λv1 h1=>(Cw ⟨by simp only;omega,by simp only;omega⟩ (cN h (by simp only;omega) (by simp only;omega) λv2 h2=>?_))
     simp only[da] at h1;rw[show ((i:Int) + 1).toNat = i + 1 from Z] at h2;refine jc (Ca h1 (by simp;omega)) ?_;rintro _ y _ hR ⟨b,c,sp,hc,hsp,rfl,rfl⟩;obtain⟨xa,cx,rfl,hx⟩:=Aw.reads (h2.le hR);refine dG rfl hc hsp (by simp;omega) hx λT c' x N j=>(Ao (A:=[(T,C Ad ((AI.take i ++ AI.drop (i + 1)).map I ++ x))]) hR ?_)
     unfold Ga;rw[if_neg (by rw[hk];decide),O];exact⟨_,⟨T,c',x,N,j,rfl,rfl⟩,rfl⟩
theorem Vj {S:Sim} {i:Int} {t:Thr} {o:Sm.Op} (h:S.opOf i t = some o):∃p,idx S.Aa i = some p/\idx p t.next = some o:=by
 unfold Sim.opOf at h;split at h
 .exact⟨_,by assumption,h⟩
 .cases h
theorem YU {R:RM} {F:Chs} {p b:Nat} {S:Sim} {g:Img} {i:Int} {t:Thr} {v:Value} {o:Sm.Op} {k:Value->M} (a1:Ok R S g) (ho:S.opOf i t = some o)
  (H:∀b2,J R ((b2,C 86 (eOp o)) :: (b,C Ae (Ax t v)) :: (Ag p S g ++ F)) (k (Pt b2))) :
  J R ((b,C Ae (Ax t v)) :: (Ag p S g ++ F)) (L1 (.pointer (some ⟨p,3,none⟩)) λx9=>IA 1 x9 (I i) λj=>L1 j λy=>L1 (.pointer (some ⟨b,0 + 1,none⟩)) λA=>IA 8 y A λD=>LA 8 D λG=>AL 86 z86 λK=>
   AND (L1 (.pointer (some ⟨p,3,none⟩)) λN=>EV N x9)<|AND (L1 j λO=>EV O y)<|AND (L1 (.pointer (some ⟨b,0 + 1,none⟩)) λQ=>EV Q A)<|AND (LA 8 D λT=>EV T G)<|ST 8 K G<|k K):=by
 obtain⟨pr,h1,h2⟩:=Vj ho;obtain⟨i0,i1,i2,i3⟩:=Ay h1;obtain⟨n0,n1,n2,n3⟩:=Ay h2;obtain⟨vs,f1,f2,f3⟩:=a1.Aa;obtain⟨x,f4,f5⟩:=f3 i.toNat i2;rw[i3] at f5;rcases f1 with ⟨_,h,_⟩ | ⟨bp,a2,cp,tp,cs,e1,e2,e3,e4,e5⟩
 .omega
 rcases f5 with ⟨_,h,_⟩ | ⟨bo,oo,co,a3,a0,q1,q2,q3,q4,q5⟩
 .omega
 have l1:J R ((b,C Ae (Ax t v)) :: (Ag p S g ++ F)) (L1 (.pointer (some ⟨p,3,none⟩)) λx9=>IA 1 x9 (I i) λj=>L1 j λy=>L1 (.pointer (some ⟨b,0 + 1,none⟩)) λA=>IA 8 y A λD=>LA 8 D λG=>AL 86 z86 λK=>
   AND (L1 (.pointer (some ⟨p,3,none⟩)) λN=>EV N x9)<|AND (L1 j λO=>EV O y)<|AND (L1 (.pointer (some ⟨b,0 + 1,none⟩)) λQ=>EV Q A)<|AND (LA 8 D λT=>EV T G)<|ST 8 K G<|k K):=by
  have hx:cs[a2 + i.toNat * 1]? = some x:=by
   have:=congrArg (λl=>l[i.toNat]?) e4;simp only[ff,fJ] at this;rw[if_pos Z] at this;rw[fY,this,f4]
  have W:(a0.drop (oo + t.next.toNat * 8)).take 8 = eOp o:=by
   have:=Dc (f:=eOp) (w:=8) (λ_=>rfl) (sp:=[]) n2;rw[eh,n3,<- q4,gm,gt,gr] at this;rw[<- this];congr 1;omega
  refine jl rfl ?_;rw[e1];refine jia i0 Z (jlr e2 hx ?_);rw[q1];refine jl rfl (jia n0 Z (Da q2 Z W (ja λb2=>(Ak (jl rfl (by rw[e1];exact jev)) (Ak (jlr e2 (by rw[hx,q1]) jev) (Ak (jl rfl jev) (Ak (Da q2 Z W jev) (js rfl rfl (by exact z_n 8) τ (H b2)))))))))
 exact l1
theorem ad {o:Sm.Op} {AD:List Int} (j:o.kind = 8) (h:Dk o AD 0 = 0):0 < AD.length:=by
 by_cases c:0 < AD.length
 .exact c
 .exfalso;have:AD = []:=eV.1 Z;subst this;unfold Dk at h;simp[j] at h
theorem YA {S S' : Sim} {i a c:Int} (h:S.event i a c = some S'):S.sz = true:=by
 unfold Sim.event at h;split at h
 .cases h
 .rename_i j;simpa using j
theorem X2 {S:Sim} {i:Int} {t t' : Thr} (h:(S.setT i t').sz = true) (j:idx S.th i = some t):t'.AD.length < 1000000:=by
 obtain⟨i0,i1,i2,i3⟩:=Ay j;refine (H4 h).2.2.2.2 t' ?_;show t'∈AU S.th i t';unfold AU;exact List.mem_of_getElem? (List.getElem?_set_self Z)
theorem YS {p:Nat} {S S' : Sim} {g:Img} {i:Int} {R:RM} (K:Ok R S g) (j:S.begin_ i = some S') :
  Fn P Ku [Pt p,I i] R (Ag p S g) (DH p S' λ_=>True):=by
 refine Rk λF=>?_
 refine z_2 ?_;obtain⟨t,ht,j⟩:=AF j;obtain⟨o,ho,j⟩:=AF j;obtain⟨h0,h1,h2,h3⟩:=Ay ht;refine Hc K ht rfl λb a cap W=>(YU K ho λb2=>(jla (by exact z_n 8) τ (jp (bE o) (jif (λhb=>?_) (λhb=>?_)))))
 .rw[if_pos hb] at j;refine jcS (DX K j) λ_ R2 g2 H hr N=>(B7 H trivial rfl N)
 rw[if_neg (by rw[hb];decide)] at j;refine jla (by exact z_n 8) τ (jl rfl (jrp (W1 o 0 W) (jne (jif (λhc=>?_) (λhc=>?_)))))
 .have hc:Dk o t.AD 0≠0:=by simpa using hc
  simp only[if_pos hc] at j;refine jcS (DX K j) λ_ R2 g2 H hr N=>(B7 H trivial rfl N)
 have hc:Dk o t.AD 0 = 0:=by simpa using hc
 simp only[if_neg (show ¬ Dk o t.AD 0≠0 from λh=>h hc)] at j;refine jl rfl (jeq (jif (λT=>?_) (λT=>?_)))
 .have T:=eq_of_beq T;rw[if_pos T] at j;have hn:=ad T hc;have b8:=X2 (YA j) ht;have c6:t.AD.length<=1000000:=by simp at b8;omega
  refine jl rfl (jl rfl (jln (jsu (XW W Z Z λv1 a6=>?_))));rw[show ((t.AD.length:Int) - 1).toNat = t.AD.length - 1 from Z] at a6;refine jc (Ca a6 (by simp;omega)) ?_;rintro _ R' _ hR ⟨b4,c4,c7,b5,c5,rfl,rfl⟩;refine BE (b:=b4) λR2 H a9=>?_
  have b9:=CT a9 b5;have N:=(K.le hR).le H;refine jS (Ax { t with AD:=t.AD.take (t.AD.length - 1) } (S0 b4 (t.AD.take (t.AD.length - 1)).length c4)) (H9 (S.setT i { t with AD:=t.AD.take (t.AD.length - 1) }) N h0 h1 b9 τ λg3 Q=>(jcS (DX Q j) λ_ R4 g4 a8 hr c0=>(B7 ((hR.trans H).trans a8) trivial rfl c0)))
 have T:o.kind≠8:=by simpa using T
 rw[if_neg T] at j;refine jeq (jif (λh9=>?_) (λh9=>?_))
 .have h9:=eq_of_beq h9;rw[if_pos h9] at j;obtain⟨r,hr,j⟩:=AF j;obtain⟨r0,r1,r2,r3⟩:=Ay hr;refine jl rfl (jl rfl (C5 W r0 r1 ?_));rw[r3];refine jcS (P3 K j) λ_ R2 g2 H hr N=>(B7 H trivial rfl N)
 have h9:o.kind≠9:=by simpa using h9
 rw[if_neg h9] at j;refine jeq (jif (λk1=>?_) (λk1=>?_))
 .have k1:=eq_of_beq k1;rw[if_pos k1] at j;cases j;refine jS (Ax { t with pc:=30 } (.slice a t.AD.length cap)) (H9 (S.setT i { t with pc:=30 }) K h0 h1 (by exact W) τ λg3 Q=>(B7 (RM.le.refl _) trivial rfl Q))
 have k1:o.kind≠1:=by simpa using k1
 rw[if_neg k1] at j;obtain⟨ra,b6,j⟩:=AF j;obtain⟨a0,a1,a2,a3⟩:=Ay b6;obtain⟨t2,A,j⟩:=AF j;obtain⟨t3,D,j⟩:=AF j;cases j;refine jS (Ax { t with pc:=1 } (.slice a t.AD.length cap)) (jl rfl (jl rfl (C5 W a0 a1 ?_)));rw[a3];refine jS (Ax { t with pc:=1,h:=ra } (.slice a t.AD.length cap)) ?_;have O:t2.AD = t.AD:=by
  split at A
  .obtain⟨x,_,hx⟩:=AF A;cases hx;rfl
  .cases A;rfl
 have a5:t3.AD = t.AD:=by
  split at D
  .obtain⟨x,_,hx⟩:=AF D;cases hx;exact O
  .cases D;exact O
 refine Ab (λvs R' D'=>R' = R/\D' = (b2,C 86 (eOp o)) :: (b,C Ae (Ax t2 (.slice a t.AD.length cap))) :: (Ag p S g ++ F)/\vs = [Pt p,I i,Pt b,Pt b2]) (λK' y=>?_) ?_
 .refine jor [Pt p,I i,Pt b,Pt b2] ((o.kind == 3) || (o.kind == 6)) (λK' y=>?_) (λe c u ho he=>?_)
  .refine jl rfl (jeq (jgO y λh1 hN=>jl rfl (jeq hN)))
  refine z_V ?_;refine jor [Pt p,I i,Pt b,Pt b2] (((o.kind == 3) || (o.kind == 6)) || (o.kind == 7)) (λK' y=>?_) (λe c u ho he=>?_)
  .rw[ho];refine jgO y λh1 hN=>jl rfl (jeq hN)
  refine z_V ?_;rw[ho];refine jif (λhk=>?_) (λhk=>?_)
  .rw[if_pos (by simpa [or_assoc,and_assoc] using hk)] at A;obtain⟨rb,b7,A⟩:=AF A;obtain⟨b0,b1,a7,b3⟩:=Ay b7;cases A;refine jl rfl (jl rfl (C5 W b0 b1 ?_));rw[b3];refine js rfl rfl (by simp[Ax]) rfl (y _ _ _ ⟨rfl,rfl,rfl⟩)
  .rw[if_neg (by simpa [or_assoc,and_assoc] using hk)] at A;cases A;exact y _ _ _ ⟨rfl,rfl,rfl⟩
 .rintro e R5 D3 ⟨rfl,hD,he⟩;refine z_W ?_;refine Ab (λvs R' D'=>R' = R5/\(∃G,D' = (b,C Ae (Ax t3 (.slice a t.AD.length cap))) :: (Ag p S g ++ G)/\G = F)/\vs = [Pt p,I i,Pt b]) (λK' y=>?_) ?_
  .refine jl rfl (jeq (jif (λhk=>?_) (λhk=>?_)))
   .rw[if_pos (eq_of_beq hk)] at D;obtain⟨rc,a4,D⟩:=AF D;cases D;rw[O] at a4;obtain⟨b0,b1,a7,b3⟩:=Ay a4;refine jl rfl (jl rfl (C5 W b0 b1 ?_));rw[b3];refine js rfl rfl (by simp[Ax]) rfl (BT (y _ _ _ ⟨rfl,⟨_,rfl,rfl⟩,rfl⟩))
   .rw[if_neg (ne_of_beq_false hk)] at D;cases D;exact BT (y _ _ _ ⟨rfl,⟨_,rfl,rfl⟩,rfl⟩)
  .rintro e _ D3 ⟨rfl,⟨G,hD,hG⟩,he⟩;rw[hD,hG];clear hD;refine z_V ?_;refine H9 (S.setT i t3) K h0 h1 (by rw[a5];exact W) τ λg3 Q=>(B7 (RM.le.refl _) trivial rfl Q)
instance (priority:=low) Sp.app (D A E F:Chs) [s:Sp D A E]:Sp (D ++ F) A (E ++ F):=⟨by rw[<- dm];exact s.p.append_right F⟩
theorem Ph {R:RM} {D:Chs} {m:M} (H:J R D m):J R ([] ++ D) m:=H
theorem dP {R:RM} {D G:Chs} {p b c:Nat} {S:Sim} {g:Img} {t' : List Rg} {sp:List Value} {m:M} [w:Fd D p S g G]
  (H:J R (Ag p { S with AA:=t' } { g with tb:=b,tc:=c,tsp:=sp } ++ G) m) :
  J R ((b,C AS (Af eRg t' ++ sp)) :: D) (ST 1 (.pointer (some ⟨p,5,none⟩)) (S0 b t'.length c) m):=by
 refine BC ((w.ex.cons _).trans eP.symm) ?_;have j:Ch { S with AA:=t' } { g with tb:=b,tc:=c,tsp:=sp } = (Ch S g).set 5 (S0 b t'.length c):=by
  simp[Ch,evV]
 refine js (cs':=Ch { S with AA:=t' } { g with tb:=b,tc:=c,tsp:=sp })
  (D':=(p,C CH (Ch { S with AA:=t' } { g with tb:=b,tc:=c,tsp:=sp })) :: ((g.wb,C Ad (S.AC.map I ++ g.wsp)) :: (g.tb,C AS (Af eRg S.AA ++ g.tsp)) :: (g.mb,C Az (S.AQ.map Value.bool ++ g.msp)) :: (g.hb,C Ae (Et S.th g.rv ++ g.hsp)) :: evD S g ++ (b,C AS (Af eRg t' ++ sp)) :: G)) rfl rfl (by simp[Ch]) (by rw[j,show cl (S0 b t'.length c) = [S0 b t'.length c] from rfl,Gi (by simp[Ch])]) ?_ (u:=?_)
 .unfold Ag;exact inferInstance
 .refine Al ((p,C CH (Ch { S with AA:=t' } { g with tb:=b,tc:=c,tsp:=sp })) :: (g.wb,C Ad (S.AC.map I ++ g.wsp)) :: (b,C AS (Af eRg t' ++ sp)) :: (g.mb,C Az (S.AQ.map Value.bool ++ g.msp)) :: (g.hb,C Ae (Et S.th g.rv ++ g.hsp)) :: evD S g) (G:=G) (H)
theorem Ru {R:RM} {D G:Chs} {p b c:Nat} {S:Sim} {g:Img} {t' : List Rg} {sp:List Value} {m:M} [w:Fd D p S g G]
  (H:J R (Ag p { S with AA:=t' } { g with tb:=b,tc:=c,tsp:=sp } ++ G) m) :
  J R ([(b,C AS (Af eRg t' ++ sp))] ++ D) (ST 1 (.pointer (some ⟨p,5,none⟩)) (S0 b t'.length c) m):=dP (D:=D) H
theorem Cv {S S1:Sim} {a v:Int} (h:S.read a = some (v,S1)):S1 = { S with used:=true }:=by
 simp only[Sim.read] at h;split at h
 .cases h;rfl
 .cases h
theorem F3 {S S1:Sim} {a v:Int} (h:S.write a v = some S1):S1 = { S with used:=true,AC:=AU S.AC a v }:=by
 simp only[Sim.write] at h;split at h
 .cases h;rfl
 .cases h
theorem bG {S S1:Sim} {a v:Int} (h:S.top a v = some S1):∃t,S1 = { S with AA:=t }:=by
 unfold Sim.top at h;split at h
 .split at h
  .cases h;exact⟨_,rfl⟩
  .cases h
 .cases h
theorem Ok.tab {R:RM} {S:Sim} {g:Img} (ok:Ok R S g) {t' : List Rg} (hl:t'.length<=1000) (b c:Nat) (sp:List Value) (hc:t'.length<=c):Ok R { S with AA:=t' } { g with tb:=b,tc:=c,tsp:=sp }:=
 ⟨ok.Aa,ok.old,ok.AI,ok.AR,ok.rvl,ok.rv,ok.ev0,ok.ev1,ok.wl,hl,ok.ml,ok.hl,ok.fl,ok.wk,hc,ok.mk_⟩
theorem M8 {t t' : List Rg} {o size d:Int} (h:BZ t o size = some (t',d)):t'.length = t.length:=by
 unfold BZ at h;split at h
 .rename_i j;simp only[z_b,z_d] at j;have T:=Bj.1 j.1.1.1.1;rcases GG T j.1.1.1.2 j.1.1.2 j.1.2 j.2 with x | ⟨A,y,x,P⟩
  .unfold BZ at x;rw[if_pos (by simpa using j)] at x;rw[x] at h;cases h
  .unfold BZ at x;rw[if_pos (by simpa using j)] at x;rw[x] at h;cases h;exact P.len
 .cases h
theorem V7 {p:Nat} {S S' : Sim} {g:Img} {i:Int} {R:RM} (H:Ok R S g) (j:S.copying i = some S') :
  Fn P IR [Pt p,I i] R (Ag p S g) (DH p S' λ_=>True):=by
 refine NZ λF=>?_
 refine z_2 ?_;obtain⟨t,ht,j⟩:=AF j;obtain⟨h0,h1,h2,h3⟩:=Ay ht;refine Hc H ht rfl λb a cap hv=>(Ab (λvs R' D'=>R.le R'/\∃O D t1 G,S' = O.setT i t1/\O.th = S.th/\t1.AD = t.AD/\Ok R' O D/\D' = Ag p O D ++ (b,C Ae (Ax t1 (.slice a t.AD.length cap))) :: G/\G = F/\vs = [Pt p,I i,Pt b]) (λK hK=>?_) ?_)
 rotate_left
 .rintro e R2 D2 ⟨hR,O,D,t1,G,rfl,a7,hr,y,rfl,rfl,he⟩;refine z_V ?_;refine H9 (O.setT i t1) y h0 (by rw[a7];exact h1) (by rw[hr];exact hv.le hR) τ λg3 b5=>(B7 hR trivial rfl b5)
 refine jl rfl (Ab (λvs R' D'=>R.le R'/\∃O D t1 G,S' = O.setT i t1/\O.th = S.th/\t1.AD = t.AD/\Ok R' O D/\D' = Ag p O D ++ (b,C Ae (Ax t1 (.slice a t.AD.length cap))) :: G/\G = F/\vs = [Pt p,I i,Pt b]) (λK2 a3=>?_) ?_);rotate_left
 .rintro e R2 D2 ⟨hR,O,D,t1,G,e1,a7,hr,y,rfl,rfl,he⟩;refine z_V ?_;exact hK _ _ _ ⟨hR,O,D,t1,_,e1,a7,hr,y,rfl,rfl,rfl⟩
 refine jeq (jif (λW=>?_) (λW=>?_))
 .have W:=eq_of_beq W;rw[if_pos W] at j;obtain⟨q,hq,j⟩:=AF j;obtain⟨rfl,a5⟩:=BB hq;obtain⟨⟨w,O⟩,Q,j⟩:=AF j;have e1:=Cv Q;subst e1;dsimp only at j;refine jl rfl (Cw a5 (jcS (DG H Q) λ_ R1 D A hr y=>?_));subst hr;refine jp (FP w) (jex rfl (jex rfl (ja λb3=>(js rfl rfl (by exact z_n 2) rfl (jla (by exact z_n 2) τ (jp (Cb (AT w).1) (jS (Ax { t with size:=AH (AT w).1 } (.slice a t.AD.length cap)) (jl rfl (jl rfl (jmk (HB (t:=S.AA) i (AH (AT w).1) (by have:=H.tl;omega)) ?_))))))))));intro v N a9;cases a6:BZ S.AA i (AH (AT w).1) with
  | none=>
   rw[a6] at a9;obtain⟨rfl,rfl⟩:=a9;rw[a6] at j;refine jex rfl (jex rfl (jex rfl (DJ (jcS (WR y j) λ_ R2 g2 b1 hr a8=>(B7 (A.trans b1) trivial rfl a8)))))
  | some td=>
   obtain⟨t',d⟩:=td;rw[a6] at a9;obtain⟨sv,⟨b4,c4,c0,c6,rfl,rfl⟩,rfl⟩:=a9;rw[a6] at j;simp only[dx] at j;have hlen:=M8 a6;refine jex rfl (jex rfl (jex rfl (CK (Ru (jS (Ax { t with size:=AH (AT w).1,dst:=d } (.slice a t.AD.length cap)) (jS (Ax { t with size:=AH (AT w).1,dst:=d,i:=1 } (.slice a t.AD.length cap)) (jS (Ax { t with size:=AH (AT w).1,dst:=d,i:=1,pc:=21 } (.slice a t.AD.length cap)) (Al (Ag p { S with used:=true,AA:=t' } { D with tb:=b4,tc:=c4,tsp:=c0 }) (G:=(b,C Ae (Ax { t with size:=AH (AT w).1,dst:=d,i:=1,pc:=21 } (.slice a t.AD.length cap))) :: F) (a3 _ _ _ ⟨A,{ S with used:=true,AA:=t' },{ D with tb:=b4,tc:=c4,tsp:=c0 },{ t with size:=AH (AT w).1,dst:=d,i:=1,pc:=21 },_,j.symm,rfl,rfl,y.tab (by rw[hlen];exact H.tl) _ _ _ c6,rfl,rfl,rfl⟩)))))))))
 have W:t.pc≠20:=by simpa using W
 rw[if_neg W] at j;refine jeq (jif (λa0=>?_) (λa0=>?_))
 .have a0:=eq_of_beq a0;rw[if_pos a0] at j;obtain⟨q,hq,j⟩:=AF j;obtain⟨rfl,a5⟩:=BB hq;obtain⟨⟨w,O⟩,Q,j⟩:=AF j;have e1:=Cv Q;subst e1;cases j;refine jl rfl (jl rfl (Cw a5 (jcS (DG H Q) λ_ R1 D A hr y=>?_)));subst hr;refine jS (Ax { t with word:=w } (.slice a t.AD.length cap)) (js rfl rfl (by simp[Ax]) rfl (a3 _ _ _ ⟨A,{ S with used:=true },D,{ t with word:=w,pc:=22 },_,rfl,rfl,rfl,y,rfl,rfl,rfl⟩))
 have a0:t.pc≠21:=by simpa using a0
 rw[if_neg a0] at j;refine jeq (jif (λa1=>?_) (λa1=>?_))
 .have a1:=eq_of_beq a1;rw[if_pos a1] at j;obtain⟨q,hq,j⟩:=AF j;obtain⟨rfl,a5⟩:=BB hq;obtain⟨O,T,j⟩:=AF j;have e1:=F3 T;subst e1;obtain⟨n,hn,j⟩:=AF j;obtain⟨rfl,b7⟩:=BB hn;cases j;refine jl rfl (jl rfl (Cw a5 (jl rfl (jcS (Du H T) λ_ R1 D A hr y=>(jl rfl (Cw b7 (jS (Ax { t with i:=t.i + 1 } (.slice a t.AD.length cap)) (jS (Ax { t with i:=t.i + 1,pc:=21 } (.slice a t.AD.length cap)) (jl rfl (jl rfl (jeq (jif (λhz=>?_) (λhz=>?_)))))))))))))
  .refine js rfl rfl (by simp[Ax]) rfl (a3 _ _ _ ⟨A,{ S with used:=true,AC:=AU S.AC (t.dst + t.i) t.word },D,{ t with i:=t.i + 1,pc:=23 },_,(by rw[if_pos (eq_of_beq hz)]),rfl,rfl,y,rfl,rfl,rfl⟩)
  .exact a3 _ _ _ ⟨A,{ S with used:=true,AC:=AU S.AC (t.dst + t.i) t.word },D,{ t with i:=t.i + 1,pc:=21 },_,(by rw[if_neg (ne_of_beq_false hz)]),rfl,rfl,y,rfl,rfl,rfl⟩
 have a1:t.pc≠22:=by simpa using a1
 rw[if_neg a1] at j;refine jeq (jif (λa2=>?_) (λa2=>?_))
 .have a2:=eq_of_beq a2;rw[if_pos a2] at j;obtain⟨O,T,j⟩:=AF j;have e1:=F3 T;subst e1;cases j;refine jl rfl (jl rfl (jcS (Du H T) λ_ R1 D A hr y=>(js rfl rfl (by simp[Ax]) rfl (a3 _ _ _ ⟨A,{ S with used:=true,AC:=AU S.AC t.dst t.dst },D,{ t with pc:=24 },_,rfl,rfl,rfl,y,rfl,rfl,rfl⟩))))
 have a2:t.pc≠23:=by simpa using a2
 rw[if_neg a2] at j;refine jeq (jif (λa4=>?_) (λa4=>?_));rotate_left
 .rw[if_neg (ne_of_beq_false a4)] at j;cases j;refine BC eP.symm (a3 _ _ _ ⟨RM.le.refl _,S,g,t,_,rfl,rfl,rfl,H,rfl,rfl,rfl⟩)
 have a4:=eq_of_beq a4;rw[if_pos a4] at j;split at j
 .cases j
 rename_i b0;have b0:0<=t.ret/\t.ret<=100:=Classical.not_not.1 b0;have b8:inR (t.ret + 1):=⟨Z,Z⟩;obtain⟨⟨w,O⟩,Q,j⟩:=AF j;have e1:=Cv Q;subst e1;dsimp only at j;refine jl rfl (jcS (DG H Q) λ_ R1 D A hr y=>?_);subst hr;have b2:∀x,(C7 t t.ret x).AD = t.AD:=λx=>by simp only[C7];split<;>(try split)<;>(try split)<;>rfl
 refine Ab (λvs R' D'=>R.le R'/\∃S2 g2 G x,S' = S2.setT i (C7 t t.ret x)/\S2.th = S.th/\Ok R' S2 g2/\D' = Ag p S2 g2 ++ (b,C Ae (Ax t (.slice a t.AD.length cap))) :: G/\G = F/\vs = [Pt p,I i,Pt b,I x]) (λK3 b6=>?_) ?_;rotate_left
 .rintro e R2 D2 ⟨hR,S2,g2,G,x,rfl,a7,a8,rfl,rfl,he⟩;refine z_V ?_;refine jla (cs:=Ax t (.slice a t.AD.length cap)) (z_n 17) rfl (jl rfl (jp (Rt t a t.AD.length cap t.ret x b8) (js rfl rfl (by exact z_n 17) rfl (a3 _ _ _ ⟨hR,S2,g2,C7 t t.ret x,_,rfl,a7,b2 x,a8,rfl,rfl,rfl⟩))))
 refine jl rfl (jeq (jif (λhw=>?_) (λhw=>?_)))
 .have hw:=eq_of_beq hw;rw[if_pos hw] at j;obtain⟨S2,T,j⟩:=AF j;have e2:=F3 T;subst e2;obtain⟨S3,b9,j⟩:=AF j;cases j;obtain⟨t3,e3⟩:=bG b9;refine jl rfl (jl rfl (jcS (Du y T) λ_ R2 g2 b1 hr a8=>(jl rfl (jl rfl (jcS (XD a8 b9) λ_ R3 g3 c5 hr b5=>(jl rfl (b6 _ _ _ ⟨(A.trans b1).trans c5,S3,g3,_,t.dst,rfl,by rw[e3],b5,rfl,rfl,rfl⟩)))))))
 .rw[if_neg (ne_of_beq_false hw)] at j;cases j;exact b6 _ _ _ ⟨A,{ S with used:=true },D,_,w,rfl,rfl,y,rfl,rfl,rfl⟩
theorem bB {S S1:Sim} {v:Int} (h:S.oldV v = some S1):S1.th = S.th:=by
 simp only[Sim.oldV] at h;split at h
 .cases h
 .cases h;split<;>rfl
theorem ZM {p:Nat} {S S' : Sim} {g:Img} {i:Int} {R:RM} (H:Ok R S g) (j:S.field i = some S') :
  Fn P KI [Pt p,I i] R (Ag p S g) (DH p S' λ_=>True):=by
 refine Pv λF=>?_
 refine z_2 ?_;obtain⟨t,ht,j⟩:=AF j;obtain⟨o,ho,j⟩:=AF j;obtain⟨q1,a5,j⟩:=AF j;obtain⟨ref,a6,j⟩:=AF j;obtain⟨q3,a7,j⟩:=AF j;obtain⟨num,a8,j⟩:=AF j;obtain⟨rfl,a3⟩:=BB a5;obtain⟨rfl,b0⟩:=BB a6;obtain⟨rfl,b1⟩:=BB a7;obtain⟨rfl,b3⟩:=BB a8;obtain⟨h0,h1,h2,h3⟩:=Ay ht;refine Hc H ht rfl λb a cap hv=>(YU H ho λb2=>(jl rfl (Cw a3 (jl rfl (Cw b0 (jl rfl (Cw a3 (jl rfl (Cw b1 (jl rfl (Cw b3 (jl rfl (Ab (λvs R' D'=>R' = R/\D' = (b2,C 86 (eOp o)) :: (b,C Ae (Ax t (.slice a t.AD.length cap))) :: (Ag p S g ++ F)/\∃v:Bool,vs = [Pt p,I i,Pt b,Pt b2,I (t.h + 2 + o.f),I (t.h + 2 + t.sh.refs + o.f),I t.pc,.bool v]/\(v = true↔t.pc = 5\/t.pc = 12)) (λK hK=>?_) ?_)))))))))))))
 .refine jeq (jif (λh=>hK _ _ _ ⟨rfl,rfl,_,rfl,?_⟩) (λh=>jeq (hK _ _ _ ⟨rfl,rfl,_,rfl,?_⟩)))
  .rw[h];simp[eq_of_beq h]
  .simp[ne_of_beq_false h]
 rintro e R1 D1 ⟨rfl,hD,v,he,a1⟩;refine z_W ?_;refine jif (λa9=>?_) (λa2=>?_)
 .rw[if_pos (a1.1 a9)] at j;obtain⟨⟨w,S1⟩,G,j⟩:=AF j;refine jcS (DG H G) λ_ T g2 x N A=>?_
  subst N;refine jcS (am A j) λ_ W g3 y N D=>(B7 (x.trans y) trivial rfl D)
 rw[if_neg (λh=>by rw[a1.2 h] at a2;cases a2)] at j;refine jeq (jif (λc=>?_) (λc=>?_))
 .rw[if_pos (eq_of_beq c)] at j;obtain⟨⟨w,S1⟩,G,j⟩:=AF j;have e1:=Cv G;subst e1;obtain⟨S2,a0,j⟩:=AF j;cases j;have e2:=bB a0;refine jcS (DG H G) λ_ T g2 x N A=>?_
  subst N;refine jcS (Zf A a0) λ_ W g3 y N D=>(jS (Ax { t with pc:=7 } (.slice a t.AD.length cap)) (H9 (S2.setT i { t with pc:=7 }) D h0 (by rw[e2];exact h1) (by exact hv.le (x.trans y)) τ λg4 O=>(B7 (x.trans y) trivial rfl O)))
 rw[if_neg (ne_of_beq_false c)] at j;refine jeq (jif (λc=>?_) (λc=>?_))
 .rw[if_pos (eq_of_beq c)] at j;obtain⟨S1,Q,j⟩:=AF j;refine jl rfl (jcS (Du H Q) λ_ T g2 x N A=>(jcS (DX A j) λ_ W g3 y N D=>(B7 (x.trans y) trivial rfl D)))
 rw[if_neg (ne_of_beq_false c)] at j;refine jeq (jif (λc=>?_) (λc=>?_))
 .rw[if_pos (eq_of_beq c)] at j;obtain⟨S1,Q,j⟩:=AF j;refine jl rfl (jcS (Du H Q) λ_ T g2 x N A=>(jcS (DX A j) λ_ W g3 y N D=>(B7 (x.trans y) trivial rfl D)))
 rw[if_neg (ne_of_beq_false c)] at j;refine jeq (jif (λc=>?_) (λc=>?_))
 .rw[if_pos (eq_of_beq c)] at j;obtain⟨⟨w,S1⟩,G,j⟩:=AF j;refine jcS (DG H G) λ_ T g2 x N A=>?_
  subst N;refine jcS (DX A j) λ_ W g3 y N D=>(B7 (x.trans y) trivial rfl D)
 rw[if_neg (ne_of_beq_false c)] at j;refine jeq (jif (λc=>?_) (λc=>?_))
 .rw[if_pos (eq_of_beq c)] at j;obtain⟨⟨w,S1⟩,G,j⟩:=AF j;refine jcS (DG H G) λ_ T g2 x N A=>?_
  subst N;refine jcS (Wm A j) λ_ W g3 y N D=>(B7 (x.trans y) trivial rfl D)
 rw[if_neg (ne_of_beq_false c)] at j;refine jeq (jif (λc=>?_) (λc=>?_))
 .rw[if_pos (eq_of_beq c)] at j;obtain⟨⟨w,S1⟩,G,j⟩:=AF j;have e1:=Cv G;subst e1;dsimp only at j;refine jl rfl (jcS (DG H G) λ_ T g2 x N A=>?_);subst N;refine jeq (Ak (jl rfl jev) (jif (λc2=>?_) (λc2=>?_)))
  .rw[if_pos (eq_of_beq c2)] at j;obtain⟨S2,Q,j⟩:=AF j;refine jl rfl (jcS (Du A Q) λ_ W g3 y N D=>(jcS (DX D j) λ_ R4 g4 a4 N O=>(B7 ((x.trans y).trans a4) trivial rfl O)))
  .rw[if_neg (ne_of_beq_false c2)] at j;cases j;refine jS (Ax { t with pc:=10 } (.slice a t.AD.length cap)) (H9 (({ S with used:=true }:Sim).setT i { t with pc:=10 }) A h0 h1 (by exact hv.le x) τ λg4 O=>(B7 x trivial rfl O))
 rw[if_neg (ne_of_beq_false c)] at j;refine jeq (jif (λc=>?_) (λc=>?_))
 .rw[if_pos (eq_of_beq c)] at j;refine jl rfl (jl rfl (jeq (jif (λc2=>?_) (λc2=>?_))))
  .rw[if_pos (eq_of_beq c2)] at j;cases j;refine jS (Ax { t with pc:=14 } (.slice a t.AD.length cap)) (H9 (S.setT i { t with pc:=14 }) H h0 h1 (by exact hv) τ λg4 O=>(B7 (RM.le.refl _) trivial rfl O))
  .rw[if_neg (ne_of_beq_false c2)] at j;obtain⟨⟨w,S1⟩,G,j⟩:=AF j;refine jcS (DG H G) λ_ T g2 x N A=>?_
   subst N;refine jcS (Wm A j) λ_ W g3 y N D=>(B7 (x.trans y) trivial rfl D)
 .rw[if_neg (ne_of_beq_false c)] at j;cases j;exact B7 (RM.le.refl _) trivial rfl H
theorem YN {p:Nat} {S S' : Sim} {g:Img} {i:Int} {R:RM} (N:Ok R S g) (j:S.shape i = some S') :
  Fn P Kr [Pt p,I i] R (Ag p S g) (DH p S' λ_=>True):=by
 refine QR λF=>?_
 refine z_2 ?_;obtain⟨t,ht,j⟩:=AF j;split at j
 .cases j
 rename_i W;have W:=H4 (by simpa using W:S.sz = true);obtain⟨o,a8,j⟩:=AF j;obtain⟨h0,h1,h2,h3⟩:=Ay ht;refine Hc N ht rfl λb a cap hv=>(YU N a8 λb2=>(jl rfl (jeq (jif (λc=>?_) (λc=>?_)))))
 .rw[if_pos (eq_of_beq c)] at j;refine jl rfl (jl rfl (jeq (jp (Z8 (t.h == t.g)) (jcS (DX N j) λ_ R3 g3 D hr H=>(B7 D trivial rfl H)))))
 rw[if_neg (ne_of_beq_false c)] at j;refine jor [Pt p,I i,Pt b,Pt b2] ((o.kind == 10) || (o.kind == 11)) (λK' a3=>?_) (λe c u ho he=>?_)
 .refine jl rfl (jeq (jgO a3 λh1 hN=>jl rfl (jeq hN)))
 refine z_V ?_;rw[ho];refine jif (λhk=>?_) (λhk=>?_)
 .rw[if_pos (by simpa using hk)] at j;refine jl rfl (jl rfl (jl rfl (jc (YF o.kind t.h N.AI W.2.2.2.1) ?_)));intro v R1 A y O;have Q:=N.le y;cases hp:Ga S.AI o.kind t.h with
  | none=>
   rw[hp] at O j;obtain⟨rfl,rfl⟩:=O;refine jex rfl (jex rfl (DJ (jcS (DX Q j) λ_ R3 g3 D hr H=>(B7 (y.trans D) trivial rfl H))))
  | some l=>
   rw[hp] at O j;obtain⟨sv,⟨b4,T,b5,a6,b1,rfl,rfl⟩,rfl⟩:=O;refine jex rfl (jex rfl (CK (BE (b:=b4) λR2 a0 a5=>?_)));have a9:=CT a5 a6;refine BC (f9 _) (jss { S with AI:=l } { g with AI:=S0 b4 l.length T } rfl rfl δ τ τ (jcS (p:=p) (by exact DX { Q.le a0 with AI:=a9 } j) λ_ R3 g3 D hr H=>(B7 ((y.trans a0).trans D) trivial rfl H)))
 rw[if_neg (by simpa using hk)] at j;obtain⟨q,O,j⟩:=AF j;obtain⟨rfl,a7⟩:=BB O;obtain⟨⟨w,S1⟩,a1,j⟩:=AF j;have e1:=Cv a1;subst e1;dsimp only at j;refine jl rfl (Cw a7 (jcS (DG N a1) λ_ R1 g1 y hr Q=>?_));subst hr;refine jp (FP w) (jex rfl (jex rfl (ja λb3=>(js rfl rfl (by exact z_n 2) rfl (jla (by exact z_n 8) τ (jl rfl (jl rfl (jp (VO o (AT w).1.refs (AT w).1.nums) (jif (λhf=>?_) (λhf=>?_))))))))))
 .rw[if_pos hf] at j;refine jcS (DX Q j) λ_ R3 g3 D hr H=>(B7 (y.trans D) trivial rfl H)
 rw[if_neg (by rw[hf];decide)] at j;refine jla (by exact z_n 2) τ (jS (Ax { t with sh:=(AT w).1 } (.slice a t.AD.length cap)) ?_);have a2:∀(R2:RM) (D2:Chs) (q:Int) (m:M),q = (if o.kind = 2 then 5 else if o.kind = 3 then (if S.Ac = 1 then 6 else 7) else if o.kind = 4 then 8 else if o.kind = 5 then 9 else if o.kind = 7 then 10 else t.pc)->S' = ({ S with used:=true }:Sim).setT i { t with sh:=(AT w).1,pc:=q }:=λR2 D2 q m O=>by
  rw[O];simp only[dx] at j;exact j.symm
 refine Ab (λvs R' D'=>R' = R1/\∃q,S' = ({ S with used:=true }:Sim).setT i { t with sh:=(AT w).1,pc:=q }/\D' = Ag p { S with used:=true } g1 ++ (b,C Ae (Ax { t with sh:=(AT w).1,pc:=q } (.slice a t.AD.length cap))) :: F/\vs = [Pt p,I i,Pt b]) (λK hK=>?_) ?_;rotate_left
 .rintro e R2 D2 ⟨rfl,q,rfl,hD,he⟩;refine z_W ?_;refine H9 (({ S with used:=true }:Sim).setT i { t with sh:=(AT w).1,pc:=q }) Q h0 h1 (by exact hv.le y) τ λg4 b0=>(B7 y trivial rfl b0)
 refine jl rfl (Ab (λvs R' D'=>R' = R1/\∃q,S' = ({ S with used:=true }:Sim).setT i { t with sh:=(AT w).1,pc:=q }/\D' = Ag p { S with used:=true } g1 ++ (b,C Ae (Ax { t with sh:=(AT w).1,pc:=q } (.slice a t.AD.length cap))) :: F/\vs = [Pt p,I i,Pt b]) (λK2 a4=>?_) ?_);rotate_left
 .rintro e R2 D2 ⟨rfl,q,O,hD,he⟩;refine z_W ?_;exact hK _ _ _ ⟨rfl,q,O,rfl,rfl⟩
 have x:∀q:Int,q = (if o.kind = 2 then 5 else if o.kind = 3 then (if S.Ac = 1 then 6 else 7) else if o.kind = 4 then 8 else if o.kind = 5 then 9 else if o.kind = 7 then 10 else t.pc)->
   J R1 ((b3,C 68 [I (AT w).1.refs,I (AT w).1.nums]) :: (Ag p { S with used:=true } g1 ++ (b2,C 86 (eOp o)) :: (b,C Ae (Ax { t with sh:=(AT w).1,pc:=q } (.slice a t.AD.length cap))) :: F)) (K2 [Pt p,I i,Pt b]):=λq O=>by
  refine Al (Ag p { S with used:=true } g1) (G:=(b,C Ae (Ax { t with sh:=(AT w).1,pc:=q } (.slice a t.AD.length cap))) :: F) (a4 _ _ _ ⟨rfl,q,a2 R1 [] q (λ_=>True) O,rfl,rfl⟩)
 refine jeq (jif (λc2=>?_) (λc2=>?_))
 .refine js rfl rfl (by simp[Ax]) rfl (x 5 (by rw[if_pos (eq_of_beq c2)]))
 refine jeq (jif (λc3=>?_) (λc3=>?_))
 .refine jS (Ax { t with sh:=(AT w).1,pc:=7 } (.slice a t.AD.length cap)) (jl rfl (jeq (jif (λph=>?_) (λph=>?_))))
  .refine js rfl rfl (by simp[Ax]) rfl (x 6 (by rw[if_neg (ne_of_beq_false c2),if_pos (eq_of_beq c3),if_pos (eq_of_beq ph)]))
  .exact x 7 (by rw[if_neg (ne_of_beq_false c2),if_pos (eq_of_beq c3),if_neg (ne_of_beq_false ph)])
 refine jeq (jif (λT=>?_) (λT=>?_))
 .refine js rfl rfl (by simp[Ax]) rfl (x 8 (by rw[if_neg (ne_of_beq_false c2),if_neg (ne_of_beq_false c3),if_pos (eq_of_beq T)]))
 refine jeq (jif (λc5=>?_) (λc5=>?_))
 .refine js rfl rfl (by simp[Ax]) rfl (x 9 (by rw[if_neg (ne_of_beq_false c2),if_neg (ne_of_beq_false c3),if_neg (ne_of_beq_false T),if_pos (eq_of_beq c5)]))
 refine jeq (jif (λc7=>?_) (λc7=>?_))
 .refine js rfl rfl (by simp[Ax]) rfl (x 10 (by rw[if_neg (ne_of_beq_false c2),if_neg (ne_of_beq_false c3),if_neg (ne_of_beq_false T),if_neg (ne_of_beq_false c5),if_pos (eq_of_beq c7)]))
 .exact x t.pc (by rw[if_neg (ne_of_beq_false c2),if_neg (ne_of_beq_false c3),if_neg (ne_of_beq_false T),if_neg (ne_of_beq_false c5),if_neg (ne_of_beq_false c7)])
theorem XT {p:Nat} {S S' : Sim} {g:Img} {i:Int} {R:RM} (y:Ok R S g) (j:S.making i = some S') :
  Fn P JK [Pt p,I i] R (Ag p S g) (DH p S' λ_=>True):=by
 refine PD λF=>?_
 refine z_2 ?_;obtain⟨t,ht,j⟩:=AF j;obtain⟨o,b1,j⟩:=AF j;obtain⟨h0,h1,h2,h3⟩:=Ay ht;refine Hc y ht rfl λb a cap hv=>(YU y b1 λb2=>?_)
 refine Ab (λvs R' D'=>R.le R'/\∃S1 g1 t1,S1.th = S.th/\t1.AD = t.AD/\Ok R' S1 g1/\t.pc≠30/\t.pc≠31/\(let t2:={ t1 with pc:=33 };let S2:=S1.setT i t2;if t2.i = t2.size then (do (<- S2.top t2.dst t2.size).push i t2.dst) else some S2) = some S'/\
   D' = Ag p S1 g1 ++ (b,C Ae (Ax t1 (.slice a t.AD.length cap))) :: F/\vs = [Pt p,I i,Pt b]) (λK hK=>?_) ?_
 rotate_left
 .rintro e R2 D2 ⟨hR,S1,g1,t1,b3,hr,W,_,_,j,hD,he⟩;refine z_W ?_;dsimp only at j;refine jS (Ax { t1 with pc:=33 } (.slice a t.AD.length cap)) (H9 (S1.setT i { t1 with pc:=33 }) W h0 (by rw[b3];exact h1) (by rw[hr];exact hv.le hR) τ λg3 H=>(jl rfl (jl rfl (jeq (jif (λhz=>?_) (λhz=>?_))))))
  .rw[if_pos (eq_of_beq hz)] at j;obtain⟨S3,b5,j⟩:=AF j;refine jl rfl (jl rfl (jcS (XD H b5) λ_ R4 g4 a8 hr b6=>(jl rfl (jcS (P3 b6 j) λ_ R5 g5 a9 hr b7=>(B7 ((hR.trans a8).trans a9) trivial rfl b7)))))
  .rw[if_neg (ne_of_beq_false hz)] at j;cases j;exact B7 hR trivial rfl H
 refine jl rfl ?_;refine jcI hK λK2 a2=>?_
 refine jeq (jif (λA=>?_) (λA=>?_))
 .have A:=eq_of_beq A;rw[if_pos A] at j;dsimp only at j;refine jfo (jla (by exact z_n 8) τ (jp (Cb o.sh) (js rfl rfl (by simp[Ax]) rfl (jl rfl (jl rfl (jmk (HB i (AH o.sh) (by have:=y.tl;omega)) ?_))))));intro v N a1;cases a6:BZ S.AA i (AH o.sh) with
  | none=>
   rw[a6] at a1 j;obtain⟨rfl,rfl⟩:=a1;dsimp only at j;refine BC (f9 _) (jex rfl (jex rfl (jex rfl (Ab (λvs R' D'=>R' = R/\D' = (b2,C 86 (eOp o)) :: (b,C Ae (Ax { t with size:=AH o.sh } (.slice a t.AD.length cap))) :: (Ag p S g ++ F)/\∃c u,vs = [Pt p,I i,Pt b,SN,I 0,.bool false,c,u]/\GW c u (t.Aq == 2)) (λK3 a3=>?_) ?_))))
   .refine jtt (jl rfl (jeq (a3 _ _ _ ⟨rfl,rfl,_,_,rfl,Bm⟩)))
   .rintro e R2 D2 ⟨rfl,hD,c,u,he,ha⟩;refine z_W ?_;rw[ha];refine jif (λh2=>?_) (λh2=>?_)
    .rw[if_pos (eq_of_beq h2)] at j;refine jcS (DX y j) λ_ R3 g3 a4 hr H=>(B7 a4 trivial rfl H)
    .rw[if_neg (ne_of_beq_false h2)] at j;refine DJ (jcS (WR y j) λ_ R3 g3 a4 hr H=>(B7 a4 trivial rfl H))
  | some td=>
   obtain⟨t',d⟩:=td;rw[a6] at a1 j;obtain⟨sv,⟨b4,c4,b8,b0,rfl,rfl⟩,rfl⟩:=a1;simp only[dx] at j;have hlen:=M8 a6;refine jex rfl (jex rfl (jex rfl (Ab (λvs R' D'=>R' = R/\D' = [(b4,C AS (Af eRg t' ++ b8))] ++ ((b2,C 86 (eOp o)) :: (b,C Ae (Ax { t with size:=AH o.sh } (.slice a t.AD.length cap))) :: (Ag p S g ++ F))/\∃c u,vs = [Pt p,I i,Pt b,S0 b4 t'.length c4,I d,.bool true,c,u]/\GW c u false) (λK3 a3=>?_) ?_)))
   .exact jft (a3 _ _ _ ⟨rfl,rfl,_,_,rfl,Bu⟩)
   .rintro e R2 D2 ⟨rfl,hD,c,u,he,ha⟩;refine z_W ?_;rw[ha];refine CK (CK (Ru (jS (Ax { t with size:=AH o.sh,dst:=d } (.slice a t.AD.length cap)) (jS (Ax { t with size:=AH o.sh,dst:=d,i:=2 } (.slice a t.AD.length cap)) (jS (Ax { t with size:=AH o.sh,dst:=d,i:=2,pc:=31 } (.slice a t.AD.length cap)) (H9 (({ S with AA:=t' }:Sim).setT i { t with size:=AH o.sh,dst:=d,i:=2,pc:=31 }) (y.tab (by rw[hlen];exact y.tl) _ _ _ b0) h0 h1 (by exact hv) τ λg3 H=>?_))))));subst j;exact B7 (RM.le.refl _) trivial rfl H
 have A:t.pc≠30:=by simpa using A
 rw[if_neg A] at j;refine jeq (jif (λD=>?_) (λD=>?_))
 .have D:=eq_of_beq D;rw[if_pos D] at j;obtain⟨S1,O,j⟩:=AF j;have e1:=F3 O;subst e1;cases j;refine jl rfl (jl rfl (jcS (Du y O) λ_ R1 g1 a0 hr W=>(jS (Ax { t with pc:=32 } (.slice a t.AD.length cap)) (H9 (({ S with used:=true,AC:=AU S.AC t.dst t.dst }:Sim).setT i { t with pc:=32 }) W h0 h1 (by exact hv.le a0) τ λg3 H=>(B7 a0 trivial rfl H)))))
 have D:t.pc≠31:=by simpa using D
 rw[if_neg D] at j;obtain⟨⟨S2,t2⟩,x,j⟩:=AF j;dsimp only at j;refine jeq (jif (λQ=>?_) (λQ=>?_))
 .have Q:=eq_of_beq Q;rw[if_pos Q] at x;obtain⟨q,hq,x⟩:=AF x;obtain⟨rfl,a5⟩:=BB hq;obtain⟨S1,O,x⟩:=AF x;have e1:=F3 O;subst e1;cases x;refine jl rfl (Cw a5 (jfo (jla (by exact z_n 8) τ (jp (Ey o.sh) (Ak (jl rfl jev) (jcS (Du y O) λ_ R1 g1 a0 hr W=>(Al (Ag p { S with used:=true,AC:=AU S.AC (t.dst + 1) (AZ o.sh) } g1) (G:=(b,C Ae (Ax t (.slice a t.AD.length cap))) :: F) (a2 _ _ _ ⟨a0,{ S with used:=true,AC:=AU S.AC (t.dst + 1) (AZ o.sh) },g1,t,rfl,rfl,W,A,D,j,rfl,rfl⟩))))))))
 have Q:t.pc≠32:=by simpa using Q
 rw[if_neg Q] at x;refine jeq (jif (λT=>?_) (λT=>?_))
 .have T:=eq_of_beq T;rw[if_pos T] at x;obtain⟨q,hq,x⟩:=AF x;obtain⟨rfl,a5⟩:=BB hq;obtain⟨S1,O,x⟩:=AF x;have e1:=F3 O;subst e1;obtain⟨n,hn,x⟩:=AF x;obtain⟨rfl,a7⟩:=BB hn;cases x;refine jl rfl (jl rfl (Cw a5 (jcS (Du y O) λ_ R1 g1 a0 hr W=>(jl rfl (Cw a7 (jS (Ax { t with i:=t.i + 1 } (.slice a t.AD.length cap)) (Al (Ag p { S with used:=true,AC:=AU S.AC (t.dst + t.i) 0 } g1) (G:=(b,C Ae (Ax { t with i:=t.i + 1 } (.slice a t.AD.length cap))) :: F) (a2 _ _ _ ⟨a0,{ S with used:=true,AC:=AU S.AC (t.dst + t.i) 0 },g1,{ t with i:=t.i + 1 },rfl,rfl,W,A,D,j,rfl,rfl⟩))))))))
 have T:t.pc≠33:=by simpa using T
 rw[if_neg T] at x;cases x;refine Al (Ag p S g) (G:=(b,C Ae (Ax t (.slice a t.AD.length cap))) :: F) (a2 _ _ _ ⟨RM.le.refl _,S,g,t,rfl,rfl,y,A,D,j,rfl,rfl⟩)
end Go.Lf
end
