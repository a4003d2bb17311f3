/- A part of the proof of the given row: the walk of the law and of all that it calls. Conditions: none. -/
import Derived.Test.YtlagojobcbkpdaaGreatProg
import Derived.KernelRfl
import Derived.Test.YtlagojobcbkpdaaGreatCA
set_option linter.unusedVariables false
set_option linter.unusedSimpArgs false
section
namespace Go.Lf
open Go
section
variable {P:Program}
structure DOk (P:Program) (ops:Array Oper):Prop where
 sel:∀(j:Nat) (o:Oper) cs b,ops.toList[j]? = some o→o.op≠.select cs b
 bef:∀i o,ops.toList[i]? = some o→(∀k,Nat.testBit ((CL P ops.toList).bef.getD i 0) k = true↔∃e∈o.after.toList,Region.binds .any e = true∧(e.on = k∨Nat.testBit ((CL P ops.toList).bef.getD e.on 0) k = true))∧
  (∀e∈o.after.toList,Region.binds .any e = true→e.on < i)∧(Ce P o = true→∃d,o.dst = some d∧d ∉ CP ops.toList o)
 pair:∀i j oi oj d,i≠j→ops.toList[i]? = some oi→ops.toList[j]? = some oj→oi.dst = some d→
  (Ce P oi = true→oj.dst≠some d∧(d∈CP ops.toList oj→Nat.testBit ((CL P ops.toList).bef.getD j 0) i = true))∧
  ((d∈CP ops.toList oj∨oj.dst = some d)→Nat.testBit ((CL P ops.toList).bef.getD j 0) i = true∨Nat.testBit ((CL P ops.toList).bef.getD i 0) j = true)
theorem XE {ops:Array Oper} (h:CU P ops = true):P.follows .mixedOrders = true∧DOk P ops:=by
 simp only[CU,z_b] at h;obtain⟨⟨⟨h1,h2⟩,h3⟩,h4⟩:=h;refine⟨h1,⟨λj o cs b ho=>Region.noSelect_spec h2 j o cs b (by simpa using ho),λi o ho=>?_,λi j oi oj d hij hoi hoj hd=>?_⟩⟩
 ·have hi:i < ops.toList.length:=(ZI.1 ho).1;have:=ZE.1 h3 i (Zh.2 hi);simp only[ho,z_b] at this;obtain⟨⟨g1,g2⟩,g3⟩:=this;refine⟨λk=>?_,λe he hb=>?_,λhq=>?_⟩
  ·rw[Tl g1];exact WL
  ·have:=ZE.1 g2 e he;simp only[hb,aa,Yk,Nat.blt_eq] at this;exact this
  ·simp only[hq,aa,Yk] at g3;cases hd:o.dst with
   | none=>simp[hd] at g3
   | some d=>simp only[hd] at g3;exact⟨d,rfl,by simpa using g3⟩
 ·have hi:i < ops.toList.length:=(ZI.1 hoi).1;have hj:j < ops.toList.length:=(ZI.1 hoj).1;have:=ZE.1 (ZE.1 h4 i (Zh.2 hi)) j (Zh.2 hj);rw[JG hij] at this;simp only[Yk,VG,hoi,hoj,hd] at this;cases hq:Ce P oi with
  | true=>
   simp only[hq,cond_true,z_b,Z7,ZA,beq_eq_false_iff_ne] at this;refine⟨λ_=>⟨this.1,λhn=>?_⟩,λhn=>?_⟩
   ·rcases this.2 with h | h
    ·simp at h;exact absurd hn h
    ·exact h
   ·rcases hn with hn | hn
    ·rcases this.2 with h | h
     ·simp at h;exact absurd hn h
     ·exact .inl h
    ·exact absurd hn this.1
  | false=>
   simp only[hq,cond_false,ZA,Z7] at this;refine⟨(λhh=>nomatch hh),λhn=>?_⟩;rcases this with (h | h) | h
   ·exfalso;simp at h;rcases hn with hn | hn
    ·exact h.1 hn
    ·exact h.2 hn
   ·exact .inl h
   ·exact .inr h
section inv
variable {ops:Array Oper} {N:Nat}
abbrev B (P:Program) (ops:Array Oper) (i k:Nat):Prop:=Nat.testBit ((CL P ops.toList).bef.getD i 0) k = true
abbrev E (P:Program) (ops:Array Oper) (i:Nat):Prop:=Nat.testBit (CL P ops.toList).eff i = true
theorem UT {i:Nat}:E P ops i↔∃o,ops.toList[i]? = some o∧Ce P o = false:=by
 unfold E;simp only[CL];rw[OY];constructor
 ·rintro⟨h1,h2⟩;have hi:i < ops.toList.length:=Zh.1 h1;rw[Yl hi] at h2;exact⟨_,Yl hi,by simpa using h2⟩
 ·rintro⟨o,ho,hq⟩;exact⟨Zh.2 (ZI.1 ho).1,by simp[ho,hq]⟩
theorem YJ (h:DOk P ops) {i k:Nat} {o:Oper} (ho:ops.toList[i]? = some o):B P ops i k→k < i:=by
 induction i using Nat.strongRecOn generalizing k o with
 | _ i ih=>
  intro hb;obtain⟨e,he,hbd,hk⟩:=((h.bef i o ho).1 k).1 hb;have hlt:=(h.bef i o ho).2.1 e he hbd;rcases hk with rfl | hk
  ·exact hlt
  ·have hlen:e.on < ops.toList.length:=Nat.lt_trans hlt (ZI.1 ho).1;exact Nat.lt_trans (ih e.on hlt (Yl hlen) hk) hlt
theorem VY (h:DOk P ops) {i j k:Nat} {o:Oper} (ho:ops.toList[i]? = some o):B P ops i j→B P ops j k→B P ops i k:=by
 induction i using Nat.strongRecOn generalizing o with
 | _ i ih=>
  intro hij hjk;obtain⟨e,he,hbd,hk⟩:=((h.bef i o ho).1 j).1 hij;refine ((h.bef i o ho).1 k).2 ⟨e,he,hbd,.inr ?_⟩;rcases hk with rfl | hk
  ·exact hjk
  ·have hlt:=(h.bef i o ho).2.1 e he hbd;have hlen:e.on < ops.toList.length:=Nat.lt_trans hlt (ZI.1 ho).1;exact ih e.on hlt (Yl hlen) hk hjk
structure Inv (P:Program) (ops:Array Oper) (N:Nat) (listed:Array Bool) (done evd:Nat) (kn:Kn) (e:Env) (a:Act) (h:Cy):Prop where
 size:listed.size = ops.size
 closed:∀i,listed.getD i false = true→∀k,B P ops i k→listed.getD k false = true
 effI:∀i,E P ops i→(listed.getD i false = true↔Nat.testBit done i = true)
 effsub:∀k,Nat.testBit done k = true→E P ops k
 evdI:∀i o,ops.toList[i]? = some o→¬ E P ops i→(Nat.testBit evd i = true↔∀k,B P ops i k→E P ops k→Nat.testBit done k = true)
 val:∀i o,ops.toList[i]? = some o→¬ E P ops i→Nat.testBit evd i = true→listed.getD i false = false→Vq P ops.toList o e h
 asize:a.tmps.size = N
 adef:a.defers = []
 agree:∀t,(∀i o,ops.toList[i]? = some o→¬ E P ops i→Nat.testBit evd i = true→listed.getD i false = false→o.dst≠some t)→a.tmps.getD t undef = e t
 knI:Dw ops.toList kn e
def Sx (P:Program) (ops:Array Oper) (cs:List (Nat × List (Nat × List Nat))) (f:Nat) (done evd:Nat) (kn:Kn) (e:Env) (K:Env→M):M:=
 bif Nat.beq done (CL P ops.toList).eff then K e else
  ALL (((CL P ops.toList).idx.filter λj=>Nat.testBit (CL P ops.toList).eff j && !Nat.testBit done j && sub (Nat.land ((CL P ops.toList).bef.getD j 0) (CL P ops.toList).eff) done).map λj=>match ops.toList[j]? with
   | some o=>opG P ops.toList o kn e λkn v=>PZ P ops.toList (CL P ops.toList) cs f (Nat.lor done (2 ^ j)) evd kn (put e o.dst v) K
   | none=>F)
theorem VN:∀{l:List M} {h:Cy},ALL l h→∀m∈l,m h:=by
 intro l;induction l with
 | nil=>intro h _ m hm;cases hm
 | cons a r ih=>
  intro h hh m hm;cases r with
  | nil=>
   rcases Yw.1 hm with rfl | hm
   ·exact hh
   ·cases hm
  | cons b r=>
   rcases Yw.1 hm with rfl | hm
   ·exact hh.1
   ·exact ih hh.2 m hm
theorem Ut {a b k:Nat}:Nat.testBit (Nat.land a b) k = true↔Nat.testBit a k = true∧Nat.testBit b k = true:=by
 have e1:Nat.land a b = a &&& b:=rfl;rw[e1,Nat.testBit_and,z_b]
theorem Rf {a b k:Nat}:Nat.testBit (Nat.lor a b) k = true↔Nat.testBit a k = true∨Nat.testBit b k = true:=by
 have e1:Nat.lor a b = a ||| b:=rfl
 rw[e1,Nat.testBit_or,ZA]
theorem S9 {a b c:Nat}:sub (Nat.land a b) c = true↔∀k,Nat.testBit a k = true→Nat.testBit b k = true→Nat.testBit c k = true:=by
 rw[Vw];simp only[Ut,and_imp]
theorem WM (hO:DOk P ops) {cs:List (Nat × List (Nat × List Nat))} {f:Nat} {listed:Array Bool} {done evd:Nat} {kn:Kn} {e:Env} {a:Act} {K:Env→M} {h:Cy}
  (size:listed.size = ops.size) (closed:∀i,listed.getD i false = true→∀k,B P ops i k→listed.getD k false = true)
  (eff:∀i,E P ops i→(listed.getD i false = true↔Nat.testBit done i = true)) (effsub:∀k,Nat.testBit done k = true→E P ops k)
  (evdsub:∀i o,ops.toList[i]? = some o→¬ E P ops i→Nat.testBit evd i = true→∀k,B P ops i k→E P ops k→Nat.testBit done k = true)
  (evdclosed:∀i o,ops.toList[i]? = some o→¬ E P ops i→Nat.testBit evd i = true→∀k,B P ops i k→¬ E P ops k→Nat.testBit evd k = true)
  (listedEvd:∀i o,ops.toList[i]? = some o→¬ E P ops i→listed.getD i false = true→Nat.testBit evd i = true)
  (val:∀i o,ops.toList[i]? = some o→¬ E P ops i→Nat.testBit evd i = true→listed.getD i false = false→(done = 0∨reads o = false)→Vq P ops.toList o e h)
  (asize:a.tmps.size = N) (adef:a.defers = [])
  (agree:∀t,(∀i o,ops.toList[i]? = some o→¬ E P ops i→Nat.testBit evd i = true→listed.getD i false = false→o.dst≠some t)→a.tmps.getD t undef = e t)
  (hkn:Dw ops.toList kn e) (hS:PZ P ops.toList (CL P ops.toList) cs (f + 1) done evd kn e K h) :
  ∃evd' kn' e',Inv P ops N listed done evd' kn' e' a h∧Sx P ops cs f done evd' kn' e' K h:=by
 have sel:=hO.sel;simp only[PZ] at hS;generalize hnew:((CL P ops.toList).idx.filter λi=>!Nat.testBit (CL P ops.toList).eff i && !Nat.testBit evd i && sub (Nat.land ((CL P ops.toList).bef.getD i 0) (CL P ops.toList).eff) done) = new at hS;generalize hchk:(bif Nat.beq done 0 then [] else (CL P ops.toList).idx.filter λi=>Nat.testBit evd i && (match ops.toList[i]? with | some o=>reads o | none=>false) &&
   (CL P ops.toList).idx.all λj=>!(Nat.testBit done j && Nat.testBit ((CL P ops.toList).bef.getD j 0) i)) = chk at hS
 have memnew:∀i,i∈new↔i < ops.toList.length∧¬ E P ops i∧¬ Nat.testBit evd i = true∧∀k,B P ops i k→E P ops k→Nat.testBit done k = true:=by
  intro i;rw[← hnew,aJ];simp only[z_b,Z7,S9];constructor
  ·rintro⟨h1,⟨h2,h3⟩,h4⟩;exact⟨Zh.1 h1,by simp[E,h2],by simp[h3],h4⟩
  ·rintro⟨h1,h2,h3,h4⟩;exact⟨Zh.2 h1,⟨by simpa [E] using h2,by simpa using h3⟩,h4⟩
 have qOf:∀i o,ops.toList[i]? = some o→¬ E P ops i→Ce P o = true:=by
  intro i o ho hE;cases hq:Ce P o with
  | true=>rfl
  | false=>exact absurd (UT.2 ⟨o,ho,hq⟩) hE
 have newq:∀i∈new,∃o,ops.toList[i]? = some o∧Ce P o = true∧o.dst.isSome = true:=by
  intro i hi;obtain⟨h1,h2,_,_⟩:=(memnew i).1 hi;have ho:=Yl h1;obtain⟨d,hd,_⟩:=(hO.bef i _ ho).2.2 (qOf i _ ho h2);exact⟨_,ho,qOf i _ ho h2,by rw[hd];rfl⟩
 have asc:new.Pairwise (· < ·):=by
  rw[← hnew];exact List.Pairwise.filter _ (by simp[CL,List.pairwise_lt_range])
 have hclean:∀i j,i < j→j∈new→Rk ops.toList i j:=by
  intro i j hij hj oi oj d hoi hoj hd;obtain⟨oj',hoj',hqj,_⟩:=newq j hj;rw[hoj] at hoj';cases hoj';have hp:=hO.pair j i oj oi d (by omega) hoj hoi hd;refine⟨λhn=>?_,(hp.1 hqj).1⟩;exact absurd (YJ hO hoi ((hp.1 hqj).2 hn)) (by omega)
 have hp:new.Pairwise (Rk ops.toList):=by
  refine List.Pairwise.imp_of_mem (λ{i j} hi hj hij=>hclean i j hij hj) asc
 have hself:∀i∈new,∀o,ops.toList[i]? = some o→∀d,o.dst = some d→d ∉ CP ops.toList o:=by
  intro i hi o ho d hd;obtain⟨o',ho',hq,_⟩:=newq i hi;rw[ho] at ho';cases ho';obtain⟨d',hd',hn⟩:=(hO.bef i o ho).2.2 hq;rw[hd] at hd';cases hd';exact hn
 have chkq:∀i∈chk,∃o,ops.toList[i]? = some o∧Ce P o = true:=by
  intro i hi;rw[← hchk] at hi;cases hb:Nat.beq done 0 with
  | true=>rw[hb] at hi;cases hi
  | false=>
   rw[hb,cond_false,aJ] at hi;have h1:=Zh.1 hi.1;refine⟨_,Yl h1,?_⟩;have h2:=hi.2;simp only[Yl h1,z_b] at h2;have hr:=h2.1.2;unfold reads at hr;unfold Ce;split at hr
   ·rename_i hop;rw[hop]
   ·cases hr
 have hS2:∃kn3 e3,UP P ops.toList chk kn3 e3 (Sx P ops cs f done (Nat.lor evd (FP (λ_=>true) new)) kn3 e3 K) h∧Dw ops.toList kn3 e3∧
   (∀t,(∀i∈new,∀o,ops.toList[i]? = some o→o.dst≠some t)→e3 t = e t)∧∀i∈new,∀o,ops.toList[i]? = some o→Vq P ops.toList o e3 h:=by
  cases hf:(cs.find? λc=>Nat.beq c.1 done) with
  | none=>rw[hf] at hS;exact HH new kn e _ hkn newq hp hself hS
  | some c=>rw[hf] at hS;exact QP c.2 new e _ newq hp hself hS
 obtain⟨kn3,e3,hc,hkn3,hag,hvn⟩:=hS2;obtain⟨hrest,hvc⟩:=RU chk kn3 e3 _ hkn3 chkq hc;have evd' : ∀i,Nat.testBit (Nat.lor evd (FP (λ_=>true) new)) i = true↔Nat.testBit evd i = true∨i∈new:=by
  intro i;rw[Rf,OY];simp
 refine⟨_,kn3,e3,⟨size,closed,eff,effsub,?_,?_,asize,adef,?_,hkn3⟩,hrest⟩
 ·intro i o ho hE;rw[evd'];constructor
  ·rintro (h1 | h1)
   ·exact evdsub i o ho hE h1
   ·exact ((memnew i).1 h1).2.2.2
  ·intro Bp;by_cases he:Nat.testBit evd i = true
   ·exact .inl he
   ·exact .inr ((memnew i).2 ⟨(ZI.1 ho).1,hE,he,Bp⟩)
 ·intro i o ho hE he hl;rcases (evd' i).1 he with he | he
  case inr=>exact hvn i he o ho
  by_cases hcm:i∈chk
  ·exact hvc i hcm o ho
  ·have hdr:done = 0∨reads o = false:=by
    by_cases hd0:done = 0
    ·exact .inl hd0
    ·refine .inr ?_;cases hr:reads o with
     | false=>rfl
     | true=>
      exfalso;apply hcm;rw[← hchk,JG hd0,cond_false,aJ];have hlen:=(ZI.1 ho).1;refine⟨Zh.2 hlen,?_⟩;simp only[he,ho,hr,Yx,ZE,Z7,aM];intro j hj;cases hdj:Nat.testBit done j with
      | false=>exact .inl rfl
      | true=>
       refine .inr ?_;cases hbj:Nat.testBit ((CL P ops.toList).bef.getD j 0) i with
       | false=>rfl
       | true=>
        exfalso;have:=closed j ((eff j (effsub j hdj)).2 hdj) i hbj;rw[hl] at this;cases this
   have hq:=qOf i o ho hE;refine (val i o ho hE he hl hdr).congr hq (λt ht=>hag t λi' hi' oi' hoi' hdd=>?_) (λd hd=>hag d λi' hi' oi' hoi' hdd=>?_)
   ·obtain⟨o',ho',hq',_⟩:=newq i' hi';rw[hoi'] at ho';cases ho';have hne:i'≠i:=λhh=>by subst hh;exact ((memnew i').1 hi').2.2.1 he
    have hb:=((hO.pair i' i oi' o t hne hoi' ho hdd).1 hq').2 ht;exact ((memnew i').1 hi').2.2.1 (evdclosed i o ho hE he i' hb ((memnew i').1 hi').2.1)
   ·obtain⟨o',ho',hq',_⟩:=newq i' hi';rw[hoi'] at ho';cases ho';have hne:i'≠i:=λhh=>by subst hh;exact ((memnew i').1 hi').2.2.1 he
    exact ((hO.pair i' i oi' o d hne hoi' ho hdd).1 hq').1 hd
 ·intro t ht;rw[hag t (λi hi o ho=>?_)]
  ·exact agree t (λi o ho hE he hl=>ht i o ho hE ((evd' i).2 (.inl he)) hl)
  ·have hm:=(memnew i).1 hi;refine ht i o ho hm.2.1 ((evd' i).2 (.inr hi)) ?_;cases hl:listed.getD i false with
   | false=>rfl
   | true=>exact absurd (listedEvd i o ho hm.2.1 hl) hm.2.2.1
theorem Va {l:List Oper} {o:Oper} {kn:Kn} {e:Env} {k:Kn→Value→M} {h:Cy} (hkn:Dw l kn e) (hG:opG P l o kn e k h) :
  (DP l o e = true∧∃kn',Dw l kn' e∧opK P (ev e) o (k (E8 l o.dst kn')) h)∨(DP l o e = false∧∃kn',Dw l kn' e∧k (E8 l o.dst kn') undef h):=by
 unfold opG at hG;cases hg:o.guard with
 | none=>simp only[hg] at hG;exact .inl ⟨by simp[DP,hg],kn,hkn,hG⟩
 | some jw=>
  obtain⟨j,want⟩:=jw;simp only[hg] at hG;cases hk:Je kn j want with
  | some t=>
   obtain⟨d,hd,he⟩:=hkn _ (J0 hk);simp only at hd he;have hw:DP l o e = t:=by simp only[DP,hg,hd];exact he
   cases t with
   | true=>simp only[hk] at hG;exact .inl ⟨hw,kn,hkn,hG⟩
   | false=>simp only[hk] at hG;exact .inr ⟨hw,kn,hkn,hG⟩
  | none=>
   simp only[hk] at hG;cases hd:EP l j with
   | none=>simp only[hd] at hG;exact hG.elim
   | some d=>
    simp only[hd] at hG;have hk1:∀t,(match e d with | .bool b=>b == want | _=>false) = t→Dw l (((j,want),t) :: kn) e:=by
     intro t ht g hgm;rcases Yw.1 hgm with rfl | hgm
     ·exact⟨d,hd,ht⟩
     ·exact hkn g hgm
    have hw:DP l o e = (match e d with | .bool b=>b == want | _=>false):=by simp only[DP,hg,hd]<;>rfl
    cases hb:(match e d with | .bool b=>b == want | _=>false) with
    | true=>
     refine .inl ⟨hw.trans hb,_,hk1 true hb,?_⟩;generalize e d = v at hb hG;cases v<;>simp at hb;subst hb;simpa [GT] using hG
    | false=>
     refine .inr ⟨hw.trans hb,_,hk1 false hb,?_⟩;generalize e d = v at hb hG;cases v<;>simp at hb<;>try exact hG
     rename_i b;have:(b == want) = false:=by simpa using hb
     simp only[GT,this,cond_false] at hG;exact hG
theorem TA {l:List Oper} {o:Oper} {e:Env} {a:Act} (hl:l = ops.toList) (h:∀t∈CP l o,a.tmps.getD t undef = e t):Region.wanted o (yielded ops a.tmps) = DP l o e:=by
 subst hl;unfold DP;cases hg:o.guard with
 | none=>exact J3 hg _
 | some jw=>
  obtain⟨j,w⟩:=jw;rw[Jr hg];simp only;cases hd:EP ops.toList j with
  | none=>
   have:yielded ops a.tmps j = none:=by
    unfold yielded EP at *;cases hj:ops[j]? with
    | none=>simp
    | some oj=>
     have:ops.toList[j]? = some oj:=by simpa using hj
     rw[this] at hd;simp only at hd;simp[hd]
   rw[this];rfl
  | some d=>
   have hy:yielded ops a.tmps j = match e d with | .bool b=>some b | _=>none:=by
    unfold EP at hd;cases hj:ops.toList[j]? with
    | none=>simp[hj] at hd
    | some oj=>
     simp only[hj] at hd;have hj' : ops[j]? = some oj:=by simpa using hj
     have hn:=h d (ZZ _ (by simp[hg,EP,hj,hd]));unfold yielded;simp only[hj',z_o,hd];rw[← hn];rw[Array.getD_eq_getD_getElem?];cases ht:a.tmps[d]? with
     | none=>rfl
     | some v=>simp;cases v<;>rfl
   rw[hy];simp only;generalize e d = v;cases v<;>rfl
theorem Vg {l:List Oper} {o:Oper} {e:Env} {a:Act} (hs:∀cs b,o.op≠.select cs b) (h:∀t∈CP l o,a.tmps.getD t undef = e t):execOp a.eval o = execOp (ev e) o:=by
 refine execOp_congr o hs λx hx=>?_
 cases x<;>simp only[Act.eval,ev];rename_i t;exact h t (ZS _ (List.mem_filterMap.2 ⟨.tmp t,by simpa using hx,rfl⟩))
def cnt (listed:Array Bool):Nat→Nat
 | 0=>0
 | n + 1=>cnt listed n + (bif listed.getD n false then 0 else 1)
theorem Vk {listed:Array Bool} {i:Nat} (hi:listed.getD i false = false) (his:i < listed.size):∀n,(n≤i→cnt (listed.setIfInBounds i true) n = cnt listed n)∧(i < n→cnt (listed.setIfInBounds i true) n + 1 = cnt listed n):=by
 intro n;induction n with
 | zero=>exact⟨λ_=>rfl,λh=>absurd h (Nat.not_lt_zero _)⟩
 | succ n ih=>
  simp only[cnt];refine⟨λhn=>?_,λhn=>?_⟩
  ·rw[ih.1 (by omega),getD_set_ne false (by omega)]
  ·by_cases hni:n = i
   ·subst hni;rw[ih.1 (z_n _),hi];simp[his]
   ·rw[getD_set_ne false (λh=>hni h.symm)];have:=ih.2 (by omega);omega
theorem W0 {listed:Array Bool} {i:Nat} (hi:listed.getD i false = false):∀n,i < n→0 < cnt listed n:=by
 intro n;induction n with
 | zero=>intro h;exact absurd h (Nat.not_lt_zero _)
 | succ n ih=>
  intro h;simp only[cnt];by_cases hni:n = i
  ·subst hni;rw[hi];simp
  ·have:=ih (by omega);omega
theorem YT {w0:World} (hO:DOk P ops) (hds:EU N ops.toList = true) {cs:List (Nat × List (Nat × List Nat))} {K:Env→M} {Q:Exit→Act→World→Prop}
  (hK:∀a' e' w',BF w0 w'→Fit N a' e'→K e' w'.heap→Q .normal a' w') :
  ∀(m:Nat) (listed:Array Bool) (done evd:Nat) (kn:Kn) (e:Env) (a:Act) (w:World) (f:Nat),BF w0 w→Inv P ops N listed done evd kn e a w.heap→cnt listed ops.size≤m→
  Sx P ops cs f done evd kn e K w.heap→wpAny P .any ops Q m listed a w:=by
 have qOf:∀i o,ops.toList[i]? = some o→¬ E P ops i→Ce P o = true:=by
  intro i o ho hE;cases hq:Ce P o with
  | true=>rfl
  | false=>exact absurd (UT.2 ⟨o,ho,hq⟩) hE
 have fin:∀(listed:Array Bool) (done evd:Nat) (kn:Kn) (e:Env) (a:Act) (w:World) (f:Nat),BF w0 w→Inv P ops N listed done evd kn e a w.heap→Sx P ops cs f done evd kn e K w.heap→
   (∀i,i < ops.size→listed.getD i false = true)→Q .normal a w:=by
  intro listed done evd kn e a w f h0 hI hR Bp;have hde:done = (CL P ops.toList).eff:=by
   apply Nat.eq_of_testBit_eq;intro k;cases hd:Nat.testBit done k with
   | true=>exact (hI.effsub k hd).symm
   | false=>
    cases he:Nat.testBit (CL P ops.toList).eff k with
    | false=>rfl
    | true=>
     obtain⟨o,ho,_⟩:=UT.1 (show E P ops k from he);have hlt:k < ops.size:=by simpa using (ZI.1 ho).1
     have:=(hI.effI k he).1 (Bp k hlt);rw[hd] at this;cases this
  unfold Sx at hR;rw[hde,Nat.beq_refl,cond_true] at hR;refine hK a e w h0 ⟨hI.asize,λt=>hI.agree t λi o ho _ _ hl=>?_,hI.adef⟩ hR;have hlt:i < ops.size:=by simpa using (ZI.1 ho).1
  rw[Bp i hlt] at hl;cases hl
 have allDone:∀(listed:Array Bool),listed.size = ops.size→Region.ready .any ops listed = []→∀i,i < ops.size→listed.getD i false = true:=by
  intro listed hs hr i;induction i using Nat.strongRecOn with
  | _ i ih=>
   intro hi;cases hl:listed.getD i false with
   | true=>rfl
   | false=>
    exfalso;have hoi:ops.toList[i]? = some ops[i]:=by simp[hi]
    have:i∈Region.ready .any ops listed:=by
     rw[mem_ready];refine⟨?_,ops[i],by simp[hi],λe he hb=>?_⟩
     ·rw[Array.getD_eq_getD_getElem?] at hl ⊢;have:i < listed.size:=by omega
      simp[this] at hl ⊢;exact hl
     ·have hlt:=(hO.bef i _ hoi).2.1 e (by simpa using he) hb;exact ih e.on hlt (by omega)
    rw[hr] at this;cases this
 intro m;induction m with
 | zero=>
  intro listed done evd kn e a w f h0 hI hm hR;have Bp:∀i,i < ops.size→listed.getD i false = true:=by
   intro i hi;cases hl:listed.getD i false with
   | true=>rfl
   | false=>have:=W0 hl ops.size hi;omega
  refine⟨?_,fin listed done evd kn e a w f h0 hI hR Bp⟩;cases hr:Region.ready .any ops listed with
  | nil=>rfl
  | cons i r=>
   have hi:i∈Region.ready .any ops listed:=by rw[hr];simp
   obtain⟨h1,o,ho,_⟩:=mem_ready.1 hi;have hlt:i < ops.size:=(Zm.1 ho).1;have:=Bp i hlt;rw[Array.getD_eq_getD_getElem?] at h1 this;have hl:i < listed.size:=by rw[hI.size];exact hlt
   simp[hl] at h1 this;rw[h1] at this;cases this
 | succ m ih=>
  intro listed done evd kn e a w f h0 hI hm hR;refine⟨λhr=>fin listed done evd kn e a w f h0 hI hR (allDone listed hI.size hr),λi hi=>?_⟩;obtain⟨hl',o,ho',hedge⟩:=mem_ready.1 hi;have hlt:i < ops.size:=(Zm.1 ho').1;have hls:i < listed.size:=by rw[hI.size];exact hlt
  have ho:ops.toList[i]? = some o:=by simpa using ho'
  have hl:listed.getD i false = false:=by
   rw[Array.getD_eq_getD_getElem?] at hl' ⊢;simp[hls] at hl' ⊢;exact hl'
  have hbl:∀k,B P ops i k→listed.getD k false = true:=by
   intro k hb;obtain⟨ed,he,hbd,hk⟩:=((hO.bef i o ho).1 k).1 hb;have hon:=hedge ed (by simpa using he) hbd;rcases hk with rfl | hk
   ·exact hon
   ·exact hI.closed _ hon k hk
  have hcnt:cnt (listed.setIfInBounds i true) ops.size≤m:=by
   have:=(Vk hl hls ops.size).2 hlt;omega
  have hdlt:∀t,o.dst = some t→t < N:=Tq hds (List.mem_of_getElem? ho);have hnames:∀t∈CP ops.toList o,a.tmps.getD t undef = e t:=by
   intro t ht;refine hI.agree t λi' oi' hoi' hE' he' hl'' hdd=>?_
   by_cases hii:i' = i
   ·subst hii;rw[ho] at hoi';cases hoi';obtain⟨d,hd,hn⟩:=(hO.bef i' o ho).2.2 (qOf i' o ho hE');rw[hd] at hdd;cases hdd;exact hn ht
   ·have:=((hO.pair i' i oi' o t hii hoi' ho hdd).1 (qOf i' oi' hoi' hE')).2 ht;rw[hbl i' this] at hl'';cases hl''
  have hwant:=TA (ops:=ops) (o:=o) (e:=e) (a:=a) rfl hnames;have hexec:=Vg (hO.sel i o · · ho) hnames;have lset:∀k,(listed.setIfInBounds i true).getD k false = true↔k = i∨listed.getD k false = true:=by
   intro k;by_cases hk:k = i
   ·subst hk;simp[hls]
   ·rw[getD_set_ne false (λh=>hk h.symm)];simp[hk]
  have closed' : ∀j,(listed.setIfInBounds i true).getD j false = true→∀k,B P ops j k→(listed.setIfInBounds i true).getD k false = true:=by
   intro j hj k hb;rw[lset] at hj ⊢;rcases hj with rfl | hj
   ·exact .inr (hbl k hb)
   ·exact .inr (hI.closed j hj k hb)
  have unl:∀j,(listed.setIfInBounds i true).getD j false = false→j≠i∧listed.getD j false = false:=by
   intro j hj;refine⟨λh=>?_,?_⟩
   ·rw[(lset j).2 (.inl h)] at hj;cases hj
   ·cases hh:listed.getD j false with
    | false=>rfl
    | true=>rw[(lset j).2 (.inr hh)] at hj;cases hj
  have aput:∀(v:Value) t,(a.put o.dst v).tmps.getD t undef = if o.dst = some t then v else a.tmps.getD t undef:=by
   intro v t;cases hd:o.dst with
   | none=>simp[Act.put]
   | some d=>
    have hdl:=hdlt d hd;simp only[Act.put,Array.getD_eq_getD_getElem?];by_cases hdt:d = t
    ·subst hdt;simp[hI.asize,hdl]
    ·rw[Array.getElem?_setIfInBounds_ne hdt,if_neg (by simpa using hdt)]
  have asz:∀v,(a.put o.dst v).tmps.size = N∧(a.put o.dst v).defers = []:=by
   intro v;cases hd:o.dst<;>simp[Act.put,hI.asize,hI.adef]
  unfold wpOp;rw[ho'];simp only;rw[hwant];by_cases hE:E P ops i
  ·
   have hdi:Nat.testBit done i = false:=by
    cases hd:Nat.testBit done i with
    | false=>rfl
    | true=>rw[(hI.effI i hE).2 hd] at hl;cases hl
   have hRi:opG P ops.toList o kn e (λkn v=>PZ P ops.toList (CL P ops.toList) cs f (Nat.lor done (2 ^ i)) evd kn (put e o.dst v) K) w.heap:=by
    unfold Sx at hR;have hne:Nat.beq done (CL P ops.toList).eff = false:=JG λhh=>by
     rw[hh] at hdi;have:Nat.testBit (CL P ops.toList).eff i = true:=hE;rw[this] at hdi;cases hdi
    rw[hne,cond_false] at hR;have:=VN hR _ (ZU.2 ⟨i,aJ.2 ⟨Zh.2 (by simpa using hlt),?_⟩,rfl⟩)
    ·simpa only[ho] using this
    ·simp only[z_b,Z7,hdi,z_t,S9];exact⟨hE,λk hb hEk=>(hI.effI k hEk).1 (hbl k hb)⟩
   have next:∀(kn' : Kn) (v:Value) (w' : World),BF w w'→Dw ops.toList kn' e→PZ P ops.toList (CL P ops.toList) cs f (Nat.lor done (2 ^ i)) evd (E8 ops.toList o.dst kn') (put e o.dst v) K w'.heap→
     wpAny P .any ops Q m (listed.setIfInBounds i true) (a.put o.dst v) w':=by
    intro kn' v w' hsm hk' hS;cases f with
    | zero=>exact hS.elim
    | succ f=>
     have hb2:∀k,Nat.testBit (Nat.lor done (2 ^ i)) k = true↔Nat.testBit done k = true∨i = k:=by
      intro k;rw[Rf,Nat.testBit_two_pow];simp
     have qne:∀j,¬ E P ops j→j≠i:=λj hj hh=>hj (by rw[hh];exact hE)
     obtain⟨evd',kn2,e2,hI2,hR2⟩:=WM (N:=N) (a:=a.put o.dst v) hO (by simp[hI.size]) closed'
      (λj hEj=>by
       rw[lset,hb2]
       constructor
       ·rintro (rfl | h)
        ·exact .inr rfl
        ·exact .inl ((hI.effI j hEj).1 h)
       ·rintro (h | rfl)
        ·exact .inr ((hI.effI j hEj).2 h)
        ·exact .inl rfl)
      (λk hk=>by
       rcases (hb2 k).1 hk with h | rfl
       ·exact hI.effsub k h
       ·exact hE)
      (λj oj hoj hEj hev k hb hEk=>(hb2 k).2 (.inl ((hI.evdI j oj hoj hEj).1 hev k hb hEk)))
      (λj oj hoj hEj hev k hb hEk=>by
       have hklt:k < ops.toList.length:=Nat.lt_trans (YJ hO hoj hb) (ZI.1 hoj).1
       refine (hI.evdI k _ (Yl hklt) hEk).2 λk' hb' hE'=>?_
       exact (hI.evdI j oj hoj hEj).1 hev k' (VY hO hoj hb hb') hE')
      (λj oj hoj hEj hlj=>by
       have hji:=qne j hEj
       have hlj' : listed.getD j false = true:=((lset j).1 hlj).resolve_left hji
       exact (hI.evdI j oj hoj hEj).2 λk hb hEk=>(hI.effI k hEk).1 (hI.closed j hlj' k hb))
      (λj oj hoj hEj hev hlj hdr=>by
       obtain⟨hji,hlj⟩:=unl j hlj
       have hrd:reads oj = false:=by
        rcases hdr with h0 | h
        ·exfalso
         have:=(hb2 i).2 (.inr rfl)
         rw[h0] at this;simp at this
        ·exact h
       have hnot:∀d,o.dst = some d→d ∉ CP ops.toList oj∧oj.dst≠some d:=by
        intro d hd
        have hp:=(hO.pair i j o oj d (λh=>hji h.symm) ho hoj hd).2
        refine⟨λhn=>?_,λhn=>?_⟩
        ·rcases hp (.inl hn) with h | h
         ·rw[(hI.evdI j oj hoj hEj).1 hev i h hE] at hdi;cases hdi
         ·rw[hbl j h] at hlj;cases hlj
        ·rcases hp (.inr hn) with h | h
         ·rw[(hI.evdI j oj hoj hEj).1 hev i h hE] at hdi;cases hdi
         ·rw[hbl j h] at hlj;cases hlj
       refine Vq.heap (h:=w.heap) (qOf j oj hoj hEj) hrd ((hI.val j oj hoj hEj hev hlj).congr (qOf j oj hoj hEj) (λt ht=>?_) (λd hd=>?_))
       ·exact F9 λhh=>(hnot t hh).1 ht
       ·exact F9 λhh=>(hnot d hh).2 hd)
      (asz v).1 (asz v).2
      (λt ht=>by
       rw[aput]
       by_cases hdt:o.dst = some t
       ·rw[if_pos hdt,hdt,Od]
       ·rw[if_neg hdt,F9 hdt]
        exact hI.agree t λj oj hoj hEj hev hlj=>ht j oj hoj hEj hev (by
         rw[getD_set_ne false (λh=>qne j hEj h.symm)];exact hlj))
      (hk'.drop _ _) hS
     exact ih _ _ _ _ _ _ _ _ (h0.trans hsm) hI2 hcnt hR2
   rcases Va hI.knI hRi with ⟨hw,kn',hk',hop⟩ | ⟨hw,kn',hk',hop⟩
   ·rw[hw,if_pos rfl];refine .inl ?_;unfold Oper.wp;rw[hexec];exact J9 (λv w' hsm hv=>next kn' v w' hsm hk' hv) (Iy (λf=>rfl) o hop)
   ·rw[hw,if_neg (by simp)];exact next kn' undef w (BF.refl w) hk' hop
  ·
   have hq:=qOf i o ho hE;have hev:Nat.testBit evd i = true:=(hI.evdI i o ho hE).2 λk hb hEk=>(hI.effI k hEk).1 (hbl k hb)
   obtain⟨d,hd,hqv⟩:=hI.val i o ho hE hev hl;have next:∀(w' : World),BF w w'→w'.heap = w.heap→wpAny P .any ops Q m (listed.setIfInBounds i true) (a.put o.dst (e d)) w':=by
    intro w' hsm hw';refine ih _ done evd kn e _ w' f (h0.trans hsm) ⟨by simp[hI.size],closed',λj hEj=>?_,hI.effsub,hI.evdI,λj oj hoj hEj hevj hlj=>?_,(asz _).1,(asz _).2,λt ht=>?_,hI.knI⟩ hcnt (by rw[hw'];exact hR)
    ·rw[lset,← hI.effI j hEj];constructor
     ·rintro (rfl | h)
      ·exact absurd hEj hE
      ·exact h
     ·exact .inr
    ·rw[hw'];exact hI.val j oj hoj hEj hevj (unl j hlj).2
    ·rw[aput,hd];by_cases hdt:d = t
     ·subst hdt;rw[if_pos rfl]
     ·rw[if_neg (by simpa using hdt)];refine hI.agree t λj oj hoj hEj hevj hlj=>?_
      by_cases hji:j = i
      ·subst hji;rw[ho] at hoj;cases hoj;rw[hd];simpa using hdt
      ·exact ht j oj hoj hEj hevj (by rw[getD_set_ne false (λh=>hji h.symm)];exact hlj)
   rcases hqv.run hq with ⟨hw,hrun⟩ | ⟨hw,hv⟩
   ·rw[hw,if_pos rfl];refine .inl ?_;obtain⟨w',h1,hsm,h2⟩:=hrun w rfl;unfold Oper.wp;rw[hexec,h1];exact next w' hsm h2
   ·rw[hw,if_neg (by simp),← hv];exact next w (BF.refl w) rfl
theorem UB:Nl P N (CU P):=by
 intro id ops cs K Q a e w0 w h0 hok hds hf hK h;obtain⟨hm,hO⟩:=XE hok;refine wp_region_any hm ?_;have hh:PZ P ops.toList (CL P ops.toList) cs (ops.toList.length + 1) 0 0 [] e K ({ w with drawn:=w.drawn + 1 }:World).heap:=h;have g0:∀i,(Array.replicate ops.size false).getD i false = false:=by
  intro i;rw[Array.getD_eq_getD_getElem?,Array.getElem?_replicate];split<;>rfl
 obtain⟨evd',kn',e',hI,hR⟩:=WM (N:=N) (a:=a) (listed:=Array.replicate ops.size false) hO (by simp) (λi hi=>by rw[g0] at hi;cases hi)
  (λi _=>by rw[g0];simp) (λk hk=>by simp at hk) (λi o _ _ hk=>by simp at hk) (λi o _ _ hk=>by simp at hk) (λi o _ _ hk=>by rw[g0] at hk;cases hk)
  (λi o _ _ hk=>by simp at hk) hf.1 hf.2.2 (λt _=>hf.2.1 t) (by intro g hg;cases hg) hh
 refine YT hO hds hK ops.size _ _ _ _ _ a _ _ ⟨h0.1,h0.2⟩ hI ?_ hR;have:∀n,cnt (Array.replicate ops.size false) n≤n:=by
  intro n;induction n with
  | zero=>simp[cnt]
  | succ n ih=>simp only[cnt];cases (Array.replicate ops.size false).getD n false<;>simp<;>omega
 exact this _
end inv
end
abbrev RM:=Nat→Option Obj
abbrev Chs:=List (Nat × Obj)
@[reducible] def C (t:Nat) (cs:List Value):Obj:=.cells cs.toArray t (0,0)
def RM.le (R R' : RM):Prop:=∀b o,R b = some o→R' b = some o
theorem RM.le.refl (R:RM):R.le R:=λ_ _ h=>h
theorem RM.le.trans {R R' R'' : RM} (h:R.le R') (h' : R'.le R''):R.le R'':=λb o hb=>h' b o (h b o hb)
structure St (h:Cy) (R:RM) (D:Chs):Prop where
 rd:∀b o,R b = some o→h[b]? = some o
 at_:∀b o,(b,o)∈D→h[b]? = some o∧R b = none
 nd:(D.map Prod.fst).Nodup
def J (R:RM) (D:Chs) (m:M):Prop:=∀h,St h R D→m h
class Tk (D:Chs) (b:Nat) (o:outParam Obj) (E:outParam Chs):Prop where p:D.Perm ((b,o) :: E)
instance Tk.head (b:Nat) (o:Obj) (E:Chs):Tk ((b,o) :: E) b o E:=⟨ZP _⟩
instance (priority:=low) Tk.tail (c:Nat × Obj) (D:Chs) (b:Nat) (o:Obj) (E:Chs) [t:Tk D b o E]:Tk (c :: D) b o (c :: E):=⟨(t.p.cons c).trans (aC _ _ _)⟩
class Up (D:Chs) (b:Nat) (o:outParam Obj) (o' : Obj) (D' : outParam Chs):Prop where
 m:(b,o)∈D
 m' : (b,o')∈D'
 f:D'.map Prod.fst = D.map Prod.fst
 u:∀b' x,(b',x)∈D'→(b' = b∧x = o')∨(b',x)∈D
instance Up.head (b:Nat) (o o' : Obj) (E:Chs):Up ((b,o) :: E) b o o' ((b,o') :: E):=
 ⟨by simp,by simp,by simp,λb' x h=>by simp at h;rcases h with ⟨rfl,rfl⟩ | h;exact .inl ⟨rfl,rfl⟩;exact .inr (by simp[h])⟩
instance (priority:=low) Up.tail (c:Nat × Obj) (D:Chs) (b:Nat) (o o' : Obj) (D' : Chs) [t:Up D b o o' D']:Up (c :: D) b o o' (c :: D'):=
 ⟨by simp[t.m],by simp[t.m'],by simp[t.f],λb' x h=>by
  rcases Yw.1 h with h | h
  ·exact .inr (by simp[h])
  ·rcases t.u b' x h with h | h
   ·exact .inl h
   ·exact .inr (by simp[h])⟩
class At (D:Chs) (b:Nat) (o:outParam Obj):Prop where m:(b,o)∈D
instance At.head (b:Nat) (o:Obj) (E:Chs):At ((b,o) :: E) b o:=⟨by simp⟩
instance (priority:=low) At.tail (c:Nat × Obj) (D:Chs) (b:Nat) (o:Obj) [t:At D b o]:At (c :: D) b o:=⟨by simp[t.m]⟩
class Sp (D A:Chs) (F:outParam Chs):Prop where p:D.Perm (A ++ F)
instance Sp.nil (D:Chs):Sp D [] D:=⟨ZP _⟩
instance Sp.cons (D E:Chs) (b:Nat) (o:Obj) (A F:Chs) [t:Tk D b o E] [s:Sp E A F]:Sp D ((b,o) :: A) F:=⟨t.p.trans (s.p.cons _)⟩
class Sf (G F:Chs):Prop where p:∃X,G = X ++ F
instance Sf.refl (F:Chs):Sf F F:=⟨[],rfl⟩
instance (priority:=low) Sf.cons (c:Nat × Obj) (G F:Chs) [s:Sf G F]:Sf (c :: G) F:=⟨by obtain⟨X,h⟩:=s.p;exact⟨c :: X,by rw[h];rfl⟩⟩
instance Tk.app (D:Chs) (b:Nat) (o:Obj) (E F:Chs) [t:Tk D b o E]:Tk (D ++ F) b o (E ++ F):=⟨(t.p.append_right F)⟩
instance Up.app (D:Chs) (b:Nat) (o o' : Obj) (D' F:Chs) [t:Up D b o o' D']:Up (D ++ F) b o o' (D' ++ F):=
 ⟨ZS _ t.m,ZS _ t.m',by simp[t.f],λb' x h=>by
  rcases ZD.1 h with h | h
  ·rcases t.u b' x h with h | h
   ·exact .inl h
   ·exact .inr (ZS _ h)
  ·exact .inr (ZZ _ h)⟩
instance At.app (D:Chs) (b:Nat) (o:Obj) (F:Chs) [t:At D b o]:At (D ++ F) b o:=⟨ZS _ t.m⟩
instance Sf.app (X F:Chs):Sf (X ++ F) F:=⟨X,rfl⟩
section st
variable {h:Cy} {R:RM} {D:Chs}
theorem St.perm {D' : Chs} (hs:St h R D) (hp:D.Perm D'):St h R D':=
 ⟨hs.rd,λb o hm=>hs.at_ b o (hp.symm.subset hm),(hp.map Prod.fst).nodup_iff.1 hs.nd⟩
theorem St.drop {A F:Chs} (hs:St h R (A ++ F)):St h R F:=
 ⟨hs.rd,λb o hm=>hs.at_ b o (ZZ _ hm),by have:=hs.nd;rw[Zg,List.nodup_append] at this;exact this.2.1⟩
theorem St.keep {A F:Chs} (hs:St h R (A ++ F)):St h R A:=
 ⟨hs.rd,λb o hm=>hs.at_ b o (ZS _ hm),by have:=hs.nd;rw[Zg,List.nodup_append] at this;exact this.1⟩
theorem I5 {b t o:Nat} {cs:List Value} (hb:h[b]? = some (C t cs)):hc h b o = cs[o]?:=by
 simp[hc,hb]
theorem G6 {b t:Nat} {cs:List Value} (hb:h[b]? = some (C t cs)):∀(n o:Nat),o + n≤cs.length→rd h b o n = some ((cs.drop o).take n):=by
 intro n;induction n with
 | zero=>intro o _;simp[rd]
 | succ n ih=>
  intro o ho;have hlt:o < cs.length:=by omega
  simp only[rd,I5 hb,Yl hlt,ih (o + 1) (by omega)];rw[Yu hlt,List.take_succ_cons]
theorem Qd {b t o:Nat} {cs:List Value} {v:Value} (hb:h[b]? = some (C t cs)):(Fq h b o v)[b]? = some (C t (cs.set o v))∧∀b',b'≠b→(Fq h b o v)[b']? = h[b']?:=by
 have hlt:b < h.size:=(Zm.1 hb).1;constructor
 ·simp only[Fq,Zv,if_true,hb,aY];simp
 ·intro b' hne;simp only[Fq,Zv];rw[if_neg (λhh=>hne hh.symm)]
def CG (l:List Value):Bool:=l.all flat
theorem Oz {b t:Nat}:∀(l:List Value) {h:Cy} {cs:List Value} (o:Nat),h[b]? = some (C t cs)→o + l.length≤cs.length→CG l = true→
  ∃h',wr h b o l = some h'∧h'[b]? = some (C t (lay cs o l))∧(∀b',b'≠b→h'[b']? = h[b']?):=by
 intro l;induction l with
 | nil=>intro h cs o hb ho _;exact⟨h,rfl,by simpa [lay] using hb,λ_ _=>rfl⟩
 | cons v r ih=>
  intro h cs o hb ho hf;simp only[Z8] at ho;simp only[CG,List.all_cons,z_b] at hf;have hlt:o < cs.length:=by omega
  obtain⟨g1,g2⟩:=Qd (o:=o) (v:=v) hb;obtain⟨h',w1,w2,w3⟩:=ih (h:=Fq h b o v) (cs:=cs.set o v) (o + 1) g1 (by simp;omega) hf.2;refine⟨h',?_,?_,λb' hne=>by rw[w3 b' hne,g2 b' hne]⟩
  ·have hz:hfz h b o = false:=by simp[hfz,hb]
   simp only[wr,hf.1,I5 hb,Yl hlt,hz];simpa using w1
  ·rw[w2];congr 2;simp only[lay,Z8];rw[List.take_set,List.drop_set_of_lt (by omega)];apply List.ext_getElem?;intro i;simp only[Ys,List.getElem?_append,ZX,Z0,List.getElem?_set,Zr,Zl,Z8];have m1:min (o + 1) cs.length = o + 1:=by omega
   have m2:min o cs.length = o:=by omega
   rw[m1,m2];by_cases c1:i < o
   ·rw[if_pos (by omega),if_neg (by omega),if_pos (by omega),if_pos c1,if_pos c1]
   ·by_cases c2:i = o
    ·subst c2;rw[if_pos (by omega),if_pos rfl,if_pos (by omega),if_neg (by omega),if_pos (by omega),Nat.sub_self,List.getElem?_cons_zero]
    ·by_cases c3:i < o + 1 + r.length
     ·rw[if_neg (by omega),if_pos (by omega),if_neg (by omega),if_pos (by omega)];rw[show i - o = (i - (o + 1)) + 1 from by omega,List.getElem?_cons_succ]
     ·rw[if_neg (by omega),if_neg (by omega),if_neg (by omega),if_neg (by omega)];congr 1;omega
theorem PV {D:Chs} (hn:(D.map Prod.fst).Nodup) {b:Nat} {x y:Obj} (hx:(b,x)∈D) (hy:(b,y)∈D):x = y:=by
 induction D with
 | nil=>cases hx
 | cons c r ih=>
  rw[Zn,Zi] at hn;rcases Yw.1 hx with h1 | h1<;>rcases Yw.1 hy with h2 | h2
  ·rw[← h2] at h1;cases h1;rfl
  ·exact absurd (ZU.2 ⟨_,h2,by rw[← h1]⟩) hn.1
  ·exact absurd (ZU.2 ⟨_,h1,by rw[← h2]⟩) hn.1
  ·exact ih hn.2 h1 h2
theorem St.turn {h' : Cy} {b:Nat} {o o' : Obj} {D' : Chs} [u:Up D b o o' D'] (hs:St h R D) (hb:h'[b]? = some o') (hk:∀b',b'≠b→h'[b']? = h[b']?):St h' R D':=by
 have hRb:R b = none:=(hs.at_ b o u.m).2;refine⟨λb' x hx=>?_,λb' x hm=>?_,by rw[u.f];exact hs.nd⟩
 ·have hne:b'≠b:=λhh=>by subst hh;rw[hRb] at hx;cases hx
  rw[hk b' hne];exact hs.rd b' x hx
 ·by_cases hne:b' = b
  ·subst hne;have hx:x = o':=PV (by rw[u.f];exact hs.nd) hm u.m';subst hx;exact⟨hb,hRb⟩
  ·rcases u.u b' x hm with ⟨h1,_⟩ | hm'
   ·exact absurd h1 hne
   ·have h1:=hs.at_ b' x hm';exact⟨by rw[hk b' hne];exact h1.1,h1.2⟩
theorem St.push {o:Obj} (hs:St h R D):St (h.push o) R ((h.size,o) :: D):=by
 have hlt:∀b x,h[b]? = some x→b < h.size:=λb x hb=>(Zm.1 hb).1
 refine⟨λb x hx=>?_,λb x hm=>?_,?_⟩
 ·have:=hs.rd b x hx;rw[Array.getElem?_push_lt (hlt b x this)];rw[aK (hlt b x this)] at this;exact this
 ·rcases Yw.1 hm with hm | hm
  ·cases hm;refine⟨by simp,?_⟩;cases hr:R h.size with
   | none=>rfl
   | some x=>have:=hlt _ _ (hs.rd _ _ hr);omega
  ·have:=(hs.at_ b x hm);refine⟨?_,this.2⟩;have h1:=this.1;rw[Array.getElem?_push_lt (hlt b x h1)];rw[aK (hlt b x h1)] at h1;exact h1
 ·rw[Zn,Zi];refine⟨λhm=>?_,hs.nd⟩;obtain⟨c,hc,he⟩:=ZU.1 hm;have:=hlt _ _ (hs.at_ c.1 c.2 hc).1;rw[he] at this;omega
end st
section rules
variable {P:Program} {R:RM} {D:Chs} {k:Value→M} {m:M}
theorem jl {b o t:Nat} {cs:List Value} {v:Value} [a:At D b (C t cs)] (hv:cs[o]? = some v) (H:J R D (k v)):J R D (L1 (.pointer (some ⟨b,o,none⟩)) k):=
 λh hs=>⟨v,by rw[I5 (hs.at_ b _ a.m).1];exact hv,H h hs⟩
theorem jla {b o n t:Nat} {cs l:List Value} [a:At D b (C t cs)] (hn:o + n≤cs.length) (hl:(cs.drop o).take n = l) (H:J R D (k (.agg l.toArray))):J R D (LA n (.pointer (some ⟨b,o,none⟩)) k):=
 λh hs=>⟨l,by rw[← hl];exact G6 (hs.at_ b _ a.m).1 n o hn,H h hs⟩
theorem jlr {b o t:Nat} {cs:List Value} {v:Value} (hb:R b = some (C t cs)) (hv:cs[o]? = some v) (H:J R D (k v)):J R D (L1 (.pointer (some ⟨b,o,none⟩)) k):=
 λh hs=>⟨v,by rw[I5 (hs.rd b _ hb)];exact hv,H h hs⟩
theorem HL {b o n t:Nat} {cs l:List Value} (hb:R b = some (C t cs)) (hn:o + n≤cs.length) (hl:(cs.drop o).take n = l) (H:J R D (k (.agg l.toArray))):J R D (LA n (.pointer (some ⟨b,o,none⟩)) k):=
 λh hs=>⟨l,by rw[← hl];exact G6 (hs.rd b _ hb) n o hn,H h hs⟩
theorem js {b o n t:Nat} {cs cs' : List Value} {x:Value} {D' : Chs} (hn:(cl x).length = n) (hf:CG (cl x) = true) [a:At D b (C t cs)] (ho:o + n≤cs.length) (hc:lay cs o (cl x) = cs')
  [u:Up D b (C t cs) (C t cs') D'] (H:J R D' m):J R D (ST n (.pointer (some ⟨b,o,none⟩)) x m):=by
 intro h hs;obtain⟨h',w1,w2,w3⟩:=Oz (cl x) o (hs.at_ b _ a.m).1 (by omega) hf;refine⟨hn,h',w1,H h' (hs.turn (b:=b) (o:=C t cs) (o':=C t cs') ?_ w3)⟩;rw[w2,hc]
theorem ja {t:Nat} {z:Value} (H:∀b,J R ((b,C t (cl z)) :: D) (k (.pointer (some ⟨b,0,none⟩)))):J R D (AL t z k):=
 λh hs=>H h.size _ hs.push
theorem jia {n b off len cap:Nat} {i:Int} {kd:IntKind} (h0:0≤i) (h1:i < len) (H:J R D (k (.pointer (some ⟨b,off + i.toNat * n,none⟩)))):J R D (IA n (.slice (some ⟨b,off,none⟩) len cap) (.int kd i) k):=
 λh hs=>⟨⟨h0,h1⟩,H h hs⟩
theorem jif {c:Bool} {a b:M} (ht:c = true→J R D a) (hf:c = false→J R D b):J R D (IF (.bool c) a b):=by
 cases c
 ·exact hf rfl
 ·exact ht rfl
theorem Ae {a b:M} (h1:J R D a) (h2:J R D b):J R D (AND a b):=λh hs=>⟨h1 h hs,h2 h hs⟩
theorem jev {v:Value}:J R D (EV v v):=λ_ _=>rfl
theorem Ct {lv:List Nat} {B:(List Value→M)→M} {K:Env→M} (H:J R D (B λvs h=>∀e:Env,lv.map e = vs→K e h)):J R D (CUT lv B K):=
 λh hs=>⟨_,λe h he=>he e rfl,H h hs⟩
theorem CH {lv:List Nat} {vs:List Value} {K:Env→M} (H:∀e:Env,lv.map e = vs→J R D (K e)):J R D (λh=>∀e:Env,lv.map e = vs→K e h):=
 λh hs e he=>H e he h hs
theorem Bh {b:Nat} {o:Obj} {E:Chs} [t:Tk D b o E] (H:∀R',R.le R'→R' b = some o→J R' E m):J R D m:=by
 intro h hs;have hs':=hs.perm t.p;have hb:=hs'.at_ b o (by simp);refine H (λx=>if x = b then some o else R x) (λx y hx=>?_) (by simp) h ⟨λx y hx=>?_,λx y hm=>?_,?_⟩
 ·by_cases hxb:x = b
  ·subst hxb;rw[hb.2] at hx;cases hx
  ·simp[hxb,hx]
 ·by_cases hxb:x = b
  ·subst hxb;simp at hx;subst hx;exact hb.1
  ·simp[hxb] at hx;exact hs'.rd x y hx
 ·have h1:=hs'.at_ x y (Zc _ hm);refine⟨h1.1,?_⟩;have hnd:=hs'.nd;rw[Zn,Zi] at hnd;have hxb:x≠b:=λhh=>hnd.1 (by subst hh;exact ZU.2 ⟨_,hm,rfl⟩)
  simp[hxb,h1.2]
 ·have hnd:=hs'.nd;rw[Zn,Zi] at hnd;exact hnd.2
def Er (R:RM) (F:Chs) (Q:Value→RM→Chs→Prop) (v:Value):M:=λh=>∃R' A,R.le R'∧St h R' (A ++ F)∧Q v R' A
def Fn (P:Program) (f:Nat) (args:List Value) (R:RM) (A:Chs) (Q:Value→RM→Chs→Prop):Prop:=∀F,J R (A ++ F) (CA P f args (Er R F Q))
theorem EW {f:Nat} {args:List Value} {k k' : Value→M} {h:Cy} (hk:∀v h',k v h'→k' v h') (H:CA P f args k h):CA P f args k' h:=by
 intro w hw;refine (H w hw).mono ?_;rintro e w' ⟨v,rfl,hs,hv⟩;exact⟨v,rfl,hs,hk _ _ hv⟩
theorem jc {f:Nat} {args:List Value} {A F:Chs} {Q:Value→RM→Chs→Prop} (hF:Fn P f args R A Q) [s:Sp D A F] (H:∀v R' A',R.le R'→Q v R' A'→J R' (A' ++ F) (k v)):J R D (CA P f args k):=by
 intro h hs;refine EW ?_ (hF F h (hs.perm s.p));rintro v h' ⟨R',A',h1,h2,h3⟩;exact H v R' A' h1 h3 h' h2
theorem BA {R' : RM} {F A G:Chs} {Q:Value→RM→Chs→Prop} {v:Value} (h1:R.le R') (h2:Q v R' A) [s:Sp D A G] [x:Sf G F]:J R' D (Er R F Q v):=by
 intro h hs;obtain⟨X,hX⟩:=x.p;refine⟨R',A,h1,?_,h2⟩;have hs':=hs.perm s.p;subst hX;have:St h R' (X ++ (A ++ F)):=hs'.perm (by
  rw[← Ys,← Ys]
  exact aG F aB)
 exact this.drop
theorem Xp {f:Nat} {fn:Func} {A:An} {args:List Value} {K:Value→M} {c:M} (hf:P.funcs[f]? = some fn) (hok:W3 (CU P) fn args.length = true) (he:body P fn A args K = c) {h:Cy} (H:c h):CA P f args K h:=by
 intro w hw;subst hw;exact RH UB hf hok (by rw[he];exact H)
end rules
end Go.Lf
end
section
namespace Go.Lf
open Go
section more
variable {P:Program} {R:RM} {D:Chs} {k:Value→M} {m:M}
@[reducible] def I (n:Int):Value:=.int .i64 n
@[reducible] def inR (n:Int):Prop:=-9223372036854775808≤n∧n < 9223372036854775808
theorem EM {n:Int} (h:inR n):IntKind.i64.wrap n = n:=by
 obtain⟨h0,h1⟩:=h;have e:IntKind.i64.wrap n = if n % 18446744073709551616≥9223372036854775808 then n % 18446744073709551616 - 18446744073709551616 else n % 18446744073709551616:=by
  unfold IntKind.wrap;by_cases c:n % 18446744073709551616≥9223372036854775808
  ·rw[if_pos c];exact if_pos (by exact decide_eq_true c)
  ·rw[if_neg c];exact if_neg (by exact λhh=>c (z_f hh))
 rw[e];split<;>omega
theorem Cd {x y:Int} (h:inR (x + y)) (H:J R D (k (.int .i64 (x + y)))):J R D (BO .add (.int .i64 x) (.int .i64 y) k):=by
 have e:BO .add (.int .i64 x) (.int .i64 y) k = k (.int .i64 (IntKind.i64.wrap (x + y))):=rfl;rw[e,EM h];exact H
theorem RV {x y:Int} (h:inR (x - y)) (H:J R D (k (.int .i64 (x - y)))):J R D (BO .sub (.int .i64 x) (.int .i64 y) k):=by
 have e:BO .sub (.int .i64 x) (.int .i64 y) k = k (.int .i64 (IntKind.i64.wrap (x - y))):=rfl;rw[e,EM h];exact H
theorem GX {x y:Int} (h:inR (x * y)) (H:J R D (k (.int .i64 (x * y)))):J R D (BO .mul (.int .i64 x) (.int .i64 y) k):=by
 have e:BO .mul (.int .i64 x) (.int .i64 y) k = k (.int .i64 (IntKind.i64.wrap (x * y))):=rfl;rw[e,EM h];exact H
theorem OL {x y:Int} (hy:y≠0) (h:inR (x.tdiv y)) (H:J R D (k (.int .i64 (x.tdiv y)))):J R D (BO .quo (.int .i64 x) (.int .i64 y) k):=by
 have e:BO .quo (.int .i64 x) (.int .i64 y) k = λh=>y≠0∧k (.int .i64 (IntKind.i64.wrap (x.tdiv y))) h:=rfl
 rw[e,EM h];exact λh hs=>⟨hy,H h hs⟩
theorem Pg {x y:Int} (hy:y≠0) (H:J R D (k (.int .i64 (x.tmod y)))):J R D (BO .rem (.int .i64 x) (.int .i64 y) k):=by
 exact λh hs=>⟨hy,H h hs⟩
theorem jeq {x y:Int} (H:J R D (k (.bool (x == y)))):J R D (BO .eql (.int .i64 x) (.int .i64 y) k):=H
theorem jne {x y:Int} (H:J R D (k (.bool (x != y)))):J R D (BO .neq (.int .i64 x) (.int .i64 y) k):=H
theorem jlt {x y:Int} (H:J R D (k (.bool (x < y)))):J R D (BO .lss (.int .i64 x) (.int .i64 y) k):=H
theorem jle {x y:Int} (H:J R D (k (.bool (x≤y)))):J R D (BO .leq (.int .i64 x) (.int .i64 y) k):=H
theorem jgr {x y:Int} (H:J R D (k (.bool (x > y)))):J R D (BO .gtr (.int .i64 x) (.int .i64 y) k):=H
theorem jge {x y:Int} (H:J R D (k (.bool (x≥y)))):J R D (BO .geq (.int .i64 x) (.int .i64 y) k):=H
theorem Bm {c:Bool} {a b:M} (ht:c = true→J R D a) (hf:c = false→J R D b):J R D (GT (.bool c) true a b):=by
 cases c
 ·exact hf rfl
 ·exact ht rfl
theorem BM {c:Bool} {a b:M} (hf:c = false→J R D a) (ht:c = true→J R D b):J R D (GT (.bool c) false a b):=by
 cases c
 ·exact hf rfl
 ·exact ht rfl
theorem DO {a b:M} (H:J R D a):J R D (IF (.bool true) a b):=H
theorem Cn {a b:M} (H:J R D b):J R D (IF (.bool false) a b):=H
def OD:List Value→List (Nat × Nat × Value)→List Value
 | zs,[]=>zs
 | zs,(o,_,v) :: r=>OD (lay zs o (cl v)) r
def U9:List (Nat × Nat × Value)→Bool
 | []=>true
 | (_,n,v) :: r=>(cl v).length == n && U9 r
theorem jfl {ps:List (Nat × Nat × Value)}:∀{zs:List Value} {k:List Value→M},U9 ps = true→J R D (k (OD zs ps))→J R D (FL zs ps k):=by
 induction ps with
 | nil=>intro zs k _ H;exact H
 | cons p r ih=>
  obtain⟨o,n,v⟩:=p;intro zs k hl H;simp only[U9,z_b,beq_iff_eq] at hl;exact λh hs=>⟨hl.1,ih hl.2 H h hs⟩
theorem jbd {zs cs:List Value} {ps:List (Nat × Nat × Value)} (hl:U9 ps = true) (hc:OD zs ps = cs) (H:J R D (k (.agg cs.toArray))):J R D (BD zs ps k):=by
 subst hc;exact jfl hl H
theorem jbs {t len:Nat} {zs cs:List Value} {ps:List (Nat × Nat × Value)} (hl:U9 ps = true) (hc:OD zs ps = cs)
  (H:∀b,J R ((b,C t cs) :: D) (k (.slice (some ⟨b,0,none⟩) len len))):J R D (BS t len zs ps k):=by
 subst hc;exact jfl hl λh hs=>H h.size _ hs.push
theorem jms {t n by_:Nat} {zs:List Value} {l:Int} (h0:0≤l) (h1:by_ * l≤2 ^ 48) (h2:l≤9223372036854775807)
  (H:∀b,J R ((b,C t (List.replicate l.toNat zs).flatten) :: D) (k (.slice (some ⟨b,0,none⟩) l.toNat l.toNat))):J R D (MS t n by_ zs (.int .i64 l) (.int .i64 l) k):=
 λh hs=>⟨⟨h0,ZM _,h1,by simpa [IntKind.max,IntKind.bits,IntKind.signed] using h2⟩,H h.size _ hs.push⟩
theorem AJ {lv:List Nat} {B:(List Value→M)→M} {K:Env→M} (Q:List Value→RM→Chs→Prop)
  (H1:∀K' : List Value→M,(∀vs R' D',Q vs R' D'→J R' D' (K' vs))→J R D (B K')) (H2:∀e R' D',Q (lv.map e) R' D'→J R' D' (K e)):J R D (CUT lv B K):=
 λh hs=>⟨λvs h=>∃R' D',Q vs R' D'∧St h R' D',λe _ ⟨R',D',hq,hs'⟩=>H2 e R' D' hq _ hs',H1 _ (λ_ R' D' hq _ hs'=>⟨R',D',hq,hs'⟩) h hs⟩
theorem NR {p:Nat→Prop} (h:∃n,p n):∃n,p n∧∀m,p m→n≤m:=by
 obtain⟨n,hn⟩:=h;induction n using Nat.strongRecOn with
 | _ n ih=>
  by_cases hm:∃m,m < n∧p m
  ·obtain⟨m,hlt,hp⟩:=hm;exact ih m hlt hp
  ·exact⟨n,hn,λm hp=>Nat.le_of_not_lt λhlt=>hm ⟨m,hlt,hp⟩⟩
theorem jlp {lv:List Nat} {B:(List Value→M)→Env→M} {vs:List Value} (Q:Nat→List Value→RM→Chs→Prop) {n:Nat} (h0:Q n vs R D)
  (H:∀n e R' D' K,Q n (lv.map e) R' D'→(∀n' vs' R'' D'',n' < n→Q n' vs' R'' D''→J R'' D'' (K vs'))→J R' D' (B K e)):J R D (LP lv B vs):=by
 intro h hs
 classical
 let ok:Nat→List Value→Cy→Prop:=λn vs h=>∃R D,Q n vs R D∧St h R D
 let I:List Value→Cy→Prop:=λvs h=>∃n,ok n vs h
 let μ:List Value→Cy→Nat:=λvs h=>if hI:I vs h then (NR hI).choose else 0
 refine⟨I,μ,⟨n,R,D,h0,hs⟩,λe h hI=>?_⟩;have hμ:μ (lv.map e) h = (NR hI).choose:=dif_pos hI;obtain⟨R',D',hq,hs'⟩:=(NR hI).choose_spec.1;refine H (NR hI).choose e R' D' _ hq (λn' vs' R'' D'' hn hq' h' hs''=>?_) h hs';have hI' : I vs' h':=⟨n',R'',D'',hq',hs''⟩;refine⟨hI',?_⟩;rw[hμ];have:μ vs' h' = (NR hI').choose:=dif_pos hI';rw[this];exact Nat.lt_of_le_of_lt ((NR hI').choose_spec.2 _ ⟨R'',D'',hq',hs''⟩) hn
def BQ (R:RM) (D:Chs) (a:Option Addr) (n:Nat) (l:List Value):Prop:=∀h,St h R D→rdS h a n = some l
theorem BQ.held {b o n t:Nat} {cs:List Value} [a:At D b (C t cs)] (hn:o + n≤cs.length):BQ R D (some ⟨b,o,none⟩) n ((cs.drop o).take n):=
 λ_ hs=>G6 (hs.at_ b _ a.m).1 n o hn
theorem BQ.frozen {b o n t:Nat} {cs:List Value} (hb:R b = some (C t cs)) (hn:o + n≤cs.length):BQ R D (some ⟨b,o,none⟩) n ((cs.drop o).take n):=
 λ_ hs=>G6 (hs.rd b _ hb) n o hn
theorem BQ.none_:BQ R D none 0 []:=λ_ _=>rfl
theorem BQ.zero {a:Addr} (h:a.spot = none):BQ R D (some a) 0 []:=by
 obtain⟨b,o,p⟩:=a;simp only at h;subst h;exact λ_ _=>rfl
theorem T7 {n:Nat}:∀(r c:Nat),c≤2 * n + 200→Builtin.growBy n r c≤2 * n + 200:=by
 intro r;induction r with
 | zero=>intro c h;exact h
 | succ r ih=>
  intro c h;simp only[Builtin.growBy];split
  ·exact h
  ·exact ih _ (by omega)
theorem Wu {n c:Nat} (h:c < n):Builtin.nextslicecap n c≤2 * n + 200:=by
 unfold Builtin.nextslicecap;split
 ·omega
 ·split
  ·omega
  ·exact T7 _ _ (by omega)
theorem jap {t n by_:Nat} {zs old new:List Value} {a xa:Option Addr} {sl sc m cx:Nat} (hx:BQ R D xa (m * n) new) (ho:BQ R D a (sl * n) old) (hb:by_≠0) (hs:by_ * (2 * (sl + m) + 200)≤2 ^ 48)
  (H1:sl + m≤sc→∀h,St h R D→match a with
    | some ⟨b,o,none⟩=>∃h',wr h b (o + sl * n) new = some h'∧k (.slice a (sl + m) sc) h'
    | some _=>False
    | none=>k (.slice none (sl + m) sc) h)
  (H2:∀b c,sl + m≤c→J R ((b,C t (old ++ new ++ (List.replicate (c - (sl + m)) zs).flatten)) :: D) (k (.slice (some ⟨b,0,none⟩) (sl + m) c))) :
  J R D (AP t n by_ zs (.slice a sl sc) (.slice xa m cx) k):=by
 intro h hst;refine⟨new,hx h hst,?_⟩;by_cases hc:sl + m≤sc
 ·rw[if_pos hc];exact H1 hc h hst
 ·rw[if_neg hc];refine⟨?_,hb,old,ho h hst,λc hcc=>H2 h.size c hcc _ hst.push⟩;have:=Wu (n:=sl + m) (c:=sc) (by omega);exact Nat.le_trans (aE _ this) (by rw[Nat.mul_comm];exact hs)
theorem Ve {t n by_ b o sc m cx:Nat} {zs new:List Value} {xa:Option Addr} (hx:BQ R D xa (m * n) new) (hb:by_≠0) (hs:by_ * (2 * m + 200)≤2 ^ 48) (hm:0 < m→sc = 0)
  (H1:m = 0→J R D (k (.slice (some ⟨b,o,none⟩) 0 sc)))
  (H2:∀b c,m≤c→J R ((b,C t (new ++ (List.replicate (c - m) zs).flatten)) :: D) (k (.slice (some ⟨b,0,none⟩) m c))) :
  J R D (AP t n by_ zs (.slice (some ⟨b,o,none⟩) 0 sc) (.slice xa m cx) k):=by
 refine jap hx (by rw[aR];exact BQ.zero rfl) hb (by rw[Z6];exact hs) (λhc h hst=>?_) (λb c hc=>?_)
 ·have h0:m = 0:=by
   by_cases hp:0 < m
   ·have:=hm hp;omega
   ·omega
  subst h0;have hn:new = []:=by
   have:=hx h hst;cases xa with
   | none=>simp only[rdS] at this;exact (Zb this).symm
   | some a=>
    obtain⟨b',o',p⟩:=a;cases p with
    | none=>simp only[rdS,aR,rd] at this;exact (Zb this).symm
    | some _=>simp only[rdS] at this;cases this
  subst hn;exact⟨h,rfl,H1 rfl h hst⟩
 ·have:=H2 b c (by omega);simpa only[Z6,List.nil_append] using this
theorem Uo {t n by_ b sl sc m cx:Nat} {zs cs new:List Value} {xa:Option Addr} {E:Chs} (hx:BQ R D xa (m * n) new) [tk:Tk D b (C t cs) E] (hc:cs.length = sc * n) (hl:sl≤sc) (hnl:new.length = m * n) (hf:CG new = true) (hb:by_≠0) (hs:by_ * (2 * (sl + m) + 200)≤2 ^ 48)
  (H1:sl + m≤sc→J R ((b,C t (lay cs (sl * n) new)) :: E) (k (.slice (some ⟨b,0,none⟩) (sl + m) sc)))
  (H2:∀b' c,sl + m≤c→J R ((b',C t (cs.take (sl * n) ++ new ++ (List.replicate (c - (sl + m)) zs).flatten)) :: D) (k (.slice (some ⟨b',0,none⟩) (sl + m) c))) :
  J R D (AP t n by_ zs (.slice (some ⟨b,0,none⟩) sl sc) (.slice xa m cx) k):=by
 refine jap hx (old:=cs.take (sl * n)) (λh hst=>?_) hb hs (λhcc h hst=>?_) H2
 ·have hst':=hst.perm tk.p;have:=G6 (hst'.at_ b (C t cs) (by simp)).1 (sl * n) 0 (by rw[hc,Z6];exact aE n hl);simpa only[aD] using this
 ·have hst':=hst.perm tk.p;obtain⟨h',w1,w2,w3⟩:=Oz new (0 + sl * n) (hst'.at_ b (C t cs) (by simp)).1 (by rw[hc,hnl,Z6,← Nat.add_mul];exact aE n hcc) hf;refine⟨h',w1,H1 hcc h' ?_⟩;have:=hst'.turn (b:=b) (o:=C t cs) (o':=C t (lay cs (0 + sl * n) new)) w2 w3;simpa only[Z6] using this
end more
end Go.Lf
end
section
namespace Go.Lf
open Go Go.Proofs Go.Proofs.Tryz
set_option linter.unusedVariables false
noncomputable abbrev P:Program:=Tryz.prog
abbrev U:Value:=.tuple #[]
@[reducible] def ZR (n:Nat) (z:Value):List Value:=(List.replicate n (cl z)).flatten
@[reducible] def z3:Value:=I 0
@[reducible] def z4:Value:=.bool false
@[reducible] def z23:Value:=.slice none 0 0
@[reducible] def z28:Value:=.agg #[(.slice none 0 0),(.slice none 0 0),(.slice none 0 0),(I 0),(.bool false),(.bool false),(.bool false),(I 0),(.slice none 0 0),(.slice none 0 0),(.slice none 0 0),(I 0),(I 0)]
@[reducible] def z33:Value:=.agg #[(I 0),(I 0),(I 0)]
@[reducible] def z42:Value:=.agg #[(.slice none 0 0),(.slice none 0 0),(.slice none 0 0)]
@[reducible] def z60:Value:=.agg #[(I 0),(I 0)]
@[reducible] def z62:Value:=.agg #[(I 0),(I 0),(I 0),(I 0),(.slice none 0 0),(.slice none 0 0)]
@[reducible] def z66:Value:=.agg #[(I 0),(I 0),(I 0),(I 0),(I 0)]
@[reducible] def z76:Value:=.map none
@[reducible] def z83:Value:=.agg #[(.slice none 0 0),(I 0),(.bool false),(I 0)]
@[reducible] def z86:Value:=.pointer none
@[reducible] def z94:Value:=.agg #[(.slice none 0 0),(.slice none 0 0)]
@[reducible] def z99:Value:=.agg #[(.slice none 0 0),(.slice none 0 0),(.slice none 0 0),(I 0),(.bool false),(.bool false),(.bool false),(I 0),(.slice none 0 0),(.slice none 0 0),(.slice none 0 0),(I 0),(I 0),(.map none),(.slice none 0 0)]
@[reducible] def Ya:Value:=.agg #[(.slice none 0 0),(I 0)]
@[reducible] def XH:Value:=.agg #[(I 0),(I 0),(I 0),(I 0)]
@[reducible] def WC:Value:=.slice none 0 0
@[reducible] def HJ:Value:=.agg #[(I 0),(.bool false),(I 0),(.slice none 0 0),(I 0),(I 0),(I 0),(I 0),(I 0),(I 0),(I 0),(I 0),(I 0),(I 0),(I 0)]
@[reducible] def YU:Value:=.agg #[(I 0),(I 0),(I 0),(.slice none 0 0),(.slice none 0 0),(.slice none 0 0),(.slice none 0 0),(I 0),(.bool false),(.bool false),(.bool false),(I 0),(.slice none 0 0),(.slice none 0 0),(.slice none 0 0),(I 0),(I 0),(.slice none 0 0),(I 0),(.bool false),(I 0),(.slice none 0 0),(I 0),(I 0),(I 0),(I 0),(I 0),(I 0),(I 0),(I 0),(I 0),(I 0),(I 0),(.slice none 0 0),(.bool false)]
@[reducible] def z183:Value:=.agg #[(I 0),(I 0),(I 0),(I 0),(I 0),(I 0),(I 0),(I 0)]
@[reducible] def ET:Value:=.agg #[(.slice none 0 0),(I 0),(I 0),(I 0),(I 0),(I 0),(I 0),(I 0),(I 0),(I 0),(I 0),(I 0),(I 0),(I 0),(I 0),(I 0),(I 0)]
@[reducible] def GI:Nat:=7
@[reducible] def He:Nat:=19
@[reducible] def GJ:Nat:=23
@[reducible] def Hm:Nat:=30
@[reducible] def KB:Nat:=34
@[reducible] def F1:Nat:=36
@[reducible] def Ib:Nat:=37
@[reducible] def Kx:Nat:=38
@[reducible] def Jw:Nat:=39
@[reducible] def IR:Nat:=40
@[reducible] def Gx:Nat:=41
@[reducible] def MG:Nat:=45
@[reducible] def IN:Nat:=46
@[reducible] def Et:Nat:=47
@[reducible] def FW:Nat:=48
@[reducible] def Eg:Nat:=49
@[reducible] def HW:Nat:=51
@[reducible] def NJ:Nat:=52
@[reducible] def Lb:Nat:=53
@[reducible] def IC:Nat:=54
@[reducible] def L8:Nat:=55
@[reducible] def Ek:Nat:=56
@[reducible] def H3:Nat:=57
@[reducible] def IP:Nat:=60
@[reducible] def Ic:Nat:=61
@[reducible] def Gw:Nat:=62
@[reducible] def GY:Nat:=63
@[reducible] def Gv:Nat:=65
@[reducible] def BX:Nat:=66
@[reducible] def EZ:Nat:=67
@[reducible] def Dq:Nat:=68
@[reducible] def FS:Nat:=69
@[reducible] def G5:Nat:=78
@[reducible] def Js:Nat:=79
@[reducible] def GL:Nat:=80
@[reducible] def Ju:Nat:=81
@[reducible] def KD:Nat:=82
@[reducible] def N8:Nat:=83
@[reducible] def GO:Nat:=84
@[reducible] def HV:Nat:=85
@[reducible] def GZ:Nat:=86
@[reducible] def Of:Nat:=87
@[reducible] def K0:Nat:=88
@[reducible] def JU:Nat:=89
@[reducible] def LJ:Nat:=93
@[reducible] def Ho:Nat:=94
@[reducible] def IB:Nat:=95
@[reducible] def JF:Nat:=96
@[reducible] def Ej:Nat:=97
@[reducible] def Kc:Nat:=98
@[reducible] def FX:Nat:=99
@[reducible] def IY:Nat:=100
@[reducible] def G4:Nat:=101
@[reducible] def HS:Nat:=102
@[reducible] def Jf:Nat:=103
@[reducible] def G8:Nat:=104
@[reducible] def Pd:Nat:=106
@[reducible] def MT:Nat:=108
@[reducible] def Ge:Nat:=109
@[reducible] def JK:Nat:=110
@[reducible] def El:Nat:=112
@[reducible] def Ku:Nat:=113
@[reducible] def GA:Nat:=114
@[reducible] def Jg:Nat:=128
@[reducible] def JI:Nat:=129
@[reducible] def L4:Nat:=137
@[reducible] def LR:Nat:=138
@[reducible] def Jm:Nat:=139
@[reducible] def HY:Nat:=140
@[reducible] def Hy:Nat:=141
@[reducible] def Jd:Nat:=142
@[reducible] def Jx:Nat:=143
@[reducible] def HE:Nat:=144
@[reducible] def HF:Nat:=145
@[reducible] def J4:Nat:=146
@[reducible] def Es:Nat:=147
@[reducible] def Dd:Nat:=149
@[reducible] def FZ:Nat:=150
@[reducible] def JQ:Nat:=151
@[reducible] def NV:Nat:=166
@[reducible] def Hx:Nat:=167
@[reducible] def Hi:Nat:=168
@[reducible] def Fc:Nat:=169
@[reducible] def Gt:Nat:=170
@[reducible] def Cv:Nat:=173
@[reducible] def Ef:Nat:=182
@[reducible] def JL:Nat:=202
@[reducible] def Gd:Nat:=203
@[reducible] def Jt:Nat:=204
@[reducible] def Hc:Nat:=205
@[reducible] def Gi:Nat:=206
@[reducible] def JN:Nat:=207
@[reducible] def KV:Nat:=208
@[reducible] def DI:Nat:=209
@[reducible] def MI:Nat:=210
@[reducible] def Om:Nat:=233
@[reducible] def JT:Nat:=234
@[reducible] def JZ:Nat:=235
@[reducible] def LW:Nat:=236
@[reducible] def Ls:Nat:=237
@[reducible] def HC:Nat:=238
@[reducible] def Kv:Nat:=239
@[reducible] def La:Nat:=240
@[reducible] def Kj:Nat:=241
@[reducible] def ND:Nat:=242
@[reducible] def MU:Nat:=243
@[reducible] def JW:Nat:=244
@[reducible] def H9:Nat:=245
@[reducible] def MN:Nat:=246
@[reducible] def J6:Nat:=247
@[reducible] def NI:Nat:=248
@[reducible] def Km:Nat:=249
@[reducible] def NN:Nat:=250
@[reducible] def Lr:Nat:=251
@[reducible] def G3:Nat:=252
@[reducible] def Hb:Nat:=253
@[reducible] def Hn:Nat:=254
@[reducible] def LC:Nat:=255
@[reducible] def Kq:Nat:=256
@[reducible] def Lj:Nat:=257
@[reducible] def JH:Nat:=258
@[reducible] def Jn:Nat:=259
@[reducible] def IT:Nat:=289
@[reducible] def N0:Nat:=290
@[reducible] def KU:Nat:=291
@[reducible] def Fo:Nat:=292
@[reducible] def Gl:Nat:=293
@[reducible] def HT:Nat:=294
@[reducible] def Fe:Nat:=295
@[reducible] def Gg:Nat:=296
@[reducible] def MQ:Nat:=297
@[reducible] def MA:Nat:=298
@[reducible] def NP:Nat:=314
@[reducible] def Ac:Nat:=3
@[reducible] def BK:Nat:=4
@[reducible] def AK:Nat:=28
@[reducible] def FI:Nat:=60
@[reducible] def As:Nat:=62
@[reducible] def AI:Nat:=66
@[reducible] def Dl:Nat:=142
@[reducible] def Ax:Nat:=165
@[reducible] def BZ:Nat:=167
@[reducible] def AV:Nat:=187
@[reducible] def zL (n:Nat) (a:Value) (k:Value→M):M:=FO n a λx=>L1 x k
@[reducible] def zS (n:Nat) (a v:Value) (k:M):M:=FO n a λx=>ST 1 x v k
@[reducible] def zN (n:Nat) (a:Value) (k:Value→M):M:=NC a λx=>FO n x k
@[reducible] def zM (n:Nat) (a:Value) (k:Value→M):M:=NC a λx=>FO n x λy=>L1 y k
@[reducible] def zI (n:Nat) (a i:Value) (k:Value→M):M:=IA n a i λx=>L1 x k
@[reducible] def zP (a b:Value) (k:Value→M):M:=PK a (.bool true) b k
@[reducible] def zA (a b:Value) (k:Value→M):M:=PK a b (.bool false) k
def zG (n:Nat) (vs:List Value) (c:(Value→M)→M):Prop:=∀{R:RM} {A:Chs} {Q:Value→RM→Chs→Prop},(∀F,J R (A ++ F) (c (Er R F Q)))→Fn P n vs R A Q
theorem zG.mk {n:Nat} {vs:List Value} {c:(Value→M)→M} (A:An) {fn:Func} (hf:P.funcs[n]? = some fn) (ok:W3 (CU P) fn vs.length = true) (he:∀K,body P fn A vs K = c K):zG n vs c:=λH F h hs=>Xp hf ok (he _) (H F h hs)
end Go.Lf
end
namespace Go.Lf
theorem zj {α : Type _} {a b : α} {x y : List α} : (a :: x = b :: y) = (a = b ∧ x = y) := List.cons.injEq a x b y
theorem zc {α : Type _} {a : α} {x y : List α} : (a :: x) ++ y = a :: (x ++ y) := rfl
theorem zl {α : Type _} {x : List α} : [] ++ x = x := rfl
@[reducible] def Pt (b:Nat):Value:=.pointer (some ⟨b,0,none⟩)
@[reducible] def S0 (b n c:Nat):Value:=.slice (some ⟨b,0,none⟩) n c
theorem jad {R:RM} {D:Chs} {k:Value→M} {x y:Int} (H:J R D (k (.int .i64 (x + y)))) (h:inR (x + y):=by exact ⟨by omega,by omega⟩):J R D (BO .add (.int .i64 x) (.int .i64 y) k):=Cd h H
theorem jsu {R:RM} {D:Chs} {k:Value→M} {x y:Int} (H:J R D (k (.int .i64 (x - y)))) (h:inR (x - y):=by exact ⟨by omega,by omega⟩):J R D (BO .sub (.int .i64 x) (.int .i64 y) k):=RV h H
end Go.Lf
section
namespace Go.Lf
open Go Go.Proofs Go.Proofs.Tryz
def Ey (a0:Value) (K:Value→M):M:=
 AL 28 z28 λa=>CA P 45 [a0] λb=>CA P 46 [b] λb=>ST 13 a b<|LA 13 a λa=>K a
theorem J1 {a0:Value}:zG F1 [a0] (Ey a0):=zG.mk {} func36 (by kernel_rfl) λ_=>by kernel_rfl
def Hu (a0:Value) (K:Value→M):M:=
 AL 28 a0 λa=>LA 13 a λb=>CA P 34 [b] λb=>NT b λb=>IF b (K (.tuple #[(.slice none 0 0),(.bool false)])) (LA 13 a λb=>CA P 51 [b] λb=>EX 0 b λc=>EX 1 b λb=>LA 13 a λa=>CA P 86 [a,c] λa=>CA P 85 [a] λa=>K (.tuple #[a,(.bool true)]))
theorem Nk {a0:Value}:zG Ib [a0] (Hu a0):=zG.mk {} func37 (by kernel_rfl) λ_=>by kernel_rfl
def Ki (a0 a1:Value) (K:Value→M):M:=
 LN a0 λa=>LN a1 λb=>BO .neq a b λa=>IF a (K (.bool false)) (LP [0,1,5] (λa b=>LN (b 0) λc=>BO .lss (b 5) c λc=>IF c (zI 1 (b 0) (b 5) λc=>zI 1 (b 1) (b 5) λd=>BO .neq c d λc=>IF c (K (.bool false)) (BO .add (b 5) (I 1) λc=>a [(b 0),(b 1),c])) (K (.bool true))) [a0,a1,(I 0)])
theorem QK {a0 a1:Value}:zG Kx [a0,a1] (Ki a0 a1):=zG.mk { at_:=[(7,[0,1,5])] } func38 (by kernel_rfl) λ_=>by kernel_rfl
def Jv (a0 a1:Value) (K:Value→M):M:=
 AL 62 z62 λa=>CA P 87 [a0,a1,(I 2)] λb=>NT b λb=>IF b (BD (cl z62) [] λb=>ST 6 a b<|LA 6 a λa=>K (.tuple #[a,(.bool false)])) (BO .add a1 (I 1) λb=>zI 1 a0 b λb=>CA P 88 [b] λb=>EX 0 b λc=>EX 1 b λb=>AL 60 z60 λd=>ST 2 d c<|CUT [0,1,4,6,26,32] (λc=>NT b λb=>GT b false (LA 2 d λe=>CA P 41 [e] λe=>CA P 87 [a0,a1,e] λe=>NT e λe=>c [a0,a1,a,d,b,e]) (c [a0,a1,a,d,b,U])) λa=>zP (a 26) (a 32) λb=>IF b (BD (cl z62) [] λb=>ST 6 (a 4) b<|LA 6 (a 4) λa=>K (.tuple #[a,(.bool false)])) (BO .add (a 1) (I 2) λb=>zL 0 (a 6) λc=>BO .add b c λc=>IA 1 (a 0) (a 1) λd=>L1 d λe=>LA 2 (a 6) λf=>SL 1 (a 0) (some b) (some c) λb=>FO 1 (a 6) λg=>L1 g λh=>BO .add c h λi=>SL 1 (a 0) (some c) (some i) λc=>CA P 67 [b] λb=>AND (L1 d λa=>EV a e)<|AND (LA 2 (a 6) λa=>EV a f)<|AND (L1 g λa=>EV a h)<|CA P 67 [c] λc=>BD (cl z62) [(0,1,(a 1)),(1,1,e),(2,2,f),(4,1,b),(5,1,c)] λb=>AND (L1 d λa=>EV a e)<|AND (LA 2 (a 6) λa=>EV a f)<|ST 6 (a 4) b<|LA 6 (a 4) λa=>K (.tuple #[a,(.bool true)])))
theorem Og {a0 a1:Value}:zG Jw [a0,a1] (Jv a0 a1):=zG.mk { rg:=[(4,[(9,[0,1,4,6,26,32])])] } func39 (by kernel_rfl) λ_=>by kernel_rfl
def I4 (a0:Value) (K:Value→M):M:=
 BO .lss a0 (I 0) λa=>IF a (K (I (-1))) (BO .quo a0 (I 16) λa=>K a)
theorem ON {a0:Value}:zG IR [a0] (I4 a0):=zG.mk {} func40 (by kernel_rfl) λ_=>by kernel_rfl
def H6 (a0:Value) (K:Value→M):M:=
 AL 60 a0 λa=>LA 2 a λb=>CA P 89 [b] λb=>NT b λb=>IF b (K (I 0)) (zL 0 a λb=>BO .add (I 2) b λb=>zL 1 a λa=>BO .add b a λa=>K a)
theorem Mm {a0:Value}:zG Gx [a0] (H6 a0):=zG.mk {} func41 (by kernel_rfl) λ_=>by kernel_rfl
def LX (a0:Value) (K:Value→M):M:=
 CUT [0] (λa=>LN a0 λb=>BO .gtr b (I 2000) λb=>IF b (SL 1 a0 none (some (I 2000)) λb=>a [b]) (a [a0])) λa=>BD (cl Ya) [(0,1,(a 0))] λa=>AL 118 a λa=>K a
theorem Qx {a0:Value}:zG MG [a0] (LX a0):=zG.mk { at_:=[(1,[0])] } func45 (by kernel_rfl) λ_=>by kernel_rfl
def HX (a0:Value) (K:Value→M):M:=
 AL 28 z28 λa=>CA P 57 [a0] λb=>AL 33 z33 λc=>ST 3 c b<|LA 3 c λb=>CA P 94 [a0,b] λb=>LA 3 c λd=>CA P 56 [a0,(I 500)] λe=>BO .add (I 40) e λe=>AND (LA 3 c λa=>EV a d)<|CA P 95 [a0,d,e] λd=>CUT [0,2,3,4,5] (λe=>CA P 56 [a0,(I 3)] λf=>BO .gtr f (I 0) λf=>IF f (CA P 96 [a0] λb=>EX 0 b λd=>EX 1 b λf=>EX 2 b λb=>ST 3 c d<|e [a0,a,c,f,b]) (e [a0,a,c,b,d])) λa=>LA 3 (a 3) λb=>CA P 97 [b,(a 4),(a 5)] λb=>EX 0 b λc=>EX 1 b λb=>AL 28 z28 λb=>ST 13 b c<|CUT [2,6] (λc=>CA P 56 [(a 0),(I 40)] λd=>CUT [2,6] (λc=>BO .eql d (I 0) λe=>IF e (FO 0 b λd=>L1 d λe=>zL 0 b λf=>LN f λf=>CA P 56 [(a 0),f] λf=>AND (L1 d λa=>EV a e)<|CA P 56 [(a 0),(I 40)] λg=>IA 1 e f λf=>AND (L1 d λa=>EV a e)<|ST 1 f g<|c [(a 2),b]) (BO .eql d (I 1) λe=>IF e (zL 8 b λd=>IA 4 d (I 0) λd=>LA 4 d λd=>AL 83 z83 λe=>ST 4 e d<|zL 0 e λd=>FO 0 b λf=>L1 f λg=>LN g λh=>CA P 98 [d] λd=>AND (L1 f λa=>EV a g)<|CA P 56 [(a 0),h] λf=>BS 3 1 (ZR 1 z3) [(0,1,f)] λf=>AP 3 1 8 (cl z3) d f λd=>zS 0 e d<|zL 8 b λd=>LA 4 e λe=>IA 4 d (I 0) λd=>ST 4 d e<|c [(a 2),b]) (BO .eql d (I 2) λe=>IF e (zL 1 b λd=>LN d λd=>BO .sub d (I 1) λd=>CA P 56 [(a 0),d] λd=>BO .add (I 1) d λd=>zL 1 b λe=>IA 5 e d λe=>LA 5 e λe=>AL 66 z66 λf=>ST 5 f e<|FO 2 f λe=>L1 e λg=>CA P 56 [(a 0),(I 3)] λh=>BO .add g h λh=>BO .sub h (I 1) λh=>FO 2 f λi=>AND (L1 e λa=>EV a g)<|ST 1 i h<|zL 1 b λe=>LA 5 f λf=>IA 5 e d λd=>ST 5 d f<|c [(a 2),b]) (BO .eql d (I 3) λe=>IF e (BS 3 3 (ZR 3 z3) [(0,1,(I (-1))),(1,1,(I 4)),(2,1,(I 2))] λd=>CA P 56 [(a 0),(I 3)] λe=>zI 1 d e λd=>zS 3 b d<|c [(a 2),b]) (BO .eql d (I 4) λe=>IF e (zL 8 b λd=>IA 4 d (I 0) λd=>LA 4 d λd=>AL 83 z83 λe=>ST 4 e d<|zL 2 e λd=>NT d λd=>zS 2 e d<|zL 8 b λd=>LA 4 e λe=>IA 4 d (I 0) λd=>ST 4 d e<|c [(a 2),b]) (BO .eql d (I 5) λd=>IF d (zL 1 b λd=>LN d λd=>BO .sub d (I 1) λd=>CA P 56 [(a 0),d] λd=>BO .add (I 1) d λd=>zL 1 b λe=>IA 5 e d λe=>LA 5 e λe=>AL 66 z66 λf=>ST 5 f e<|CA P 56 [(a 0),(I 6)] λe=>zS 0 f e<|zL 1 b λe=>LA 5 f λf=>IA 5 e d λd=>ST 5 d f<|c [(a 2),b]) (c [(a 2),b]))))))) λa=>c [(a 2),(a 6)]) λa=>LA 13 (a 6) λb=>ST 13 (a 2) b<|LA 13 (a 2) λa=>K a
theorem OO {a0:Value}:zG IN [a0] (HX a0):=zG.mk { at_:=[(4,[0,2,3,4,5]),(7,[2,6]),(9,[2,6])] } func46 (by kernel_rfl) λ_=>by kernel_rfl
def Eu (a0:Value) (K:Value→M):M:=
 AL 28 a0 λa=>LA 13 a λb=>CA P 99 [b] λb=>NT b λb=>IF b (K (.tuple #[(.map none),(.bool false)])) (X P (Instr.makeMap 73 none) λb=>CUT [4] (λc=>CUT [4] (λc=>LP [1,4,5] (λa b=>zL 1 (b 1) λd=>LN d λd=>BO .lss (b 5) d λd=>IF d (CUT [1,4,5] (λa=>CUT [1,4,5] (λa=>zL 0 (b 1) λc=>zL 1 (b 1) λd=>IA 5 d (b 5) λd=>zL 2 d λd=>CA P 100 [c,(b 5),d] λc=>EX 0 c λd=>EX 1 c λc=>NT c λc=>IF c (K (.tuple #[(.map none),(.bool false)])) (LN d λc=>CUT [1,4,5] (λa=>LP [1,4,5,36,37,38] (λb c=>BO .lss (c 38) (c 37) λd=>IF d (IA 6 (c 36) (c 38) λa=>LA 6 a λa=>AL 62 z62 λd=>ST 6 d a<|zL 0 d λa=>LA 6 d λd=>X P (do Instr.mapUpdate 73 (c 4) a d;pure undef) λa=>BO .add (c 38) (I 1) λa=>b [(c 1),(c 4),(c 5),(c 36),(c 37),a]) (a [(c 1),(c 4),(c 5)])) [(b 1),(b 4),(b 5),d,c,(I 0)]) λb=>a [(b 1),(b 4),(b 5)])) λb=>a [(b 1),(b 4),(b 5)]) λb=>BO .add (b 5) (I 1) λc=>a [(b 1),(b 4),c]) (c [(b 4)])) [a,b,(I 1)]) λa=>c [(a 4)]) λa=>K (.tuple #[(a 4),(.bool true)]))
theorem Ir {a0:Value}:zG Et [a0] (Eu a0):=zG.mk { at_:=[(5,[4]),(7,[4]),(8,[1,4,5]),(11,[1,4,5]),(12,[1,4,5]),(18,[1,4,5]),(19,[1,4,5,36,37,38])] } func47 (by kernel_rfl) λ_=>by kernel_rfl
def FV (a0:Value) (K:Value→M):M:=
 AL 28 a0 λa=>CUT [1,3] (λb=>zL 8 a λc=>LN c λd=>CUT [1,3] (λb=>LP [1,3,7,8,9] (λa c=>BO .lss (c 9) (c 8) λd=>IF d (IA 4 (c 7) (c 9) λb=>LA 4 b λb=>AL 83 z83 λd=>ST 4 d b<|zL 0 d λb=>AP 3 1 8 (cl z3) (c 3) b λb=>BO .add (c 9) (I 1) λd=>a [(c 1),b,(c 7),(c 8),d]) (b [(c 1),(c 3)])) [a,(.slice none 0 0),c,d,(I 0)]) λa=>b [(a 1),(a 3)]) λa=>zL 10 (a 1) λb=>AP 3 1 8 (cl z3) (a 3) b λa=>K a
theorem KN {a0:Value}:zG FW [a0] (FV a0):=zG.mk { at_:=[(2,[1,3]),(4,[1,3]),(5,[1,3,7,8,9])] } func48 (by kernel_rfl) λ_=>by kernel_rfl
def Ei (a0 a1:Value) (K:Value→M):M:=
 AL 28 a0 λa=>X P (Instr.range 73 a1) λb=>LP [1,2,10] (λa b=>X P (Instr.next (b 10) false 0) λc=>EX 0 c λc=>IF c (CUT [1,2,10] (λa=>X P (Instr.entry (b 10)) λc=>EX 1 c λc=>AL 62 z62 λd=>ST 6 d c<|zL 1 d λc=>zL 0 d λe=>BO .eql c e λc=>IF c (a [(b 1),(b 2),(b 10)]) (zL 1 d λc=>X P (Instr.lookup 73 (b 1) c true) λc=>EX 0 c λe=>EX 1 c λc=>AL 62 z62 λf=>ST 6 f e<|CUT [1,2,6,7,10,29,34] (λa=>NT c λc=>GT c false (FO 2 f λe=>LA 2 e λe=>FO 2 d λg=>LA 2 g λg=>X P (do eqGuard .neq 60 (.tmp 31) (.tmp 33) e g;binOp .neq 60 e g) λe=>a [(b 1),(b 2),d,f,(b 10),c,e]) (a [(b 1),(b 2),d,f,(b 10),c,U])) λb=>CUT [1,2,6,7,10,36,41] (λa=>zP (b 29) (b 34) λc=>GT c false (zL 1 (b 7) λd=>zL 0 (b 7) λe=>BO .neq d e λd=>a [(b 1),(b 2),(b 6),(b 7),(b 10),c,d]) (a [(b 1),(b 2),(b 6),(b 7),(b 10),c,U])) λb=>CUT [1,2,6,10,43,47] (λa=>zP (b 36) (b 41) λc=>GT c false (LA 13 (b 2) λd=>zL 0 (b 7) λe=>CA P 101 [d,e] λd=>a [(b 1),(b 2),(b 6),(b 10),c,d]) (a [(b 1),(b 2),(b 6),(b 10),c,U])) λb=>CUT [1,2,10,49,54] (λa=>zP (b 43) (b 47) λc=>GT c false (LA 13 (b 2) λd=>zL 0 (b 6) λe=>CA P 101 [d,e] λd=>NT d λd=>a [(b 1),(b 2),(b 10),c,d]) (a [(b 1),(b 2),(b 10),c,U])) λb=>zP (b 49) (b 54) λc=>IF c (K (.bool false)) (a [(b 1),(b 2),(b 10)]))) λb=>a [(b 1),(b 2),(b 10)]) (K (.bool true))) [a1,a,b]
set_option maxRecDepth 10000 in
theorem I6 {a0 a1:Value}:zG Eg [a0,a1] (Ei a0 a1):=zG.mk { at_:=[(4,[1,2,10]),(7,[1,2,10])],rg:=[(6,[(8,[1,2,6,7,10,29,34]),(7,[1,2,6,7,10,36,41]),(6,[1,2,6,10,43,47]),(7,[1,2,10,49,54])])] } func49 (by kernel_rfl) λ_=>by kernel_rfl
def If (a0:Value) (K:Value→M):M:=
 AL 28 a0 λa=>CUT [4] (λb=>CUT [4] (λb=>LP [1,4,5] (λa c=>zL 1 (c 1) λd=>LN d λd=>BO .lss (c 5) d λd=>IF d (zL 0 (c 1) λb=>zL 1 (c 1) λd=>IA 5 d (c 5) λd=>zL 2 d λd=>CA P 102 [b,(c 5),d] λb=>EX 0 b λd=>EX 1 b λb=>NT b λb=>IF b (K (.tuple #[(.slice none 0 0),(.bool false)])) (AP 62 6 80 (cl z62) (c 4) d λb=>BO .add (c 5) (I 1) λd=>a [(c 1),b,d])) (b [(c 4)])) [a,(.slice none 0 0),(I 1)]) λa=>b [(a 4)]) λa=>K (.tuple #[(a 4),(.bool true)])
theorem Nb {a0:Value}:zG HW [a0] (If a0):=zG.mk { at_:=[(2,[4]),(4,[4]),(5,[1,4,5])] } func51 (by kernel_rfl) λ_=>by kernel_rfl
def NL (a0 a1:Value) (K:Value→M):M:=
 CUT [0,1,7,11] (λa=>BO .eql a1 (I 0) λb=>GT b false (CA P 103 [a0,a1] λc=>BO .geq c (I 0) λc=>a [a0,a1,b,c]) (a [a0,a1,b,U])) λa=>zP (a 7) (a 11) λb=>IF b (K (a 0)) (BS 3 1 (ZR 1 z3) [(0,1,(a 1))] λb=>AP 3 1 8 (cl z3) (a 0) b λa=>K a)
theorem TN {a0 a1:Value}:zG NJ [a0,a1] (NL a0 a1):=zG.mk { rg:=[(1,[(7,[0,1,7,11])])] } func52 (by kernel_rfl) λ_=>by kernel_rfl
def MJ (a0 a1:Value) (K:Value→M):M:=
 LP [0,1,5] (λa b=>LN (b 0) λc=>BO .lss (b 5) c λc=>IF c (IA 6 (b 0) (b 5) λc=>zL 0 c λc=>BO .eql c (b 1) λc=>IF c (K (b 5)) (BO .add (b 5) (I 1) λc=>a [(b 0),(b 1),c])) (K (I (-1)))) [a0,a1,(I 0)]
theorem RL {a0 a1:Value}:zG Lb [a0,a1] (MJ a0 a1):=zG.mk { at_:=[(4,[0,1,5])] } func53 (by kernel_rfl) λ_=>by kernel_rfl
def II (a0:Value) (K:Value→M):M:=
 BO .lss a0 (I 0) λa=>IF a (K (I (-1))) (BO .quo a0 (I 16) λa=>K a)
theorem OI {a0:Value}:zG IC [a0] (II a0):=zG.mk {} func54 (by kernel_rfl) λ_=>by kernel_rfl
def L2 (a0:Value) (K:Value→M):M:=
 AL 28 a0 λa=>LA 13 a λb=>CA P 47 [b] λb=>EX 0 b λc=>EX 1 b λb=>CUT [1,3,19,23] (λd=>NT b λb=>GT b false (LA 13 a λe=>CA P 49 [e,c] λe=>NT e λe=>d [a,c,b,e]) (d [a,c,b,U])) λa=>CUT [1,3,25,28] (λb=>zP (a 19) (a 23) λc=>GT c false (zL 3 (a 1) λd=>BO .lss d (I 0) λd=>b [(a 1),(a 3),c,d]) (b [(a 1),(a 3),c,U])) λa=>CUT [1,3,30,33] (λb=>zP (a 25) (a 28) λc=>GT c false (zL 3 (a 1) λd=>BO .gtr d (I 3) λd=>b [(a 1),(a 3),c,d]) (b [(a 1),(a 3),c,U])) λa=>CUT [1,3,35,39] (λb=>zP (a 30) (a 33) λc=>GT c false (zL 8 (a 1) λd=>LN d λd=>BO .lss d (I 1) λd=>b [(a 1),(a 3),c,d]) (b [(a 1),(a 3),c,U])) λa=>CUT [1,3,41,45] (λb=>zP (a 35) (a 39) λc=>GT c false (zL 8 (a 1) λd=>LN d λd=>BO .gtr d (I 3) λd=>b [(a 1),(a 3),c,d]) (b [(a 1),(a 3),c,U])) λa=>CUT [1,3,47,51] (λb=>zP (a 41) (a 45) λc=>GT c false (zL 10 (a 1) λd=>LN d λd=>BO .gtr d (I 8) λd=>b [(a 1),(a 3),c,d]) (b [(a 1),(a 3),c,U])) λa=>zP (a 47) (a 51) λb=>IF b (K (.pointer none)) (CUT [1,3] (λb=>zL 8 (a 1) λc=>LN c λd=>CUT [1,3] (λb=>LP [1,3,54,55,56] (λa c=>BO .lss (c 56) (c 55) λd=>IF d (IA 4 (c 54) (c 56) λb=>LA 4 b λb=>AL 83 z83 λd=>ST 4 d b<|CUT [1,3,6,54,55,56,64,67] (λa=>zL 0 d λb=>LN b λb=>BO .gtr b (I 8) λb=>GT b false (zL 3 d λe=>BO .lss e (I 0) λe=>a [(c 1),(c 3),d,(c 54),(c 55),(c 56),b,e]) (a [(c 1),(c 3),d,(c 54),(c 55),(c 56),b,U])) λb=>CUT [1,3,54,55,56,69,72] (λa=>zP (b 64) (b 67) λc=>GT c false (zL 3 (b 6) λd=>BO .gtr d (I 2) λd=>a [(b 1),(b 3),(b 54),(b 55),(b 56),c,d]) (a [(b 1),(b 3),(b 54),(b 55),(b 56),c,U])) λb=>zP (b 69) (b 72) λc=>IF c (K (.pointer none)) (BO .add (b 56) (I 1) λc=>a [(b 1),(b 3),(b 54),(b 55),c])) (b [(c 1),(c 3)])) [(a 1),(a 3),c,d,(I 0)]) λa=>b [(a 1),(a 3)]) λa=>CUT [1,3] (λb=>zL 10 (a 1) λc=>LN c λd=>CUT [1,3] (λb=>LP [1,3,76,77,78] (λa c=>BO .lss (c 78) (c 77) λd=>IF d (zI 1 (c 76) (c 78) λb=>X P (Instr.lookup 73 (c 3) b true) λd=>EX 0 d λe=>EX 1 d λd=>AL 62 z62 λf=>ST 6 f e<|CUT [1,3,8,76,77,78,90,94] (λa=>NT d λd=>GT d false (zL 1 f λe=>BO .neq e b λe=>a [(c 1),(c 3),b,(c 76),(c 77),(c 78),d,e]) (a [(c 1),(c 3),b,(c 76),(c 77),(c 78),d,U])) λb=>CUT [1,3,76,77,78,96,99] (λa=>zP (b 90) (b 94) λc=>GT c false (LA 13 (b 1) λd=>CA P 101 [d,(b 8)] λd=>a [(b 1),(b 3),(b 76),(b 77),(b 78),c,d]) (a [(b 1),(b 3),(b 76),(b 77),(b 78),c,U])) λb=>zP (b 96) (b 99) λc=>IF c (K (.pointer none)) (BO .add (b 78) (I 1) λc=>a [(b 1),(b 3),(b 76),(b 77),c])) (b [(c 1),(c 3)])) [(a 1),(a 3),c,d,(I 0)]) λa=>b [(a 1),(a 3)]) λa=>LA 13 (a 1) λb=>BD (cl z99) [(0,13,b),(13,1,(a 3))] λa=>AL 99 a λa=>CA P 104 [a] λb=>NT b λb=>IF b (K (.pointer none)) (K a))
theorem QA {a0:Value}:zG L8 [a0] (L2 a0):=zG.mk { at_:=[(5,[1,3]),(7,[1,3]),(8,[1,3,54,55,56]),(16,[1,3]),(18,[1,3]),(19,[1,3,76,77,78])],rg:=[(2,[(7,[1,3,19,23]),(5,[1,3,25,28]),(5,[1,3,30,33]),(6,[1,3,35,39]),(6,[1,3,41,45]),(6,[1,3,47,51])]),(7,[(8,[1,3,6,54,55,56,64,67]),(5,[1,3,54,55,56,69,72])]),(14,[(7,[1,3,8,76,77,78,90,94]),(5,[1,3,76,77,78,96,99])])] } func55 (by kernel_rfl) λ_=>by kernel_rfl
def Gr (a0 a1:Value) (K:Value→M):M:=
 zM 1 a0 λa=>BO .add a (I 1) λa=>NC a0 λb=>zS 1 b a<|CUT [0,1,17,23] (λa=>BO .lss a1 (I 1) λb=>GT b false (zM 0 a0 λc=>LN c λc=>BO .eql c (I 0) λc=>a [a0,a1,b,c]) (a [a0,a1,b,U])) λa=>zP (a 17) (a 23) λb=>IF b (K (I 0)) (zM 1 (a 0) λb=>BO .sub b (I 1) λb=>zM 0 (a 0) λc=>LN c λc=>BO .lss b c λc=>IF c (zM 0 (a 0) λc=>zI 1 c b λb=>X P (Go.convert 5 3 b) λb=>BO .rem b (a 1) λa=>K a) (CUT [1,6] (λc=>zN 0 (a 0) λd=>L1 d λe=>zN 0 (a 0) λf=>L1 f λg=>LN g λh=>BO .rem b h λh=>IA 1 e h λh=>L1 h λi=>zN 0 (a 0) λj=>L1 j λk=>BO .mul b (I 7) λl=>BO .add l (I 3) λl=>zN 0 (a 0) λm=>L1 m λn=>LN n λo=>BO .rem l o λl=>IA 1 k l λl=>L1 l λo=>BO .mul b (I 29) λp=>zN 0 (a 0) λq=>L1 q λr=>LN r λs=>BO .quo b s λb=>BO .mul b (I 53) λb=>ALL [X P (Go.convert 5 3 i) λs=>BO .mul s (I 131) λs=>AND (L1 j λa=>EV a k)<|AND (L1 m λa=>EV a n)<|AND (L1 l λa=>EV a o)<|AND (L1 q λa=>EV a r)<|X P (Go.convert 5 3 o) λj=>BO .mul j (I 1117) λj=>BO .add s j λj=>BO .add j p λj=>BO .add j b λj=>AND (L1 q λa=>EV a r)<|c [(a 1),j],
 X P (Go.convert 5 3 o) λj=>BO .mul j (I 1117) λj=>AND (L1 d λa=>EV a e)<|AND (L1 f λa=>EV a g)<|AND (L1 h λa=>EV a i)<|AND (L1 q λa=>EV a r)<|X P (Go.convert 5 3 i) λd=>BO .mul d (I 131) λd=>BO .add d j λd=>BO .add d p λd=>BO .add d b λb=>AND (L1 q λa=>EV a r)<|c [(a 1),b]]) λa=>BO .quo (a 6) (I 64) λb=>BO .xor (a 6) b λb=>BO .rem b (a 1) λa=>K a))
theorem Mt {a0 a1:Value}:zG Ek [a0,a1] (Gr a0 a1):=zG.mk { at_:=[(9,[1,6])],rg:=[(2,[(9,[0,1,17,23])])] } func56 (by kernel_rfl) λ_=>by kernel_rfl
def Ga (a0:Value) (K:Value→M):M:=
 AL 33 z33 λa=>CA P 56 [a0,(I 6)] λb=>BO .add (I 4) b λb=>CA P 56 [a0,(I 3)] λc=>BO .add (I 1) c λc=>BS 3 5 (ZR 5 z3) [(0,1,(I 16)),(1,1,(I 32)),(2,1,(I 0)),(3,1,(I 8)),(4,1,(I 100))] λd=>CA P 56 [a0,(I 5)] λe=>zI 1 d e λd=>BD (cl z33) [(0,1,b),(1,1,c),(2,1,d)] λb=>ST 3 a b<|LA 3 a λa=>K a
theorem Mu {a0:Value}:zG H3 [a0] (Ga a0):=zG.mk {} func57 (by kernel_rfl) λ_=>by kernel_rfl
def IH (a0:Value) (K:Value→M):M:=
 AL 33 a0 λa=>CUT [1,6,9] (λb=>zL 0 a λc=>BO .geq c (I 3) λc=>GT c true (zL 0 a λd=>BO .leq d (I 12) λd=>b [a,c,d]) (b [a,c,U])) λa=>CUT [1,11,14] (λb=>zA (a 6) (a 9) λc=>GT c true (zL 1 (a 1) λd=>BO .geq d (I 1) λd=>b [(a 1),c,d]) (b [(a 1),c,U])) λa=>CUT [1,16,19] (λb=>zA (a 11) (a 14) λc=>GT c true (zL 1 (a 1) λd=>BO .leq d (I 3) λd=>b [(a 1),c,d]) (b [(a 1),c,U])) λa=>CUT [1,21,24] (λb=>zA (a 16) (a 19) λc=>GT c true (zL 2 (a 1) λd=>BO .geq d (I 0) λd=>b [(a 1),c,d]) (b [(a 1),c,U])) λa=>CUT [26,29] (λb=>zA (a 21) (a 24) λc=>GT c true (zL 2 (a 1) λa=>BO .leq a (I 100) λa=>b [c,a]) (b [c,U])) λa=>zA (a 26) (a 29) λa=>K a
theorem OE {a0:Value}:zG IP [a0] (IH a0):=zG.mk { rg:=[(1,[(7,[1,6,9]),(5,[1,11,14]),(5,[1,16,19]),(5,[1,21,24]),(5,[26,29])])] } func60 (by kernel_rfl) λ_=>by kernel_rfl
def Hf (a0:Value) (K:Value→M):M:=
 CUT [0,8,10] (λa=>BO .lss a0 (I 2) λb=>GT b false (BO .gtr a0 (I 12) λc=>a [a0,b,c]) (a [a0,b,U])) λa=>zP (a 8) (a 10) λb=>IF b (K (.tuple #[(.slice none 0 0),(.bool false)])) (CUT [4] (λb=>CUT [4] (λb=>LP [0,4,5] (λa c=>BO .lss (c 5) (c 0) λd=>IF d (CA P 80 [(c 5)] λb=>CA P 80 [(c 5)] λd=>BD (cl z66) [(0,1,(I 1)),(1,1,(I (-1))),(2,1,b),(3,1,d)] λb=>BS 66 1 (ZR 1 z66) [(0,5,b)] λb=>AP 66 5 40 (cl z66) (c 4) b λb=>BO .add (c 5) (I 1) λd=>a [(c 0),b,d]) (b [(c 4)])) [(a 0),(.slice none 0 0),(I 0)]) λa=>b [(a 4)]) λa=>BD (cl z66) [(0,1,(I 0)),(1,1,(I (-1)))] λb=>IA 5 (a 4) (I 0) λc=>ST 5 c b<|K (.tuple #[(a 4),(.bool true)]))
theorem O9 {a0:Value}:zG Ic [a0] (Hf a0):=zG.mk { at_:=[(5,[4]),(7,[4]),(8,[0,4,5])],rg:=[(1,[(5,[0,8,10])])] } func61 (by kernel_rfl) λ_=>by kernel_rfl
def Gk (a0 a1 a2:Value) (K:Value→M):M:=
 AL 60 a2 λa=>LA 2 a λb=>CA P 63 [b] λb=>CA P 108 [a0,a1,b] λc=>NT c λc=>IF c (K (.tuple #[(.slice none 0 0),(.bool false)])) (BS 3 0 (ZR 0 z3) [] λc=>AP 3 1 8 (cl z3) c a0 λc=>CUT [1,5,9] (λd=>CUT [1,5,9] (λd=>LP [1,5,8,9,10] (λa b=>BO .lss (b 10) (b 8) λc=>IF c (BO .add (b 1) (b 10) λc=>IA 1 (b 9) c λc=>ST 1 c (I 0)<|BO .add (b 10) (I 1) λc=>a [(b 1),(b 5),(b 8),(b 9),c]) (d [(b 1),(b 5),(b 9)])) [a1,a,b,c,(I 0)]) λa=>d [(a 1),(a 5),(a 9)]) λa=>IA 1 (a 9) (a 1) λb=>ST 1 b (a 1)<|BO .add (a 1) (I 1) λb=>LA 2 (a 5) λc=>CA P 109 [c] λc=>IA 1 (a 9) b λb=>ST 1 b c<|K (.tuple #[(a 9),(.bool true)]))
theorem Mn {a0 a1 a2:Value}:zG Gw [a0,a1,a2] (Gk a0 a1 a2):=zG.mk { at_:=[(6,[1,5,9]),(8,[1,5,9]),(9,[1,5,8,9,10])] } func62 (by kernel_rfl) λ_=>by kernel_rfl
def Gm (a0:Value) (K:Value→M):M:=
 AL 60 a0 λa=>LA 2 a λb=>CA P 110 [b] λb=>NT b λb=>IF b (K (I 0)) (zL 0 a λb=>BO .add (I 2) b λb=>zL 1 a λa=>BO .add b a λa=>K a)
theorem MZ {a0:Value}:zG GY [a0] (Gm a0):=zG.mk {} func63 (by kernel_rfl) λ_=>by kernel_rfl
def H5 (a0:Value) (K:Value→M):M:=
 zM 14 a0 λa=>CA P 67 [a] λa=>CA P 112 [a] λb=>K a
theorem Mx {a0:Value}:zG Gv [a0] (H5 a0):=zG.mk {} func65 (by kernel_rfl) λ_=>by kernel_rfl
def F0 (a0 a1 a2:Value) (K:Value→M):M:=
 CA P 67 [a0] λa=>CUT [5] (λb=>LN a λc=>CUT [5] (λb=>LP [1,2,5,10,11,12] (λa c=>BO .lss (c 12) (c 11) λd=>IF d (CUT [1,2,5,10,11,12] (λa=>CUT [1,2,5,10,11,12] (λa=>zI 1 (c 10) (c 12) λb=>L1 (c 1) λd=>L1 (c 2) λe=>CA P 69 [e,b] λe=>AND (L1 (c 1) λa=>EV a d)<|CA P 68 [d,e] λd=>EX 0 d λe=>EX 1 d λd=>IA 1 (c 5) (c 12) λd=>ST 1 d e<|BO .eql b (I 0) λb=>IF b (IA 1 (c 5) (c 12) λb=>ST 1 b (I (-1))<|a [(c 1),(c 2),(c 5),(c 10),(c 11),(c 12)]) (a [(c 1),(c 2),(c 5),(c 10),(c 11),(c 12)])) λb=>a [(b 1),(b 2),(b 5),(b 10),(b 11),(b 12)]) λb=>BO .add (b 12) (I 1) λc=>a [(b 1),(b 2),(b 5),(b 10),(b 11),c]) (b [(c 5)])) [a1,a2,a,a,c,(I 0)]) λa=>b [(a 5)]) λa=>K (a 5)
theorem Iw {a0 a1 a2:Value}:zG BX [a0,a1,a2] (F0 a0 a1 a2):=zG.mk { at_:=[(2,[5]),(4,[5]),(5,[1,2,5,10,11,12]),(8,[1,2,5,10,11,12]),(9,[1,2,5,10,11,12])] } func66 (by kernel_rfl) λ_=>by kernel_rfl
def Eb (a0:Value) (K:Value→M):M:=
 X P (do eqGuard .eql 23 (.tmp 3) (.const (.slice none 0 0)) a0 (.slice none 0 0);binOp .eql 23 a0 (.slice none 0 0)) λa=>IF a (K (.slice none 0 0)) (BS 3 0 (ZR 0 z3) [] λa=>AP 3 1 8 (cl z3) a a0 λa=>K a)
theorem Hl {a0:Value}:zG EZ [a0] (Eb a0):=zG.mk {} func67 (by kernel_rfl) λ_=>by kernel_rfl
def Dp (a0 a1:Value) (K:Value→M):M:=
 LN a0 λa=>CUT [0,1,6,7] (λb=>CUT [0,1,6,7] (λb=>LP [0,1,6,7,8] (λa c=>BO .lss (c 7) (c 8) λd=>IF d (CUT [0,1,6,7,8] (λa=>BO .add (c 7) (c 8) λb=>X P (Go.convert 3 130 b) λb=>BO .shr b (.int .u64 1) λb=>X P (Go.convert 130 3 b) λb=>zI 1 (c 0) b λd=>CA P 113 [d,(c 1)] λd=>IF d (BO .add b (I 1) λb=>a [(c 0),(c 1),(c 6),b,(c 8)]) (a [(c 0),(c 1),(c 6),(c 7),b])) λb=>a [(b 0),(b 1),(b 6),(b 7),(b 8)]) (b [(c 0),(c 1),(c 6),(c 7)])) [a0,a1,a,(I 0),a]) λa=>b [(a 0),(a 1),(a 6),(a 7)]) λa=>CUT [31,35,52] (λb=>BO .lss (a 7) (a 6) λc=>GT c true (zI 1 (a 0) (a 7) λd=>BO .eql d (a 1) λd=>GT d false (zI 1 (a 0) (a 7) λe=>CA P 114 [e] λe=>GT e true (CA P 114 [(a 1)] λf=>zA e f λe=>zP d e λd=>b [(a 7),c,d]) (zA e U λe=>zP d e λd=>b [(a 7),c,d])) (zP d U λd=>b [(a 7),c,d])) (b [(a 7),c,U])) λa=>zA (a 35) (a 52) λb=>K (.tuple #[(a 31),b])
theorem Fk {a0 a1:Value}:zG Dq [a0,a1] (Dp a0 a1):=zG.mk { at_:=[(3,[0,1,6,7]),(4,[0,1,6,7]),(5,[0,1,6,7,8]),(8,[0,1,6,7,8])],rg:=[(8,[(22,[31,35,52])])] } func68 (by kernel_rfl) λ_=>by kernel_rfl
def FK (a0 a1:Value) (K:Value→M):M:=
 BO .eql a1 (I 0) λa=>IF a (K (I 0)) (zM 13 a0 λa=>X P (Instr.lookup 73 a a1 false) λa=>FD false 1 1 a λa=>K a)
theorem HP {a0 a1:Value}:zG FS [a0,a1] (FK a0 a1):=zG.mk {} func69 (by kernel_rfl) λ_=>by kernel_rfl
end Go.Lf
end
