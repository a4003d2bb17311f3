/- A part of the proof of the given row: the walk of the law and of all that it calls. Conditions: none. -/
import Derived.Test.YtoajhnhjmhdfdaaGreatProg
import Derived.KernelRfl
import Derived.Test.YtoajhnhjmhdfdaaGreatLA
set_option linter.unusedVariables false
set_option linter.unusedSimpArgs false
section
namespace Go.Lf
open Go
section
variable {P:Program}
structure DOk (P:Program) (ops:Array Oper):Prop where
 sel:∀(j:Nat) (o:Oper) cs b,ops.toList[j]? = some o→o.op≠.select cs b
 bef:∀i o,ops.toList[i]? = some o→(∀k,Nat.testBit ((C6 P ops.toList).bef.getD i 0) k = true↔∃e∈o.after.toList,Region.binds .any e = true∧(e.on = k∨Nat.testBit ((C6 P ops.toList).bef.getD e.on 0) k = true))∧
  (∀e∈o.after.toList,Region.binds .any e = true→e.on < i)∧(CM P o = true→∃d,o.dst = some d∧d ∉ C9 ops.toList o)
 pair:∀i j oi oj d,i≠j→ops.toList[i]? = some oi→ops.toList[j]? = some oj→oi.dst = some d→
  (CM P oi = true→oj.dst≠some d∧(d∈C9 ops.toList oj→Nat.testBit ((C6 P ops.toList).bef.getD j 0) i = true))∧
  ((d∈C9 ops.toList oj∨oj.dst = some d)→Nat.testBit ((C6 P ops.toList).bef.getD j 0) i = true∨Nat.testBit ((C6 P ops.toList).bef.getD i 0) j = true)
theorem UO {ops:Array Oper} (h:CF P ops = true):P.follows .mixedOrders = true∧DOk P ops:=by
 simp only[CF,z_b] at h;obtain⟨⟨⟨h1,h2⟩,h3⟩,h4⟩:=h;refine⟨h1,⟨λj o cs b ho=>Region.noSelect_spec h2 j o cs b (by simpa using ho),λi o ho=>?_,λi j oi oj d hij hoi hoj hd=>?_⟩⟩
 ·have hi:i < ops.toList.length:=(List.getElem?_eq_some_iff.1 ho).1;have:=List.all_eq_true.1 h3 i (List.mem_range.2 hi);simp only[ho,z_b] at this;obtain⟨⟨g1,g2⟩,g3⟩:=this;refine⟨λk=>?_,λe he hb=>?_,λhq=>?_⟩
  ·rw[Qp g1];exact T4
  ·have:=List.all_eq_true.1 g2 e he;simp only[hb,Bool.not_true,Bool.false_or,Nat.blt_eq] at this;exact this
  ·simp only[hq,Bool.not_true,Bool.false_or] at g3;cases hd:o.dst with
   | none=>simp[hd] at g3
   | some d=>simp only[hd] at g3;exact⟨d,rfl,by simpa using g3⟩
 ·have hi:i < ops.toList.length:=(List.getElem?_eq_some_iff.1 hoi).1;have hj:j < ops.toList.length:=(List.getElem?_eq_some_iff.1 hoj).1;have:=List.all_eq_true.1 (List.all_eq_true.1 h4 i (List.mem_range.2 hi)) j (List.mem_range.2 hj);rw[Ie hij] at this;simp only[Bool.false_or,S8,hoi,hoj,hd] at this;cases hq:CM P oi with
  | true=>
   simp only[hq,cond_true,z_b,Bool.not_eq_true',Bool.or_eq_true,beq_eq_false_iff_ne] at this;refine⟨λ_=>⟨this.1,λhn=>?_⟩,λhn=>?_⟩
   ·rcases this.2 with h | h
    ·simp at h;exact absurd hn h
    ·exact h
   ·rcases hn with hn | hn
    ·rcases this.2 with h | h
     ·simp at h;exact absurd hn h
     ·exact .inl h
    ·exact absurd hn this.1
  | false=>
   simp only[hq,cond_false,Bool.or_eq_true,Bool.not_eq_true'] at this;refine⟨(λhh=>nomatch hh),λhn=>?_⟩;rcases this with (h | h) | h
   ·exfalso;simp at h;rcases hn with hn | hn
    ·exact h.1 hn
    ·exact h.2 hn
   ·exact .inl h
   ·exact .inr h
section inv
variable {ops:Array Oper} {N:Nat}
abbrev B (P:Program) (ops:Array Oper) (i k:Nat):Prop:=Nat.testBit ((C6 P ops.toList).bef.getD i 0) k = true
abbrev E (P:Program) (ops:Array Oper) (i:Nat):Prop:=Nat.testBit (C6 P ops.toList).eff i = true
theorem Rh {i:Nat}:E P ops i↔∃o,ops.toList[i]? = some o∧CM P o = false:=by
 unfold E;simp only[C6];rw[MZ];constructor
 ·rintro⟨h1,h2⟩;have hi:i < ops.toList.length:=List.mem_range.1 h1;rw[List.getElem?_eq_getElem hi] at h2;exact⟨_,List.getElem?_eq_getElem hi,by simpa using h2⟩
 ·rintro⟨o,ho,hq⟩;exact⟨List.mem_range.2 (List.getElem?_eq_some_iff.1 ho).1,by simp[ho,hq]⟩
theorem VI (h:DOk P ops) {i k:Nat} {o:Oper} (ho:ops.toList[i]? = some o):B P ops i k→k < i:=by
 induction i using Nat.strongRecOn generalizing k o with
 | _ i ih=>
  intro hb;obtain⟨e,he,hbd,hk⟩:=((h.bef i o ho).1 k).1 hb;have hlt:=(h.bef i o ho).2.1 e he hbd;rcases hk with rfl | hk
  ·exact hlt
  ·have hlen:e.on < ops.toList.length:=Nat.lt_trans hlt (List.getElem?_eq_some_iff.1 ho).1;exact Nat.lt_trans (ih e.on hlt (List.getElem?_eq_getElem hlen) hk) hlt
theorem TR (h:DOk P ops) {i j k:Nat} {o:Oper} (ho:ops.toList[i]? = some o):B P ops i j→B P ops j k→B P ops i k:=by
 induction i using Nat.strongRecOn generalizing o with
 | _ i ih=>
  intro hij hjk;obtain⟨e,he,hbd,hk⟩:=((h.bef i o ho).1 j).1 hij;refine ((h.bef i o ho).1 k).2 ⟨e,he,hbd,.inr ?_⟩;rcases hk with rfl | hk
  ·exact hjk
  ·have hlt:=(h.bef i o ho).2.1 e he hbd;have hlen:e.on < ops.toList.length:=Nat.lt_trans hlt (List.getElem?_eq_some_iff.1 ho).1;exact ih e.on hlt (List.getElem?_eq_getElem hlen) hk hjk
structure Inv (P:Program) (ops:Array Oper) (N:Nat) (listed:Array Bool) (done evd:Nat) (kn:Kn) (e:Env) (a:Act) (h:Cn):Prop where
 size:listed.size = ops.size
 closed:∀i,listed.getD i false = true→∀k,B P ops i k→listed.getD k false = true
 effI:∀i,E P ops i→(listed.getD i false = true↔Nat.testBit done i = true)
 effsub:∀k,Nat.testBit done k = true→E P ops k
 evdI:∀i o,ops.toList[i]? = some o→¬ E P ops i→(Nat.testBit evd i = true↔∀k,B P ops i k→E P ops k→Nat.testBit done k = true)
 val:∀i o,ops.toList[i]? = some o→¬ E P ops i→Nat.testBit evd i = true→listed.getD i false = false→Vq P ops.toList o e h
 asize:a.tmps.size = N
 adef:a.defers = []
 agree:∀t,(∀i o,ops.toList[i]? = some o→¬ E P ops i→Nat.testBit evd i = true→listed.getD i false = false→o.dst≠some t)→a.tmps.getD t undef = e t
 knI:Dc ops.toList kn e
def QX (P:Program) (ops:Array Oper) (cs:List (Nat × List (Nat × List Nat))) (f:Nat) (done evd:Nat) (kn:Kn) (e:Env) (K:Env→M):M:=
 bif Nat.beq done (C6 P ops.toList).eff then K e else
  ALL (((C6 P ops.toList).idx.filter λj=>Nat.testBit (C6 P ops.toList).eff j && !Nat.testBit done j && sub (Nat.land ((C6 P ops.toList).bef.getD j 0) (C6 P ops.toList).eff) done).map λj=>match ops.toList[j]? with
   | some o=>opG P ops.toList o kn e λkn v=>Mc P ops.toList (C6 P ops.toList) cs f (Nat.lor done (2 ^ j)) evd kn (put e o.dst v) K
   | none=>F)
theorem Ta:∀{l:List M} {h:Cn},ALL l h→∀m∈l,m h:=by
 intro l;induction l with
 | nil=>intro h _ m hm;cases hm
 | cons a r ih=>
  intro h hh m hm;cases r with
  | nil=>
   rcases List.mem_cons.1 hm with rfl | hm
   ·exact hh
   ·cases hm
  | cons b r=>
   rcases List.mem_cons.1 hm with rfl | hm
   ·exact hh.1
   ·exact ih hh.2 m hm
theorem SV {a b k:Nat}:Nat.testBit (Nat.land a b) k = true↔Nat.testBit a k = true∧Nat.testBit b k = true:=by
 have e1:Nat.land a b = a &&& b:=rfl;rw[e1,Nat.testBit_and,z_b]
theorem PC {a b k:Nat}:Nat.testBit (Nat.lor a b) k = true↔Nat.testBit a k = true∨Nat.testBit b k = true:=by
 have e1:Nat.lor a b = a ||| b:=rfl
 rw[e1,Nat.testBit_or,Bool.or_eq_true]
theorem PD {a b c:Nat}:sub (Nat.land a b) c = true↔∀k,Nat.testBit a k = true→Nat.testBit b k = true→Nat.testBit c k = true:=by
 rw[Tp];simp only[SV,and_imp]
theorem Tv (hO:DOk P ops) {cs:List (Nat × List (Nat × List Nat))} {f:Nat} {listed:Array Bool} {done evd:Nat} {kn:Kn} {e:Env} {a:Act} {K:Env→M} {h:Cn}
  (size:listed.size = ops.size) (closed:∀i,listed.getD i false = true→∀k,B P ops i k→listed.getD k false = true)
  (eff:∀i,E P ops i→(listed.getD i false = true↔Nat.testBit done i = true)) (effsub:∀k,Nat.testBit done k = true→E P ops k)
  (evdsub:∀i o,ops.toList[i]? = some o→¬ E P ops i→Nat.testBit evd i = true→∀k,B P ops i k→E P ops k→Nat.testBit done k = true)
  (evdclosed:∀i o,ops.toList[i]? = some o→¬ E P ops i→Nat.testBit evd i = true→∀k,B P ops i k→¬ E P ops k→Nat.testBit evd k = true)
  (listedEvd:∀i o,ops.toList[i]? = some o→¬ E P ops i→listed.getD i false = true→Nat.testBit evd i = true)
  (val:∀i o,ops.toList[i]? = some o→¬ E P ops i→Nat.testBit evd i = true→listed.getD i false = false→(done = 0∨reads o = false)→Vq P ops.toList o e h)
  (asize:a.tmps.size = N) (adef:a.defers = [])
  (agree:∀t,(∀i o,ops.toList[i]? = some o→¬ E P ops i→Nat.testBit evd i = true→listed.getD i false = false→o.dst≠some t)→a.tmps.getD t undef = e t)
  (hkn:Dc ops.toList kn e) (hS:Mc P ops.toList (C6 P ops.toList) cs (f + 1) done evd kn e K h) :
  ∃evd' kn' e',Inv P ops N listed done evd' kn' e' a h∧QX P ops cs f done evd' kn' e' K h:=by
 have sel:=hO.sel;simp only[Mc] at hS;generalize hnew:((C6 P ops.toList).idx.filter λi=>!Nat.testBit (C6 P ops.toList).eff i && !Nat.testBit evd i && sub (Nat.land ((C6 P ops.toList).bef.getD i 0) (C6 P ops.toList).eff) done) = new at hS;generalize hchk:(bif Nat.beq done 0 then [] else (C6 P ops.toList).idx.filter λi=>Nat.testBit evd i && (match ops.toList[i]? with | some o=>reads o | none=>false) &&
   (C6 P ops.toList).idx.all λj=>!(Nat.testBit done j && Nat.testBit ((C6 P ops.toList).bef.getD j 0) i)) = chk at hS
 have memnew:∀i,i∈new↔i < ops.toList.length∧¬ E P ops i∧¬ Nat.testBit evd i = true∧∀k,B P ops i k→E P ops k→Nat.testBit done k = true:=by
  intro i;rw[← hnew,List.mem_filter];simp only[z_b,Bool.not_eq_true',PD];constructor
  ·rintro⟨h1,⟨h2,h3⟩,h4⟩;exact⟨List.mem_range.1 h1,by simp[E,h2],by simp[h3],h4⟩
  ·rintro⟨h1,h2,h3,h4⟩;exact⟨List.mem_range.2 h1,⟨by simpa [E] using h2,by simpa using h3⟩,h4⟩
 have qOf:∀i o,ops.toList[i]? = some o→¬ E P ops i→CM P o = true:=by
  intro i o ho hE;cases hq:CM P o with
  | true=>rfl
  | false=>exact absurd (Rh.2 ⟨o,ho,hq⟩) hE
 have newq:∀i∈new,∃o,ops.toList[i]? = some o∧CM P o = true∧o.dst.isSome = true:=by
  intro i hi;obtain⟨h1,h2,_,_⟩:=(memnew i).1 hi;have ho:=List.getElem?_eq_getElem h1;obtain⟨d,hd,_⟩:=(hO.bef i _ ho).2.2 (qOf i _ ho h2);exact⟨_,ho,qOf i _ ho h2,by rw[hd];rfl⟩
 have asc:new.Pairwise (· < ·):=by
  rw[← hnew];exact List.Pairwise.filter _ (by simp[C6,List.pairwise_lt_range])
 have hclean:∀i j,i < j→j∈new→PN ops.toList i j:=by
  intro i j hij hj oi oj d hoi hoj hd;obtain⟨oj',hoj',hqj,_⟩:=newq j hj;rw[hoj] at hoj';cases hoj';have hp:=hO.pair j i oj oi d (by omega) hoj hoi hd;refine⟨λhn=>?_,(hp.1 hqj).1⟩;exact absurd (VI hO hoi ((hp.1 hqj).2 hn)) (by omega)
 have hp:new.Pairwise (PN ops.toList):=by
  refine List.Pairwise.imp_of_mem (λ{i j} hi hj hij=>hclean i j hij hj) asc
 have hself:∀i∈new,∀o,ops.toList[i]? = some o→∀d,o.dst = some d→d ∉ C9 ops.toList o:=by
  intro i hi o ho d hd;obtain⟨o',ho',hq,_⟩:=newq i hi;rw[ho] at ho';cases ho';obtain⟨d',hd',hn⟩:=(hO.bef i o ho).2.2 hq;rw[hd] at hd';cases hd';exact hn
 have chkq:∀i∈chk,∃o,ops.toList[i]? = some o∧CM P o = true:=by
  intro i hi;rw[← hchk] at hi;cases hb:Nat.beq done 0 with
  | true=>rw[hb] at hi;cases hi
  | false=>
   rw[hb,cond_false,List.mem_filter] at hi;have h1:=List.mem_range.1 hi.1;refine⟨_,List.getElem?_eq_getElem h1,?_⟩;have h2:=hi.2;simp only[List.getElem?_eq_getElem h1,z_b] at h2;have hr:=h2.1.2;unfold reads at hr;unfold CM;split at hr
   ·rename_i hop;rw[hop]
   ·cases hr
 have hS2:∃kn3 e3,Sk P ops.toList chk kn3 e3 (QX P ops cs f done (Nat.lor evd (Eg (λ_=>true) new)) kn3 e3 K) h∧Dc ops.toList kn3 e3∧
   (∀t,(∀i∈new,∀o,ops.toList[i]? = some o→o.dst≠some t)→e3 t = e t)∧∀i∈new,∀o,ops.toList[i]? = some o→Vq P ops.toList o e3 h:=by
  cases hf:(cs.find? λc=>Nat.beq c.1 done) with
  | none=>rw[hf] at hS;exact GG new kn e _ hkn newq hp hself hS
  | some c=>rw[hf] at hS;exact P5 c.2 new e _ newq hp hself hS
 obtain⟨kn3,e3,hc,hkn3,hag,hvn⟩:=hS2;obtain⟨hrest,hvc⟩:=OY chk kn3 e3 _ hkn3 chkq hc;have evd' : ∀i,Nat.testBit (Nat.lor evd (Eg (λ_=>true) new)) i = true↔Nat.testBit evd i = true∨i∈new:=by
  intro i;rw[PC,MZ];simp
 refine⟨_,kn3,e3,⟨size,closed,eff,effsub,?_,?_,asize,adef,?_,hkn3⟩,hrest⟩
 ·intro i o ho hE;rw[evd'];constructor
  ·rintro (h1 | h1)
   ·exact evdsub i o ho hE h1
   ·exact ((memnew i).1 h1).2.2.2
  ·intro Bi;by_cases he:Nat.testBit evd i = true
   ·exact .inl he
   ·exact .inr ((memnew i).2 ⟨(List.getElem?_eq_some_iff.1 ho).1,hE,he,Bi⟩)
 ·intro i o ho hE he hl;rcases (evd' i).1 he with he | he
  case inr=>exact hvn i he o ho
  by_cases hcm:i∈chk
  ·exact hvc i hcm o ho
  ·have hdr:done = 0∨reads o = false:=by
    by_cases hd0:done = 0
    ·exact .inl hd0
    ·refine .inr ?_;cases hr:reads o with
     | false=>rfl
     | true=>
      exfalso;apply hcm;rw[← hchk,Ie hd0,cond_false,List.mem_filter];have hlen:=(List.getElem?_eq_some_iff.1 ho).1;refine⟨List.mem_range.2 hlen,?_⟩;simp only[he,ho,hr,Bool.true_and,List.all_eq_true,Bool.not_eq_true',Bool.and_eq_false_iff];intro j hj;cases hdj:Nat.testBit done j with
      | false=>exact .inl rfl
      | true=>
       refine .inr ?_;cases hbj:Nat.testBit ((C6 P ops.toList).bef.getD j 0) i with
       | false=>rfl
       | true=>
        exfalso;have:=closed j ((eff j (effsub j hdj)).2 hdj) i hbj;rw[hl] at this;cases this
   have hq:=qOf i o ho hE;refine (val i o ho hE he hl hdr).congr hq (λt ht=>hag t λi' hi' oi' hoi' hdd=>?_) (λd hd=>hag d λi' hi' oi' hoi' hdd=>?_)
   ·obtain⟨o',ho',hq',_⟩:=newq i' hi';rw[hoi'] at ho';cases ho';have hne:i'≠i:=λhh=>by subst hh;exact ((memnew i').1 hi').2.2.1 he
    have hb:=((hO.pair i' i oi' o t hne hoi' ho hdd).1 hq').2 ht;exact ((memnew i').1 hi').2.2.1 (evdclosed i o ho hE he i' hb ((memnew i').1 hi').2.1)
   ·obtain⟨o',ho',hq',_⟩:=newq i' hi';rw[hoi'] at ho';cases ho';have hne:i'≠i:=λhh=>by subst hh;exact ((memnew i').1 hi').2.2.1 he
    exact ((hO.pair i' i oi' o d hne hoi' ho hdd).1 hq').1 hd
 ·intro t ht;rw[hag t (λi hi o ho=>?_)]
  ·exact agree t (λi o ho hE he hl=>ht i o ho hE ((evd' i).2 (.inl he)) hl)
  ·have hm:=(memnew i).1 hi;refine ht i o ho hm.2.1 ((evd' i).2 (.inr hi)) ?_;cases hl:listed.getD i false with
   | false=>rfl
   | true=>exact absurd (listedEvd i o ho hm.2.1 hl) hm.2.2.1
theorem Tu {l:List Oper} {o:Oper} {kn:Kn} {e:Env} {k:Kn→Value→M} {h:Cn} (hkn:Dc l kn e) (hG:opG P l o kn e k h) :
  (DB l o e = true∧∃kn',Dc l kn' e∧opK P (ev e) o (k (De l o.dst kn')) h)∨(DB l o e = false∧∃kn',Dc l kn' e∧k (De l o.dst kn') undef h):=by
 unfold opG at hG;cases hg:o.guard with
 | none=>simp only[hg] at hG;exact .inl ⟨by simp[DB,hg],kn,hkn,hG⟩
 | some jw=>
  obtain⟨j,want⟩:=jw;simp only[hg] at hG;cases hk:He kn j want with
  | some t=>
   obtain⟨d,hd,he⟩:=hkn _ (HT hk);simp only at hd he;have hw:DB l o e = t:=by simp only[DB,hg,hd];exact he
   cases t with
   | true=>simp only[hk] at hG;exact .inl ⟨hw,kn,hkn,hG⟩
   | false=>simp only[hk] at hG;exact .inr ⟨hw,kn,hkn,hG⟩
  | none=>
   simp only[hk] at hG;cases hd:E0 l j with
   | none=>simp only[hd] at hG;exact hG.elim
   | some d=>
    simp only[hd] at hG;have hk1:∀t,(match e d with | .bool b=>b == want | _=>false) = t→Dc l (((j,want),t) :: kn) e:=by
     intro t ht g hgm;rcases List.mem_cons.1 hgm with rfl | hgm
     ·exact⟨d,hd,ht⟩
     ·exact hkn g hgm
    have hw:DB l o e = (match e d with | .bool b=>b == want | _=>false):=by simp only[DB,hg,hd]<;>rfl
    cases hb:(match e d with | .bool b=>b == want | _=>false) with
    | true=>
     refine .inl ⟨hw.trans hb,_,hk1 true hb,?_⟩;generalize e d = v at hb hG;cases v<;>simp at hb;subst hb;simpa [GT] using hG
    | false=>
     refine .inr ⟨hw.trans hb,_,hk1 false hb,?_⟩;generalize e d = v at hb hG;cases v<;>simp at hb<;>try exact hG
     rename_i b;have:(b == want) = false:=by simpa using hb
     simp only[GT,this,cond_false] at hG;exact hG
theorem Qj {l:List Oper} {o:Oper} {e:Env} {a:Act} (hl:l = ops.toList) (h:∀t∈C9 l o,a.tmps.getD t undef = e t):Region.wanted o (yielded ops a.tmps) = DB l o e:=by
 subst hl;unfold DB;cases hg:o.guard with
 | none=>exact IR hg _
 | some jw=>
  obtain⟨j,w⟩:=jw;rw[I6 hg];simp only;cases hd:E0 ops.toList j with
  | none=>
   have:yielded ops a.tmps j = none:=by
    unfold yielded E0 at *;cases hj:ops[j]? with
    | none=>simp
    | some oj=>
     have:ops.toList[j]? = some oj:=by simpa using hj
     rw[this] at hd;simp only at hd;simp[hd]
   rw[this];rfl
  | some d=>
   have hy:yielded ops a.tmps j = match e d with | .bool b=>some b | _=>none:=by
    unfold E0 at hd;cases hj:ops.toList[j]? with
    | none=>simp[hj] at hd
    | some oj=>
     simp only[hj] at hd;have hj' : ops[j]? = some oj:=by simpa using hj
     have hn:=h d (List.mem_append_right _ (by simp[hg,E0,hj,hd]));unfold yielded;simp only[hj',z_o,hd];rw[← hn];rw[Array.getD_eq_getD_getElem?];cases ht:a.tmps[d]? with
     | none=>rfl
     | some v=>simp;cases v<;>rfl
   rw[hy];simp only;generalize e d = v;cases v<;>rfl
theorem TG {l:List Oper} {o:Oper} {e:Env} {a:Act} (hs:∀cs b,o.op≠.select cs b) (h:∀t∈C9 l o,a.tmps.getD t undef = e t):execOp a.eval o = execOp (ev e) o:=by
 refine execOp_congr o hs λx hx=>?_
 cases x<;>simp only[Act.eval,ev];rename_i t;exact h t (List.mem_append_left _ (List.mem_filterMap.2 ⟨.tmp t,by simpa using hx,rfl⟩))
def cnt (listed:Array Bool):Nat→Nat
 | 0=>0
 | n + 1=>cnt listed n + (bif listed.getD n false then 0 else 1)
theorem Sy {listed:Array Bool} {i:Nat} (hi:listed.getD i false = false) (his:i < listed.size):∀n,(n≤i→cnt (listed.setIfInBounds i true) n = cnt listed n)∧(i < n→cnt (listed.setIfInBounds i true) n + 1 = cnt listed n):=by
 intro n;induction n with
 | zero=>exact⟨λ_=>rfl,λh=>absurd h (Nat.not_lt_zero _)⟩
 | succ n ih=>
  simp only[cnt];refine⟨λhn=>?_,λhn=>?_⟩
  ·rw[ih.1 (by omega),getD_set_ne false (by omega)]
  ·by_cases hni:n = i
   ·subst hni;rw[ih.1 (z_n _),hi];simp[his]
   ·rw[getD_set_ne false (λh=>hni h.symm)];have:=ih.2 (by omega);omega
theorem Tl {listed:Array Bool} {i:Nat} (hi:listed.getD i false = false):∀n,i < n→0 < cnt listed n:=by
 intro n;induction n with
 | zero=>intro h;exact absurd h (Nat.not_lt_zero _)
 | succ n ih=>
  intro h;simp only[cnt];by_cases hni:n = i
  ·subst hni;rw[hi];simp
  ·have:=ih (by omega);omega
theorem VY {w0:World} (hO:DOk P ops) (hds:Dw N ops.toList = true) {cs:List (Nat × List (Nat × List Nat))} {K:Env→M} {Q:Exit→Act→World→Prop}
  (hK:∀a' e' w',Ax w0 w'→Fit N a' e'→K e' w'.heap→Q .normal a' w') :
  ∀(m:Nat) (listed:Array Bool) (done evd:Nat) (kn:Kn) (e:Env) (a:Act) (w:World) (f:Nat),Ax w0 w→Inv P ops N listed done evd kn e a w.heap→cnt listed ops.size≤m→
  QX P ops cs f done evd kn e K w.heap→wpAny P .any ops Q m listed a w:=by
 have qOf:∀i o,ops.toList[i]? = some o→¬ E P ops i→CM P o = true:=by
  intro i o ho hE;cases hq:CM P o with
  | true=>rfl
  | false=>exact absurd (Rh.2 ⟨o,ho,hq⟩) hE
 have fin:∀(listed:Array Bool) (done evd:Nat) (kn:Kn) (e:Env) (a:Act) (w:World) (f:Nat),Ax w0 w→Inv P ops N listed done evd kn e a w.heap→QX P ops cs f done evd kn e K w.heap→
   (∀i,i < ops.size→listed.getD i false = true)→Q .normal a w:=by
  intro listed done evd kn e a w f h0 hI hR Bi;have hde:done = (C6 P ops.toList).eff:=by
   apply Nat.eq_of_testBit_eq;intro k;cases hd:Nat.testBit done k with
   | true=>exact (hI.effsub k hd).symm
   | false=>
    cases he:Nat.testBit (C6 P ops.toList).eff k with
    | false=>rfl
    | true=>
     obtain⟨o,ho,_⟩:=Rh.1 (show E P ops k from he);have hlt:k < ops.size:=by simpa using (List.getElem?_eq_some_iff.1 ho).1
     have:=(hI.effI k he).1 (Bi k hlt);rw[hd] at this;cases this
  unfold QX at hR;rw[hde,Nat.beq_refl,cond_true] at hR;refine hK a e w h0 ⟨hI.asize,λt=>hI.agree t λi o ho _ _ hl=>?_,hI.adef⟩ hR;have hlt:i < ops.size:=by simpa using (List.getElem?_eq_some_iff.1 ho).1
  rw[Bi i hlt] at hl;cases hl
 have allDone:∀(listed:Array Bool),listed.size = ops.size→Region.ready .any ops listed = []→∀i,i < ops.size→listed.getD i false = true:=by
  intro listed hs hr i;induction i using Nat.strongRecOn with
  | _ i ih=>
   intro hi;cases hl:listed.getD i false with
   | true=>rfl
   | false=>
    exfalso;have hoi:ops.toList[i]? = some ops[i]:=by simp[hi]
    have:i∈Region.ready .any ops listed:=by
     rw[mem_ready];refine⟨?_,ops[i],by simp[hi],λe he hb=>?_⟩
     ·rw[Array.getD_eq_getD_getElem?] at hl ⊢;have:i < listed.size:=by omega
      simp[this] at hl ⊢;exact hl
     ·have hlt:=(hO.bef i _ hoi).2.1 e (by simpa using he) hb;exact ih e.on hlt (by omega)
    rw[hr] at this;cases this
 intro m;induction m with
 | zero=>
  intro listed done evd kn e a w f h0 hI hm hR;have Bi:∀i,i < ops.size→listed.getD i false = true:=by
   intro i hi;cases hl:listed.getD i false with
   | true=>rfl
   | false=>have:=Tl hl ops.size hi;omega
  refine⟨?_,fin listed done evd kn e a w f h0 hI hR Bi⟩;cases hr:Region.ready .any ops listed with
  | nil=>rfl
  | cons i r=>
   have hi:i∈Region.ready .any ops listed:=by rw[hr];simp
   obtain⟨h1,o,ho,_⟩:=mem_ready.1 hi;have hlt:i < ops.size:=(Array.getElem?_eq_some_iff.1 ho).1;have:=Bi i hlt;rw[Array.getD_eq_getD_getElem?] at h1 this;have hl:i < listed.size:=by rw[hI.size];exact hlt
   simp[hl] at h1 this;rw[h1] at this;cases this
 | succ m ih=>
  intro listed done evd kn e a w f h0 hI hm hR;refine⟨λhr=>fin listed done evd kn e a w f h0 hI hR (allDone listed hI.size hr),λi hi=>?_⟩;obtain⟨hl',o,ho',hedge⟩:=mem_ready.1 hi;have hlt:i < ops.size:=(Array.getElem?_eq_some_iff.1 ho').1;have hls:i < listed.size:=by rw[hI.size];exact hlt
  have ho:ops.toList[i]? = some o:=by simpa using ho'
  have hl:listed.getD i false = false:=by
   rw[Array.getD_eq_getD_getElem?] at hl' ⊢;simp[hls] at hl' ⊢;exact hl'
  have hbl:∀k,B P ops i k→listed.getD k false = true:=by
   intro k hb;obtain⟨ed,he,hbd,hk⟩:=((hO.bef i o ho).1 k).1 hb;have hon:=hedge ed (by simpa using he) hbd;rcases hk with rfl | hk
   ·exact hon
   ·exact hI.closed _ hon k hk
  have hcnt:cnt (listed.setIfInBounds i true) ops.size≤m:=by
   have:=(Sy hl hls ops.size).2 hlt;omega
  have hdlt:∀t,o.dst = some t→t < N:=Rf hds (List.mem_of_getElem? ho);have hnames:∀t∈C9 ops.toList o,a.tmps.getD t undef = e t:=by
   intro t ht;refine hI.agree t λi' oi' hoi' hE' he' hl'' hdd=>?_
   by_cases hii:i' = i
   ·subst hii;rw[ho] at hoi';cases hoi';obtain⟨d,hd,hn⟩:=(hO.bef i' o ho).2.2 (qOf i' o ho hE');rw[hd] at hdd;cases hdd;exact hn ht
   ·have:=((hO.pair i' i oi' o t hii hoi' ho hdd).1 (qOf i' oi' hoi' hE')).2 ht;rw[hbl i' this] at hl'';cases hl''
  have hwant:=Qj (ops:=ops) (o:=o) (e:=e) (a:=a) rfl hnames;have hexec:=TG (hO.sel i o · · ho) hnames;have lset:∀k,(listed.setIfInBounds i true).getD k false = true↔k = i∨listed.getD k false = true:=by
   intro k;by_cases hk:k = i
   ·subst hk;simp[hls]
   ·rw[getD_set_ne false (λh=>hk h.symm)];simp[hk]
  have closed' : ∀j,(listed.setIfInBounds i true).getD j false = true→∀k,B P ops j k→(listed.setIfInBounds i true).getD k false = true:=by
   intro j hj k hb;rw[lset] at hj ⊢;rcases hj with rfl | hj
   ·exact .inr (hbl k hb)
   ·exact .inr (hI.closed j hj k hb)
  have unl:∀j,(listed.setIfInBounds i true).getD j false = false→j≠i∧listed.getD j false = false:=by
   intro j hj;refine⟨λh=>?_,?_⟩
   ·rw[(lset j).2 (.inl h)] at hj;cases hj
   ·cases hh:listed.getD j false with
    | false=>rfl
    | true=>rw[(lset j).2 (.inr hh)] at hj;cases hj
  have aput:∀(v:Value) t,(a.put o.dst v).tmps.getD t undef = if o.dst = some t then v else a.tmps.getD t undef:=by
   intro v t;cases hd:o.dst with
   | none=>simp[Act.put]
   | some d=>
    have hdl:=hdlt d hd;simp only[Act.put,Array.getD_eq_getD_getElem?];by_cases hdt:d = t
    ·subst hdt;simp[hI.asize,hdl]
    ·rw[Array.getElem?_setIfInBounds_ne hdt,if_neg (by simpa using hdt)]
  have asz:∀v,(a.put o.dst v).tmps.size = N∧(a.put o.dst v).defers = []:=by
   intro v;cases hd:o.dst<;>simp[Act.put,hI.asize,hI.adef]
  unfold wpOp;rw[ho'];simp only;rw[hwant];by_cases hE:E P ops i
  ·
   have hdi:Nat.testBit done i = false:=by
    cases hd:Nat.testBit done i with
    | false=>rfl
    | true=>rw[(hI.effI i hE).2 hd] at hl;cases hl
   have hRi:opG P ops.toList o kn e (λkn v=>Mc P ops.toList (C6 P ops.toList) cs f (Nat.lor done (2 ^ i)) evd kn (put e o.dst v) K) w.heap:=by
    unfold QX at hR;have hne:Nat.beq done (C6 P ops.toList).eff = false:=Ie λhh=>by
     rw[hh] at hdi;have:Nat.testBit (C6 P ops.toList).eff i = true:=hE;rw[this] at hdi;cases hdi
    rw[hne,cond_false] at hR;have:=Ta hR _ (List.mem_map.2 ⟨i,List.mem_filter.2 ⟨List.mem_range.2 (by simpa using hlt),?_⟩,rfl⟩)
    ·simpa only[ho] using this
    ·simp only[z_b,Bool.not_eq_true',hdi,z_t,PD];exact⟨hE,λk hb hEk=>(hI.effI k hEk).1 (hbl k hb)⟩
   have next:∀(kn' : Kn) (v:Value) (w' : World),Ax w w'→Dc ops.toList kn' e→Mc P ops.toList (C6 P ops.toList) cs f (Nat.lor done (2 ^ i)) evd (De ops.toList o.dst kn') (put e o.dst v) K w'.heap→
     wpAny P .any ops Q m (listed.setIfInBounds i true) (a.put o.dst v) w':=by
    intro kn' v w' hsm hk' hS;cases f with
    | zero=>exact hS.elim
    | succ f=>
     have hb2:∀k,Nat.testBit (Nat.lor done (2 ^ i)) k = true↔Nat.testBit done k = true∨i = k:=by
      intro k;rw[PC,Nat.testBit_two_pow];simp
     have qne:∀j,¬ E P ops j→j≠i:=λj hj hh=>hj (by rw[hh];exact hE)
     obtain⟨evd',kn2,e2,hI2,hR2⟩:=Tv (N:=N) (a:=a.put o.dst v) hO (by simp[hI.size]) closed'
      (λj hEj=>by
       rw[lset,hb2]
       constructor
       ·rintro (rfl | h)
        ·exact .inr rfl
        ·exact .inl ((hI.effI j hEj).1 h)
       ·rintro (h | rfl)
        ·exact .inr ((hI.effI j hEj).2 h)
        ·exact .inl rfl)
      (λk hk=>by
       rcases (hb2 k).1 hk with h | rfl
       ·exact hI.effsub k h
       ·exact hE)
      (λj oj hoj hEj hev k hb hEk=>(hb2 k).2 (.inl ((hI.evdI j oj hoj hEj).1 hev k hb hEk)))
      (λj oj hoj hEj hev k hb hEk=>by
       have hklt:k < ops.toList.length:=Nat.lt_trans (VI hO hoj hb) (List.getElem?_eq_some_iff.1 hoj).1
       refine (hI.evdI k _ (List.getElem?_eq_getElem hklt) hEk).2 λk' hb' hE'=>?_
       exact (hI.evdI j oj hoj hEj).1 hev k' (TR hO hoj hb hb') hE')
      (λj oj hoj hEj hlj=>by
       have hji:=qne j hEj
       have hlj' : listed.getD j false = true:=((lset j).1 hlj).resolve_left hji
       exact (hI.evdI j oj hoj hEj).2 λk hb hEk=>(hI.effI k hEk).1 (hI.closed j hlj' k hb))
      (λj oj hoj hEj hev hlj hdr=>by
       obtain⟨hji,hlj⟩:=unl j hlj
       have hrd:reads oj = false:=by
        rcases hdr with h0 | h
        ·exfalso
         have:=(hb2 i).2 (.inr rfl)
         rw[h0] at this;simp at this
        ·exact h
       have hnot:∀d,o.dst = some d→d ∉ C9 ops.toList oj∧oj.dst≠some d:=by
        intro d hd
        have hp:=(hO.pair i j o oj d (λh=>hji h.symm) ho hoj hd).2
        refine⟨λhn=>?_,λhn=>?_⟩
        ·rcases hp (.inl hn) with h | h
         ·rw[(hI.evdI j oj hoj hEj).1 hev i h hE] at hdi;cases hdi
         ·rw[hbl j h] at hlj;cases hlj
        ·rcases hp (.inr hn) with h | h
         ·rw[(hI.evdI j oj hoj hEj).1 hev i h hE] at hdi;cases hdi
         ·rw[hbl j h] at hlj;cases hlj
       refine Vq.heap (h:=w.heap) (qOf j oj hoj hEj) hrd ((hI.val j oj hoj hEj hev hlj).congr (qOf j oj hoj hEj) (λt ht=>?_) (λd hd=>?_))
       ·exact EO λhh=>(hnot t hh).1 ht
       ·exact EO λhh=>(hnot d hh).2 hd)
      (asz v).1 (asz v).2
      (λt ht=>by
       rw[aput]
       by_cases hdt:o.dst = some t
       ·rw[if_pos hdt,hdt,Ns]
       ·rw[if_neg hdt,EO hdt]
        exact hI.agree t λj oj hoj hEj hev hlj=>ht j oj hoj hEj hev (by
         rw[getD_set_ne false (λh=>qne j hEj h.symm)];exact hlj))
      (hk'.drop _ _) hS
     exact ih _ _ _ _ _ _ _ _ (h0.trans hsm) hI2 hcnt hR2
   rcases Tu hI.knI hRi with ⟨hw,kn',hk',hop⟩ | ⟨hw,kn',hk',hop⟩
   ·rw[hw,if_pos rfl];refine .inl ?_;unfold Oper.wp;rw[hexec];exact IH (λv w' hsm hv=>next kn' v w' hsm hk' hv) (Ha (λf=>rfl) o hop)
   ·rw[hw,if_neg (by simp)];exact next kn' undef w (Ax.refl w) hk' hop
  ·
   have hq:=qOf i o ho hE;have hev:Nat.testBit evd i = true:=(hI.evdI i o ho hE).2 λk hb hEk=>(hI.effI k hEk).1 (hbl k hb)
   obtain⟨d,hd,hqv⟩:=hI.val i o ho hE hev hl;have next:∀(w' : World),Ax w w'→w'.heap = w.heap→wpAny P .any ops Q m (listed.setIfInBounds i true) (a.put o.dst (e d)) w':=by
    intro w' hsm hw';refine ih _ done evd kn e _ w' f (h0.trans hsm) ⟨by simp[hI.size],closed',λj hEj=>?_,hI.effsub,hI.evdI,λj oj hoj hEj hevj hlj=>?_,(asz _).1,(asz _).2,λt ht=>?_,hI.knI⟩ hcnt (by rw[hw'];exact hR)
    ·rw[lset,← hI.effI j hEj];constructor
     ·rintro (rfl | h)
      ·exact absurd hEj hE
      ·exact h
     ·exact .inr
    ·rw[hw'];exact hI.val j oj hoj hEj hevj (unl j hlj).2
    ·rw[aput,hd];by_cases hdt:d = t
     ·subst hdt;rw[if_pos rfl]
     ·rw[if_neg (by simpa using hdt)];refine hI.agree t λj oj hoj hEj hevj hlj=>?_
      by_cases hji:j = i
      ·subst hji;rw[ho] at hoj;cases hoj;rw[hd];simpa using hdt
      ·exact ht j oj hoj hEj hevj (by rw[getD_set_ne false (λh=>hji h.symm)];exact hlj)
   rcases hqv.run hq with ⟨hw,hrun⟩ | ⟨hw,hv⟩
   ·rw[hw,if_pos rfl];refine .inl ?_;obtain⟨w',h1,hsm,h2⟩:=hrun w rfl;unfold Oper.wp;rw[hexec,h1];exact next w' hsm h2
   ·rw[hw,if_neg (by simp),← hv];exact next w (Ax.refl w) rfl
theorem Qr:Lk P N (CF P):=by
 intro id ops cs K Q a e w0 w h0 hok hds hf hK h;obtain⟨hm,hO⟩:=UO hok;refine wp_region_any hm ?_;have hh:Mc P ops.toList (C6 P ops.toList) cs (ops.toList.length + 1) 0 0 [] e K ({ w with drawn:=w.drawn + 1 }:World).heap:=h;have g0:∀i,(Array.replicate ops.size false).getD i false = false:=by
  intro i;rw[Array.getD_eq_getD_getElem?,Array.getElem?_replicate];split<;>rfl
 obtain⟨evd',kn',e',hI,hR⟩:=Tv (N:=N) (a:=a) (listed:=Array.replicate ops.size false) hO (by simp) (λi hi=>by rw[g0] at hi;cases hi)
  (λi _=>by rw[g0];simp) (λk hk=>by simp at hk) (λi o _ _ hk=>by simp at hk) (λi o _ _ hk=>by simp at hk) (λi o _ _ hk=>by rw[g0] at hk;cases hk)
  (λi o _ _ hk=>by simp at hk) hf.1 hf.2.2 (λt _=>hf.2.1 t) (by intro g hg;cases hg) hh
 refine VY hO hds hK ops.size _ _ _ _ _ a _ _ ⟨h0.1,h0.2⟩ hI ?_ hR;have:∀n,cnt (Array.replicate ops.size false) n≤n:=by
  intro n;induction n with
  | zero=>simp[cnt]
  | succ n ih=>simp only[cnt];cases (Array.replicate ops.size false).getD n false<;>simp<;>omega
 exact this _
end inv
end
end Go.Lf
end
section
namespace Go.Lf
open Go
abbrev RM:=Nat→Option Obj
abbrev Chs:=List (Nat × Obj)
@[reducible] def C (t:Nat) (cs:List Value):Obj:=.cells cs.toArray t (0,0)
def RM.le (R R' : RM):Prop:=∀b o,R b = some o→R' b = some o
theorem RM.le.refl (R:RM):R.le R:=λ_ _ h=>h
theorem RM.le.trans {R R' R'' : RM} (h:R.le R') (h' : R'.le R''):R.le R'':=λb o hb=>h' b o (h b o hb)
structure St (h:Cn) (R:RM) (D:Chs):Prop where
 rd:∀b o,R b = some o→h[b]? = some o
 at_:∀b o,(b,o)∈D→h[b]? = some o∧R b = none
 nd:(D.map Prod.fst).Nodup
def J (R:RM) (D:Chs) (m:M):Prop:=∀h,St h R D→m h
class Tk (D:Chs) (b:Nat) (o:outParam Obj) (E:outParam Chs):Prop where p:D.Perm ((b,o) :: E)
instance Tk.head (b:Nat) (o:Obj) (E:Chs):Tk ((b,o) :: E) b o E:=⟨List.Perm.refl _⟩
instance (priority:=low) Tk.tail (c:Nat × Obj) (D:Chs) (b:Nat) (o:Obj) (E:Chs) [t:Tk D b o E]:Tk (c :: D) b o (c :: E):=⟨(t.p.cons c).trans (List.Perm.swap _ _ _)⟩
class Up (D:Chs) (b:Nat) (o:outParam Obj) (o' : Obj) (D' : outParam Chs):Prop where
 m:(b,o)∈D
 m' : (b,o')∈D'
 f:D'.map Prod.fst = D.map Prod.fst
 u:∀b' x,(b',x)∈D'→(b' = b∧x = o')∨(b',x)∈D
instance Up.head (b:Nat) (o o' : Obj) (E:Chs):Up ((b,o) :: E) b o o' ((b,o') :: E):=
 ⟨by simp,by simp,by simp,λb' x h=>by simp at h;rcases h with ⟨rfl,rfl⟩ | h;exact .inl ⟨rfl,rfl⟩;exact .inr (by simp[h])⟩
instance (priority:=low) Up.tail (c:Nat × Obj) (D:Chs) (b:Nat) (o o' : Obj) (D' : Chs) [t:Up D b o o' D']:Up (c :: D) b o o' (c :: D'):=
 ⟨by simp[t.m],by simp[t.m'],by simp[t.f],λb' x h=>by
  rcases List.mem_cons.1 h with h | h
  ·exact .inr (by simp[h])
  ·rcases t.u b' x h with h | h
   ·exact .inl h
   ·exact .inr (by simp[h])⟩
class At (D:Chs) (b:Nat) (o:outParam Obj):Prop where m:(b,o)∈D
instance At.head (b:Nat) (o:Obj) (E:Chs):At ((b,o) :: E) b o:=⟨by simp⟩
instance (priority:=low) At.tail (c:Nat × Obj) (D:Chs) (b:Nat) (o:Obj) [t:At D b o]:At (c :: D) b o:=⟨by simp[t.m]⟩
class Sp (D A:Chs) (F:outParam Chs):Prop where p:D.Perm (A ++ F)
instance Sp.nil (D:Chs):Sp D [] D:=⟨List.Perm.refl _⟩
instance Sp.cons (D E:Chs) (b:Nat) (o:Obj) (A F:Chs) [t:Tk D b o E] [s:Sp E A F]:Sp D ((b,o) :: A) F:=⟨t.p.trans (s.p.cons _)⟩
class Sf (G F:Chs):Prop where p:∃X,G = X ++ F
instance Sf.refl (F:Chs):Sf F F:=⟨[],rfl⟩
instance (priority:=low) Sf.cons (c:Nat × Obj) (G F:Chs) [s:Sf G F]:Sf (c :: G) F:=⟨by obtain⟨X,h⟩:=s.p;exact⟨c :: X,by rw[h];rfl⟩⟩
instance Tk.app (D:Chs) (b:Nat) (o:Obj) (E F:Chs) [t:Tk D b o E]:Tk (D ++ F) b o (E ++ F):=⟨(t.p.append_right F)⟩
instance Up.app (D:Chs) (b:Nat) (o o' : Obj) (D' F:Chs) [t:Up D b o o' D']:Up (D ++ F) b o o' (D' ++ F):=
 ⟨List.mem_append_left _ t.m,List.mem_append_left _ t.m',by simp[t.f],λb' x h=>by
  rcases List.mem_append.1 h with h | h
  ·rcases t.u b' x h with h | h
   ·exact .inl h
   ·exact .inr (List.mem_append_left _ h)
  ·exact .inr (List.mem_append_right _ h)⟩
instance At.app (D:Chs) (b:Nat) (o:Obj) (F:Chs) [t:At D b o]:At (D ++ F) b o:=⟨List.mem_append_left _ t.m⟩
instance Sf.app (X F:Chs):Sf (X ++ F) F:=⟨X,rfl⟩
section st
variable {h:Cn} {R:RM} {D:Chs}
theorem St.perm {D' : Chs} (hs:St h R D) (hp:D.Perm D'):St h R D':=
 ⟨hs.rd,λb o hm=>hs.at_ b o (hp.symm.subset hm),(hp.map Prod.fst).nodup_iff.1 hs.nd⟩
theorem St.drop {A F:Chs} (hs:St h R (A ++ F)):St h R F:=
 ⟨hs.rd,λb o hm=>hs.at_ b o (List.mem_append_right _ hm),by have:=hs.nd;rw[List.map_append,List.nodup_append] at this;exact this.2.1⟩
theorem St.keep {A F:Chs} (hs:St h R (A ++ F)):St h R A:=
 ⟨hs.rd,λb o hm=>hs.at_ b o (List.mem_append_left _ hm),by have:=hs.nd;rw[List.map_append,List.nodup_append] at this;exact this.1⟩
theorem Gr {b t o:Nat} {cs:List Value} (hb:h[b]? = some (C t cs)):hc h b o = cs[o]?:=by
 simp[hc,hb]
theorem F5 {b t:Nat} {cs:List Value} (hb:h[b]? = some (C t cs)):∀(n o:Nat),o + n≤cs.length→rd h b o n = some ((cs.drop o).take n):=by
 intro n;induction n with
 | zero=>intro o _;simp[rd]
 | succ n ih=>
  intro o ho;have hlt:o < cs.length:=by omega
  simp only[rd,Gr hb,List.getElem?_eq_getElem hlt,ih (o + 1) (by omega)];rw[List.drop_eq_getElem_cons hlt,List.take_succ_cons]
theorem O6 {b t o:Nat} {cs:List Value} {v:Value} (hb:h[b]? = some (C t cs)):(Kk h b o v)[b]? = some (C t (cs.set o v))∧∀b',b'≠b→(Kk h b o v)[b']? = h[b']?:=by
 have hlt:b < h.size:=(Array.getElem?_eq_some_iff.1 hb).1;constructor
 ·simp only[Kk,Array.getElem?_modify,if_true,hb,Option.map_some];simp
 ·intro b' hne;simp only[Kk,Array.getElem?_modify];rw[if_neg (λhh=>hne hh.symm)]
def Bz (l:List Value):Bool:=l.all flat
theorem N5 {b t:Nat}:∀(l:List Value) {h:Cn} {cs:List Value} (o:Nat),h[b]? = some (C t cs)→o + l.length≤cs.length→Bz l = true→
  ∃h',wr h b o l = some h'∧h'[b]? = some (C t (lay cs o l))∧(∀b',b'≠b→h'[b']? = h[b']?):=by
 intro l;induction l with
 | nil=>intro h cs o hb ho _;exact⟨h,rfl,by simpa [lay] using hb,λ_ _=>rfl⟩
 | cons v r ih=>
  intro h cs o hb ho hf;simp only[List.length_cons] at ho;simp only[Bz,List.all_cons,z_b] at hf;have hlt:o < cs.length:=by omega
  obtain⟨g1,g2⟩:=O6 (o:=o) (v:=v) hb;obtain⟨h',w1,w2,w3⟩:=ih (h:=Kk h b o v) (cs:=cs.set o v) (o + 1) g1 (by simp;omega) hf.2;refine⟨h',?_,?_,λb' hne=>by rw[w3 b' hne,g2 b' hne]⟩
  ·have hz:hfz h b o = false:=by simp[hfz,hb]
   simp only[wr,hf.1,Gr hb,List.getElem?_eq_getElem hlt,hz];simpa using w1
  ·rw[w2];congr 2;simp only[lay,List.length_cons];rw[List.take_set,List.drop_set_of_lt (by omega)];apply List.ext_getElem?;intro i;simp only[List.append_assoc,List.getElem?_append,List.length_set,List.length_take,List.getElem?_set,List.getElem?_take,List.getElem?_drop,List.length_cons];have m1:min (o + 1) cs.length = o + 1:=by omega
   have m2:min o cs.length = o:=by omega
   rw[m1,m2];by_cases c1:i < o
   ·rw[if_pos (by omega),if_neg (by omega),if_pos (by omega),if_pos c1,if_pos c1]
   ·by_cases c2:i = o
    ·subst c2;rw[if_pos (by omega),if_pos rfl,if_pos (by omega),if_neg (by omega),if_pos (by omega),Nat.sub_self,List.getElem?_cons_zero]
    ·by_cases c3:i < o + 1 + r.length
     ·rw[if_neg (by omega),if_pos (by omega),if_neg (by omega),if_pos (by omega)];rw[show i - o = (i - (o + 1)) + 1 from by omega,List.getElem?_cons_succ]
     ·rw[if_neg (by omega),if_neg (by omega),if_neg (by omega),if_neg (by omega)];congr 1;omega
theorem Mr {D:Chs} (hn:(D.map Prod.fst).Nodup) {b:Nat} {x y:Obj} (hx:(b,x)∈D) (hy:(b,y)∈D):x = y:=by
 induction D with
 | nil=>cases hx
 | cons c r ih=>
  rw[List.map_cons,List.nodup_cons] at hn;rcases List.mem_cons.1 hx with h1 | h1<;>rcases List.mem_cons.1 hy with h2 | h2
  ·rw[← h2] at h1;cases h1;rfl
  ·exact absurd (List.mem_map.2 ⟨_,h2,by rw[← h1]⟩) hn.1
  ·exact absurd (List.mem_map.2 ⟨_,h1,by rw[← h2]⟩) hn.1
  ·exact ih hn.2 h1 h2
theorem St.turn {h' : Cn} {b:Nat} {o o' : Obj} {D' : Chs} [u:Up D b o o' D'] (hs:St h R D) (hb:h'[b]? = some o') (hk:∀b',b'≠b→h'[b']? = h[b']?):St h' R D':=by
 have hRb:R b = none:=(hs.at_ b o u.m).2;refine⟨λb' x hx=>?_,λb' x hm=>?_,by rw[u.f];exact hs.nd⟩
 ·have hne:b'≠b:=λhh=>by subst hh;rw[hRb] at hx;cases hx
  rw[hk b' hne];exact hs.rd b' x hx
 ·by_cases hne:b' = b
  ·subst hne;have hx:x = o':=Mr (by rw[u.f];exact hs.nd) hm u.m';subst hx;exact⟨hb,hRb⟩
  ·rcases u.u b' x hm with ⟨h1,_⟩ | hm'
   ·exact absurd h1 hne
   ·have h1:=hs.at_ b' x hm';exact⟨by rw[hk b' hne];exact h1.1,h1.2⟩
theorem St.push {o:Obj} (hs:St h R D):St (h.push o) R ((h.size,o) :: D):=by
 have hlt:∀b x,h[b]? = some x→b < h.size:=λb x hb=>(Array.getElem?_eq_some_iff.1 hb).1
 refine⟨λb x hx=>?_,λb x hm=>?_,?_⟩
 ·have:=hs.rd b x hx;rw[Array.getElem?_push_lt (hlt b x this)];rw[Array.getElem?_eq_getElem (hlt b x this)] at this;exact this
 ·rcases List.mem_cons.1 hm with hm | hm
  ·cases hm;refine⟨by simp,?_⟩;cases hr:R h.size with
   | none=>rfl
   | some x=>have:=hlt _ _ (hs.rd _ _ hr);omega
  ·have:=(hs.at_ b x hm);refine⟨?_,this.2⟩;have h1:=this.1;rw[Array.getElem?_push_lt (hlt b x h1)];rw[Array.getElem?_eq_getElem (hlt b x h1)] at h1;exact h1
 ·rw[List.map_cons,List.nodup_cons];refine⟨λhm=>?_,hs.nd⟩;obtain⟨c,hc,he⟩:=List.mem_map.1 hm;have:=hlt _ _ (hs.at_ c.1 c.2 hc).1;rw[he] at this;omega
end st
section rules
variable {P:Program} {R:RM} {D:Chs} {k:Value→M} {m:M}
theorem jl {b o t:Nat} {cs:List Value} {v:Value} [a:At D b (C t cs)] (hv:cs[o]? = some v) (H:J R D (k v)):J R D (L1 (.pointer (some ⟨b,o,none⟩)) k):=
 λh hs=>⟨v,by rw[Gr (hs.at_ b _ a.m).1];exact hv,H h hs⟩
theorem jla {b o n t:Nat} {cs l:List Value} [a:At D b (C t cs)] (hn:o + n≤cs.length) (hl:(cs.drop o).take n = l) (H:J R D (k (.agg l.toArray))):J R D (LA n (.pointer (some ⟨b,o,none⟩)) k):=
 λh hs=>⟨l,by rw[← hl];exact F5 (hs.at_ b _ a.m).1 n o hn,H h hs⟩
theorem jlr {b o t:Nat} {cs:List Value} {v:Value} (hb:R b = some (C t cs)) (hv:cs[o]? = some v) (H:J R D (k v)):J R D (L1 (.pointer (some ⟨b,o,none⟩)) k):=
 λh hs=>⟨v,by rw[Gr (hs.rd b _ hb)];exact hv,H h hs⟩
theorem Of {b o n t:Nat} {cs l:List Value} (hb:R b = some (C t cs)) (hn:o + n≤cs.length) (hl:(cs.drop o).take n = l) (H:J R D (k (.agg l.toArray))):J R D (LA n (.pointer (some ⟨b,o,none⟩)) k):=
 λh hs=>⟨l,by rw[← hl];exact F5 (hs.rd b _ hb) n o hn,H h hs⟩
theorem js {b o n t:Nat} {cs cs' : List Value} {x:Value} {D' : Chs} (hn:(cl x).length = n) (hf:Bz (cl x) = true) [a:At D b (C t cs)] (ho:o + n≤cs.length) (hc:lay cs o (cl x) = cs')
  [u:Up D b (C t cs) (C t cs') D'] (H:J R D' m):J R D (ST n (.pointer (some ⟨b,o,none⟩)) x m):=by
 intro h hs;obtain⟨h',w1,w2,w3⟩:=N5 (cl x) o (hs.at_ b _ a.m).1 (by omega) hf;refine⟨hn,h',w1,H h' (hs.turn (b:=b) (o:=C t cs) (o':=C t cs') ?_ w3)⟩;rw[w2,hc]
theorem ja {t:Nat} {z:Value} (H:∀b,J R ((b,C t (cl z)) :: D) (k (.pointer (some ⟨b,0,none⟩)))):J R D (AL t z k):=
 λh hs=>H h.size _ hs.push
theorem jia {n b off len cap:Nat} {i:Int} {kd:IntKind} (h0:0≤i) (h1:i < len) (H:J R D (k (.pointer (some ⟨b,off + i.toNat * n,none⟩)))):J R D (IA n (.slice (some ⟨b,off,none⟩) len cap) (.int kd i) k):=
 λh hs=>⟨⟨h0,h1⟩,H h hs⟩
theorem jif {c:Bool} {a b:M} (ht:c = true→J R D a) (hf:c = false→J R D b):J R D (IF (.bool c) a b):=by
 cases c
 ·exact hf rfl
 ·exact ht rfl
theorem Ae {a b:M} (h1:J R D a) (h2:J R D b):J R D (AND a b):=λh hs=>⟨h1 h hs,h2 h hs⟩
theorem jev {v:Value}:J R D (EV v v):=λ_ _=>rfl
theorem Cb {lv:List Nat} {B:(List Value→M)→M} {K:Env→M} (H:J R D (B λvs h=>∀e:Env,lv.map e = vs→K e h)):J R D (CUT lv B K):=
 λh hs=>⟨_,λe h he=>he e rfl,H h hs⟩
theorem C4 {lv:List Nat} {vs:List Value} {K:Env→M} (H:∀e:Env,lv.map e = vs→J R D (K e)):J R D (λh=>∀e:Env,lv.map e = vs→K e h):=
 λh hs e he=>H e he h hs
theorem Ba {b:Nat} {o:Obj} {E:Chs} [t:Tk D b o E] (H:∀R',R.le R'→R' b = some o→J R' E m):J R D m:=by
 intro h hs;have hs':=hs.perm t.p;have hb:=hs'.at_ b o (by simp);refine H (λx=>if x = b then some o else R x) (λx y hx=>?_) (by simp) h ⟨λx y hx=>?_,λx y hm=>?_,?_⟩
 ·by_cases hxb:x = b
  ·subst hxb;rw[hb.2] at hx;cases hx
  ·simp[hxb,hx]
 ·by_cases hxb:x = b
  ·subst hxb;simp at hx;subst hx;exact hb.1
  ·simp[hxb] at hx;exact hs'.rd x y hx
 ·have h1:=hs'.at_ x y (List.mem_cons_of_mem _ hm);refine⟨h1.1,?_⟩;have hnd:=hs'.nd;rw[List.map_cons,List.nodup_cons] at hnd;have hxb:x≠b:=λhh=>hnd.1 (by subst hh;exact List.mem_map.2 ⟨_,hm,rfl⟩)
  simp[hxb,h1.2]
 ·have hnd:=hs'.nd;rw[List.map_cons,List.nodup_cons] at hnd;exact hnd.2
def ED (R:RM) (F:Chs) (Q:Value→RM→Chs→Prop) (v:Value):M:=λh=>∃R' A,R.le R'∧St h R' (A ++ F)∧Q v R' A
def Fn (P:Program) (f:Nat) (args:List Value) (R:RM) (A:Chs) (Q:Value→RM→Chs→Prop):Prop:=∀F,J R (A ++ F) (CA P f args (ED R F Q))
theorem E7 {f:Nat} {args:List Value} {k k' : Value→M} {h:Cn} (hk:∀v h',k v h'→k' v h') (H:CA P f args k h):CA P f args k' h:=by
 intro w hw;refine (H w hw).mono ?_;rintro e w' ⟨v,rfl,hs,hv⟩;exact⟨v,rfl,hs,hk _ _ hv⟩
theorem jc {f:Nat} {args:List Value} {A F:Chs} {Q:Value→RM→Chs→Prop} (hF:Fn P f args R A Q) [s:Sp D A F] (H:∀v R' A',R.le R'→Q v R' A'→J R' (A' ++ F) (k v)):J R D (CA P f args k):=by
 intro h hs;refine E7 ?_ (hF F h (hs.perm s.p));rintro v h' ⟨R',A',h1,h2,h3⟩;exact H v R' A' h1 h3 h' h2
theorem BR {R' : RM} {F A G:Chs} {Q:Value→RM→Chs→Prop} {v:Value} (h1:R.le R') (h2:Q v R' A) [s:Sp D A G] [x:Sf G F]:J R' D (ED R F Q v):=by
 intro h hs;obtain⟨X,hX⟩:=x.p;refine⟨R',A,h1,?_,h2⟩;have hs':=hs.perm s.p;subst hX;have:St h R' (X ++ (A ++ F)):=hs'.perm (by
  rw[← List.append_assoc,← List.append_assoc]
  exact List.Perm.append_right F List.perm_append_comm)
 exact this.drop
theorem Uw {f:Nat} {fn:Func} {A:An} {args:List Value} {K:Value→M} {c:M} (hf:P.funcs[f]? = some fn) (hok:TD (CF P) fn args.length = true) (he:body P fn A args K = c) {h:Cn} (H:c h):CA P f args K h:=by
 intro w hw;subst hw;exact Om Qr hf hok (by rw[he];exact H)
end rules
end Go.Lf
end
section
namespace Go.Lf
open Go
section more
variable {P:Program} {R:RM} {D:Chs} {k:Value→M} {m:M}
@[reducible] def I (n:Int):Value:=.int .i64 n
@[reducible] def inR (n:Int):Prop:=-9223372036854775808≤n∧n < 9223372036854775808
theorem EG {n:Int} (h:inR n):IntKind.i64.wrap n = n:=by
 obtain⟨h0,h1⟩:=h;have e:IntKind.i64.wrap n = if n % 18446744073709551616≥9223372036854775808 then n % 18446744073709551616 - 18446744073709551616 else n % 18446744073709551616:=by
  unfold IntKind.wrap;by_cases c:n % 18446744073709551616≥9223372036854775808
  ·rw[if_pos c];exact if_pos (by exact decide_eq_true c)
  ·rw[if_neg c];exact if_neg (by exact λhh=>c (z_f hh))
 rw[e];split<;>omega
theorem Ac {x y:Int} (h:inR (x + y)) (H:J R D (k (.int .i64 (x + y)))):J R D (BO .add (.int .i64 x) (.int .i64 y) k):=by
 have e:BO .add (.int .i64 x) (.int .i64 y) k = k (.int .i64 (IntKind.i64.wrap (x + y))):=rfl;rw[e,EG h];exact H
theorem DE {x y:Int} (h:inR (x - y)) (H:J R D (k (.int .i64 (x - y)))):J R D (BO .sub (.int .i64 x) (.int .i64 y) k):=by
 have e:BO .sub (.int .i64 x) (.int .i64 y) k = k (.int .i64 (IntKind.i64.wrap (x - y))):=rfl;rw[e,EG h];exact H
theorem GC {x y:Int} (h:inR (x * y)) (H:J R D (k (.int .i64 (x * y)))):J R D (BO .mul (.int .i64 x) (.int .i64 y) k):=by
 have e:BO .mul (.int .i64 x) (.int .i64 y) k = k (.int .i64 (IntKind.i64.wrap (x * y))):=rfl;rw[e,EG h];exact H
theorem Sc {x y:Int} (hy:y≠0) (h:inR (x.tdiv y)) (H:J R D (k (.int .i64 (x.tdiv y)))):J R D (BO .quo (.int .i64 x) (.int .i64 y) k):=by
 have e:BO .quo (.int .i64 x) (.int .i64 y) k = λh=>y≠0∧k (.int .i64 (IntKind.i64.wrap (x.tdiv y))) h:=rfl
 rw[e,EG h];exact λh hs=>⟨hy,H h hs⟩
theorem SX {x y:Int} (hy:y≠0) (H:J R D (k (.int .i64 (x.tmod y)))):J R D (BO .rem (.int .i64 x) (.int .i64 y) k):=by
 exact λh hs=>⟨hy,H h hs⟩
theorem jeq {x y:Int} (H:J R D (k (.bool (x == y)))):J R D (BO .eql (.int .i64 x) (.int .i64 y) k):=H
theorem jne {x y:Int} (H:J R D (k (.bool (x != y)))):J R D (BO .neq (.int .i64 x) (.int .i64 y) k):=H
theorem jlt {x y:Int} (H:J R D (k (.bool (x < y)))):J R D (BO .lss (.int .i64 x) (.int .i64 y) k):=H
theorem jle {x y:Int} (H:J R D (k (.bool (x≤y)))):J R D (BO .leq (.int .i64 x) (.int .i64 y) k):=H
theorem jgr {x y:Int} (H:J R D (k (.bool (x > y)))):J R D (BO .gtr (.int .i64 x) (.int .i64 y) k):=H
theorem jge {x y:Int} (H:J R D (k (.bool (x≥y)))):J R D (BO .geq (.int .i64 x) (.int .i64 y) k):=H
theorem Bj {c:Bool} {a b:M} (ht:c = true→J R D a) (hf:c = false→J R D b):J R D (GT (.bool c) true a b):=by
 cases c
 ·exact hf rfl
 ·exact ht rfl
theorem BW {c:Bool} {a b:M} (hf:c = false→J R D a) (ht:c = true→J R D b):J R D (GT (.bool c) false a b):=by
 cases c
 ·exact hf rfl
 ·exact ht rfl
theorem F7 {a b:M} (H:J R D a):J R D (IF (.bool true) a b):=H
theorem Cv {a b:M} (H:J R D b):J R D (IF (.bool false) a b):=H
def MP:List Value→List (Nat × Nat × Value)→List Value
 | zs,[]=>zs
 | zs,(o,_,v) :: r=>MP (lay zs o (cl v)) r
def OB:List (Nat × Nat × Value)→Bool
 | []=>true
 | (_,n,v) :: r=>(cl v).length == n && OB r
theorem jfl {ps:List (Nat × Nat × Value)}:∀{zs:List Value} {k:List Value→M},OB ps = true→J R D (k (MP zs ps))→J R D (FL zs ps k):=by
 induction ps with
 | nil=>intro zs k _ H;exact H
 | cons p r ih=>
  obtain⟨o,n,v⟩:=p;intro zs k hl H;simp only[OB,z_b,beq_iff_eq] at hl;exact λh hs=>⟨hl.1,ih hl.2 H h hs⟩
theorem jbd {zs cs:List Value} {ps:List (Nat × Nat × Value)} (hl:OB ps = true) (hc:MP zs ps = cs) (H:J R D (k (.agg cs.toArray))):J R D (BD zs ps k):=by
 subst hc;exact jfl hl H
theorem jbs {t len:Nat} {zs cs:List Value} {ps:List (Nat × Nat × Value)} (hl:OB ps = true) (hc:MP zs ps = cs)
  (H:∀b,J R ((b,C t cs) :: D) (k (.slice (some ⟨b,0,none⟩) len len))):J R D (BS t len zs ps k):=by
 subst hc;exact jfl hl λh hs=>H h.size _ hs.push
theorem jms {t n by_:Nat} {zs:List Value} {l:Int} (h0:0≤l) (h1:by_ * l≤2 ^ 48) (h2:l≤9223372036854775807)
  (H:∀b,J R ((b,C t (List.replicate l.toNat zs).flatten) :: D) (k (.slice (some ⟨b,0,none⟩) l.toNat l.toNat))):J R D (MS t n by_ zs (.int .i64 l) (.int .i64 l) k):=
 λh hs=>⟨⟨h0,Int.le_refl _,h1,by simpa [IntKind.max,IntKind.bits,IntKind.signed] using h2⟩,H h.size _ hs.push⟩
theorem AH {lv:List Nat} {B:(List Value→M)→M} {K:Env→M} (Q:List Value→RM→Chs→Prop)
  (H1:∀K' : List Value→M,(∀vs R' D',Q vs R' D'→J R' D' (K' vs))→J R D (B K')) (H2:∀e R' D',Q (lv.map e) R' D'→J R' D' (K e)):J R D (CUT lv B K):=
 λh hs=>⟨λvs h=>∃R' D',Q vs R' D'∧St h R' D',λe _ ⟨R',D',hq,hs'⟩=>H2 e R' D' hq _ hs',H1 _ (λ_ R' D' hq _ hs'=>⟨R',D',hq,hs'⟩) h hs⟩
theorem LK {p:Nat→Prop} (h:∃n,p n):∃n,p n∧∀m,p m→n≤m:=by
 obtain⟨n,hn⟩:=h;induction n using Nat.strongRecOn with
 | _ n ih=>
  by_cases hm:∃m,m < n∧p m
  ·obtain⟨m,hlt,hp⟩:=hm;exact ih m hlt hp
  ·exact⟨n,hn,λm hp=>Nat.le_of_not_lt λhlt=>hm ⟨m,hlt,hp⟩⟩
theorem jlp {lv:List Nat} {B:(List Value→M)→Env→M} {vs:List Value} (Q:Nat→List Value→RM→Chs→Prop) {n:Nat} (h0:Q n vs R D)
  (H:∀n e R' D' K,Q n (lv.map e) R' D'→(∀n' vs' R'' D'',n' < n→Q n' vs' R'' D''→J R'' D'' (K vs'))→J R' D' (B K e)):J R D (LP lv B vs):=by
 intro h hs
 classical
 let ok:Nat→List Value→Cn→Prop:=λn vs h=>∃R D,Q n vs R D∧St h R D
 let I:List Value→Cn→Prop:=λvs h=>∃n,ok n vs h
 let μ:List Value→Cn→Nat:=λvs h=>if hI:I vs h then (LK hI).choose else 0
 refine⟨I,μ,⟨n,R,D,h0,hs⟩,λe h hI=>?_⟩;have hμ:μ (lv.map e) h = (LK hI).choose:=dif_pos hI;obtain⟨R',D',hq,hs'⟩:=(LK hI).choose_spec.1;refine H (LK hI).choose e R' D' _ hq (λn' vs' R'' D'' hn hq' h' hs''=>?_) h hs';have hI' : I vs' h':=⟨n',R'',D'',hq',hs''⟩;refine⟨hI',?_⟩;rw[hμ];have:μ vs' h' = (LK hI').choose:=dif_pos hI';rw[this];exact Nat.lt_of_le_of_lt ((LK hI').choose_spec.2 _ ⟨R'',D'',hq',hs''⟩) hn
def BG (R:RM) (D:Chs) (a:Option Addr) (n:Nat) (l:List Value):Prop:=∀h,St h R D→rdS h a n = some l
theorem BG.held {b o n t:Nat} {cs:List Value} [a:At D b (C t cs)] (hn:o + n≤cs.length):BG R D (some ⟨b,o,none⟩) n ((cs.drop o).take n):=
 λ_ hs=>F5 (hs.at_ b _ a.m).1 n o hn
theorem BG.frozen {b o n t:Nat} {cs:List Value} (hb:R b = some (C t cs)) (hn:o + n≤cs.length):BG R D (some ⟨b,o,none⟩) n ((cs.drop o).take n):=
 λ_ hs=>F5 (hs.rd b _ hb) n o hn
theorem BG.none_:BG R D none 0 []:=λ_ _=>rfl
theorem BG.zero {a:Addr} (h:a.spot = none):BG R D (some a) 0 []:=by
 obtain⟨b,o,p⟩:=a;simp only at h;subst h;exact λ_ _=>rfl
theorem QO {n:Nat}:∀(r c:Nat),c≤2 * n + 200→Builtin.growBy n r c≤2 * n + 200:=by
 intro r;induction r with
 | zero=>intro c h;exact h
 | succ r ih=>
  intro c h;simp only[Builtin.growBy];split
  ·exact h
  ·exact ih _ (by omega)
theorem Un {n c:Nat} (h:c < n):Builtin.nextslicecap n c≤2 * n + 200:=by
 unfold Builtin.nextslicecap;split
 ·omega
 ·split
  ·omega
  ·exact QO _ _ (by omega)
theorem jap {t n by_:Nat} {zs old new:List Value} {a xa:Option Addr} {sl sc m cx:Nat} (hx:BG R D xa (m * n) new) (ho:BG R D a (sl * n) old) (hb:by_≠0) (hs:by_ * (2 * (sl + m) + 200)≤2 ^ 48)
  (H1:sl + m≤sc→∀h,St h R D→match a with
    | some ⟨b,o,none⟩=>∃h',wr h b (o + sl * n) new = some h'∧k (.slice a (sl + m) sc) h'
    | some _=>False
    | none=>k (.slice none (sl + m) sc) h)
  (H2:∀b c,sl + m≤c→J R ((b,C t (old ++ new ++ (List.replicate (c - (sl + m)) zs).flatten)) :: D) (k (.slice (some ⟨b,0,none⟩) (sl + m) c))) :
  J R D (AP t n by_ zs (.slice a sl sc) (.slice xa m cx) k):=by
 intro h hst;refine⟨new,hx h hst,?_⟩;by_cases hc:sl + m≤sc
 ·rw[if_pos hc];exact H1 hc h hst
 ·rw[if_neg hc];refine⟨?_,hb,old,ho h hst,λc hcc=>H2 h.size c hcc _ hst.push⟩;have:=Un (n:=sl + m) (c:=sc) (by omega);exact Nat.le_trans (Nat.mul_le_mul_right _ this) (by rw[Nat.mul_comm];exact hs)
theorem Ub {t n by_ b o sc m cx:Nat} {zs new:List Value} {xa:Option Addr} (hx:BG R D xa (m * n) new) (hb:by_≠0) (hs:by_ * (2 * m + 200)≤2 ^ 48) (hm:0 < m→sc = 0)
  (H1:m = 0→J R D (k (.slice (some ⟨b,o,none⟩) 0 sc)))
  (H2:∀b c,m≤c→J R ((b,C t (new ++ (List.replicate (c - m) zs).flatten)) :: D) (k (.slice (some ⟨b,0,none⟩) m c))) :
  J R D (AP t n by_ zs (.slice (some ⟨b,o,none⟩) 0 sc) (.slice xa m cx) k):=by
 refine jap hx (by rw[Nat.zero_mul];exact BG.zero rfl) hb (by rw[Nat.zero_add];exact hs) (λhc h hst=>?_) (λb c hc=>?_)
 ·have h0:m = 0:=by
   by_cases hp:0 < m
   ·have:=hm hp;omega
   ·omega
  subst h0;have hn:new = []:=by
   have:=hx h hst;cases xa with
   | none=>simp only[rdS] at this;exact (Option.some.inj this).symm
   | some a=>
    obtain⟨b',o',p⟩:=a;cases p with
    | none=>simp only[rdS,Nat.zero_mul,rd] at this;exact (Option.some.inj this).symm
    | some _=>simp only[rdS] at this;cases this
  subst hn;exact⟨h,rfl,H1 rfl h hst⟩
 ·have:=H2 b c (by omega);simpa only[Nat.zero_add,List.nil_append] using this
theorem RH {t n by_ b sl sc m cx:Nat} {zs cs new:List Value} {xa:Option Addr} {E:Chs} (hx:BG R D xa (m * n) new) [tk:Tk D b (C t cs) E] (hc:cs.length = sc * n) (hl:sl≤sc) (hnl:new.length = m * n) (hf:Bz new = true) (hb:by_≠0) (hs:by_ * (2 * (sl + m) + 200)≤2 ^ 48)
  (H1:sl + m≤sc→J R ((b,C t (lay cs (sl * n) new)) :: E) (k (.slice (some ⟨b,0,none⟩) (sl + m) sc)))
  (H2:∀b' c,sl + m≤c→J R ((b',C t (cs.take (sl * n) ++ new ++ (List.replicate (c - (sl + m)) zs).flatten)) :: D) (k (.slice (some ⟨b',0,none⟩) (sl + m) c))) :
  J R D (AP t n by_ zs (.slice (some ⟨b,0,none⟩) sl sc) (.slice xa m cx) k):=by
 refine jap hx (old:=cs.take (sl * n)) (λh hst=>?_) hb hs (λhcc h hst=>?_) H2
 ·have hst':=hst.perm tk.p;have:=F5 (hst'.at_ b (C t cs) (by simp)).1 (sl * n) 0 (by rw[hc,Nat.zero_add];exact Nat.mul_le_mul_right n hl);simpa only[List.drop_zero] using this
 ·have hst':=hst.perm tk.p;obtain⟨h',w1,w2,w3⟩:=N5 new (0 + sl * n) (hst'.at_ b (C t cs) (by simp)).1 (by rw[hc,hnl,Nat.zero_add,← Nat.add_mul];exact Nat.mul_le_mul_right n hcc) hf;refine⟨h',w1,H1 hcc h' ?_⟩;have:=hst'.turn (b:=b) (o:=C t cs) (o':=C t (lay cs (0 + sl * n) new)) w2 w3;simpa only[Nat.zero_add] using this
end more
end Go.Lf
end
namespace Go.Lf
theorem lj {α : Type _} {a b : α} {x y : List α} : (a :: x = b :: y) = (a = b ∧ x = y) := List.cons.injEq a x b y
theorem lc {α : Type _} {a : α} {x y : List α} : (a :: x) ++ y = a :: (x ++ y) := rfl
theorem ln {α : Type _} {x : List α} : [] ++ x = x := rfl
end Go.Lf
section
namespace Go.Lf
open Go Go.Proofs Go.Proofs.Tryz
set_option linter.unusedVariables false
noncomputable abbrev P:Program:=Tryz.prog
abbrev U:Value:=.tuple #[]
@[reducible] def ZR (n:Nat) (z:Value):List Value:=(List.replicate n (cl z)).flatten
@[reducible] def z3:Value:=I 0
@[reducible] def z4:Value:=.bool false
@[reducible] def z29:Value:=.agg #[(I 0),(I 0),(I 0),(I 0),(I 0)]
@[reducible] def z54:Value:=.agg #[(.slice none 0 0),(I 0)]
@[reducible] def z58:Value:=.agg #[(.slice none 0 0),(.slice none 0 0),(.slice none 0 0),(I 0),(.bool false),(.bool false),(.bool false),(I 0),(.slice none 0 0),(.slice none 0 0),(.slice none 0 0),(I 0),(I 0)]
@[reducible] def z67:Value:=.agg #[(I 0),(I 0),(I 0)]
@[reducible] def z78:Value:=.agg #[(.slice none 0 0),(I 0),(.bool false),(I 0)]
@[reducible] def z82:Value:=.slice none 0 0
@[reducible] def z92:Value:=.agg #[(I 0),(I 0)]
@[reducible] def z94:Value:=.agg #[(I 0),(.bool false),(I 0),(.slice none 0 0),(I 0),(I 0),(I 0),(I 0),(I 0),(I 0),(I 0),(I 0),(I 0),(I 0),(I 0)]
@[reducible] def z96:Value:=.agg #[(I 0),(I 0),(I 0),(.slice none 0 0),(.slice none 0 0),(.slice none 0 0),(.slice none 0 0),(I 0),(.bool false),(.bool false),(.bool false),(I 0),(.slice none 0 0),(.slice none 0 0),(.slice none 0 0),(I 0),(I 0),(.slice none 0 0),(I 0),(.bool false),(I 0),(.slice none 0 0),(I 0),(I 0),(I 0),(I 0),(I 0),(I 0),(I 0),(I 0),(I 0),(I 0),(I 0),(.slice none 0 0),(.bool false)]
@[reducible] def z99:Value:=.agg #[(I 0),(I 0),(I 0),(I 0),(I 0),(I 0),(I 0),(I 0)]
@[reducible] def Ds:Value:=.agg #[(.slice none 0 0),(I 0),(I 0),(I 0),(I 0),(I 0),(I 0),(I 0),(I 0),(I 0),(I 0),(I 0),(I 0),(I 0),(I 0),(I 0),(I 0)]
@[reducible] def Ur:Value:=.agg #[(I 0),(I 0),(I 0),(I 0)]
@[reducible] def HP:Value:=.agg #[(I 0),(I 0),(I 0),(I 0),(.slice none 0 0),(.slice none 0 0)]
@[reducible] def E8:Nat:=5
@[reducible] def FW:Nat:=8
@[reducible] def FJ:Nat:=10
@[reducible] def Dh:Nat:=11
@[reducible] def Em:Nat:=12
@[reducible] def Eo:Nat:=13
@[reducible] def KU:Nat:=14
@[reducible] def Du:Nat:=15
@[reducible] def Je:Nat:=16
@[reducible] def GW:Nat:=17
@[reducible] def EF:Nat:=18
@[reducible] def Hx:Nat:=23
@[reducible] def LL:Nat:=24
@[reducible] def F1:Nat:=25
@[reducible] def Iv:Nat:=26
@[reducible] def FE:Nat:=27
@[reducible] def Fb:Nat:=28
@[reducible] def Mf:Nat:=29
@[reducible] def Fr:Nat:=30
@[reducible] def EA:Nat:=31
@[reducible] def Ca:Nat:=32
@[reducible] def E5:Nat:=33
@[reducible] def G7:Nat:=34
@[reducible] def LT:Nat:=35
@[reducible] def Gn:Nat:=36
@[reducible] def FI:Nat:=42
@[reducible] def Ci:Nat:=43
@[reducible] def Hj:Nat:=44
@[reducible] def G6:Nat:=45
@[reducible] def HK:Nat:=46
@[reducible] def GU:Nat:=47
@[reducible] def ID:Nat:=48
@[reducible] def EE:Nat:=49
@[reducible] def Iy:Nat:=50
@[reducible] def Bq:Nat:=51
@[reducible] def Hn:Nat:=53
@[reducible] def H9:Nat:=54
@[reducible] def HD:Nat:=55
@[reducible] def IB:Nat:=56
@[reducible] def IC:Nat:=57
@[reducible] def GA:Nat:=58
@[reducible] def GK:Nat:=59
@[reducible] def LM:Nat:=61
@[reducible] def HC:Nat:=62
@[reducible] def Gm:Nat:=63
@[reducible] def HI:Nat:=64
@[reducible] def Gt:Nat:=65
@[reducible] def Ek:Nat:=66
@[reducible] def Gd:Nat:=68
@[reducible] def FY:Nat:=69
@[reducible] def Ff:Nat:=70
@[reducible] def Hg:Nat:=71
@[reducible] def Fc:Nat:=72
@[reducible] def Hc:Nat:=73
@[reducible] def GM:Nat:=74
@[reducible] def Fg:Nat:=75
@[reducible] def I3:Nat:=76
@[reducible] def JJ:Nat:=77
@[reducible] def Cy:Nat:=78
@[reducible] def JS:Nat:=79
@[reducible] def KP:Nat:=80
@[reducible] def Fv:Nat:=81
@[reducible] def IS:Nat:=82
@[reducible] def My:Nat:=83
@[reducible] def Ht:Nat:=84
@[reducible] def Ia:Nat:=85
@[reducible] def KZ:Nat:=86
@[reducible] def Iz:Nat:=87
@[reducible] def GH:Nat:=88
@[reducible] def Jj:Nat:=89
@[reducible] def Jd:Nat:=90
@[reducible] def Jf:Nat:=91
@[reducible] def LZ:Nat:=92
@[reducible] def Iw:Nat:=93
@[reducible] def Hm:Nat:=94
@[reducible] def Hz:Nat:=95
@[reducible] def Jo:Nat:=96
@[reducible] def Hu:Nat:=97
@[reducible] def L3:Nat:=98
@[reducible] def KN:Nat:=99
@[reducible] def LQ:Nat:=100
@[reducible] def KX:Nat:=101
@[reducible] def Ji:Nat:=102
@[reducible] def FB:Nat:=103
@[reducible] def Gb:Nat:=104
@[reducible] def H5:Nat:=105
@[reducible] def KR:Nat:=106
@[reducible] def KI:Nat:=107
@[reducible] def JN:Nat:=108
@[reducible] def I9:Nat:=109
@[reducible] def IW:Nat:=110
@[reducible] def IN:Nat:=111
@[reducible] def HE:Nat:=112
@[reducible] def H6:Nat:=113
@[reducible] def Gj:Nat:=114
@[reducible] def GP:Nat:=115
@[reducible] def G4:Nat:=116
@[reducible] def Jw:Nat:=117
@[reducible] def JR:Nat:=118
@[reducible] def Is:Nat:=119
@[reducible] def IU:Nat:=120
@[reducible] def LG:Nat:=121
@[reducible] def HH:Nat:=122
@[reducible] def Fy:Nat:=123
@[reducible] def J4:Nat:=124
@[reducible] def JP:Nat:=125
@[reducible] def GV:Nat:=126
@[reducible] def L7:Nat:=127
@[reducible] def Hs:Nat:=128
@[reducible] def AZ:Nat:=3
@[reducible] def Az:Nat:=4
@[reducible] def AD:Nat:=29
@[reducible] def AM:Nat:=58
@[reducible] def Eb:Nat:=92
@[reducible] def Al:Nat:=94
@[reducible] def BL:Nat:=96
@[reducible] def AR:Nat:=106
@[reducible] def DN:Nat:=128
@[reducible] def B8:Nat:=135
@[reducible] def LF (n:Nat) (a:Value) (k:Value→M):M:=FO n a λx=>L1 x k
@[reducible] def SF (n:Nat) (a v:Value) (k:M):M:=FO n a λx=>ST 1 x v k
@[reducible] def NF (n:Nat) (a:Value) (k:Value→M):M:=NC a λx=>FO n x k
@[reducible] def NL (n:Nat) (a:Value) (k:Value→M):M:=NC a λx=>FO n x λy=>L1 y k
@[reducible] def IL (n:Nat) (a i:Value) (k:Value→M):M:=IA n a i λx=>L1 x k
@[reducible] def PO (a b:Value) (k:Value→M):M:=PK a (.bool true) b k
@[reducible] def PA (a b:Value) (k:Value→M):M:=PK a b (.bool false) k
def SG (n:Nat) (vs:List Value) (c:(Value→M)→M):Prop:=∀{R:RM} {A:Chs} {Q:Value→RM→Chs→Prop},(∀F,J R (A ++ F) (c (ED R F Q)))→Fn P n vs R A Q
theorem SG.mk {n:Nat} {vs:List Value} {c:(Value→M)→M} (A:An) {fn:Func} (hf:P.funcs[n]? = some fn) (ok:TD (CF P) fn vs.length = true) (he:∀K,body P fn A vs K = c K):SG n vs c:=λH F h hs=>Uw hf ok (he _) (H F h hs)
end Go.Lf
end
section
namespace Go.Lf
open Go Go.Proofs Go.Proofs.Tryz
set_option linter.unusedVariables false
def E9 (a0:Value) (K:Value→M):M:=
 LN a0 λa=>BO .gtr a (I 1048576) λa=>IF a (K (.bool true)) (CA P 11 [a0] λa=>EX 0 a λb=>EX 1 a λc=>EX 2 a λa=>CA P 12 [b,c,a] λd=>EX 0 d λe=>EX 1 d λd=>CA P 13 [b,c,a] λa=>EX 0 a λf=>EX 1 a λa=>CUT [3,4,6,7,42,46] (λg=>CA P 14 [e,f] λf=>NT f λf=>GT f false (CA P 14 [d,a] λa=>NT a λa=>g [b,c,e,d,f,a]) (g [b,c,e,d,f,U])) λa=>PO (a 42) (a 46) λb=>IF b (K (.bool false)) (CUT [3,4,6,7,10] (λb=>CUT [3,4,6,7,10] (λb=>LP [3,4,6,7,10,11,12] (λa c=>LN (c 6) λd=>BO .lss (c 12) d λd=>IF d (IL 1 (c 6) (c 12) λb=>IA 5 (c 3) b λb=>LA 5 b λb=>AL 29 z29 λd=>ST 5 d b<|CUT [3,4,6,7,10,12,13,87] (λa=>CUT [3,4,6,7,10,12,13,64,68] (λa=>LF 0 d λb=>BO .neq b (I 3) λb=>GT b false (LF 4 d λe=>BO .lss e (c 11) λe=>a [(c 3),(c 4),(c 6),(c 7),(c 10),(c 12),d,b,e]) (a [(c 3),(c 4),(c 6),(c 7),(c 10),(c 12),d,b,U])) λb=>CUT [3,4,6,7,10,12,13,70,73] (λa=>PO (b 64) (b 68) λc=>GT c false (LF 4 (b 13) λd=>BO .eql d (I 0) λd=>a [(b 3),(b 4),(b 6),(b 7),(b 10),(b 12),(b 13),c,d]) (a [(b 3),(b 4),(b 6),(b 7),(b 10),(b 12),(b 13),c,U])) λb=>CUT [3,4,6,7,10,12,13,75,76,77,78,79,83] (λa=>PO (b 70) (b 73) λc=>GT c false (FO 4 (b 13) λd=>L1 d λe=>FO 2 (b 13) λf=>L1 f λg=>IL 1 (b 6) (b 12) λh=>a [(b 3),(b 4),(b 6),(b 7),(b 10),(b 12),(b 13),c,d,e,f,g,h]) (a [(b 3),(b 4),(b 6),(b 7),(b 10),(b 12),(b 13),c,U,U,U,U,U])) λb=>GT (b 75) false (CA P 15 [(b 83)] λc=>BO .sub (b 79) c λc=>BO .geq (b 77) c λc=>PO (b 75) c λc=>AND (L1 (b 76) λa=>EV a (b 77))<|AND (L1 (b 78) λa=>EV a (b 79))<|a [(b 3),(b 4),(b 6),(b 7),(b 10),(b 12),(b 13),c]) (PO (b 75) U λc=>AND (EV U (b 77))<|AND (EV U (b 79))<|a [(b 3),(b 4),(b 6),(b 7),(b 10),(b 12),(b 13),c])) λb=>IF (b 87) (K (.bool false)) (LF 4 (b 13) λc=>LF 4 (b 13) λd=>BO .add (b 10) d λd=>BO .add (b 12) (I 1) λe=>a [(b 3),(b 4),(b 6),(b 7),d,c,e])) (b [(c 3),(c 4),(c 6),(c 7),(c 10)])) [(a 3),(a 4),(a 6),(a 7),(I 0),(I 0),(I 0)]) λa=>b [(a 3),(a 4),(a 6),(a 7),(a 10)]) λa=>CUT [4,6,10] (λb=>CUT [4,6,10] (λb=>LP [3,4,6,7,10,14] (λa c=>LN (c 7) λd=>BO .lss (c 14) d λd=>IF d (CUT [3,4,6,7,10,14,109,118] (λa=>IL 1 (c 7) (c 14) λb=>IA 5 (c 3) b λb=>LF 4 b λb=>BO .neq b (I 0) λb=>GT b false (IL 1 (c 7) (c 14) λd=>IA 5 (c 3) d λd=>LF 0 d λd=>BO .neq d (I 3) λd=>a [(c 3),(c 4),(c 6),(c 7),(c 10),(c 14),b,d]) (a [(c 3),(c 4),(c 6),(c 7),(c 10),(c 14),b,U])) λb=>PO (b 109) (b 118) λc=>IF c (K (.bool false)) (BO .add (b 14) (I 1) λc=>a [(b 3),(b 4),(b 6),(b 7),(b 10),c])) (b [(c 4),(c 6),(c 10)])) [(a 3),(a 4),(a 6),(a 7),(a 10),(I 0)]) λa=>b [(a 4),(a 6),(a 10)]) λa=>CUT [123,126] (λb=>LN (a 6) λc=>BO .eql c (I 0) λc=>GT c false (BO .leq (a 10) (a 4) λa=>b [c,a]) (b [c,U])) λa=>PO (a 123) (a 126) λa=>K a))
theorem Gw {a0:Value}:SG E8 [a0] (E9 a0):=SG.mk { at_:=[(12,[3,4,6,7,10]),(14,[3,4,6,7,10]),(15,[3,4,6,7,10,11,12]),(22,[3,4,6,7,10,12,13,87]),(25,[4,6,10]),(27,[4,6,10]),(28,[3,4,6,7,10,14])],rg:=[(6,[(9,[3,4,6,7,42,46])]),(21,[(19,[3,4,6,7,10,14,109,118])]),(23,[(7,[123,126])])],dr:=[(14,[(0,[(8,[3,4,6,7,10,12,13,64,68]),(5,[3,4,6,7,10,12,13,70,73]),(10,[3,4,6,7,10,12,13,75,76,77,78,79,83])])])] } func5 (by kernel_rfl) λ_=>by kernel_rfl
def Fu (a0 a1 a2:Value) (K:Value→M):M:=
 CUT [0,1,2,17,19] (λa=>CA P 23 [a0] λb=>NT b λb=>GT b false (BO .lss a1 (I 0) λc=>a [a0,a1,a2,b,c]) (a [a0,a1,a2,b,U])) λa=>CUT [0,1,2,21,23] (λb=>PO (a 17) (a 19) λc=>GT c false (BO .gtr (a 1) (I 3) λd=>b [(a 0),(a 1),(a 2),c,d]) (b [(a 0),(a 1),(a 2),c,U])) λa=>CUT [0,1,2,25,27] (λb=>PO (a 21) (a 23) λc=>GT c false (BO .lss (a 2) (I 1) λd=>b [(a 0),(a 1),(a 2),c,d]) (b [(a 0),(a 1),(a 2),c,U])) λa=>CUT [0,1,2,29,31] (λb=>PO (a 25) (a 27) λc=>GT c false (BO .gtr (a 2) (I 16) λd=>b [(a 0),(a 1),(a 2),c,d]) (b [(a 0),(a 1),(a 2),c,U])) λa=>PO (a 29) (a 31) λb=>IF b (K (.tuple #[(.slice none 0 0),(I 0),(.bool false)])) (CA P 24 [(a 0),(a 1)] λb=>CUT [0,1,9,50] (λc=>CUT [0,1,9,38,42,43,45,46] (λc=>BO .geq b (I 0) λd=>GT d true (IA 5 (a 0) b λe=>FO 2 e λe=>L1 e λf=>BO .add f (a 2) λg=>c [(a 0),(a 1),b,d,e,f,g,b]) (c [(a 0),(a 1),b,d,U,U,U,U])) λa=>GT (a 38) true (CA P 25 [(a 46)] λb=>BO .add b (I 16) λb=>BO .leq (a 45) b λb=>PA (a 38) b λb=>AND (L1 (a 42) λb=>EV b (a 43))<|c [(a 0),(a 1),(a 9),b]) (PA (a 38) U λb=>AND (EV U (a 43))<|c [(a 0),(a 1),(a 9),b])) λa=>IF (a 50) (IA 5 (a 0) (a 9) λb=>FO 2 b λb=>L1 b λc=>CA P 26 [(a 0)] λa=>AND (L1 b λa=>EV a c)<|AND (L1 b λa=>EV a c)<|K (.tuple #[a,c,(.bool true)])) (CA P 26 [(a 0)] λb=>CUT [1,10] (λc=>BO .geq (a 9) (I 0) λd=>IF d (CA P 27 [(a 0),(a 9)] λb=>EX 0 b λd=>EX 1 b λb=>c [(a 1),d]) (c [(a 1),b])) λa=>CA P 28 [(a 10),(a 1)] λa=>EX 0 a λb=>EX 1 a λc=>EX 2 a λa=>NT a λa=>IF a (K (.tuple #[(.slice none 0 0),(I 0),(.bool false)])) (CA P 25 [c] λa=>K (.tuple #[b,a,(.bool true)]))))
theorem Kf {a0 a1 a2:Value}:SG FW [a0,a1,a2] (Fu a0 a1 a2):=SG.mk { at_:=[(6,[0,1,9,50]),(9,[1,10])],rg:=[(1,[(6,[0,1,2,17,19]),(4,[0,1,2,21,23]),(4,[0,1,2,25,27]),(4,[0,1,2,29,31])])],dr:=[(4,[(0,[(11,[0,1,9,38,42,43,45,46])])])] } func8 (by kernel_rfl) λ_=>by kernel_rfl
def IV (a0:Value) (K:Value→M):M:=
 CUT [0,20] (λa=>CUT [0,9,12] (λa=>LN a0 λb=>BO .lss b (I 2) λb=>GT b false (LN a0 λc=>BO .gtr c (I 12) λc=>a [a0,b,c]) (a [a0,b,U])) λb=>CUT [0,14,16,17] (λa=>PO (b 9) (b 12) λc=>GT c false (IA 5 (b 0) (I 0) λd=>LA 5 d λe=>a [(b 0),c,d,e]) (a [(b 0),c,U,U])) λb=>GT (b 14) false (CA P 29 [] λc=>AND (LA 5 (b 16) λa=>EV a (b 17))<|X P (do eqGuard .neq 29 (.tmp 17) (.tmp 18) (b 17) c;binOp .neq 29 (b 17) c) λc=>PO (b 14) c λc=>a [(b 0),c]) (AND (EV U (b 17))<|PO (b 14) U λc=>a [(b 0),c])) λa=>IF (a 20) (K (.bool false)) (X P (Instr.makeMap 48 none) λb=>LN (a 0) λc=>LP [3,22,23,24] (λa b=>BO .lss (b 24) (b 23) λc=>IF c (CUT [3,22,23,24] (λa=>CUT [3,22,23,24] (λa=>IA 5 (b 22) (b 24) λc=>LA 5 c λc=>AL 29 z29 λd=>ST 5 d c<|BO .eql (b 24) (I 0) λc=>IF c (a [(b 3),(b 22),(b 23),(b 24)]) (CUT [3,5,22,23,24,35,44] (λa=>LA 5 d λc=>CA P 30 [c,(b 24)] λc=>NT c λc=>GT c false (LF 1 d λe=>BO .geq e (I 0) λe=>GT e true (LF 1 d λf=>X P (Instr.lookup 48 (b 3) f false) λf=>PA e f λe=>a [(b 3),d,(b 22),(b 23),(b 24),c,e]) (PA e U λe=>a [(b 3),d,(b 22),(b 23),(b 24),c,e])) (a [(b 3),d,(b 22),(b 23),(b 24),c,U])) λb=>PO (b 35) (b 44) λc=>IF c (K (.bool false)) (LF 1 (b 5) λc=>X P (do Instr.mapUpdate 48 (b 3) c (.bool true);pure undef) λc=>a [(b 3),(b 22),(b 23),(b 24)]))) λb=>a [(b 3),(b 22),(b 23),(b 24)]) λb=>BO .add (b 24) (I 1) λc=>a [(b 3),(b 22),(b 23),c]) (K (.bool true))) [b,(a 0),c,(I 0)])
theorem ND {a0:Value}:SG FJ [a0] (IV a0):=SG.mk { at_:=[(2,[0,20]),(8,[3,22,23,24]),(11,[3,22,23,24]),(12,[3,22,23,24])],rg:=[(8,[(14,[3,5,22,23,24,35,44])])],dr:=[(1,[(0,[(7,[0,9,12]),(5,[0,14,16,17])])])] } func10 (by kernel_rfl) λ_=>by kernel_rfl
def Di (a0:Value) (K:Value→M):M:=
 CA P 16 [a0] λa=>CA P 17 [a] λb=>CA P 18 [a,(I 60)] λc=>BO .sub c (I 4) λc=>CUT [6,7,8] (λd=>CA P 18 [a,(I 2)] λe=>BO .eql e (I 0) λe=>IF e (LN b λe=>BO .add e (I 1) λe=>CA P 18 [a,e] λe=>CA P 18 [a,(I 3)] λa=>BS 3 2 (ZR 2 z3) [(0,1,e),(1,1,a)] λa=>AP 3 1 8 (cl z3) (.slice none 0 0) a λa=>d [b,c,a]) (d [b,c,(.slice none 0 0)])) λa=>K (.tuple #[(a 6),(a 7),(a 8)])
theorem FT {a0:Value}:SG Dh [a0] (Di a0):=SG.mk { at_:=[(5,[6,7,8])] } func11 (by kernel_rfl) λ_=>by kernel_rfl
def El (a0 a1 a2:Value) (K:Value→M):M:=
 AL 23 a0 λa=>L1 a λb=>CA P 10 [b] λb=>NT b λb=>IF b (K (.tuple #[(.slice none 0 0),(.slice none 0 0)])) (CUT [1,3,8] (λb=>L1 a λc=>LN c λd=>CUT [1,3,8] (λb=>LP [1,2,3,8,18,19,20] (λa c=>BO .lss (c 20) (c 19) λd=>IF d (CUT [1,2,3,8,18,19,20] (λa=>CUT [1,2,3,8,18,19,20] (λa=>IA 5 (c 18) (c 20) λb=>LA 5 b λb=>AL 29 z29 λd=>ST 5 d b<|CUT [1,2,3,8,9,18,19,20,50] (λa=>CUT [1,2,3,8,9,10,18,19,20,28,33] (λa=>LF 0 d λb=>BO .eql b (I 3) λb=>GT b true (LF 2 d λe=>LF 3 d λf=>BO .eql e f λe=>a [(c 1),(c 2),(c 3),(c 8),(c 20),d,(c 18),(c 19),(c 20),b,e]) (a [(c 1),(c 2),(c 3),(c 8),(c 20),d,(c 18),(c 19),(c 20),b,U])) λb=>CUT [1,2,3,8,9,18,19,20,35,36,37,38,39,40] (λa=>PA (b 28) (b 33) λc=>GT c true (FO 4 (b 10) λd=>L1 d λe=>FO 2 (b 10) λf=>L1 f λg=>a [(b 1),(b 2),(b 3),(b 8),(b 9),(b 18),(b 19),(b 20),c,d,e,f,g,(b 9)]) (a [(b 1),(b 2),(b 3),(b 8),(b 9),(b 18),(b 19),(b 20),c,U,U,U,U,U])) λb=>GT (b 35) true (CA P 15 [(b 40)] λc=>CUT [1,2,3,8,9,18,19,20,35,36,37,38,39,43] (λa=>GT (b 35) true (BO .sub (b 39) c λc=>BO .lss (b 37) c λc=>a [(b 1),(b 2),(b 3),(b 8),(b 9),(b 18),(b 19),(b 20),(b 35),(b 36),(b 37),(b 38),(b 39),c]) (a [(b 1),(b 2),(b 3),(b 8),(b 9),(b 18),(b 19),(b 20),(b 35),(b 36),(b 37),(b 38),(b 39),U])) λb=>CUT [1,2,3,8,9,18,19,20,35,36,37,38,39,45,46,47] (λa=>PA (b 35) (b 43) λc=>GT c true (a [(b 1),(b 2),(b 3),(b 8),(b 9),(b 18),(b 19),(b 20),(b 35),(b 36),(b 37),(b 38),(b 39),c,(b 2),(b 9)]) (a [(b 1),(b 2),(b 3),(b 8),(b 9),(b 18),(b 19),(b 20),(b 35),(b 36),(b 37),(b 38),(b 39),c,U,U])) λb=>AND (GT (b 35) true (L1 (b 36) λa=>EV a (b 37)) (EV U (b 37)))<|AND (GT (b 35) true (L1 (b 38) λa=>EV a (b 39)) (EV U (b 39)))<|GT (b 45) true (CA P 31 [(b 46),(b 47)] λc=>NT c λc=>PA (b 45) c λc=>a [(b 1),(b 2),(b 3),(b 8),(b 9),(b 18),(b 19),(b 20),c]) (PA (b 45) U λc=>a [(b 1),(b 2),(b 3),(b 8),(b 9),(b 18),(b 19),(b 20),c])) (CUT [1,2,3,8,9,18,19,20,35,36,37,38,39,43] (λa=>GT (b 35) true (BO .sub (b 39) U λc=>BO .lss (b 37) c λc=>a [(b 1),(b 2),(b 3),(b 8),(b 9),(b 18),(b 19),(b 20),(b 35),(b 36),(b 37),(b 38),(b 39),c]) (a [(b 1),(b 2),(b 3),(b 8),(b 9),(b 18),(b 19),(b 20),(b 35),(b 36),(b 37),(b 38),(b 39),U])) λb=>CUT [1,2,3,8,9,18,19,20,35,36,37,38,39,45,46,47] (λa=>PA (b 35) (b 43) λc=>GT c true (a [(b 1),(b 2),(b 3),(b 8),(b 9),(b 18),(b 19),(b 20),(b 35),(b 36),(b 37),(b 38),(b 39),c,(b 2),(b 9)]) (a [(b 1),(b 2),(b 3),(b 8),(b 9),(b 18),(b 19),(b 20),(b 35),(b 36),(b 37),(b 38),(b 39),c,U,U])) λb=>AND (GT (b 35) true (L1 (b 36) λa=>EV a (b 37)) (EV U (b 37)))<|AND (GT (b 35) true (L1 (b 38) λa=>EV a (b 39)) (EV U (b 39)))<|GT (b 45) true (CA P 31 [(b 46),(b 47)] λc=>NT c λc=>PA (b 45) c λc=>a [(b 1),(b 2),(b 3),(b 8),(b 9),(b 18),(b 19),(b 20),c]) (PA (b 45) U λc=>a [(b 1),(b 2),(b 3),(b 8),(b 9),(b 18),(b 19),(b 20),c]))) λb=>IF (b 50) (BS 3 1 (ZR 1 z3) [(0,1,(b 9))] λc=>AP 3 1 8 (cl z3) (b 8) c λc=>a [(b 1),(b 2),(b 3),c,(b 18),(b 19),(b 20)]) (a [(b 1),(b 2),(b 3),(b 8),(b 18),(b 19),(b 20)])) λb=>a [(b 1),(b 2),(b 3),(b 8),(b 18),(b 19),(b 20)]) λb=>BO .add (b 20) (I 1) λc=>a [(b 1),(b 2),(b 3),(b 8),(b 18),(b 19),c]) (b [(c 1),(c 3),(c 8)])) [a1,a2,a,(.slice none 0 0),c,d,(I 0)]) λa=>b [(a 1),(a 3),(a 8)]) λa=>CA P 32 [(a 8),(.func (.func 33) #[] #[(a 3)])] λb=>CUT [11,12] (λb=>LN (a 8) λc=>CUT [11,12] (λb=>LP [1,3,11,12,59,60,61] (λa c=>BO .lss (c 61) (c 60) λd=>IF d (CUT [1,3,11,12,59,60,61] (λa=>CUT [1,3,11,12,59,60,61] (λa=>IL 1 (c 59) (c 61) λb=>CUT [1,3,11,12,59,60,61] (λa=>L1 (c 3) λd=>IA 5 d b λd=>LF 4 d λd=>BO .eql d (I 0) λd=>IF d (BS 3 1 (ZR 1 z3) [(0,1,b)] λb=>AP 3 1 8 (cl z3) (c 12) b λb=>a [(c 1),(c 3),(c 11),b,(c 59),(c 60),(c 61)]) (L1 (c 3) λd=>IA 5 d b λd=>LF 4 d λd=>BO .leq d (c 1) λd=>IF d (BS 3 1 (ZR 1 z3) [(0,1,b)] λd=>AP 3 1 8 (cl z3) (c 11) d λd=>L1 (c 3) λe=>IA 5 e b λb=>LF 4 b λb=>BO .sub (c 1) b λb=>a [b,(c 3),d,(c 12),(c 59),(c 60),(c 61)]) (a [(c 1),(c 3),(c 11),(c 12),(c 59),(c 60),(c 61)]))) λb=>a [(b 1),(b 3),(b 11),(b 12),(b 59),(b 60),(b 61)]) λb=>a [(b 1),(b 3),(b 11),(b 12),(b 59),(b 60),(b 61)]) λb=>BO .add (b 61) (I 1) λc=>a [(b 1),(b 3),(b 11),(b 12),(b 59),(b 60),c]) (b [(c 11),(c 12)])) [(a 1),(a 3),(.slice none 0 0),(.slice none 0 0),(a 8),c,(I 0)]) λa=>b [(a 11),(a 12)]) λa=>K (.tuple #[(a 11),(a 12)]))
theorem Ij {a0 a1 a2:Value}:SG Em [a0,a1,a2] (El a0 a1 a2):=SG.mk { at_:=[(5,[1,3,8]),(7,[1,3,8]),(8,[1,2,3,8,18,19,20]),(11,[1,2,3,8,18,19,20]),(12,[1,2,3,8,18,19,20]),(14,[1,2,3,8,9,18,19,20,50]),(17,[11,12]),(19,[11,12]),(20,[1,3,11,12,59,60,61]),(23,[1,3,11,12,59,60,61]),(24,[1,3,11,12,59,60,61]),(26,[1,3,11,12,59,60,61])],dr:=[(7,[(0,[(9,[1,2,3,8,9,10,18,19,20,28,33]),(7,[1,2,3,8,9,18,19,20,35,36,37,38,39,40])]),(65536,[(2,[1,2,3,8,9,18,19,20,35,36,37,38,39,43]),(4,[1,2,3,8,9,18,19,20,35,36,37,38,39,45,46,47])])])] } func12 (by kernel_rfl) λ_=>by kernel_rfl
def Er (a0 a1 a2:Value) (K:Value→M):M:=
 CA P 23 [a0] λa=>NT a λa=>IF a (K (.tuple #[(.slice none 0 0),(.slice none 0 0)])) (CUT [8,9] (λa=>CUT [8,9] (λa=>LP [0,2,8,9,10,11] (λb c=>BO .leq (c 11) (I 16) λd=>IF d (CUT [0,2,8,9,10,11] (λa=>CUT [0,2,8,9,10,11] (λa=>CUT [0,2,8,9,10,11] (λa=>LP [0,2,8,9,10,11,12] (λb c=>LN (c 0) λd=>BO .lss (c 12) d λd=>IF d (CUT [0,2,8,9,10,11,12] (λa=>CUT [0,2,8,9,10,11,12] (λa=>IA 5 (c 0) (c 12) λb=>LA 5 b λb=>AL 29 z29 λd=>ST 5 d b<|CUT [0,2,8,9,10,11,12,62] (λa=>CUT [0,2,8,9,10,11,12,13,35,40] (λa=>LF 0 d λb=>BO .neq b (I 3) λb=>GT b false (LF 2 d λe=>LF 3 d λf=>BO .neq e f λe=>a [(c 0),(c 2),(c 8),(c 9),(c 10),(c 11),(c 12),d,b,e]) (a [(c 0),(c 2),(c 8),(c 9),(c 10),(c 11),(c 12),d,b,U])) λb=>CUT [0,2,8,9,10,11,12,13,42,46] (λa=>PO (b 35) (b 40) λc=>GT c false (LF 4 (b 13) λd=>BO .neq d (b 11) λd=>a [(b 0),(b 2),(b 8),(b 9),(b 10),(b 11),(b 12),(b 13),c,d]) (a [(b 0),(b 2),(b 8),(b 9),(b 10),(b 11),(b 12),(b 13),c,U])) λb=>CUT [0,2,8,9,10,11,12,48,49,50,51,52,53] (λa=>PO (b 42) (b 46) λc=>GT c false (FO 4 (b 13) λd=>L1 d λe=>FO 2 (b 13) λf=>L1 f λg=>a [(b 0),(b 2),(b 8),(b 9),(b 10),(b 11),(b 12),c,d,e,f,g,(b 12)]) (a [(b 0),(b 2),(b 8),(b 9),(b 10),(b 11),(b 12),c,U,U,U,U,U])) λb=>GT (b 48) false (CA P 25 [(b 53)] λc=>CUT [0,2,8,9,10,11,12,48,49,50,51,52,56] (λa=>GT (b 48) false (BO .sub (b 52) c λc=>BO .geq (b 50) c λc=>a [(b 0),(b 2),(b 8),(b 9),(b 10),(b 11),(b 12),(b 48),(b 49),(b 50),(b 51),(b 52),c]) (a [(b 0),(b 2),(b 8),(b 9),(b 10),(b 11),(b 12),(b 48),(b 49),(b 50),(b 51),(b 52),U])) λb=>CUT [0,2,8,9,10,11,12,48,49,50,51,52,58,59,60] (λa=>PO (b 48) (b 56) λc=>GT c false (a [(b 0),(b 2),(b 8),(b 9),(b 10),(b 11),(b 12),(b 48),(b 49),(b 50),(b 51),(b 52),c,(b 2),(b 12)]) (a [(b 0),(b 2),(b 8),(b 9),(b 10),(b 11),(b 12),(b 48),(b 49),(b 50),(b 51),(b 52),c,U,U])) λb=>AND (GT (b 48) false (L1 (b 49) λa=>EV a (b 50)) (EV U (b 50)))<|AND (GT (b 48) false (L1 (b 51) λa=>EV a (b 52)) (EV U (b 52)))<|GT (b 58) false (CA P 35 [(b 59),(b 60)] λc=>PO (b 58) c λc=>a [(b 0),(b 2),(b 8),(b 9),(b 10),(b 11),(b 12),c]) (PO (b 58) U λc=>a [(b 0),(b 2),(b 8),(b 9),(b 10),(b 11),(b 12),c])) (CUT [0,2,8,9,10,11,12,48,49,50,51,52,56] (λa=>GT (b 48) false (BO .sub (b 52) U λc=>BO .geq (b 50) c λc=>a [(b 0),(b 2),(b 8),(b 9),(b 10),(b 11),(b 12),(b 48),(b 49),(b 50),(b 51),(b 52),c]) (a [(b 0),(b 2),(b 8),(b 9),(b 10),(b 11),(b 12),(b 48),(b 49),(b 50),(b 51),(b 52),U])) λb=>CUT [0,2,8,9,10,11,12,48,49,50,51,52,58,59,60] (λa=>PO (b 48) (b 56) λc=>GT c false (a [(b 0),(b 2),(b 8),(b 9),(b 10),(b 11),(b 12),(b 48),(b 49),(b 50),(b 51),(b 52),c,(b 2),(b 12)]) (a [(b 0),(b 2),(b 8),(b 9),(b 10),(b 11),(b 12),(b 48),(b 49),(b 50),(b 51),(b 52),c,U,U])) λb=>AND (GT (b 48) false (L1 (b 49) λa=>EV a (b 50)) (EV U (b 50)))<|AND (GT (b 48) false (L1 (b 51) λa=>EV a (b 52)) (EV U (b 52)))<|GT (b 58) false (CA P 35 [(b 59),(b 60)] λc=>PO (b 58) c λc=>a [(b 0),(b 2),(b 8),(b 9),(b 10),(b 11),(b 12),c]) (PO (b 58) U λc=>a [(b 0),(b 2),(b 8),(b 9),(b 10),(b 11),(b 12),c]))) λb=>IF (b 62) (a [(b 0),(b 2),(b 8),(b 9),(b 10),(b 11),(b 12)]) (BO .eql (b 11) (I 0) λc=>IF c (BS 3 1 (ZR 1 z3) [(0,1,(b 12))] λc=>AP 3 1 8 (cl z3) (b 9) c λc=>a [(b 0),(b 2),(b 8),c,(b 10),(b 11),(b 12)]) (BO .leq (b 11) (b 10) λc=>IF c (BS 3 1 (ZR 1 z3) [(0,1,(b 12))] λc=>AP 3 1 8 (cl z3) (b 8) c λc=>BO .sub (b 10) (b 11) λd=>a [(b 0),(b 2),c,(b 9),d,(b 11),(b 12)]) (a [(b 0),(b 2),(b 8),(b 9),(b 10),(b 11),(b 12)])))) λb=>a [(b 0),(b 2),(b 8),(b 9),(b 10),(b 11),(b 12)]) λa=>BO .add (a 12) (I 1) λc=>b [(a 0),(a 2),(a 8),(a 9),(a 10),(a 11),c]) (a [(c 0),(c 2),(c 8),(c 9),(c 10),(c 11)])) [(c 0),(c 2),(c 8),(c 9),(c 10),(c 11),(I 1)]) λb=>a [(b 0),(b 2),(b 8),(b 9),(b 10),(b 11)]) λb=>a [(b 0),(b 2),(b 8),(b 9),(b 10),(b 11)]) λa=>BO .add (a 11) (I 1) λc=>b [(a 0),(a 2),(a 8),(a 9),(a 10),c]) (a [(c 8),(c 9)])) [a0,a2,(.slice none 0 0),(.slice none 0 0),a1,(I 0)]) λb=>a [(b 8),(b 9)]) λa=>K (.tuple #[(a 8),(a 9)]))
theorem Ii {a0 a1 a2:Value}:SG Eo [a0,a1,a2] (Er a0 a1 a2):=SG.mk { at_:=[(7,[8,9]),(9,[8,9]),(10,[0,2,8,9,10,11]),(13,[0,2,8,9,10,11]),(14,[0,2,8,9,10,11]),(16,[0,2,8,9,10,11]),(17,[0,2,8,9,10,11,12]),(20,[0,2,8,9,10,11,12]),(21,[0,2,8,9,10,11,12]),(24,[0,2,8,9,10,11,12,62])],dr:=[(13,[(0,[(9,[0,2,8,9,10,11,12,13,35,40]),(6,[0,2,8,9,10,11,12,13,42,46]),(7,[0,2,8,9,10,11,12,48,49,50,51,52,53])]),(4194304,[(2,[0,2,8,9,10,11,12,48,49,50,51,52,56]),(4,[0,2,8,9,10,11,12,48,49,50,51,52,58,59,60])])])] } func13 (by kernel_rfl) λ_=>by kernel_rfl
def JG (a0 a1:Value) (K:Value→M):M:=
 LN a0 λa=>LN a1 λb=>BO .neq a b λa=>IF a (K (.bool false)) (LP [0,1,5] (λa b=>LN (b 0) λc=>BO .lss (b 5) c λc=>IF c (IL 1 (b 0) (b 5) λc=>IL 1 (b 1) (b 5) λd=>BO .neq c d λc=>IF c (K (.bool false)) (BO .add (b 5) (I 1) λc=>a [(b 0),(b 1),c])) (K (.bool true))) [a0,a1,(I 0)])
theorem Nu {a0 a1:Value}:SG KU [a0,a1] (JG a0 a1):=SG.mk { at_:=[(7,[0,1,5])] } func14 (by kernel_rfl) λ_=>by kernel_rfl
def Jt (a0:Value) (K:Value→M):M:=
 CUT [0,5,7] (λa=>BO .lss a0 (I 0) λb=>GT b false (BO .geq a0 (I 12) λc=>a [a0,b,c]) (a [a0,b,U])) λa=>PO (a 5) (a 7) λb=>IF b (K (I 0)) (BO .mul (a 0) (I 16) λa=>K a)
theorem F9 {a0:Value}:SG Du [a0] (Jt a0):=SG.mk { rg:=[(1,[(5,[0,5,7])])] } func15 (by kernel_rfl) λ_=>by kernel_rfl
def JB (a0:Value) (K:Value→M):M:=
 CUT [0] (λa=>LN a0 λb=>BO .gtr b (I 2000) λb=>IF b (SL 1 a0 none (some (I 2000)) λb=>a [b]) (a [a0])) λa=>BD (cl z54) [(0,1,(a 0))] λa=>AL 54 a λa=>K a
theorem OT {a0:Value}:SG Je [a0] (JB a0):=SG.mk { at_:=[(1,[0])] } func16 (by kernel_rfl) λ_=>by kernel_rfl
def GZ (a0:Value) (K:Value→M):M:=
 CA P 36 [a0] λa=>FD false 1 1 a λa=>CUT [0,3] (λb=>CUT [0,3] (λb=>LP [0,3,4] (λa c=>LN (c 3) λd=>BO .lss (c 4) d λd=>IF d (CUT [0,3,4] (λa=>CUT [0,3,4] (λa=>CUT [0,3,4,21,27] (λa=>CA P 18 [(c 0),(I 3)] λb=>BO .eql b (I 0) λb=>GT b true (IA 5 (c 3) (c 4) λd=>LF 0 d λd=>BO .eql d (I 3) λd=>a [(c 0),(c 3),(c 4),b,d]) (a [(c 0),(c 3),(c 4),b,U])) λb=>PA (b 21) (b 27) λc=>IF c (IA 5 (b 3) (b 4) λc=>LA 5 c λc=>AL 29 z29 λd=>ST 5 d c<|LF 2 d λc=>SF 3 d c<|FO 2 d λc=>L1 c λe=>CA P 25 [(b 4)] λf=>BO .sub e f λf=>BO .add f (I 1) λf=>AND (L1 c λa=>EV a e)<|CA P 18 [(b 0),f] λc=>SF 4 d c<|LA 5 d λc=>IA 5 (b 3) (b 4) λd=>ST 5 d c<|a [(b 0),(b 3),(b 4)]) (a [(b 0),(b 3),(b 4)])) λb=>a [(b 0),(b 3),(b 4)]) λb=>BO .add (b 4) (I 1) λc=>a [(b 0),(b 3),c]) (b [(c 0),(c 3)])) [a0,a,(I 1)]) λa=>b [(a 0),(a 3)]) λa=>CUT [3] (λb=>CA P 18 [(a 0),(I 30)] λc=>CUT [3] (λb=>BO .eql c (I 0) λd=>IF d (SL 5 (a 3) none (some (I 1)) λa=>b [a]) (BO .eql c (I 1) λd=>IF d (IA 5 (a 3) (I 1) λc=>LA 5 c λc=>AL 29 z29 λd=>ST 5 d c<|CA P 18 [(a 0),(I 6)] λc=>BO .sub c (I 2) λc=>SF 1 d c<|LA 5 d λc=>IA 5 (a 3) (I 1) λd=>ST 5 d c<|b [(a 3)]) (BO .eql c (I 2) λd=>IF d (IA 5 (a 3) (I 1) λc=>LA 5 c λc=>AL 29 z29 λd=>ST 5 d c<|LF 2 d λc=>BO .add c (I 1) λc=>SF 3 d c<|LA 5 d λc=>IA 5 (a 3) (I 1) λd=>ST 5 d c<|b [(a 3)]) (BO .eql c (I 3) λc=>IF c (IA 5 (a 3) (I 0) λc=>LA 5 c λc=>AL 29 z29 λd=>ST 5 d c<|SF 0 d (I 1)<|LA 5 d λc=>IA 5 (a 3) (I 0) λd=>ST 5 d c<|b [(a 3)]) (b [(a 3)]))))) λa=>b [(a 3)]) λa=>K (a 3)
theorem Lb {a0:Value}:SG GW [a0] (GZ a0):=SG.mk { at_:=[(2,[0,3]),(4,[0,3]),(5,[0,3,4]),(8,[0,3,4]),(9,[0,3,4]),(14,[3]),(16,[3])],rg:=[(5,[(10,[0,3,4,21,27])])] } func17 (by kernel_rfl) λ_=>by kernel_rfl
def Fw (a0 a1:Value) (K:Value→M):M:=
 NL 1 a0 λa=>BO .add a (I 1) λa=>NC a0 λb=>SF 1 b a<|CUT [0,1,17,23] (λa=>BO .lss a1 (I 1) λb=>GT b false (NL 0 a0 λc=>LN c λc=>BO .eql c (I 0) λc=>a [a0,a1,b,c]) (a [a0,a1,b,U])) λa=>PO (a 17) (a 23) λb=>IF b (K (I 0)) (NL 1 (a 0) λb=>BO .sub b (I 1) λb=>NL 0 (a 0) λc=>LN c λc=>BO .lss b c λc=>IF c (NL 0 (a 0) λc=>IL 1 c b λb=>X P (Go.convert 5 3 b) λb=>BO .rem b (a 1) λa=>K a) (CUT [1,6] (λc=>NF 0 (a 0) λd=>L1 d λe=>NF 0 (a 0) λf=>L1 f λg=>LN g λh=>BO .rem b h λh=>IA 1 e h λh=>L1 h λi=>NF 0 (a 0) λj=>L1 j λk=>BO .mul b (I 7) λl=>BO .add l (I 3) λl=>NF 0 (a 0) λm=>L1 m λn=>LN n λo=>BO .rem l o λl=>IA 1 k l λl=>L1 l λo=>BO .mul b (I 29) λp=>NF 0 (a 0) λq=>L1 q λr=>LN r λs=>BO .quo b s λb=>BO .mul b (I 53) λb=>ALL [X P (Go.convert 5 3 i) λs=>BO .mul s (I 131) λs=>AND (L1 j λa=>EV a k)<|AND (L1 m λa=>EV a n)<|AND (L1 l λa=>EV a o)<|AND (L1 q λa=>EV a r)<|X P (Go.convert 5 3 o) λj=>BO .mul j (I 1117) λj=>BO .add s j λj=>BO .add j p λj=>BO .add j b λj=>AND (L1 q λa=>EV a r)<|c [(a 1),j],
 X P (Go.convert 5 3 o) λj=>BO .mul j (I 1117) λj=>AND (L1 d λa=>EV a e)<|AND (L1 f λa=>EV a g)<|AND (L1 h λa=>EV a i)<|AND (L1 q λa=>EV a r)<|X P (Go.convert 5 3 i) λd=>BO .mul d (I 131) λd=>BO .add d j λd=>BO .add d p λd=>BO .add d b λb=>AND (L1 q λa=>EV a r)<|c [(a 1),b]]) λa=>BO .quo (a 6) (I 64) λb=>BO .xor (a 6) b λb=>BO .rem b (a 1) λa=>K a))
theorem Kt {a0 a1:Value}:SG EF [a0,a1] (Fw a0 a1):=SG.mk { at_:=[(9,[1,6])],rg:=[(2,[(9,[0,1,17,23])])] } func18 (by kernel_rfl) λ_=>by kernel_rfl
def Hh (a0:Value) (K:Value→M):M:=
 CUT [0,10,13] (λa=>LN a0 λb=>BO .lss b (I 2) λb=>GT b false (LN a0 λc=>BO .gtr c (I 12) λc=>a [a0,b,c]) (a [a0,b,U])) λa=>CUT [0,15,20] (λb=>PO (a 10) (a 13) λc=>GT c false (IA 5 (a 0) (I 0) λd=>LA 5 d λd=>BD (cl z29) [(0,1,(I 0)),(1,1,(I (-1)))] λe=>X P (do eqGuard .neq 29 (.tmp 18) (.tmp 19) d e;binOp .neq 29 d e) λd=>b [(a 0),c,d]) (b [(a 0),c,U])) λa=>PO (a 15) (a 20) λb=>IF b (K (.bool false)) (LP [0,3] (λa b=>LN (b 0) λc=>BO .lss (b 3) c λc=>IF c (CUT [0,3] (λa=>CUT [0,3] (λa=>IA 5 (b 0) (b 3) λc=>LA 5 c λc=>AL 29 z29 λd=>ST 5 d c<|CA P 25 [(b 3)] λc=>CUT [0,3,4,5,37,40] (λa=>LF 0 d λe=>BO .lss e (I 1) λe=>GT e false (LF 0 d λf=>BO .gtr f (I 4) λf=>a [(b 0),(b 3),d,c,e,f]) (a [(b 0),(b 3),d,c,e,U])) λb=>CUT [0,3,4,5,42,46] (λa=>PO (b 37) (b 40) λc=>GT c false (LF 2 (b 4) λd=>BO .lss d (b 5) λd=>a [(b 0),(b 3),(b 4),(b 5),c,d]) (a [(b 0),(b 3),(b 4),(b 5),c,U])) λb=>CUT [0,3,4,5,48,53] (λa=>PO (b 42) (b 46) λc=>GT c false (LF 2 (b 4) λd=>BO .add (b 5) (I 16) λe=>BO .gtr d e λd=>a [(b 0),(b 3),(b 4),(b 5),c,d]) (a [(b 0),(b 3),(b 4),(b 5),c,U])) λb=>CUT [0,3,4,5,55,59] (λa=>PO (b 48) (b 53) λc=>GT c false (LF 3 (b 4) λd=>BO .lss d (b 5) λd=>a [(b 0),(b 3),(b 4),(b 5),c,d]) (a [(b 0),(b 3),(b 4),(b 5),c,U])) λb=>CUT [0,3,4,5,61,66] (λa=>PO (b 55) (b 59) λc=>GT c false (LF 3 (b 4) λd=>LF 2 (b 4) λe=>BO .gtr d e λd=>a [(b 0),(b 3),(b 4),(b 5),c,d]) (a [(b 0),(b 3),(b 4),(b 5),c,U])) λb=>CUT [0,3,4,5,68,71] (λa=>PO (b 61) (b 66) λc=>GT c false (LF 4 (b 4) λd=>BO .lss d (I 0) λd=>a [(b 0),(b 3),(b 4),(b 5),c,d]) (a [(b 0),(b 3),(b 4),(b 5),c,U])) λb=>CUT [0,3,4,5,73,80] (λa=>PO (b 68) (b 71) λc=>GT c false (LF 4 (b 4) λd=>LF 2 (b 4) λe=>BO .sub e (b 5) λe=>BO .gtr d e λd=>a [(b 0),(b 3),(b 4),(b 5),c,d]) (a [(b 0),(b 3),(b 4),(b 5),c,U])) λb=>PO (b 73) (b 80) λc=>IF c (K (.bool false)) (CUT [0,3,4,85,89] (λa=>LF 0 (b 4) λc=>BO .eql c (I 1) λc=>GT c true (LF 2 (b 4) λd=>BO .neq d (b 5) λd=>a [(b 0),(b 3),(b 4),c,d]) (a [(b 0),(b 3),(b 4),c,U])) λb=>PA (b 85) (b 89) λc=>IF c (K (.bool false)) (CUT [0,3,4,98,101] (λa=>LF 0 (b 4) λc=>BO .eql c (I 2) λc=>LF 1 (b 4) λd=>BO .geq d (I 0) λd=>X P (do eqGuard .neq 4 (.tmp 93) (.tmp 96) c d;binOp .neq 4 c d) λc=>GT c false (LF 1 (b 4) λd=>BO .lss d (I (-1)) λd=>a [(b 0),(b 3),(b 4),c,d]) (a [(b 0),(b 3),(b 4),c,U])) λb=>CUT [0,3,4,103,106] (λa=>PO (b 98) (b 101) λc=>GT c false (LF 1 (b 4) λd=>BO .gtr d (I 3) λd=>a [(b 0),(b 3),(b 4),c,d]) (a [(b 0),(b 3),(b 4),c,U])) λb=>PO (b 103) (b 106) λc=>IF c (K (.bool false)) (CUT [0,3] (λa=>LP [0,3,4,6] (λb c=>BO .lss (c 6) (c 3) λd=>IF d (CUT [0,3,4,6,116,124] (λa=>LF 1 (c 4) λb=>BO .geq b (I 0) λb=>GT b true (IA 5 (c 0) (c 6) λd=>LF 1 d λd=>LF 1 (c 4) λe=>BO .eql d e λd=>a [(c 0),(c 3),(c 4),(c 6),b,d]) (a [(c 0),(c 3),(c 4),(c 6),b,U])) λa=>PA (a 116) (a 124) λc=>IF c (K (.bool false)) (BO .add (a 6) (I 1) λc=>b [(a 0),(a 3),(a 4),c])) (a [(c 0),(c 3)])) [(b 0),(b 3),(b 4),(I 1)]) λb=>a [(b 0),(b 3)])))) λb=>a [(b 0),(b 3)]) λb=>BO .add (b 3) (I 1) λc=>a [(b 0),c]) (K (.bool true))) [(a 0),(I 1)])
theorem Mu {a0:Value}:SG Hx [a0] (Hh a0):=SG.mk { at_:=[(7,[0,3]),(10,[0,3]),(11,[0,3]),(24,[0,3]),(25,[0,3,4,6])],rg:=[(1,[(7,[0,10,13]),(7,[0,15,20])]),(8,[(7,[0,3,4,5,37,40]),(6,[0,3,4,5,42,46]),(7,[0,3,4,5,48,53]),(6,[0,3,4,5,55,59]),(7,[0,3,4,5,61,66]),(5,[0,3,4,5,68,71]),(9,[0,3,4,5,73,80])]),(10,[(8,[0,3,4,85,89])]),(12,[(11,[0,3,4,98,101]),(5,[0,3,4,103,106])])],dr:=[(17,[(0,[(12,[0,3,4,6,116,124])])])] } func23 (by kernel_rfl) λ_=>by kernel_rfl
def L5 (a0 a1:Value) (K:Value→M):M:=
 LP [0,1,5] (λa b=>LN (b 0) λc=>BO .lss (b 5) c λc=>IF c (CUT [0,1,5,18,25] (λa=>IA 5 (b 0) (b 5) λc=>LF 0 c λc=>BO .eql c (I 2) λc=>GT c true (IA 5 (b 0) (b 5) λd=>LF 1 d λd=>BO .eql d (b 1) λd=>a [(b 0),(b 1),(b 5),c,d]) (a [(b 0),(b 1),(b 5),c,U])) λb=>PA (b 18) (b 25) λc=>IF c (K (b 5)) (BO .add (b 5) (I 1) λc=>a [(b 0),(b 1),c])) (K (I (-1)))) [a0,a1,(I 1)]
theorem Q6 {a0 a1:Value}:SG LL [a0,a1] (L5 a0 a1):=SG.mk { at_:=[(4,[0,1,5])],rg:=[(4,[(14,[0,1,5,18,25])])] } func24 (by kernel_rfl) λ_=>by kernel_rfl
def Dm (a0:Value) (K:Value→M):M:=
 CUT [0,5,7] (λa=>BO .lss a0 (I 0) λb=>GT b false (BO .geq a0 (I 12) λc=>a [a0,b,c]) (a [a0,b,U])) λa=>PO (a 5) (a 7) λb=>IF b (K (I 0)) (BO .mul (a 0) (I 16) λa=>K a)
theorem JO {a0:Value}:SG F1 [a0] (Dm a0):=SG.mk { rg:=[(1,[(5,[0,5,7])])] } func25 (by kernel_rfl) λ_=>by kernel_rfl
def JV (a0:Value) (K:Value→M):M:=
 BS 29 0 (ZR 0 z29) [] λa=>AP 29 5 40 (cl z29) a a0 λa=>K a
theorem P8 {a0:Value}:SG Iv [a0] (JV a0):=SG.mk {} func26 (by kernel_rfl) λ_=>by kernel_rfl
def F0 (a0 a1:Value) (K:Value→M):M:=
 CUT [0,1,11,13] (λa=>CA P 23 [a0] λb=>NT b λb=>GT b false (BO .lss a1 (I 1) λc=>a [a0,a1,b,c]) (a [a0,a1,b,U])) λa=>CUT [0,1,15,19] (λb=>PO (a 11) (a 13) λc=>GT c false (LN (a 0) λd=>BO .geq (a 1) d λd=>b [(a 0),(a 1),c,d]) (b [(a 0),(a 1),c,U])) λa=>CUT [0,1,21,27] (λb=>PO (a 15) (a 19) λc=>GT c false (IA 5 (a 0) (a 1) λd=>LF 0 d λd=>BO .neq d (I 2) λd=>b [(a 0),(a 1),c,d]) (b [(a 0),(a 1),c,U])) λa=>PO (a 21) (a 27) λb=>IF b (K (.tuple #[(.slice none 0 0),(.bool false)])) (CA P 26 [(a 0)] λb=>IA 5 b (a 1) λc=>LA 5 c λc=>AL 29 z29 λd=>ST 5 d c<|SF 0 d (I 3)<|SF 1 d (I (-1))<|LA 5 d λc=>IA 5 b (a 1) λa=>ST 5 a c<|K (.tuple #[b,(.bool true)]))
theorem JA {a0 a1:Value}:SG FE [a0,a1] (F0 a0 a1):=SG.mk { rg:=[(1,[(6,[0,1,11,13]),(6,[0,1,15,19]),(8,[0,1,21,27])])] } func27 (by kernel_rfl) λ_=>by kernel_rfl
def Fh (a0 a1:Value) (K:Value→M):M:=
 CUT [0,1,12,14] (λa=>CA P 23 [a0] λb=>NT b λb=>GT b false (BO .lss a1 (I 0) λc=>a [a0,a1,b,c]) (a [a0,a1,b,U])) λa=>CUT [0,1,16,18] (λb=>PO (a 12) (a 14) λc=>GT c false (BO .gtr (a 1) (I 3) λd=>b [(a 0),(a 1),c,d]) (b [(a 0),(a 1),c,U])) λa=>CUT [0,1,20,24] (λb=>PO (a 16) (a 18) λc=>GT c false (CA P 24 [(a 0),(a 1)] λd=>BO .geq d (I 0) λd=>b [(a 0),(a 1),c,d]) (b [(a 0),(a 1),c,U])) λa=>PO (a 20) (a 24) λb=>IF b (K (.tuple #[(.slice none 0 0),(I 0),(.bool false)])) (CUT [] (λb=>LP [0,1,7] (λa c=>LN (c 0) λd=>BO .lss (c 7) d λd=>IF d (IA 5 (c 0) (c 7) λb=>LF 0 b λb=>BO .eql b (I 1) λb=>IF b (CA P 26 [(c 0)] λa=>CA P 25 [(c 7)] λb=>CA P 25 [(c 7)] λd=>BD (cl z29) [(0,1,(I 2)),(1,1,(c 1)),(2,1,b),(3,1,d)] λb=>IA 5 a (c 7) λd=>ST 5 d b<|K (.tuple #[a,(c 7),(.bool true)])) (BO .add (c 7) (I 1) λb=>a [(c 0),(c 1),b])) (b [])) [(a 0),(a 1),(I 1)]) λa=>K (.tuple #[(.slice none 0 0),(I 0),(.bool false)]))
theorem Kj {a0 a1:Value}:SG Fb [a0,a1] (Fh a0 a1):=SG.mk { at_:=[(4,[]),(7,[0,1,7])],rg:=[(1,[(6,[0,1,12,14]),(4,[0,1,16,18]),(6,[0,1,20,24])])] } func28 (by kernel_rfl) λ_=>by kernel_rfl
def Md (K:Value→M):M:=
 AL 29 z29 λa=>BD (cl z29) [(1,1,(I (-1)))] λb=>ST 5 a b<|LA 5 a λa=>K a
theorem Qv:SG Mf [] (Md):=SG.mk {} func29 (by kernel_rfl) λ_=>by kernel_rfl
def Fj (a0 a1:Value) (K:Value→M):M:=
 AL 29 a0 λa=>CA P 15 [a1] λb=>CUT [2,5,11,14] (λc=>LF 0 a λd=>BO .lss d (I 1) λd=>GT d false (LF 0 a λe=>BO .gtr e (I 4) λe=>c [a,b,d,e]) (c [a,b,d,U])) λa=>CUT [2,5,16,20] (λb=>PO (a 11) (a 14) λc=>GT c false (LF 2 (a 2) λd=>BO .lss d (a 5) λd=>b [(a 2),(a 5),c,d]) (b [(a 2),(a 5),c,U])) λa=>CUT [2,5,22,27] (λb=>PO (a 16) (a 20) λc=>GT c false (LF 2 (a 2) λd=>BO .add (a 5) (I 16) λe=>BO .gtr d e λd=>b [(a 2),(a 5),c,d]) (b [(a 2),(a 5),c,U])) λa=>CUT [2,5,29,33] (λb=>PO (a 22) (a 27) λc=>GT c false (LF 3 (a 2) λd=>BO .lss d (a 5) λd=>b [(a 2),(a 5),c,d]) (b [(a 2),(a 5),c,U])) λa=>CUT [2,5,35,40] (λb=>PO (a 29) (a 33) λc=>GT c false (LF 3 (a 2) λd=>LF 2 (a 2) λe=>BO .gtr d e λd=>b [(a 2),(a 5),c,d]) (b [(a 2),(a 5),c,U])) λa=>CUT [2,5,42,45] (λb=>PO (a 35) (a 40) λc=>GT c false (LF 4 (a 2) λd=>BO .lss d (I 0) λd=>b [(a 2),(a 5),c,d]) (b [(a 2),(a 5),c,U])) λa=>CUT [2,5,47,54] (λb=>PO (a 42) (a 45) λc=>GT c false (LF 4 (a 2) λd=>LF 2 (a 2) λe=>BO .sub e (a 5) λe=>BO .gtr d e λd=>b [(a 2),(a 5),c,d]) (b [(a 2),(a 5),c,U])) λa=>PO (a 47) (a 54) λb=>IF b (K (.bool false)) (CUT [2,59,63] (λb=>LF 0 (a 2) λc=>BO .eql c (I 1) λc=>GT c true (LF 2 (a 2) λd=>BO .neq d (a 5) λd=>b [(a 2),c,d]) (b [(a 2),c,U])) λa=>PA (a 59) (a 63) λb=>IF b (K (.bool false)) (LF 0 (a 2) λb=>BO .eql b (I 2) λb=>IF b (CUT [71,74] (λb=>LF 1 (a 2) λc=>BO .geq c (I 0) λc=>GT c true (LF 1 (a 2) λa=>BO .leq a (I 3) λa=>b [c,a]) (b [c,U])) λa=>PA (a 71) (a 74) λa=>K a) (LF 1 (a 2) λa=>BO .eql a (I (-1)) λa=>K a)))
theorem Kl {a0 a1:Value}:SG Fr [a0,a1] (Fj a0 a1):=SG.mk { rg:=[(2,[(7,[2,5,11,14]),(6,[2,5,16,20]),(7,[2,5,22,27]),(6,[2,5,29,33]),(7,[2,5,35,40]),(5,[2,5,42,45]),(9,[2,5,47,54])]),(4,[(8,[2,59,63])]),(7,[(7,[71,74])])] } func30 (by kernel_rfl) λ_=>by kernel_rfl
def E4 (a0 a1:Value) (K:Value→M):M:=
 CA P 42 [a0,a1] λa=>BO .geq a (I 0) λa=>K a
theorem Gz {a0 a1:Value}:SG EA [a0,a1] (E4 a0 a1):=SG.mk {} func31 (by kernel_rfl) λ_=>by kernel_rfl
def Ce (a0 a1:Value) (K:Value→M):M:=
 LN a0 λa=>CA P 43 [a0,a,a1] λa=>K (.tuple #[])
theorem DM {a0 a1:Value}:SG Ca [a0,a1] (Ce a0 a1):=SG.mk {} func32 (by kernel_rfl) λ_=>by kernel_rfl
def E3 (a0 a1 a2:Value) (K:Value→M):M:=
 L1 a2 λa=>IA 5 a a0 λa=>LF 4 a λa=>L1 a2 λb=>IA 5 b a1 λb=>LF 4 b λb=>CA P 34 [a,b] λa=>K a
theorem GX {a0 a1 a2:Value}:SG E5 [a0,a1,a2] (E3 a0 a1 a2):=SG.mk {} func33 (by kernel_rfl) λ_=>by kernel_rfl
def Fs (a0 a1:Value) (K:Value→M):M:=
 CA P 44 [a0] λa=>CA P 44 [a1] λb=>IF a (IF b (K (I 0)) (K (I (-1)))) (IF b (K (I 1)) (BO .lss a0 a1 λa=>IF a (K (I (-1))) (BO .gtr a0 a1 λa=>IF a (K (I 1)) (K (I 0)))))
theorem Kd {a0 a1:Value}:SG G7 [a0,a1] (Fs a0 a1):=SG.mk {} func34 (by kernel_rfl) λ_=>by kernel_rfl
def LH (a0 a1:Value) (K:Value→M):M:=
 LP [0,1,5] (λa b=>LN (b 0) λc=>BO .lss (b 5) c λc=>IF c (IL 1 (b 0) (b 5) λc=>BO .eql c (b 1) λc=>IF c (K (.bool true)) (BO .add (b 5) (I 1) λc=>a [(b 0),(b 1),c])) (K (.bool false))) [a0,a1,(I 0)]
theorem Qd {a0 a1:Value}:SG LT [a0,a1] (LH a0 a1):=SG.mk { at_:=[(4,[0,1,5])] } func35 (by kernel_rfl) λ_=>by kernel_rfl
def Gx (a0:Value) (K:Value→M):M:=
 AL 58 z58 λa=>CA P 45 [a0] λb=>AL 67 z67 λc=>ST 3 c b<|LA 3 c λb=>CA P 46 [a0,b] λb=>LA 3 c λd=>CA P 18 [a0,(I 500)] λe=>BO .add (I 40) e λe=>AND (LA 3 c λa=>EV a d)<|CA P 47 [a0,d,e] λd=>CUT [0,2,3,4,5] (λe=>CA P 18 [a0,(I 3)] λf=>BO .gtr f (I 0) λf=>IF f (CA P 48 [a0] λb=>EX 0 b λd=>EX 1 b λf=>EX 2 b λb=>ST 3 c d<|e [a0,a,c,f,b]) (e [a0,a,c,b,d])) λa=>LA 3 (a 3) λb=>CA P 49 [b,(a 4),(a 5)] λb=>EX 0 b λc=>EX 1 b λb=>AL 58 z58 λb=>ST 13 b c<|CUT [2,6] (λc=>CA P 18 [(a 0),(I 40)] λd=>CUT [2,6] (λc=>BO .eql d (I 0) λe=>IF e (FO 0 b λd=>L1 d λe=>LF 0 b λf=>LN f λf=>CA P 18 [(a 0),f] λf=>AND (L1 d λa=>EV a e)<|CA P 18 [(a 0),(I 40)] λg=>IA 1 e f λf=>AND (L1 d λa=>EV a e)<|ST 1 f g<|c [(a 2),b]) (BO .eql d (I 1) λe=>IF e (LF 8 b λd=>IA 4 d (I 0) λd=>LA 4 d λd=>AL 78 z78 λe=>ST 4 e d<|LF 0 e λd=>FO 0 b λf=>L1 f λg=>LN g λh=>CA P 50 [d] λd=>AND (L1 f λa=>EV a g)<|CA P 18 [(a 0),h] λf=>BS 3 1 (ZR 1 z3) [(0,1,f)] λf=>AP 3 1 8 (cl z3) d f λd=>SF 0 e d<|LF 8 b λd=>LA 4 e λe=>IA 4 d (I 0) λd=>ST 4 d e<|c [(a 2),b]) (BO .eql d (I 2) λe=>IF e (LF 1 b λd=>LN d λd=>BO .sub d (I 1) λd=>CA P 18 [(a 0),d] λd=>BO .add (I 1) d λd=>LF 1 b λe=>IA 5 e d λe=>LA 5 e λe=>AL 29 z29 λf=>ST 5 f e<|FO 2 f λe=>L1 e λg=>CA P 18 [(a 0),(I 3)] λh=>BO .add g h λh=>BO .sub h (I 1) λh=>FO 2 f λi=>AND (L1 e λa=>EV a g)<|ST 1 i h<|LF 1 b λe=>LA 5 f λf=>IA 5 e d λd=>ST 5 d f<|c [(a 2),b]) (BO .eql d (I 3) λe=>IF e (BS 3 3 (ZR 3 z3) [(0,1,(I (-1))),(1,1,(I 4)),(2,1,(I 2))] λd=>CA P 18 [(a 0),(I 3)] λe=>IL 1 d e λd=>SF 3 b d<|c [(a 2),b]) (BO .eql d (I 4) λe=>IF e (LF 8 b λd=>IA 4 d (I 0) λd=>LA 4 d λd=>AL 78 z78 λe=>ST 4 e d<|LF 2 e λd=>NT d λd=>SF 2 e d<|LF 8 b λd=>LA 4 e λe=>IA 4 d (I 0) λd=>ST 4 d e<|c [(a 2),b]) (BO .eql d (I 5) λd=>IF d (LF 1 b λd=>LN d λd=>BO .sub d (I 1) λd=>CA P 18 [(a 0),d] λd=>BO .add (I 1) d λd=>LF 1 b λe=>IA 5 e d λe=>LA 5 e λe=>AL 29 z29 λf=>ST 5 f e<|CA P 18 [(a 0),(I 6)] λe=>SF 0 f e<|LF 1 b λe=>LA 5 f λf=>IA 5 e d λd=>ST 5 d f<|c [(a 2),b]) (c [(a 2),b]))))))) λa=>c [(a 2),(a 6)]) λa=>LA 13 (a 6) λb=>ST 13 (a 2) b<|LA 13 (a 2) λa=>K a
theorem M1 {a0:Value}:SG Gn [a0] (Gx a0):=SG.mk { at_:=[(4,[0,2,3,4,5]),(7,[2,6]),(9,[2,6])] } func36 (by kernel_rfl) λ_=>by kernel_rfl
end Go.Lf
end
