/- A part of the proof of the given row: the walk of the law and of all that it calls. Conditions: none. -/
import Derived.Test.YtoajhnhjmhdfdaaGreatProg
import Derived.KernelRfl
import Derived.Test.YtoajhnhjmhdfdaaGreatVA
set_option linter.unusedVariables false
set_option linter.unusedSimpArgs false
section
namespace Go.Lf
open Go
section
variable {P:Program}
def opNames (l:List Oper) (o:Oper):List Nat:=(o.op.operands.toList.filterMap λ | .tmp t=>some t | _=>none) ++ (match o.guard with | some (j,_)=>(dstAt l j).toList | none=>[])
def orE (bef:List Nat):List Edge→Nat
 | []=>0
 | e :: r=>bif Region.binds .any e then Nat.lor (Nat.lor (2 ^ e.on) (bef.getD e.on 0)) (orE bef r) else orE bef r
def pairOk (P:Program) (l:List Oper) (bef:List Nat) (i j:Nat):Bool:=match l[i]?,l[j]? with
 | some oi,some oj=>(match oi.dst with
  | none=>true
  | some d=>
   let touched:=(opNames l oj).contains d || (oj.dst == some d)
   bif quiet P oi then !(oj.dst == some d) && (!((opNames l oj).contains d) || Nat.testBit (bef.getD j 0) i)
   else !touched || Nat.testBit (bef.getD j 0) i || Nat.testBit (bef.getD i 0) j)
 | _,_=>true
def drawOk (P:Program) (ops:Array Oper):Bool:=
 let l:=ops.toList
 let bef:=(dinfo P l).bef
 P.follows .mixedOrders && Region.noSelect ops &&
 (List.range l.length).all (λi=>match l[i]? with
  | some o=>Nat.beq (bef.getD i 0) (orE bef o.after.toList) && o.after.toList.all (λe=>!Region.binds .any e || Nat.blt e.on i) && (!quiet P o || (match o.dst with | some d=>!(opNames l o).contains d | none=>false))
  | none=>false) &&
 (List.range l.length).all λi=>(List.range l.length).all λj=>Nat.beq i j || pairOk P l bef i j
theorem orE_bit {bef:List Nat} {k:Nat}:∀{es:List Edge},Nat.testBit (orE bef es) k = true↔∃e∈es,Region.binds .any e = true∧(e.on = k∨Nat.testBit (bef.getD e.on 0) k = true):=by
 intro es;induction es with
 | nil=>simp[orE]
 | cons e r ih=>
  simp only[orE]
  cases hb:Region.binds .any e with
  | false=>simp[hb,ih]
  | true=>
   have e1:∀a b:Nat,Nat.lor a b = a ||| b:=λ_ _=>rfl
   simp only[cond_true,e1,Nat.testBit_or,Bool.or_eq_true,ih,Nat.testBit_two_pow,z_d,List.mem_cons,exists_eq_or_imp,hb,true_and]
theorem mask_bit {p:Nat→Bool} {k:Nat}:∀{l:List Nat},Nat.testBit (maskOf p l) k = true↔k∈l∧p k = true:=by
 intro l;induction l with
 | nil=>simp[maskOf]
 | cons i r ih=>
  simp only[maskOf]
  have e1:∀a b:Nat,Nat.lor a b = a ||| b:=λ_ _=>rfl
  cases hp:p i with
  | false=>
   simp only[cond_false,ih,List.mem_cons]
   constructor
   ·rintro⟨h1,h2⟩;exact⟨.inr h1,h2⟩
   ·rintro⟨rfl | h1,h2⟩
    ·rw[hp] at h2;cases h2
    ·exact⟨h1,h2⟩
  | true=>
   simp only[cond_true,e1,Nat.testBit_or,Bool.or_eq_true,ih,Nat.testBit_two_pow,z_d,List.mem_cons]
   constructor
   ·rintro (rfl | ⟨h1,h2⟩)
    ·exact⟨.inl rfl,hp⟩
    ·exact⟨.inr h1,h2⟩
   ·rintro⟨rfl | h1,h2⟩
    ·exact .inl rfl
    ·exact .inr ⟨h1,h2⟩
theorem sub_bit {a b:Nat}:sub a b = true↔∀k,Nat.testBit a k = true→Nat.testBit b k = true:=by
 unfold sub
 have e1:Nat.land a b = a &&& b:=rfl
 rw[e1]
 constructor
 ·intro h k hk
  rw[← nb_eq h,Nat.testBit_and] at hk
  simp at hk;exact hk.2
 ·intro h
  have heq:a &&& b = a:=by
   apply Nat.eq_of_testBit_eq
   intro k
   rw[Nat.testBit_and]
   cases ha:a.testBit k with
   | false=>simp
   | true=>simp[h k ha]
  rw[heq];exact Nat.beq_refl a
def wantE (l:List Oper) (o:Oper) (e:Env):Bool:=match o.guard with
 | none=>true
 | some (j,w)=>match dstAt l j with
  | some d=>(match e d with | .bool b=>b == w | _=>false)
  | none=>false
def QV (P:Program) (l:List Oper) (o:Oper) (e:Env) (v:Value) (h:Heap):Prop:=
 (wantE l o e = true∧opK P (ev e) o (λu h'=>u = v∧h' = h) h)∨(wantE l o e = false∧v = undef)
def Vq (P:Program) (l:List Oper) (o:Oper) (e:Env) (h:Heap):Prop:=∃d,o.dst = some d∧QV P l o e (e d) h
theorem parts_congr {ρ ρ' : Operand→Value} {pl:List (Nat × Nat)}:∀{ps:List (Nat × Operand)},(∀p∈ps,ρ' p.2 = ρ p.2)→parts ρ' pl ps = parts ρ pl ps:=by
 intro ps;induction ps with
 | nil=>intro _;rfl
 | cons p r ih=>intro h;obtain⟨i,x⟩:=p;simp only[parts,ih (λq hq=>h q (List.mem_cons_of_mem _ hq)),show ρ' x = ρ x from h (i,x) (List.mem_cons_self ..)]
theorem optO_congr {ρ ρ' : Operand→Value} {o:Option Operand} (h:∀x∈o,ρ' x = ρ x):optO ρ' o = optO ρ o:=by
 cases o with
 | none=>rfl
 | some x=>simp only[optO,h x rfl]
theorem opK_congr {ρ ρ' : Operand→Value} {o:Oper} (hq:quiet P o = true) (h:∀x∈o.op.operands,ρ' x = ρ x) (k:Value→M):opK P ρ' o k = opK P ρ o k:=by
 obtain⟨dst,op,type,pos,after,guard⟩:=o
 cases op<;>simp only[quiet,Bool.false_eq_true] at hq<;>simp only[Op.operands] at h<;>dsimp only[opK]
 case move=>rw[h _ (by simp)]
 case pick=>rw[h _ (by simp),h _ (by simp),h _ (by simp)]
 case build t ps=>
  have e1:∀pl,parts ρ' pl ps.toList = parts ρ pl ps.toList:=λpl=>parts_congr (λp hp=>h p.2 (by simp;exact⟨p.1,by simpa using hp⟩))
  simp only[e1]
 case load=>rw[h _ (by simp)]
 case nilCheck=>rw[h _ (by simp)]
 case binOp op t x y u=>
  cases hu:und P t<;>simp only[hu,Bool.false_eq_true] at hq<;>simp only[h x (by simp),h y (by simp)]
 case unOp op t x=>cases op<;>simp only[Bool.false_eq_true] at hq;simp only[h x (by simp)]
 case makeFunc fn a b=>
  have e1:Array.map ρ' a = Array.map ρ a:=Array.map_congr_left λx hx=>h x (by simp[hx])
  have e2:Array.map ρ' b = Array.map ρ b:=Array.map_congr_left λx hx=>h x (by simp[hx])
  rw[e1,e2]
 case slice t x lo hi mx=>
  cases mx with
  | some m=>simp at hq
  | none=>
   have e1:optO ρ' lo = optO ρ lo:=optO_congr λy hy=>h y (by cases lo<;>simp_all)
   have e2:optO ρ' hi = optO ρ hi:=optO_congr λy hy=>h y (by cases hi<;>simp_all)
   simp only at hq ⊢
   cases hu:und P t<;>simp only[hu,Bool.false_eq_true] at hq<;>simp only[h x (by simp),e1,e2]
 case fieldAddr t x f=>simp only[h x (by simp)]
 case field t x f=>simp only[h x (by simp)]
 case indexAddr t x i=>simp only[h x (by simp),h i (by simp)]
 case index t x i=>simp only[h x (by simp),h i (by simp)]
 case extract x i=>simp only[h x (by simp)]
 case call c=>
  obtain⟨callee,args,at_⟩:=c
  cases callee<;>try (simp at hq;done)
  rename_i b
  cases b<;>try (simp at hq;done)
  have e1:Array.map ρ' args = Array.map ρ args:=Array.map_congr_left λx hx=>h x (by simp[Call.operands,hx])
  obtain⟨at_⟩:=at_
  obtain⟨args⟩:=args
  dsimp only
  rcases args with _ | ⟨x,_ | ⟨y,r⟩⟩
  ·rfl
  ·have e2:ρ' x = ρ x:=h x (by simp[Call.operands])
   rcases at_ with _ | ⟨t,_ | ⟨u,r⟩⟩
   ·rfl
   ·dsimp only;simp only[e2,e1]
   ·rfl
  ·rfl
theorem ev_op {l:List Oper} {o:Oper} {e e' : Env} (h:∀t∈opNames l o,e' t = e t):∀x∈o.op.operands,ev e' x = ev e x:=by
 intro x hx
 cases x<;>simp only[ev]
 rename_i t
 exact h t (List.mem_append_left _ (List.mem_filterMap.2 ⟨.tmp t,by simpa using hx,rfl⟩))
theorem want_congr {l:List Oper} {o:Oper} {e e' : Env} (h:∀t∈opNames l o,e' t = e t):wantE l o e' = wantE l o e:=by
 unfold wantE
 cases hg:o.guard with
 | none=>rfl
 | some jw=>
  obtain⟨j,w⟩:=jw
  simp only
  cases hd:dstAt l j with
  | none=>rfl
  | some d=>
   have:e' d = e d:=h d (List.mem_append_right _ (by simp[hg,hd]))
   simp only[this]
theorem QV.congr {l:List Oper} {o:Oper} (hq:quiet P o = true) {e e' : Env} {v:Value} {h:Heap} (h1:∀t∈opNames l o,e' t = e t) (hv:QV P l o e v h):QV P l o e' v h:=by
 unfold QV at hv ⊢
 rw[want_congr h1,opK_congr hq (ev_op h1)]
 exact hv
theorem Vq.congr {l:List Oper} {o:Oper} (hq:quiet P o = true) {e e' : Env} {h:Heap} (h1:∀t∈opNames l o,e' t = e t) (h2:∀d,o.dst = some d→e' d = e d) (hv:Vq P l o e h):Vq P l o e' h:=by
 obtain⟨d,hd,hv⟩:=hv
 exact⟨d,hd,by rw[h2 d hd];exact hv.congr hq h1⟩
theorem val_only {s:Sem Value} {w:World} {x:Next} {w' : World} (h:(do pure (Next.value (← s)):Sem Next).run P w = .ok x w'):∃v,x = .value v:=by
 simp only[Sem.run_bind] at h
 cases hs:s.run P w with
 | halt y w2=>rw[hs] at h;simp at h
 | ok v w2=>rw[hs] at h;simp at h;exact⟨v,h.1.symm⟩
theorem quiet_val {ρ:Operand→Value} {o:Oper} (hq:quiet P o = true) (hk:∃k h,opK P ρ o k h) {w:World} {x:Next} {w' : World} (h:(execOp ρ o).run P w = .ok x w'):∃v,x = .value v:=by
 obtain⟨dst,op,type,pos,after,guard⟩:=o
 cases op<;>simp only[quiet,Bool.false_eq_true] at hq<;>dsimp only[execOp] at h
 case move=>exact⟨_,(by simp at h;exact h.1.symm)⟩
 case pick c a b=>
  generalize ρ c = v at h
  cases v<;>simp[asBool] at h
  exact⟨_,h.1.symm⟩
 case nilCheck x=>
  obtain⟨k,hh,hk⟩:=hk
  dsimp only[opK] at hk
  generalize ρ x = v at h hk
  cases v<;>try exact hk.elim
  case pointer a=>cases a with
   | none=>exact hk.elim
   | some a=>exact⟨_,(by simp at h;exact h.1.symm)⟩
  case func f a b=>cases f<;>first | exact hk.elim | exact⟨_,(by simp at h;exact h.1.symm)⟩
 case unOp op t x=>cases op<;>simp only[Bool.false_eq_true] at hq;exact val_only h
 case call c=>
  obtain⟨callee,args,at_⟩:=c
  cases callee<;>try (simp at hq;done)
  rename_i b
  cases b<;>try (simp at hq;done)
  simp only[resolve,Sem.run_bind,Sem.run_pure,Result.andThen_ok,invoke,Go.builtin] at h
  exact val_only (s:=Builtin.len_ at_ type (args.map ρ)) (by simpa using h)
 all_goals exact val_only h
theorem QV.run {l:List Oper} {o:Oper} {e:Env} {v:Value} {h:Heap} (hq:quiet P o = true) (hv:QV P l o e v h) :
  (wantE l o e = true∧∀w:World,w.heap = h→∃w',(execOp (ev e) o).run P w = .ok (.value v) w'∧Same w w'∧w'.heap = h)∨(wantE l o e = false∧v = undef):=by
 rcases hv with ⟨hw,hv⟩ | hv
 ·refine .inl ⟨hw,λw hwh=>?_⟩
  subst hwh
  have:=opK_sound (P:=P) (w:=w) (λf=>rfl) o hv
  cases hr:(execOp (ev e) o).run P w with
  | halt x w'=>rw[hr] at this;exact this.elim
  | ok x w'=>
   rw[hr] at this
   obtain⟨u,rfl⟩:=quiet_val hq ⟨_,_,hv⟩ hr
   exact⟨w',by rw[this.2.1],this.1,this.2.2⟩
 ·exact .inr hv
theorem opG_quiet {l:List Oper} {o:Oper} {kn:Kn} {e:Env} {k:Kn→Value→M} {h:Heap} (hq:quiet P o = true) (hkn:KnOk l kn e) (hG:opG P l o kn e k h) :
  ∃v kn',KnOk l kn' (put e o.dst v)∧k kn' v h∧QV P l o e v h:=by
 have hrun:∀kn',KnOk l kn' e→wantE l o e = true→opK P (ev e) o (k (knDrop l o.dst kn')) h→∃v kn',KnOk l kn' (put e o.dst v)∧k kn' v h∧QV P l o e v h:=by
  intro kn' hk' hw hh
  obtain⟨v,h1,h2⟩:=quiet_det o hq _ h hh
  exact⟨v,_,hk'.drop _ v,h1,.inl ⟨hw,h2⟩⟩
 unfold opG at hG
 cases hg:o.guard with
 | none=>simp only[hg] at hG;exact hrun kn hkn (by simp[wantE,hg]) hG
 | some jw=>
  obtain⟨j,want⟩:=jw
  simp only[hg] at hG
  cases hk:knGet kn j want with
  | some t=>
   obtain⟨d,hd,he⟩:=hkn _ (knGet_mem hk)
   simp only at hd he
   have hw:wantE l o e = t:=by simp only[wantE,hg,hd];exact he
   cases t with
   | true=>simp only[hk] at hG;exact hrun kn hkn hw hG
   | false=>simp only[hk] at hG;exact⟨undef,_,hkn.drop _ _,hG,.inr ⟨hw,rfl⟩⟩
  | none=>
   simp only[hk] at hG
   cases hd:dstAt l j with
   | none=>simp only[hd] at hG;exact hG.elim
   | some d=>
    simp only[hd] at hG
    have hk1:∀t,(match e d with | .bool b=>b == want | _=>false) = t→KnOk l (((j,want),t) :: kn) e:=by
     intro t ht g hgm
     rcases List.mem_cons.1 hgm with rfl | hgm
     ·exact⟨d,hd,ht⟩
     ·exact hkn g hgm
    have hw:wantE l o e = (match e d with | .bool b=>b == want | _=>false):=by simp only[wantE,hg,hd]
    cases hb:(match e d with | .bool b=>b == want | _=>false) with
    | true=>
     refine hrun _ (hk1 true hb) (hw.trans hb) ?_
     generalize e d = v at hb hG
     cases v<;>simp at hb
     subst hb
     simpa [GT] using hG
    | false=>
     refine⟨undef,_,(hk1 false hb).drop _ _,?_,.inr ⟨hw.trans hb,rfl⟩⟩
     generalize e d = v at hb hG
     cases v<;>simp at hb<;>try exact hG
     rename_i b
     have:(b == want) = false:=by simpa using hb
     simp only[GT,this,cond_false] at hG
     exact hG
theorem put_other {e:Env} {d:Option Nat} {v:Value} {t:Nat} (h:d≠some t):put e d v t = e t:=by
 cases d with
 | none=>rfl
 | some d=>simp only[put,upd];rw[nb_ne (λhh=>h (by rw[hh]))];rfl
theorem put_self {e:Env} {d:Nat} {v:Value}:put e (some d) v d = v:=by simp[put,upd]
def Clean (l:List Oper) (i j:Nat):Prop:=∀oi oj d,l[i]? = some oi→l[j]? = some oj→oj.dst = some d→d ∉ opNames l oi∧oi.dst≠some d
theorem dnew_sound {l:List Oper} {h:Heap}   :
  ∀(r:List Nat) (kn:Kn) (e:Env) (K:Kn→Env→M),KnOk l kn e→(∀i∈r,∃o,l[i]? = some o∧quiet P o = true∧o.dst.isSome = true)→r.Pairwise (Clean l)→(∀i∈r,∀o,l[i]? = some o→∀d,o.dst = some d→d ∉ opNames l o)→
  dnew P l r kn e K h→∃kn3 e3,K kn3 e3 h∧KnOk l kn3 e3∧(∀t,(∀i∈r,∀o,l[i]? = some o→o.dst≠some t)→e3 t = e t)∧∀i∈r,∀o,l[i]? = some o→Vq P l o e3 h:=by
 intro r;induction r with
 | nil=>intro kn e K hkn _ _ _ hh;exact⟨kn,e,hh,hkn,λt _=>rfl,λi hi=>by cases hi⟩
 | cons i r ih=>
  intro kn e K hkn hq hp hself hh
  obtain⟨o,ho,hqo,hds⟩:=hq i (List.mem_cons_self ..)
  obtain⟨d,hd⟩:=Option.isSome_iff_exists.1 hds
  simp only[dnew,ho] at hh
  obtain⟨v,kn',hk',hh,hv⟩:=opG_quiet hqo hkn hh
  have hp':=List.pairwise_cons.1 hp
  obtain⟨kn3,e3,h1,h2,h3,h4⟩:=ih kn' (put e o.dst v) K hk' (λj hj=>hq j (List.mem_cons_of_mem _ hj)) hp'.2 (λj hj=>hself j (List.mem_cons_of_mem _ hj)) hh
  refine⟨kn3,e3,h1,h2,λt ht=>?_,λj hj oj hoj=>?_⟩
  ·rw[h3 t (λj hj=>ht j (List.mem_cons_of_mem _ hj))]
   exact put_other (ht i (List.mem_cons_self ..) o ho)
  ·rcases List.mem_cons.1 hj with rfl | hj
   ·rw[ho] at hoj;cases hoj
    have hns:=hself j (List.mem_cons_self ..) o ho d hd
    have e3d:e3 d = v:=by
     rw[h3 d (λi' hi' oi' hoi' hdd=>(hp'.1 i' hi' o oi' d ho hoi' hdd).2 hd),hd,put_self]
    have e3n:∀t∈opNames l o,e3 t = e t:=by
     intro t ht
     rw[h3 t (λi' hi' oi' hoi' hdd=>(hp'.1 i' hi' o oi' t ho hoi' hdd).1 ht)]
     exact put_other (λhh=>by rw[hd] at hh;cases hh;exact hns ht)
    exact⟨d,hd,by rw[e3d];exact hv.congr hqo e3n⟩
   ·exact h4 j hj oj hoj
theorem dcut_sound {l:List Oper} {h:Heap}   :
  ∀(cs:List (Nat × List Nat)) (r:List Nat) (e:Env) (K:Kn→Env→M),(∀i∈r,∃o,l[i]? = some o∧quiet P o = true∧o.dst.isSome = true)→r.Pairwise (Clean l)→(∀i∈r,∀o,l[i]? = some o→∀d,o.dst = some d→d ∉ opNames l o)→
  dcut P l cs r e K h→∃kn3 e3,K kn3 e3 h∧KnOk l kn3 e3∧(∀t,(∀i∈r,∀o,l[i]? = some o→o.dst≠some t)→e3 t = e t)∧∀i∈r,∀o,l[i]? = some o→Vq P l o e3 h:=by
 have nil_ok:∀e,KnOk l [] e:=λe g hg=>by cases hg
 intro cs;induction cs with
 | nil=>intro r e K hq hp hself hh;exact dnew_sound r [] e K (nil_ok e) hq hp hself hh
 | cons c cs ih=>
  intro r e K hq hp hself hh
  obtain⟨m,lv⟩:=c
  obtain⟨J,hJ,hh⟩:=hh
  have hpa:=hp
  rw[← List.take_append_drop m r,List.pairwise_append] at hpa
  obtain⟨hp1,hp2,hp3⟩:=hpa
  obtain⟨kn1,e1,g1,g2,g3,g4⟩:=dnew_sound (r.take m) [] e _ (nil_ok e) (λi hi=>hq i (List.mem_of_mem_take hi)) hp1 (λi hi=>hself i (List.mem_of_mem_take hi)) hh
  obtain⟨kn3,e3,f1,f2,f3,f4⟩:=ih (r.drop m) e1 K (λi hi=>hq i (List.mem_of_mem_drop hi)) hp2 (λi hi=>hself i (List.mem_of_mem_drop hi)) (hJ _ _ g1)
  refine⟨kn3,e3,f1,f2,λt ht=>?_,λi hi o ho=>?_⟩
  ·rw[f3 t (λi hi=>ht i (List.mem_of_mem_drop hi)),g3 t (λi hi=>ht i (List.mem_of_mem_take hi))]
  ·rw[← List.take_append_drop m r] at hi
   rcases List.mem_append.1 hi with hi | hi
   ·refine (g4 i hi o ho).congr (by obtain⟨o',ho',hq',_⟩:=hq i (List.mem_of_mem_take hi);rw[ho] at ho';cases ho';exact hq') (λt ht=>?_) (λd hd=>?_)
    ·exact f3 t (λj hj oj hoj hdd=>(hp3 i hi j hj o oj t ho hoj hdd).1 ht)
    ·exact f3 d (λj hj oj hoj hdd=>(hp3 i hi j hj o oj d ho hoj hdd).2 hd)
   ·exact f4 i hi o ho
theorem dchk_sound {l:List Oper} {h:Heap}:∀(c:List Nat) (kn:Kn) (e:Env) (K:M),KnOk l kn e→(∀i∈c,∃o,l[i]? = some o∧quiet P o = true)→
  dchk P l c kn e K h→K h∧∀i∈c,∀o,l[i]? = some o→Vq P l o e h:=by
 intro c;induction c with
 | nil=>intro kn e K _ _ hh;exact⟨hh,λi hi=>by cases hi⟩
 | cons i c ih=>
  intro kn e K hkn hq hh
  obtain⟨o,ho,hqo⟩:=hq i (List.mem_cons_self ..)
  simp only[dchk,ho] at hh
  cases hd:o.dst with
  | none=>simp only[hd] at hh;exact hh.elim
  | some d=>
   simp only[hd] at hh
   obtain⟨hG,hh⟩:=hh
   obtain⟨h1,h2⟩:=ih kn e K hkn (λj hj=>hq j (List.mem_cons_of_mem _ hj)) hh
   refine⟨h1,λj hj oj hoj=>?_⟩
   rcases List.mem_cons.1 hj with rfl | hj
   ·rw[ho] at hoj;cases hoj
    obtain⟨v,kn',_,hv,hval⟩:=opG_quiet hqo hkn hG
    have:v = e d:=hv
    subst this
    exact⟨d,hd,hval⟩
   ·exact h2 j hj oj hoj
def Hp (T:(Value→M)→M):Prop:=∀v h h',T (λu x=>u = v∧x = h) h→T (λu x=>u = v∧x = h') h'
theorem hp_pure (u:Value):Hp (λk=>k u):=λ_ _ _ hk=>⟨hk.1,rfl⟩
theorem hp_F:Hp (λ_=>F):=λ_ _ _ h=>h.elim
theorem FO_hp (o:Nat) (a:Value):Hp (FO o a):=by
 intro v h h' hk;unfold FO at hk ⊢;split at hk
 ·exact⟨hk.1,rfl⟩
 ·exact hk.elim
theorem IA_hp (n:Nat) (x i:Value):Hp (IA n x i):=by
 intro v h h' hk;unfold IA at hk ⊢;split at hk
 ·exact⟨hk.1,hk.2.1,rfl⟩
 ·exact hk.elim
theorem IX_hp (x i:Value):Hp (IX x i):=by
 intro v h h' hk;unfold IX at hk ⊢;split at hk
 ·exact⟨hk.1,hk.2.1,rfl⟩
 ·exact hk.elim
theorem NC_hp (x:Value):Hp (NC x):=by
 intro v h h' hk;unfold NC at hk ⊢;split at hk
 ·exact⟨hk.1,rfl⟩
 ·exact⟨hk.1,rfl⟩
 ·exact hk.elim
theorem EX_hp (i:Nat) (x:Value):Hp (EX i x):=by
 intro v h h' hk
 cases x<;>try exact hk.elim
 rename_i vs
 cases hv:vs.toList[i]? with
 | none=>simp only[EX,hv] at hk;exact hk.elim
 | some u=>simp only[EX,hv] at hk ⊢;exact⟨hk.1,trivial⟩
theorem PK_hp (c a b:Value):Hp (PK c a b):=by
 intro v h h' hk;unfold PK at hk ⊢;split at hk
 ·exact⟨hk.1,rfl⟩
 ·exact hk.elim
theorem NT_hp (x:Value):Hp (NT x):=by
 intro v h h' hk;unfold NT at hk ⊢;split at hk
 ·exact⟨hk.1,rfl⟩
 ·exact hk.elim
theorem LN_hp (x:Value):Hp (LN x):=by
 intro v h h' hk;unfold LN at hk ⊢;split at hk
 ·exact⟨hk.1,rfl⟩
 ·exact hk.elim
theorem LS_hp (x:Value):Hp (LS x):=by
 intro v h h' hk;unfold LS at hk ⊢;split at hk
 ·exact⟨hk.1,rfl⟩
 ·exact hk.elim
theorem FD_hp (g:Bool) (o n:Nat) (x:Value):Hp (FD g o n x):=by
 intro v h h' hk
 cases x<;>try exact hk.elim
 rename_i cs
 cases g with
 | true=>exact⟨hk.1,rfl⟩
 | false=>
  cases hv:cs.toList[o]? with
  | none=>simp only[FD,cond_false,hv] at hk;exact hk.elim
  | some u=>simp only[FD,cond_false,hv] at hk ⊢;exact⟨hk.1,trivial⟩
theorem BO_hp (op:BinOp) (x y:Value):Hp (BO op x y):=by
 intro v h h' hk
 cases x<;>cases y<;>try exact hk.elim
 case int.int a x b y=>
  by_cases hab:a = b
  ·simp only[BO,if_pos hab] at hk ⊢
   cases op<;>first
    | exact hk.elim
    | exact⟨hk.1,hk.2.1,rfl⟩
    | exact⟨hk.1,rfl⟩
  ·simp only[BO,if_neg hab] at hk;exact hk.elim
 case string.string x y=>
  cases op<;>first
   | exact hk.elim
   | exact⟨hk.1,hk.2.1,rfl⟩
   | exact⟨hk.1,rfl⟩
theorem SL_hp (n:Nat) (x:Value) (lo hi:Option Value):Hp (SL n x lo hi):=by
 intro v h h' hk
 cases x<;>try exact hk.elim
 case slice a len cap=>
  cases hu:bnd len hi with
  | none=>simp only[SL,hu] at hk;exact hk.elim
  | some u=>
   simp only[SL,hu] at hk ⊢
   cases lo with
   | none=>exact⟨hk.1,hk.2.1,rfl⟩
   | some v=>
    cases v<;>try exact hk.elim
    cases a with
    | none=>exact⟨hk.1,hk.2.1,rfl⟩
    | some a=>
     obtain⟨b,o,sp⟩:=a
     cases sp with
     | none=>exact⟨hk.1,hk.2.1,rfl⟩
     | some z=>exact hk.elim
theorem SS_hp (x:Value) (lo hi:Option Value):Hp (SS x lo hi):=by
 intro v h h' hk
 cases x<;>try exact hk.elim
 case string s=>
  cases hl:bnd 0 lo with
  | none=>simp only[SS,hl] at hk;exact hk.elim
  | some l=>
   cases hu:bnd s.size hi with
   | none=>simp only[SS,hl,hu] at hk;exact hk.elim
   | some u=>simp only[SS,hl,hu] at hk ⊢;exact⟨hk.1,hk.2.1,trivial⟩
theorem FL_hp:∀(ps:List (Nat × Nat × Value)) (zs:List Value) (g:List Value→Value),Hp (λk=>FL zs ps λcs=>k (g cs)):=by
 intro ps;induction ps with
 | nil=>intro zs g v h h' hk;exact⟨hk.1,rfl⟩
 | cons p r ih=>
  intro zs g v h h' hk
  obtain⟨o,n,u⟩:=p
  exact⟨hk.1,ih _ g v h h' hk.2⟩
theorem opK_heap {ρ:Operand→Value} (o:Oper) (hq:quiet P o = true) (hr:reads o = false):Hp (opK P ρ o):=by
 obtain⟨dst,op,type,pos,after,guard⟩:=o
 show Hp (λk=>opK P ρ _ k)
 cases op<;>simp only[quiet,Bool.false_eq_true] at hq<;>simp only[reads,Bool.true_eq_false] at hr<;>dsimp only[opK]
 case move=>exact hp_pure _
 case pick=>exact PK_hp _ _ _
 case build t ps=>
  intro v h h' hk
  cases hp:structPlaces P t with
  | none=>simp only[hp] at hk;exact hk.elim
  | some pl=>
   cases hz:zrOf P t with
   | none=>simp only[hp,hz] at hk;exact hk.elim
   | some z=>
    simp only[hp,hz] at hk ⊢
    by_cases hb:pl.all (λp=>p.1 + p.2≤(cl z).length) = true
    ·rw[if_pos hb] at hk;simp only[if_pos hb]
     cases hl:parts ρ pl ps.toList with
     | none=>simp only[hl] at hk;exact hk.elim
     | some l=>simp only[hl] at hk ⊢;exact FL_hp l _ (λcs=>.agg cs.toArray) v h h' hk
    ·rw[if_neg hb] at hk;exact hk.elim
 case nilCheck=>exact NC_hp _
 case binOp op t x y u=>
  cases hu:und P t<;>simp only[hu,Bool.false_eq_true] at hq<;>exact BO_hp _ _ _
 case unOp op t x=>cases op<;>simp only[Bool.false_eq_true] at hq;exact NT_hp _
 case makeFunc=>exact hp_pure _
 case slice t x lo hi mx=>
  cases mx with
  | some m=>simp at hq
  | none=>
   simp only at hq ⊢
   cases hu:und P t<;>simp only[hu,Bool.false_eq_true] at hq
   case string=>exact SS_hp _ _ _
   case slice e=>
    show Hp (λk=>match szOf P e with | some n=>SL n (ρ x) (optO ρ lo) (optO ρ hi) k | none=>F)
    cases hn:szOf P e with
    | none=>exact hp_F
    | some n=>exact SL_hp _ _ _ _
 case fieldAddr t x f=>cases hd:fldOf P t f with
  | none=>exact hp_F
  | some d=>exact FO_hp _ _
 case field t x f=>cases hd:fldOf P t f with
  | none=>exact hp_F
  | some d=>
   obtain⟨d,ft⟩:=d
   simp only
   cases hg:aggOf P ft with
   | none=>exact hp_F
   | some g=>cases hn:szOf P ft with
    | none=>exact hp_F
    | some n=>exact FD_hp _ _ _ _
 case indexAddr t x i=>cases he:elOf P t with
  | none=>exact hp_F
  | some e=>
   simp only
   cases hn:szOf P e with
   | none=>exact hp_F
   | some n=>exact IA_hp _ _ _
 case index t x i=>cases hu:und P t<;>first | exact hp_F | exact IX_hp _ _
 case extract=>exact EX_hp _ _
 case call c=>
  obtain⟨callee,args,at_⟩:=c
  cases callee<;>try (simp at hq;done)
  rename_i b
  cases b<;>try (simp at hq;done)
  obtain⟨at_⟩:=at_
  obtain⟨args⟩:=args
  rcases at_ with _ | ⟨t,_ | ⟨u,r⟩⟩
  ·simp at hq
  ·rcases args with _ | ⟨x,_ | ⟨y,r⟩⟩
   ·exact hp_F
   ·dsimp only at hq ⊢
    cases hu:und P t<;>rw[hu] at hq<;>try (simp at hq;done)
    case slice e=>exact LN_hp _
    case string=>exact LS_hp _
   ·exact hp_F
  ·simp at hq
theorem Vq.heap {l:List Oper} {o:Oper} {e:Env} {h h' : Heap} (hq:quiet P o = true) (hr:reads o = false) (hv:Vq P l o e h):Vq P l o e h':=by
 obtain⟨d,hd,hv⟩:=hv
 refine⟨d,hd,?_⟩
 rcases hv with ⟨hw,hv⟩ | hv
 ·exact .inl ⟨hw,opK_heap o hq hr _ _ _ hv⟩
 ·exact .inr hv
end
end Go.Lf
end
section
namespace Go.Lf
open Go
section
variable {P:Program}
structure DOk (P:Program) (ops:Array Oper):Prop where
 sel:∀(j:Nat) (o:Oper) cs b,ops.toList[j]? = some o→o.op≠.select cs b
 bef:∀i o,ops.toList[i]? = some o→(∀k,Nat.testBit ((dinfo P ops.toList).bef.getD i 0) k = true↔∃e∈o.after.toList,Region.binds .any e = true∧(e.on = k∨Nat.testBit ((dinfo P ops.toList).bef.getD e.on 0) k = true))∧
  (∀e∈o.after.toList,Region.binds .any e = true→e.on < i)∧(quiet P o = true→∃d,o.dst = some d∧d ∉ opNames ops.toList o)
 pair:∀i j oi oj d,i≠j→ops.toList[i]? = some oi→ops.toList[j]? = some oj→oi.dst = some d→
  (quiet P oi = true→oj.dst≠some d∧(d∈opNames ops.toList oj→Nat.testBit ((dinfo P ops.toList).bef.getD j 0) i = true))∧
  ((d∈opNames ops.toList oj∨oj.dst = some d)→Nat.testBit ((dinfo P ops.toList).bef.getD j 0) i = true∨Nat.testBit ((dinfo P ops.toList).bef.getD i 0) j = true)
theorem dok_of {ops:Array Oper} (h:drawOk P ops = true):P.follows .mixedOrders = true∧DOk P ops:=by
 simp only[drawOk,z_b] at h
 obtain⟨⟨⟨h1,h2⟩,h3⟩,h4⟩:=h
 refine⟨h1,⟨λj o cs b ho=>Region.noSelect_spec h2 j o cs b (by simpa using ho),λi o ho=>?_,λi j oi oj d hij hoi hoj hd=>?_⟩⟩
 ·have hi:i < ops.toList.length:=(List.getElem?_eq_some_iff.1 ho).1
  have:=List.all_eq_true.1 h3 i (List.mem_range.2 hi)
  simp only[ho,z_b] at this
  obtain⟨⟨g1,g2⟩,g3⟩:=this
  refine⟨λk=>?_,λe he hb=>?_,λhq=>?_⟩
  ·rw[nb_eq g1];exact orE_bit
  ·have:=List.all_eq_true.1 g2 e he
   simp only[hb,Bool.not_true,Bool.false_or,Nat.blt_eq] at this;exact this
  ·simp only[hq,Bool.not_true,Bool.false_or] at g3
   cases hd:o.dst with
   | none=>simp[hd] at g3
   | some d=>simp only[hd] at g3;exact⟨d,rfl,by simpa using g3⟩
 ·have hi:i < ops.toList.length:=(List.getElem?_eq_some_iff.1 hoi).1
  have hj:j < ops.toList.length:=(List.getElem?_eq_some_iff.1 hoj).1
  have:=List.all_eq_true.1 (List.all_eq_true.1 h4 i (List.mem_range.2 hi)) j (List.mem_range.2 hj)
  rw[nb_ne hij] at this
  simp only[Bool.false_or,pairOk,hoi,hoj,hd] at this
  cases hq:quiet P oi with
  | true=>
   simp only[hq,cond_true,z_b,Bool.not_eq_true',Bool.or_eq_true,beq_eq_false_iff_ne] at this
   refine⟨λ_=>⟨this.1,λhn=>?_⟩,λhn=>?_⟩
   ·rcases this.2 with h | h
    ·simp at h;exact absurd hn h
    ·exact h
   ·rcases hn with hn | hn
    ·rcases this.2 with h | h
     ·simp at h;exact absurd hn h
     ·exact .inl h
    ·exact absurd hn this.1
  | false=>
   simp only[hq,cond_false,Bool.or_eq_true,Bool.not_eq_true'] at this
   refine⟨(λhh=>nomatch hh),λhn=>?_⟩
   rcases this with (h | h) | h
   ·exfalso
    simp at h
    rcases hn with hn | hn
    ·exact h.1 hn
    ·exact h.2 hn
   ·exact .inl h
   ·exact .inr h
section inv
variable {ops:Array Oper} {N:Nat}
abbrev B (P:Program) (ops:Array Oper) (i k:Nat):Prop:=Nat.testBit ((dinfo P ops.toList).bef.getD i 0) k = true
abbrev E (P:Program) (ops:Array Oper) (i:Nat):Prop:=Nat.testBit (dinfo P ops.toList).eff i = true
theorem E_iff {i:Nat}:E P ops i↔∃o,ops.toList[i]? = some o∧quiet P o = false:=by
 unfold E
 simp only[dinfo]
 rw[mask_bit]
 constructor
 ·rintro⟨h1,h2⟩
  have hi:i < ops.toList.length:=List.mem_range.1 h1
  rw[List.getElem?_eq_getElem hi] at h2
  exact⟨_,List.getElem?_eq_getElem hi,by simpa using h2⟩
 ·rintro⟨o,ho,hq⟩
  exact⟨List.mem_range.2 (List.getElem?_eq_some_iff.1 ho).1,by simp[ho,hq]⟩
theorem B_lt (h:DOk P ops) {i k:Nat} {o:Oper} (ho:ops.toList[i]? = some o):B P ops i k→k < i:=by
 induction i using Nat.strongRecOn generalizing k o with
 | _ i ih=>
  intro hb
  obtain⟨e,he,hbd,hk⟩:=((h.bef i o ho).1 k).1 hb
  have hlt:=(h.bef i o ho).2.1 e he hbd
  rcases hk with rfl | hk
  ·exact hlt
  ·have hlen:e.on < ops.toList.length:=Nat.lt_trans hlt (List.getElem?_eq_some_iff.1 ho).1
   exact Nat.lt_trans (ih e.on hlt (List.getElem?_eq_getElem hlen) hk) hlt
theorem B_trans (h:DOk P ops) {i j k:Nat} {o:Oper} (ho:ops.toList[i]? = some o):B P ops i j→B P ops j k→B P ops i k:=by
 induction i using Nat.strongRecOn generalizing o with
 | _ i ih=>
  intro hij hjk
  obtain⟨e,he,hbd,hk⟩:=((h.bef i o ho).1 j).1 hij
  refine ((h.bef i o ho).1 k).2 ⟨e,he,hbd,.inr ?_⟩
  rcases hk with rfl | hk
  ·exact hjk
  ·have hlt:=(h.bef i o ho).2.1 e he hbd
   have hlen:e.on < ops.toList.length:=Nat.lt_trans hlt (List.getElem?_eq_some_iff.1 ho).1
   exact ih e.on hlt (List.getElem?_eq_getElem hlen) hk hjk
structure Inv (P:Program) (ops:Array Oper) (N:Nat) (listed:Array Bool) (done evd:Nat) (kn:Kn) (e:Env) (a:Act) (h:Heap):Prop where
 size:listed.size = ops.size
 closed:∀i,listed.getD i false = true→∀k,B P ops i k→listed.getD k false = true
 effI:∀i,E P ops i→(listed.getD i false = true↔Nat.testBit done i = true)
 effsub:∀k,Nat.testBit done k = true→E P ops k
 evdI:∀i o,ops.toList[i]? = some o→¬ E P ops i→(Nat.testBit evd i = true↔∀k,B P ops i k→E P ops k→Nat.testBit done k = true)
 val:∀i o,ops.toList[i]? = some o→¬ E P ops i→Nat.testBit evd i = true→listed.getD i false = false→Vq P ops.toList o e h
 asize:a.tmps.size = N
 adef:a.defers = []
 agree:∀t,(∀i o,ops.toList[i]? = some o→¬ E P ops i→Nat.testBit evd i = true→listed.getD i false = false→o.dst≠some t)→a.tmps.getD t undef = e t
 knI:KnOk ops.toList kn e
def Rest (P:Program) (ops:Array Oper) (cs:List (Nat × List (Nat × List Nat))) (f:Nat) (done evd:Nat) (kn:Kn) (e:Env) (K:Env→M):M:=
 bif Nat.beq done (dinfo P ops.toList).eff then K e else
  ALL (((dinfo P ops.toList).idx.filter λj=>Nat.testBit (dinfo P ops.toList).eff j && !Nat.testBit done j && sub (Nat.land ((dinfo P ops.toList).bef.getD j 0) (dinfo P ops.toList).eff) done).map λj=>match ops.toList[j]? with
   | some o=>opG P ops.toList o kn e λkn v=>dstg P ops.toList (dinfo P ops.toList) cs f (Nat.lor done (2 ^ j)) evd kn (put e o.dst v) K
   | none=>F)
theorem ALL_mem:∀{l:List M} {h:Heap},ALL l h→∀m∈l,m h:=by
 intro l;induction l with
 | nil=>intro h _ m hm;cases hm
 | cons a r ih=>
  intro h hh m hm
  cases r with
  | nil=>
   rcases List.mem_cons.1 hm with rfl | hm
   ·exact hh
   ·cases hm
  | cons b r=>
   rcases List.mem_cons.1 hm with rfl | hm
   ·exact hh.1
   ·exact ih hh.2 m hm
theorem land_bit {a b k:Nat}:Nat.testBit (Nat.land a b) k = true↔Nat.testBit a k = true∧Nat.testBit b k = true:=by
 have e1:Nat.land a b = a &&& b:=rfl
 rw[e1,Nat.testBit_and,z_b]
theorem lor_bit {a b k:Nat}:Nat.testBit (Nat.lor a b) k = true↔Nat.testBit a k = true∨Nat.testBit b k = true:=by
 have e1:Nat.lor a b = a ||| b:=rfl
 rw[e1,Nat.testBit_or,Bool.or_eq_true]
theorem sub_eff {a b c:Nat}:sub (Nat.land a b) c = true↔∀k,Nat.testBit a k = true→Nat.testBit b k = true→Nat.testBit c k = true:=by
 rw[sub_bit];simp only[land_bit,and_imp]
theorem stage (hO:DOk P ops) {cs:List (Nat × List (Nat × List Nat))} {f:Nat} {listed:Array Bool} {done evd:Nat} {kn:Kn} {e:Env} {a:Act} {K:Env→M} {h:Heap}
  (size:listed.size = ops.size) (closed:∀i,listed.getD i false = true→∀k,B P ops i k→listed.getD k false = true)
  (eff:∀i,E P ops i→(listed.getD i false = true↔Nat.testBit done i = true)) (effsub:∀k,Nat.testBit done k = true→E P ops k)
  (evdsub:∀i o,ops.toList[i]? = some o→¬ E P ops i→Nat.testBit evd i = true→∀k,B P ops i k→E P ops k→Nat.testBit done k = true)
  (evdclosed:∀i o,ops.toList[i]? = some o→¬ E P ops i→Nat.testBit evd i = true→∀k,B P ops i k→¬ E P ops k→Nat.testBit evd k = true)
  (listedEvd:∀i o,ops.toList[i]? = some o→¬ E P ops i→listed.getD i false = true→Nat.testBit evd i = true)
  (val:∀i o,ops.toList[i]? = some o→¬ E P ops i→Nat.testBit evd i = true→listed.getD i false = false→(done = 0∨reads o = false)→Vq P ops.toList o e h)
  (asize:a.tmps.size = N) (adef:a.defers = [])
  (agree:∀t,(∀i o,ops.toList[i]? = some o→¬ E P ops i→Nat.testBit evd i = true→listed.getD i false = false→o.dst≠some t)→a.tmps.getD t undef = e t)
  (hkn:KnOk ops.toList kn e) (hS:dstg P ops.toList (dinfo P ops.toList) cs (f + 1) done evd kn e K h) :
  ∃evd' kn' e',Inv P ops N listed done evd' kn' e' a h∧Rest P ops cs f done evd' kn' e' K h:=by
 have sel:=hO.sel
 simp only[dstg] at hS
 generalize hnew:((dinfo P ops.toList).idx.filter λi=>!Nat.testBit (dinfo P ops.toList).eff i && !Nat.testBit evd i && sub (Nat.land ((dinfo P ops.toList).bef.getD i 0) (dinfo P ops.toList).eff) done) = new at hS
 generalize hchk:(bif Nat.beq done 0 then [] else (dinfo P ops.toList).idx.filter λi=>Nat.testBit evd i && (match ops.toList[i]? with | some o=>reads o | none=>false) &&
   (dinfo P ops.toList).idx.all λj=>!(Nat.testBit done j && Nat.testBit ((dinfo P ops.toList).bef.getD j 0) i)) = chk at hS
 have memnew:∀i,i∈new↔i < ops.toList.length∧¬ E P ops i∧¬ Nat.testBit evd i = true∧∀k,B P ops i k→E P ops k→Nat.testBit done k = true:=by
  intro i
  rw[← hnew,List.mem_filter]
  simp only[z_b,Bool.not_eq_true',sub_eff]
  constructor
  ·rintro⟨h1,⟨h2,h3⟩,h4⟩
   exact⟨List.mem_range.1 h1,by simp[E,h2],by simp[h3],h4⟩
  ·rintro⟨h1,h2,h3,h4⟩
   exact⟨List.mem_range.2 h1,⟨by simpa [E] using h2,by simpa using h3⟩,h4⟩
 have qOf:∀i o,ops.toList[i]? = some o→¬ E P ops i→quiet P o = true:=by
  intro i o ho hE
  cases hq:quiet P o with
  | true=>rfl
  | false=>exact absurd (E_iff.2 ⟨o,ho,hq⟩) hE
 have newq:∀i∈new,∃o,ops.toList[i]? = some o∧quiet P o = true∧o.dst.isSome = true:=by
  intro i hi
  obtain⟨h1,h2,_,_⟩:=(memnew i).1 hi
  have ho:=List.getElem?_eq_getElem h1
  obtain⟨d,hd,_⟩:=(hO.bef i _ ho).2.2 (qOf i _ ho h2)
  exact⟨_,ho,qOf i _ ho h2,by rw[hd];rfl⟩
 have asc:new.Pairwise (· < ·):=by
  rw[← hnew]
  exact List.Pairwise.filter _ (by simp[dinfo,List.pairwise_lt_range])
 have hclean:∀i j,i < j→j∈new→Clean ops.toList i j:=by
  intro i j hij hj oi oj d hoi hoj hd
  obtain⟨oj',hoj',hqj,_⟩:=newq j hj
  rw[hoj] at hoj';cases hoj'
  have hp:=hO.pair j i oj oi d (by omega) hoj hoi hd
  refine⟨λhn=>?_,(hp.1 hqj).1⟩
  exact absurd (B_lt hO hoi ((hp.1 hqj).2 hn)) (by omega)
 have hp:new.Pairwise (Clean ops.toList):=by
  refine List.Pairwise.imp_of_mem (λ{i j} hi hj hij=>hclean i j hij hj) asc
 have hself:∀i∈new,∀o,ops.toList[i]? = some o→∀d,o.dst = some d→d ∉ opNames ops.toList o:=by
  intro i hi o ho d hd
  obtain⟨o',ho',hq,_⟩:=newq i hi
  rw[ho] at ho';cases ho'
  obtain⟨d',hd',hn⟩:=(hO.bef i o ho).2.2 hq
  rw[hd] at hd';cases hd';exact hn
 have chkq:∀i∈chk,∃o,ops.toList[i]? = some o∧quiet P o = true:=by
  intro i hi
  rw[← hchk] at hi
  cases hb:Nat.beq done 0 with
  | true=>rw[hb] at hi;cases hi
  | false=>
   rw[hb,cond_false,List.mem_filter] at hi
   have h1:=List.mem_range.1 hi.1
   refine⟨_,List.getElem?_eq_getElem h1,?_⟩
   have h2:=hi.2
   simp only[List.getElem?_eq_getElem h1,z_b] at h2
   have hr:=h2.1.2
   unfold reads at hr
   unfold quiet
   split at hr
   ·rename_i hop;rw[hop]
   ·cases hr
 have hS2:∃kn3 e3,dchk P ops.toList chk kn3 e3 (Rest P ops cs f done (Nat.lor evd (maskOf (λ_=>true) new)) kn3 e3 K) h∧KnOk ops.toList kn3 e3∧
   (∀t,(∀i∈new,∀o,ops.toList[i]? = some o→o.dst≠some t)→e3 t = e t)∧∀i∈new,∀o,ops.toList[i]? = some o→Vq P ops.toList o e3 h:=by
  cases hf:(cs.find? λc=>Nat.beq c.1 done) with
  | none=>rw[hf] at hS;exact dnew_sound new kn e _ hkn newq hp hself hS
  | some c=>rw[hf] at hS;exact dcut_sound c.2 new e _ newq hp hself hS
 obtain⟨kn3,e3,hc,hkn3,hag,hvn⟩:=hS2
 obtain⟨hrest,hvc⟩:=dchk_sound chk kn3 e3 _ hkn3 chkq hc
 have evd' : ∀i,Nat.testBit (Nat.lor evd (maskOf (λ_=>true) new)) i = true↔Nat.testBit evd i = true∨i∈new:=by
  intro i;rw[lor_bit,mask_bit];simp
 refine⟨_,kn3,e3,⟨size,closed,eff,effsub,?_,?_,asize,adef,?_,hkn3⟩,hrest⟩
 ·intro i o ho hE
  rw[evd']
  constructor
  ·rintro (h1 | h1)
   ·exact evdsub i o ho hE h1
   ·exact ((memnew i).1 h1).2.2.2
  ·intro hall
   by_cases he:Nat.testBit evd i = true
   ·exact .inl he
   ·exact .inr ((memnew i).2 ⟨(List.getElem?_eq_some_iff.1 ho).1,hE,he,hall⟩)
 ·intro i o ho hE he hl
  rcases (evd' i).1 he with he | he
  case inr=>exact hvn i he o ho
  by_cases hcm:i∈chk
  ·exact hvc i hcm o ho
  ·have hdr:done = 0∨reads o = false:=by
    by_cases hd0:done = 0
    ·exact .inl hd0
    ·refine .inr ?_
     cases hr:reads o with
     | false=>rfl
     | true=>
      exfalso
      apply hcm
      rw[← hchk,nb_ne hd0,cond_false,List.mem_filter]
      have hlen:=(List.getElem?_eq_some_iff.1 ho).1
      refine⟨List.mem_range.2 hlen,?_⟩
      simp only[he,ho,hr,Bool.true_and,List.all_eq_true,Bool.not_eq_true',Bool.and_eq_false_iff]
      intro j hj
      cases hdj:Nat.testBit done j with
      | false=>exact .inl rfl
      | true=>
       refine .inr ?_
       cases hbj:Nat.testBit ((dinfo P ops.toList).bef.getD j 0) i with
       | false=>rfl
       | true=>
        exfalso
        have:=closed j ((eff j (effsub j hdj)).2 hdj) i hbj
        rw[hl] at this;cases this
   have hq:=qOf i o ho hE
   refine (val i o ho hE he hl hdr).congr hq (λt ht=>hag t λi' hi' oi' hoi' hdd=>?_) (λd hd=>hag d λi' hi' oi' hoi' hdd=>?_)
   ·obtain⟨o',ho',hq',_⟩:=newq i' hi'
    rw[hoi'] at ho';cases ho'
    have hne:i'≠i:=λhh=>by subst hh;exact ((memnew i').1 hi').2.2.1 he
    have hb:=((hO.pair i' i oi' o t hne hoi' ho hdd).1 hq').2 ht
    exact ((memnew i').1 hi').2.2.1 (evdclosed i o ho hE he i' hb ((memnew i').1 hi').2.1)
   ·obtain⟨o',ho',hq',_⟩:=newq i' hi'
    rw[hoi'] at ho';cases ho'
    have hne:i'≠i:=λhh=>by subst hh;exact ((memnew i').1 hi').2.2.1 he
    exact ((hO.pair i' i oi' o d hne hoi' ho hdd).1 hq').1 hd
 ·intro t ht
  rw[hag t (λi hi o ho=>?_)]
  ·exact agree t (λi o ho hE he hl=>ht i o ho hE ((evd' i).2 (.inl he)) hl)
  ·have hm:=(memnew i).1 hi
   refine ht i o ho hm.2.1 ((evd' i).2 (.inr hi)) ?_
   cases hl:listed.getD i false with
   | false=>rfl
   | true=>exact absurd (listedEvd i o ho hm.2.1 hl) hm.2.2.1
theorem opG_run {l:List Oper} {o:Oper} {kn:Kn} {e:Env} {k:Kn→Value→M} {h:Heap} (hkn:KnOk l kn e) (hG:opG P l o kn e k h) :
  (wantE l o e = true∧∃kn',KnOk l kn' e∧opK P (ev e) o (k (knDrop l o.dst kn')) h)∨(wantE l o e = false∧∃kn',KnOk l kn' e∧k (knDrop l o.dst kn') undef h):=by
 unfold opG at hG
 cases hg:o.guard with
 | none=>simp only[hg] at hG;exact .inl ⟨by simp[wantE,hg],kn,hkn,hG⟩
 | some jw=>
  obtain⟨j,want⟩:=jw
  simp only[hg] at hG
  cases hk:knGet kn j want with
  | some t=>
   obtain⟨d,hd,he⟩:=hkn _ (knGet_mem hk)
   simp only at hd he
   have hw:wantE l o e = t:=by simp only[wantE,hg,hd];exact he
   cases t with
   | true=>simp only[hk] at hG;exact .inl ⟨hw,kn,hkn,hG⟩
   | false=>simp only[hk] at hG;exact .inr ⟨hw,kn,hkn,hG⟩
  | none=>
   simp only[hk] at hG
   cases hd:dstAt l j with
   | none=>simp only[hd] at hG;exact hG.elim
   | some d=>
    simp only[hd] at hG
    have hk1:∀t,(match e d with | .bool b=>b == want | _=>false) = t→KnOk l (((j,want),t) :: kn) e:=by
     intro t ht g hgm
     rcases List.mem_cons.1 hgm with rfl | hgm
     ·exact⟨d,hd,ht⟩
     ·exact hkn g hgm
    have hw:wantE l o e = (match e d with | .bool b=>b == want | _=>false):=by simp only[wantE,hg,hd]<;>rfl
    cases hb:(match e d with | .bool b=>b == want | _=>false) with
    | true=>
     refine .inl ⟨hw.trans hb,_,hk1 true hb,?_⟩
     generalize e d = v at hb hG
     cases v<;>simp at hb
     subst hb
     simpa [GT] using hG
    | false=>
     refine .inr ⟨hw.trans hb,_,hk1 false hb,?_⟩
     generalize e d = v at hb hG
     cases v<;>simp at hb<;>try exact hG
     rename_i b
     have:(b == want) = false:=by simpa using hb
     simp only[GT,this,cond_false] at hG
     exact hG
theorem wanted_eq {l:List Oper} {o:Oper} {e:Env} {a:Act} (hl:l = ops.toList) (h:∀t∈opNames l o,a.tmps.getD t undef = e t):Region.wanted o (yielded ops a.tmps) = wantE l o e:=by
 subst hl
 unfold wantE
 cases hg:o.guard with
 | none=>exact wanted_none hg _
 | some jw=>
  obtain⟨j,w⟩:=jw
  rw[wanted_some hg]
  simp only
  cases hd:dstAt ops.toList j with
  | none=>
   have:yielded ops a.tmps j = none:=by
    unfold yielded dstAt at *
    cases hj:ops[j]? with
    | none=>simp
    | some oj=>
     have:ops.toList[j]? = some oj:=by simpa using hj
     rw[this] at hd
     simp only at hd
     simp[hd]
   rw[this];rfl
  | some d=>
   have hy:yielded ops a.tmps j = match e d with | .bool b=>some b | _=>none:=by
    unfold dstAt at hd
    cases hj:ops.toList[j]? with
    | none=>simp[hj] at hd
    | some oj=>
     simp only[hj] at hd
     have hj' : ops[j]? = some oj:=by simpa using hj
     have hn:=h d (List.mem_append_right _ (by simp[hg,dstAt,hj,hd]))
     unfold yielded
     simp only[hj',z_o,hd]
     rw[← hn]
     rw[Array.getD_eq_getD_getElem?]
     cases ht:a.tmps[d]? with
     | none=>rfl
     | some v=>simp;cases v<;>rfl
   rw[hy]
   simp only
   generalize e d = v
   cases v<;>rfl
theorem exec_eq {l:List Oper} {o:Oper} {e:Env} {a:Act} (hs:∀cs b,o.op≠.select cs b) (h:∀t∈opNames l o,a.tmps.getD t undef = e t):execOp a.eval o = execOp (ev e) o:=by
 refine execOp_congr o hs λx hx=>?_
 cases x<;>simp only[Act.eval,ev]
 rename_i t
 exact h t (List.mem_append_left _ (List.mem_filterMap.2 ⟨.tmp t,by simpa using hx,rfl⟩))
def cnt (listed:Array Bool):Nat→Nat
 | 0=>0
 | n + 1=>cnt listed n + (bif listed.getD n false then 0 else 1)
theorem cnt_set {listed:Array Bool} {i:Nat} (hi:listed.getD i false = false) (his:i < listed.size):∀n,(n≤i→cnt (listed.setIfInBounds i true) n = cnt listed n)∧(i < n→cnt (listed.setIfInBounds i true) n + 1 = cnt listed n):=by
 intro n;induction n with
 | zero=>exact⟨λ_=>rfl,λh=>absurd h (Nat.not_lt_zero _)⟩
 | succ n ih=>
  simp only[cnt]
  refine⟨λhn=>?_,λhn=>?_⟩
  ·rw[ih.1 (by omega),getD_set_ne false (by omega)]
  ·by_cases hni:n = i
   ·subst hni
    rw[ih.1 (z_n _),hi]
    simp[his]
   ·rw[getD_set_ne false (λh=>hni h.symm)]
    have:=ih.2 (by omega)
    omega
theorem cnt_pos {listed:Array Bool} {i:Nat} (hi:listed.getD i false = false):∀n,i < n→0 < cnt listed n:=by
 intro n;induction n with
 | zero=>intro h;exact absurd h (Nat.not_lt_zero _)
 | succ n ih=>
  intro h
  simp only[cnt]
  by_cases hni:n = i
  ·subst hni;rw[hi];simp
  ·have:=ih (by omega);omega
theorem core {w0:World} (hO:DOk P ops) (hds:dstsOk N ops.toList = true) {cs:List (Nat × List (Nat × List Nat))} {K:Env→M} {Q:Exit→Act→World→Prop}
  (hK:∀a' e' w',Same w0 w'→Fit N a' e'→K e' w'.heap→Q .normal a' w') :
  ∀(m:Nat) (listed:Array Bool) (done evd:Nat) (kn:Kn) (e:Env) (a:Act) (w:World) (f:Nat),Same w0 w→Inv P ops N listed done evd kn e a w.heap→cnt listed ops.size≤m→
  Rest P ops cs f done evd kn e K w.heap→wpAny P .any ops Q m listed a w:=by
 have qOf:∀i o,ops.toList[i]? = some o→¬ E P ops i→quiet P o = true:=by
  intro i o ho hE
  cases hq:quiet P o with
  | true=>rfl
  | false=>exact absurd (E_iff.2 ⟨o,ho,hq⟩) hE
 have fin:∀(listed:Array Bool) (done evd:Nat) (kn:Kn) (e:Env) (a:Act) (w:World) (f:Nat),Same w0 w→Inv P ops N listed done evd kn e a w.heap→Rest P ops cs f done evd kn e K w.heap→
   (∀i,i < ops.size→listed.getD i false = true)→Q .normal a w:=by
  intro listed done evd kn e a w f h0 hI hR hall
  have hde:done = (dinfo P ops.toList).eff:=by
   apply Nat.eq_of_testBit_eq
   intro k
   cases hd:Nat.testBit done k with
   | true=>exact (hI.effsub k hd).symm
   | false=>
    cases he:Nat.testBit (dinfo P ops.toList).eff k with
    | false=>rfl
    | true=>
     obtain⟨o,ho,_⟩:=E_iff.1 (show E P ops k from he)
     have hlt:k < ops.size:=by simpa using (List.getElem?_eq_some_iff.1 ho).1
     have:=(hI.effI k he).1 (hall k hlt)
     rw[hd] at this;cases this
  unfold Rest at hR
  rw[hde,Nat.beq_refl,cond_true] at hR
  refine hK a e w h0 ⟨hI.asize,λt=>hI.agree t λi o ho _ _ hl=>?_,hI.adef⟩ hR
  have hlt:i < ops.size:=by simpa using (List.getElem?_eq_some_iff.1 ho).1
  rw[hall i hlt] at hl;cases hl
 have allDone:∀(listed:Array Bool),listed.size = ops.size→Region.ready .any ops listed = []→∀i,i < ops.size→listed.getD i false = true:=by
  intro listed hs hr i
  induction i using Nat.strongRecOn with
  | _ i ih=>
   intro hi
   cases hl:listed.getD i false with
   | true=>rfl
   | false=>
    exfalso
    have hoi:ops.toList[i]? = some ops[i]:=by simp[hi]
    have:i∈Region.ready .any ops listed:=by
     rw[mem_ready]
     refine⟨?_,ops[i],by simp[hi],λe he hb=>?_⟩
     ·rw[Array.getD_eq_getD_getElem?] at hl ⊢
      have:i < listed.size:=by omega
      simp[this] at hl ⊢;exact hl
     ·have hlt:=(hO.bef i _ hoi).2.1 e (by simpa using he) hb
      exact ih e.on hlt (by omega)
    rw[hr] at this;cases this
 intro m;induction m with
 | zero=>
  intro listed done evd kn e a w f h0 hI hm hR
  have hall:∀i,i < ops.size→listed.getD i false = true:=by
   intro i hi
   cases hl:listed.getD i false with
   | true=>rfl
   | false=>have:=cnt_pos hl ops.size hi;omega
  refine⟨?_,fin listed done evd kn e a w f h0 hI hR hall⟩
  cases hr:Region.ready .any ops listed with
  | nil=>rfl
  | cons i r=>
   have hi:i∈Region.ready .any ops listed:=by rw[hr];simp
   obtain⟨h1,o,ho,_⟩:=mem_ready.1 hi
   have hlt:i < ops.size:=(Array.getElem?_eq_some_iff.1 ho).1
   have:=hall i hlt
   rw[Array.getD_eq_getD_getElem?] at h1 this
   have hl:i < listed.size:=by rw[hI.size];exact hlt
   simp[hl] at h1 this
   rw[h1] at this;cases this
 | succ m ih=>
  intro listed done evd kn e a w f h0 hI hm hR
  refine⟨λhr=>fin listed done evd kn e a w f h0 hI hR (allDone listed hI.size hr),λi hi=>?_⟩
  obtain⟨hl',o,ho',hedge⟩:=mem_ready.1 hi
  have hlt:i < ops.size:=(Array.getElem?_eq_some_iff.1 ho').1
  have hls:i < listed.size:=by rw[hI.size];exact hlt
  have ho:ops.toList[i]? = some o:=by simpa using ho'
  have hl:listed.getD i false = false:=by
   rw[Array.getD_eq_getD_getElem?] at hl' ⊢
   simp[hls] at hl' ⊢;exact hl'
  have hbl:∀k,B P ops i k→listed.getD k false = true:=by
   intro k hb
   obtain⟨ed,he,hbd,hk⟩:=((hO.bef i o ho).1 k).1 hb
   have hon:=hedge ed (by simpa using he) hbd
   rcases hk with rfl | hk
   ·exact hon
   ·exact hI.closed _ hon k hk
  have hcnt:cnt (listed.setIfInBounds i true) ops.size≤m:=by
   have:=(cnt_set hl hls ops.size).2 hlt
   omega
  have hdlt:∀t,o.dst = some t→t < N:=dst_lt hds (List.mem_of_getElem? ho)
  have hnames:∀t∈opNames ops.toList o,a.tmps.getD t undef = e t:=by
   intro t ht
   refine hI.agree t λi' oi' hoi' hE' he' hl'' hdd=>?_
   by_cases hii:i' = i
   ·subst hii
    rw[ho] at hoi';cases hoi'
    obtain⟨d,hd,hn⟩:=(hO.bef i' o ho).2.2 (qOf i' o ho hE')
    rw[hd] at hdd;cases hdd;exact hn ht
   ·have:=((hO.pair i' i oi' o t hii hoi' ho hdd).1 (qOf i' oi' hoi' hE')).2 ht
    rw[hbl i' this] at hl'';cases hl''
  have hwant:=wanted_eq (ops:=ops) (o:=o) (e:=e) (a:=a) rfl hnames
  have hexec:=exec_eq (hO.sel i o · · ho) hnames
  have lset:∀k,(listed.setIfInBounds i true).getD k false = true↔k = i∨listed.getD k false = true:=by
   intro k
   by_cases hk:k = i
   ·subst hk;simp[hls]
   ·rw[getD_set_ne false (λh=>hk h.symm)];simp[hk]
  have closed' : ∀j,(listed.setIfInBounds i true).getD j false = true→∀k,B P ops j k→(listed.setIfInBounds i true).getD k false = true:=by
   intro j hj k hb
   rw[lset] at hj ⊢
   rcases hj with rfl | hj
   ·exact .inr (hbl k hb)
   ·exact .inr (hI.closed j hj k hb)
  have unl:∀j,(listed.setIfInBounds i true).getD j false = false→j≠i∧listed.getD j false = false:=by
   intro j hj
   refine⟨λh=>?_,?_⟩
   ·rw[(lset j).2 (.inl h)] at hj;cases hj
   ·cases hh:listed.getD j false with
    | false=>rfl
    | true=>rw[(lset j).2 (.inr hh)] at hj;cases hj
  have aput:∀(v:Value) t,(a.put o.dst v).tmps.getD t undef = if o.dst = some t then v else a.tmps.getD t undef:=by
   intro v t
   cases hd:o.dst with
   | none=>simp[Act.put]
   | some d=>
    have hdl:=hdlt d hd
    simp only[Act.put,Array.getD_eq_getD_getElem?]
    by_cases hdt:d = t
    ·subst hdt;simp[hI.asize,hdl]
    ·rw[Array.getElem?_setIfInBounds_ne hdt,if_neg (by simpa using hdt)]
  have asz:∀v,(a.put o.dst v).tmps.size = N∧(a.put o.dst v).defers = []:=by
   intro v
   cases hd:o.dst<;>simp[Act.put,hI.asize,hI.adef]
  unfold wpOp
  rw[ho']
  simp only
  rw[hwant]
  by_cases hE:E P ops i
  ·
   have hdi:Nat.testBit done i = false:=by
    cases hd:Nat.testBit done i with
    | false=>rfl
    | true=>rw[(hI.effI i hE).2 hd] at hl;cases hl
   have hRi:opG P ops.toList o kn e (λkn v=>dstg P ops.toList (dinfo P ops.toList) cs f (Nat.lor done (2 ^ i)) evd kn (put e o.dst v) K) w.heap:=by
    unfold Rest at hR
    have hne:Nat.beq done (dinfo P ops.toList).eff = false:=nb_ne λhh=>by
     rw[hh] at hdi
     have:Nat.testBit (dinfo P ops.toList).eff i = true:=hE
     rw[this] at hdi;cases hdi
    rw[hne,cond_false] at hR
    have:=ALL_mem hR _ (List.mem_map.2 ⟨i,List.mem_filter.2 ⟨List.mem_range.2 (by simpa using hlt),?_⟩,rfl⟩)
    ·simpa only[ho] using this
    ·simp only[z_b,Bool.not_eq_true',hdi,z_t,sub_eff]
     exact⟨hE,λk hb hEk=>(hI.effI k hEk).1 (hbl k hb)⟩
   have next:∀(kn' : Kn) (v:Value) (w' : World),Same w w'→KnOk ops.toList kn' e→dstg P ops.toList (dinfo P ops.toList) cs f (Nat.lor done (2 ^ i)) evd (knDrop ops.toList o.dst kn') (put e o.dst v) K w'.heap→
     wpAny P .any ops Q m (listed.setIfInBounds i true) (a.put o.dst v) w':=by
    intro kn' v w' hsm hk' hS
    cases f with
    | zero=>exact hS.elim
    | succ f=>
     have hb2:∀k,Nat.testBit (Nat.lor done (2 ^ i)) k = true↔Nat.testBit done k = true∨i = k:=by
      intro k;rw[lor_bit,Nat.testBit_two_pow];simp
     have qne:∀j,¬ E P ops j→j≠i:=λj hj hh=>hj (by rw[hh];exact hE)
     obtain⟨evd',kn2,e2,hI2,hR2⟩:=stage (N:=N) (a:=a.put o.dst v) hO (by simp[hI.size]) closed'
      (λj hEj=>by
       rw[lset,hb2]
       constructor
       ·rintro (rfl | h)
        ·exact .inr rfl
        ·exact .inl ((hI.effI j hEj).1 h)
       ·rintro (h | rfl)
        ·exact .inr ((hI.effI j hEj).2 h)
        ·exact .inl rfl)
      (λk hk=>by
       rcases (hb2 k).1 hk with h | rfl
       ·exact hI.effsub k h
       ·exact hE)
      (λj oj hoj hEj hev k hb hEk=>(hb2 k).2 (.inl ((hI.evdI j oj hoj hEj).1 hev k hb hEk)))
      (λj oj hoj hEj hev k hb hEk=>by
       have hklt:k < ops.toList.length:=Nat.lt_trans (B_lt hO hoj hb) (List.getElem?_eq_some_iff.1 hoj).1
       refine (hI.evdI k _ (List.getElem?_eq_getElem hklt) hEk).2 λk' hb' hE'=>?_
       exact (hI.evdI j oj hoj hEj).1 hev k' (B_trans hO hoj hb hb') hE')
      (λj oj hoj hEj hlj=>by
       have hji:=qne j hEj
       have hlj' : listed.getD j false = true:=((lset j).1 hlj).resolve_left hji
       exact (hI.evdI j oj hoj hEj).2 λk hb hEk=>(hI.effI k hEk).1 (hI.closed j hlj' k hb))
      (λj oj hoj hEj hev hlj hdr=>by
       obtain⟨hji,hlj⟩:=unl j hlj
       have hrd:reads oj = false:=by
        rcases hdr with h0 | h
        ·exfalso
         have:=(hb2 i).2 (.inr rfl)
         rw[h0] at this;simp at this
        ·exact h
       have hnot:∀d,o.dst = some d→d ∉ opNames ops.toList oj∧oj.dst≠some d:=by
        intro d hd
        have hp:=(hO.pair i j o oj d (λh=>hji h.symm) ho hoj hd).2
        refine⟨λhn=>?_,λhn=>?_⟩
        ·rcases hp (.inl hn) with h | h
         ·rw[(hI.evdI j oj hoj hEj).1 hev i h hE] at hdi;cases hdi
         ·rw[hbl j h] at hlj;cases hlj
        ·rcases hp (.inr hn) with h | h
         ·rw[(hI.evdI j oj hoj hEj).1 hev i h hE] at hdi;cases hdi
         ·rw[hbl j h] at hlj;cases hlj
       refine Vq.heap (h:=w.heap) (qOf j oj hoj hEj) hrd ((hI.val j oj hoj hEj hev hlj).congr (qOf j oj hoj hEj) (λt ht=>?_) (λd hd=>?_))
       ·exact put_other λhh=>(hnot t hh).1 ht
       ·exact put_other λhh=>(hnot d hh).2 hd)
      (asz v).1 (asz v).2
      (λt ht=>by
       rw[aput]
       by_cases hdt:o.dst = some t
       ·rw[if_pos hdt,hdt,put_self]
       ·rw[if_neg hdt,put_other hdt]
        exact hI.agree t λj oj hoj hEj hev hlj=>ht j oj hoj hEj hev (by
         rw[getD_set_ne false (λh=>qne j hEj h.symm)];exact hlj))
      (hk'.drop _ _) hS
     exact ih _ _ _ _ _ _ _ _ (h0.trans hsm) hI2 hcnt hR2
   rcases opG_run hI.knI hRi with ⟨hw,kn',hk',hop⟩ | ⟨hw,kn',hk',hop⟩
   ·rw[hw,if_pos rfl]
    refine .inl ?_
    unfold Oper.wp
    rw[hexec]
    exact upon_of_res (λv w' hsm hv=>next kn' v w' hsm hk' hv) (opK_sound (λf=>rfl) o hop)
   ·rw[hw,if_neg (by simp)]
    exact next kn' undef w (Same.refl w) hk' hop
  ·
   have hq:=qOf i o ho hE
   have hev:Nat.testBit evd i = true:=(hI.evdI i o ho hE).2 λk hb hEk=>(hI.effI k hEk).1 (hbl k hb)
   obtain⟨d,hd,hqv⟩:=hI.val i o ho hE hev hl
   have next:∀(w' : World),Same w w'→w'.heap = w.heap→wpAny P .any ops Q m (listed.setIfInBounds i true) (a.put o.dst (e d)) w':=by
    intro w' hsm hw'
    refine ih _ done evd kn e _ w' f (h0.trans hsm) ⟨by simp[hI.size],closed',λj hEj=>?_,hI.effsub,hI.evdI,λj oj hoj hEj hevj hlj=>?_,(asz _).1,(asz _).2,λt ht=>?_,hI.knI⟩ hcnt (by rw[hw'];exact hR)
    ·rw[lset,← hI.effI j hEj]
     constructor
     ·rintro (rfl | h)
      ·exact absurd hEj hE
      ·exact h
     ·exact .inr
    ·rw[hw'];exact hI.val j oj hoj hEj hevj (unl j hlj).2
    ·rw[aput,hd]
     by_cases hdt:d = t
     ·subst hdt;rw[if_pos rfl]
     ·rw[if_neg (by simpa using hdt)]
      refine hI.agree t λj oj hoj hEj hevj hlj=>?_
      by_cases hji:j = i
      ·subst hji;rw[ho] at hoj;cases hoj;rw[hd];simpa using hdt
      ·exact ht j oj hoj hEj hevj (by rw[getD_set_ne false (λh=>hji h.symm)];exact hlj)
   rcases hqv.run hq with ⟨hw,hrun⟩ | ⟨hw,hv⟩
   ·rw[hw,if_pos rfl]
    refine .inl ?_
    obtain⟨w',h1,hsm,h2⟩:=hrun w rfl
    unfold Oper.wp
    rw[hexec,h1]
    exact next w' hsm h2
   ·rw[hw,if_neg (by simp),← hv]
    exact next w (Same.refl w) rfl
theorem draw_law:DrawLaw P N (drawOk P):=by
 intro id ops cs K Q a e w0 w h0 hok hds hf hK h
 obtain⟨hm,hO⟩:=dok_of hok
 refine wp_region_any hm ?_
 have hh:dstg P ops.toList (dinfo P ops.toList) cs (ops.toList.length + 1) 0 0 [] e K ({ w with drawn:=w.drawn + 1 }:World).heap:=h
 have g0:∀i,(Array.replicate ops.size false).getD i false = false:=by
  intro i;rw[Array.getD_eq_getD_getElem?,Array.getElem?_replicate];split<;>rfl
 obtain⟨evd',kn',e',hI,hR⟩:=stage (N:=N) (a:=a) (listed:=Array.replicate ops.size false) hO (by simp) (λi hi=>by rw[g0] at hi;cases hi)
  (λi _=>by rw[g0];simp) (λk hk=>by simp at hk) (λi o _ _ hk=>by simp at hk) (λi o _ _ hk=>by simp at hk) (λi o _ _ hk=>by rw[g0] at hk;cases hk)
  (λi o _ _ hk=>by simp at hk) hf.1 hf.2.2 (λt _=>hf.2.1 t) (by intro g hg;cases hg) hh
 refine core hO hds hK ops.size _ _ _ _ _ a _ _ ⟨h0.1,h0.2⟩ hI ?_ hR
 have:∀n,cnt (Array.replicate ops.size false) n≤n:=by
  intro n;induction n with
  | zero=>simp[cnt]
  | succ n ih=>simp only[cnt];cases (Array.replicate ops.size false).getD n false<;>simp<;>omega
 exact this _
end inv
end
end Go.Lf
end
section
namespace Go.Lf
open Go
abbrev RM:=Nat→Option Obj
abbrev Chs:=List (Nat × Obj)
@[reducible] def C (t:Nat) (cs:List Value):Obj:=.cells cs.toArray t (0,0)
def RM.le (R R' : RM):Prop:=∀b o,R b = some o→R' b = some o
theorem RM.le.refl (R:RM):R.le R:=λ_ _ h=>h
theorem RM.le.trans {R R' R'' : RM} (h:R.le R') (h' : R'.le R''):R.le R'':=λb o hb=>h' b o (h b o hb)
structure St (h:Heap) (R:RM) (D:Chs):Prop where
 rd:∀b o,R b = some o→h[b]? = some o
 at_:∀b o,(b,o)∈D→h[b]? = some o∧R b = none
 nd:(D.map Prod.fst).Nodup
def J (R:RM) (D:Chs) (m:M):Prop:=∀h,St h R D→m h
class Tk (D:Chs) (b:Nat) (o:outParam Obj) (E:outParam Chs):Prop where p:D.Perm ((b,o) :: E)
instance Tk.head (b:Nat) (o:Obj) (E:Chs):Tk ((b,o) :: E) b o E:=⟨List.Perm.refl _⟩
instance (priority:=low) Tk.tail (c:Nat × Obj) (D:Chs) (b:Nat) (o:Obj) (E:Chs) [t:Tk D b o E]:Tk (c :: D) b o (c :: E):=⟨(t.p.cons c).trans (List.Perm.swap _ _ _)⟩
class Up (D:Chs) (b:Nat) (o:outParam Obj) (o' : Obj) (D' : outParam Chs):Prop where
 m:(b,o)∈D
 m' : (b,o')∈D'
 f:D'.map Prod.fst = D.map Prod.fst
 u:∀b' x,(b',x)∈D'→(b' = b∧x = o')∨(b',x)∈D
instance Up.head (b:Nat) (o o' : Obj) (E:Chs):Up ((b,o) :: E) b o o' ((b,o') :: E):=
 ⟨by simp,by simp,by simp,λb' x h=>by simp at h;rcases h with ⟨rfl,rfl⟩ | h;exact .inl ⟨rfl,rfl⟩;exact .inr (by simp[h])⟩
instance (priority:=low) Up.tail (c:Nat × Obj) (D:Chs) (b:Nat) (o o' : Obj) (D' : Chs) [t:Up D b o o' D']:Up (c :: D) b o o' (c :: D'):=
 ⟨by simp[t.m],by simp[t.m'],by simp[t.f],λb' x h=>by
  rcases List.mem_cons.1 h with h | h
  ·exact .inr (by simp[h])
  ·rcases t.u b' x h with h | h
   ·exact .inl h
   ·exact .inr (by simp[h])⟩
class At (D:Chs) (b:Nat) (o:outParam Obj):Prop where m:(b,o)∈D
instance At.head (b:Nat) (o:Obj) (E:Chs):At ((b,o) :: E) b o:=⟨by simp⟩
instance (priority:=low) At.tail (c:Nat × Obj) (D:Chs) (b:Nat) (o:Obj) [t:At D b o]:At (c :: D) b o:=⟨by simp[t.m]⟩
class Sp (D A:Chs) (F:outParam Chs):Prop where p:D.Perm (A ++ F)
instance Sp.nil (D:Chs):Sp D [] D:=⟨List.Perm.refl _⟩
instance Sp.cons (D E:Chs) (b:Nat) (o:Obj) (A F:Chs) [t:Tk D b o E] [s:Sp E A F]:Sp D ((b,o) :: A) F:=⟨t.p.trans (s.p.cons _)⟩
class Sf (G F:Chs):Prop where p:∃X,G = X ++ F
instance Sf.refl (F:Chs):Sf F F:=⟨[],rfl⟩
instance (priority:=low) Sf.cons (c:Nat × Obj) (G F:Chs) [s:Sf G F]:Sf (c :: G) F:=⟨by obtain⟨X,h⟩:=s.p;exact⟨c :: X,by rw[h];rfl⟩⟩
instance Tk.app (D:Chs) (b:Nat) (o:Obj) (E F:Chs) [t:Tk D b o E]:Tk (D ++ F) b o (E ++ F):=⟨(t.p.append_right F)⟩
instance Up.app (D:Chs) (b:Nat) (o o' : Obj) (D' F:Chs) [t:Up D b o o' D']:Up (D ++ F) b o o' (D' ++ F):=
 ⟨List.mem_append_left _ t.m,List.mem_append_left _ t.m',by simp[t.f],λb' x h=>by
  rcases List.mem_append.1 h with h | h
  ·rcases t.u b' x h with h | h
   ·exact .inl h
   ·exact .inr (List.mem_append_left _ h)
  ·exact .inr (List.mem_append_right _ h)⟩
instance At.app (D:Chs) (b:Nat) (o:Obj) (F:Chs) [t:At D b o]:At (D ++ F) b o:=⟨List.mem_append_left _ t.m⟩
instance Sf.app (X F:Chs):Sf (X ++ F) F:=⟨X,rfl⟩
section st
variable {h:Heap} {R:RM} {D:Chs}
theorem St.perm {D' : Chs} (hs:St h R D) (hp:D.Perm D'):St h R D':=
 ⟨hs.rd,λb o hm=>hs.at_ b o (hp.symm.subset hm),(hp.map Prod.fst).nodup_iff.1 hs.nd⟩
theorem St.drop {A F:Chs} (hs:St h R (A ++ F)):St h R F:=
 ⟨hs.rd,λb o hm=>hs.at_ b o (List.mem_append_right _ hm),by have:=hs.nd;rw[List.map_append,List.nodup_append] at this;exact this.2.1⟩
theorem St.keep {A F:Chs} (hs:St h R (A ++ F)):St h R A:=
 ⟨hs.rd,λb o hm=>hs.at_ b o (List.mem_append_left _ hm),by have:=hs.nd;rw[List.map_append,List.nodup_append] at this;exact this.1⟩
theorem hc_cells {b t o:Nat} {cs:List Value} (hb:h[b]? = some (C t cs)):hc h b o = cs[o]?:=by
 simp[hc,hb]
theorem rd_cells {b t:Nat} {cs:List Value} (hb:h[b]? = some (C t cs)):∀(n o:Nat),o + n≤cs.length→rd h b o n = some ((cs.drop o).take n):=by
 intro n;induction n with
 | zero=>intro o _;simp[rd]
 | succ n ih=>
  intro o ho
  have hlt:o < cs.length:=by omega
  simp only[rd,hc_cells hb,List.getElem?_eq_getElem hlt,ih (o + 1) (by omega)]
  rw[List.drop_eq_getElem_cons hlt,List.take_succ_cons]
theorem hset_cells {b t o:Nat} {cs:List Value} {v:Value} (hb:h[b]? = some (C t cs)):(hset h b o v)[b]? = some (C t (cs.set o v))∧∀b',b'≠b→(hset h b o v)[b']? = h[b']?:=by
 have hlt:b < h.size:=(Array.getElem?_eq_some_iff.1 hb).1
 constructor
 ·simp only[hset,Array.getElem?_modify,if_true,hb,Option.map_some]
  simp
 ·intro b' hne
  simp only[hset,Array.getElem?_modify]
  rw[if_neg (λhh=>hne hh.symm)]
def allFlat (l:List Value):Bool:=l.all flat
theorem wr_cells {b t:Nat}:∀(l:List Value) {h:Heap} {cs:List Value} (o:Nat),h[b]? = some (C t cs)→o + l.length≤cs.length→allFlat l = true→
  ∃h',wr h b o l = some h'∧h'[b]? = some (C t (lay cs o l))∧(∀b',b'≠b→h'[b']? = h[b']?):=by
 intro l;induction l with
 | nil=>intro h cs o hb ho _;exact⟨h,rfl,by simpa [lay] using hb,λ_ _=>rfl⟩
 | cons v r ih=>
  intro h cs o hb ho hf
  simp only[List.length_cons] at ho
  simp only[allFlat,List.all_cons,z_b] at hf
  have hlt:o < cs.length:=by omega
  obtain⟨g1,g2⟩:=hset_cells (o:=o) (v:=v) hb
  obtain⟨h',w1,w2,w3⟩:=ih (h:=hset h b o v) (cs:=cs.set o v) (o + 1) g1 (by simp;omega) hf.2
  refine⟨h',?_,?_,λb' hne=>by rw[w3 b' hne,g2 b' hne]⟩
  ·have hz:hfz h b o = false:=by simp[hfz,hb]
   simp only[wr,hf.1,hc_cells hb,List.getElem?_eq_getElem hlt,hz]
   simpa using w1
  ·rw[w2]
   congr 2
   simp only[lay,List.length_cons]
   rw[List.take_set,List.drop_set_of_lt (by omega)]
   apply List.ext_getElem?
   intro i
   simp only[List.append_assoc,List.getElem?_append,List.length_set,List.length_take,List.getElem?_set,List.getElem?_take,List.getElem?_drop,List.length_cons]
   have m1:min (o + 1) cs.length = o + 1:=by omega
   have m2:min o cs.length = o:=by omega
   rw[m1,m2]
   by_cases c1:i < o
   ·rw[if_pos (by omega),if_neg (by omega),if_pos (by omega),if_pos c1,if_pos c1]
   ·by_cases c2:i = o
    ·subst c2
     rw[if_pos (by omega),if_pos rfl,if_pos (by omega),if_neg (by omega),if_pos (by omega),Nat.sub_self,List.getElem?_cons_zero]
    ·by_cases c3:i < o + 1 + r.length
     ·rw[if_neg (by omega),if_pos (by omega),if_neg (by omega),if_pos (by omega)]
      rw[show i - o = (i - (o + 1)) + 1 from by omega,List.getElem?_cons_succ]
     ·rw[if_neg (by omega),if_neg (by omega),if_neg (by omega),if_neg (by omega)]
      congr 1;omega
theorem nodup_names {D:Chs} (hn:(D.map Prod.fst).Nodup) {b:Nat} {x y:Obj} (hx:(b,x)∈D) (hy:(b,y)∈D):x = y:=by
 induction D with
 | nil=>cases hx
 | cons c r ih=>
  rw[List.map_cons,List.nodup_cons] at hn
  rcases List.mem_cons.1 hx with h1 | h1<;>rcases List.mem_cons.1 hy with h2 | h2
  ·rw[← h2] at h1;cases h1;rfl
  ·exact absurd (List.mem_map.2 ⟨_,h2,by rw[← h1]⟩) hn.1
  ·exact absurd (List.mem_map.2 ⟨_,h1,by rw[← h2]⟩) hn.1
  ·exact ih hn.2 h1 h2
theorem St.turn {h' : Heap} {b:Nat} {o o' : Obj} {D' : Chs} [u:Up D b o o' D'] (hs:St h R D) (hb:h'[b]? = some o') (hk:∀b',b'≠b→h'[b']? = h[b']?):St h' R D':=by
 have hRb:R b = none:=(hs.at_ b o u.m).2
 refine⟨λb' x hx=>?_,λb' x hm=>?_,by rw[u.f];exact hs.nd⟩
 ·have hne:b'≠b:=λhh=>by subst hh;rw[hRb] at hx;cases hx
  rw[hk b' hne];exact hs.rd b' x hx
 ·by_cases hne:b' = b
  ·subst hne
   have hx:x = o':=nodup_names (by rw[u.f];exact hs.nd) hm u.m'
   subst hx;exact⟨hb,hRb⟩
  ·rcases u.u b' x hm with ⟨h1,_⟩ | hm'
   ·exact absurd h1 hne
   ·have h1:=hs.at_ b' x hm'
    exact⟨by rw[hk b' hne];exact h1.1,h1.2⟩
theorem St.push {o:Obj} (hs:St h R D):St (h.push o) R ((h.size,o) :: D):=by
 have hlt:∀b x,h[b]? = some x→b < h.size:=λb x hb=>(Array.getElem?_eq_some_iff.1 hb).1
 refine⟨λb x hx=>?_,λb x hm=>?_,?_⟩
 ·have:=hs.rd b x hx
  rw[Array.getElem?_push_lt (hlt b x this)];rw[Array.getElem?_eq_getElem (hlt b x this)] at this;exact this
 ·rcases List.mem_cons.1 hm with hm | hm
  ·cases hm
   refine⟨by simp,?_⟩
   cases hr:R h.size with
   | none=>rfl
   | some x=>have:=hlt _ _ (hs.rd _ _ hr);omega
  ·have:=(hs.at_ b x hm)
   refine⟨?_,this.2⟩
   have h1:=this.1
   rw[Array.getElem?_push_lt (hlt b x h1)];rw[Array.getElem?_eq_getElem (hlt b x h1)] at h1;exact h1
 ·rw[List.map_cons,List.nodup_cons]
  refine⟨λhm=>?_,hs.nd⟩
  obtain⟨c,hc,he⟩:=List.mem_map.1 hm
  have:=hlt _ _ (hs.at_ c.1 c.2 hc).1
  rw[he] at this;omega
end st
section rules
variable {P:Program} {R:RM} {D:Chs} {k:Value→M} {m:M}
theorem jl {b o t:Nat} {cs:List Value} {v:Value} [a:At D b (C t cs)] (hv:cs[o]? = some v) (H:J R D (k v)):J R D (L1 (.pointer (some ⟨b,o,none⟩)) k):=
 λh hs=>⟨v,by rw[hc_cells (hs.at_ b _ a.m).1];exact hv,H h hs⟩
theorem jla {b o n t:Nat} {cs l:List Value} [a:At D b (C t cs)] (hn:o + n≤cs.length) (hl:(cs.drop o).take n = l) (H:J R D (k (.agg l.toArray))):J R D (LA n (.pointer (some ⟨b,o,none⟩)) k):=
 λh hs=>⟨l,by rw[← hl];exact rd_cells (hs.at_ b _ a.m).1 n o hn,H h hs⟩
theorem jlr {b o t:Nat} {cs:List Value} {v:Value} (hb:R b = some (C t cs)) (hv:cs[o]? = some v) (H:J R D (k v)):J R D (L1 (.pointer (some ⟨b,o,none⟩)) k):=
 λh hs=>⟨v,by rw[hc_cells (hs.rd b _ hb)];exact hv,H h hs⟩
theorem jlar {b o n t:Nat} {cs l:List Value} (hb:R b = some (C t cs)) (hn:o + n≤cs.length) (hl:(cs.drop o).take n = l) (H:J R D (k (.agg l.toArray))):J R D (LA n (.pointer (some ⟨b,o,none⟩)) k):=
 λh hs=>⟨l,by rw[← hl];exact rd_cells (hs.rd b _ hb) n o hn,H h hs⟩
theorem js {b o n t:Nat} {cs cs' : List Value} {x:Value} {D' : Chs} (hn:(cl x).length = n) (hf:allFlat (cl x) = true) [a:At D b (C t cs)] (ho:o + n≤cs.length) (hc:lay cs o (cl x) = cs')
  [u:Up D b (C t cs) (C t cs') D'] (H:J R D' m):J R D (ST n (.pointer (some ⟨b,o,none⟩)) x m):=by
 intro h hs
 obtain⟨h',w1,w2,w3⟩:=wr_cells (cl x) o (hs.at_ b _ a.m).1 (by omega) hf
 refine⟨hn,h',w1,H h' (hs.turn (b:=b) (o:=C t cs) (o':=C t cs') ?_ w3)⟩
 rw[w2,hc]
theorem ja {t:Nat} {z:Value} (H:∀b,J R ((b,C t (cl z)) :: D) (k (.pointer (some ⟨b,0,none⟩)))):J R D (AL t z k):=
 λh hs=>H h.size _ hs.push
theorem jia {n b off len cap:Nat} {i:Int} {kd:IntKind} (h0:0≤i) (h1:i < len) (H:J R D (k (.pointer (some ⟨b,off + i.toNat * n,none⟩)))):J R D (IA n (.slice (some ⟨b,off,none⟩) len cap) (.int kd i) k):=
 λh hs=>⟨⟨h0,h1⟩,H h hs⟩
theorem jif {c:Bool} {a b:M} (ht:c = true→J R D a) (hf:c = false→J R D b):J R D (IF (.bool c) a b):=by
 cases c
 ·exact hf rfl
 ·exact ht rfl
theorem jand {a b:M} (h1:J R D a) (h2:J R D b):J R D (AND a b):=λh hs=>⟨h1 h hs,h2 h hs⟩
theorem jev {v:Value}:J R D (EV v v):=λ_ _=>rfl
theorem jcut {lv:List Nat} {B:(List Value→M)→M} {K:Env→M} (H:J R D (B λvs h=>∀e:Env,lv.map e = vs→K e h)):J R D (CUT lv B K):=
 λh hs=>⟨_,λe h he=>he e rfl,H h hs⟩
theorem jend {lv:List Nat} {vs:List Value} {K:Env→M} (H:∀e:Env,lv.map e = vs→J R D (K e)):J R D (λh=>∀e:Env,lv.map e = vs→K e h):=
 λh hs e he=>H e he h hs
theorem jfreeze {b:Nat} {o:Obj} {E:Chs} [t:Tk D b o E] (H:∀R',R.le R'→R' b = some o→J R' E m):J R D m:=by
 intro h hs
 have hs':=hs.perm t.p
 have hb:=hs'.at_ b o (by simp)
 refine H (λx=>if x = b then some o else R x) (λx y hx=>?_) (by simp) h ⟨λx y hx=>?_,λx y hm=>?_,?_⟩
 ·by_cases hxb:x = b
  ·subst hxb;rw[hb.2] at hx;cases hx
  ·simp[hxb,hx]
 ·by_cases hxb:x = b
  ·subst hxb;simp at hx;subst hx;exact hb.1
  ·simp[hxb] at hx;exact hs'.rd x y hx
 ·have h1:=hs'.at_ x y (List.mem_cons_of_mem _ hm)
  refine⟨h1.1,?_⟩
  have hnd:=hs'.nd
  rw[List.map_cons,List.nodup_cons] at hnd
  have hxb:x≠b:=λhh=>hnd.1 (by subst hh;exact List.mem_map.2 ⟨_,hm,rfl⟩)
  simp[hxb,h1.2]
 ·have hnd:=hs'.nd
  rw[List.map_cons,List.nodup_cons] at hnd
  exact hnd.2
def POST (R:RM) (F:Chs) (Q:Value→RM→Chs→Prop) (v:Value):M:=λh=>∃R' A,R.le R'∧St h R' (A ++ F)∧Q v R' A
def Fn (P:Program) (f:Nat) (args:List Value) (R:RM) (A:Chs) (Q:Value→RM→Chs→Prop):Prop:=∀F,J R (A ++ F) (CA P f args (POST R F Q))
theorem CA_mono {f:Nat} {args:List Value} {k k' : Value→M} {h:Heap} (hk:∀v h',k v h'→k' v h') (H:CA P f args k h):CA P f args k' h:=by
 intro w hw
 refine (H w hw).mono ?_
 rintro e w' ⟨v,rfl,hs,hv⟩
 exact⟨v,rfl,hs,hk _ _ hv⟩
theorem jc {f:Nat} {args:List Value} {A F:Chs} {Q:Value→RM→Chs→Prop} (hF:Fn P f args R A Q) [s:Sp D A F] (H:∀v R' A',R.le R'→Q v R' A'→J R' (A' ++ F) (k v)):J R D (CA P f args k):=by
 intro h hs
 refine CA_mono ?_ (hF F h (hs.perm s.p))
 rintro v h' ⟨R',A',h1,h2,h3⟩
 exact H v R' A' h1 h3 h' h2
theorem jret {R' : RM} {F A G:Chs} {Q:Value→RM→Chs→Prop} {v:Value} (h1:R.le R') (h2:Q v R' A) [s:Sp D A G] [x:Sf G F]:J R' D (POST R F Q v):=by
 intro h hs
 obtain⟨X,hX⟩:=x.p
 refine⟨R',A,h1,?_,h2⟩
 have hs':=hs.perm s.p
 subst hX
 have:St h R' (X ++ (A ++ F)):=hs'.perm (by
  rw[← List.append_assoc,← List.append_assoc]
  exact List.Perm.append_right F List.perm_append_comm)
 exact this.drop
theorem CA_of {f:Nat} {fn:Func} {A:An} {args:List Value} {K:Value→M} {c:M} (hf:P.funcs[f]? = some fn) (hok:fnOk (drawOk P) fn args.length = true) (he:body P fn A args K = c) {h:Heap} (H:c h):CA P f args K h:=by
 intro w hw
 subst hw
 exact body_sound draw_law hf hok (by rw[he];exact H)
end rules
end Go.Lf
end
section
namespace Go.Lf
open Go
section more
variable {P:Program} {R:RM} {D:Chs} {k:Value→M} {m:M}
@[reducible] def I (n:Int):Value:=.int .i64 n
@[reducible] def inR (n:Int):Prop:=-9223372036854775808≤n∧n < 9223372036854775808
theorem wrap_i64 {n:Int} (h:inR n):IntKind.i64.wrap n = n:=by
 obtain⟨h0,h1⟩:=h
 have e:IntKind.i64.wrap n = if n % 18446744073709551616≥9223372036854775808 then n % 18446744073709551616 - 18446744073709551616 else n % 18446744073709551616:=by
  unfold IntKind.wrap
  by_cases c:n % 18446744073709551616≥9223372036854775808
  ·rw[if_pos c];exact if_pos (by exact decide_eq_true c)
  ·rw[if_neg c];exact if_neg (by exact λhh=>c (z_f hh))
 rw[e];split<;>omega
theorem jadd {x y:Int} (h:inR (x + y)) (H:J R D (k (.int .i64 (x + y)))):J R D (BO .add (.int .i64 x) (.int .i64 y) k):=by
 have e:BO .add (.int .i64 x) (.int .i64 y) k = k (.int .i64 (IntKind.i64.wrap (x + y))):=rfl
 rw[e,wrap_i64 h];exact H
theorem jsub {x y:Int} (h:inR (x - y)) (H:J R D (k (.int .i64 (x - y)))):J R D (BO .sub (.int .i64 x) (.int .i64 y) k):=by
 have e:BO .sub (.int .i64 x) (.int .i64 y) k = k (.int .i64 (IntKind.i64.wrap (x - y))):=rfl
 rw[e,wrap_i64 h];exact H
theorem jmul {x y:Int} (h:inR (x * y)) (H:J R D (k (.int .i64 (x * y)))):J R D (BO .mul (.int .i64 x) (.int .i64 y) k):=by
 have e:BO .mul (.int .i64 x) (.int .i64 y) k = k (.int .i64 (IntKind.i64.wrap (x * y))):=rfl
 rw[e,wrap_i64 h];exact H
theorem jquo {x y:Int} (hy:y≠0) (h:inR (x.tdiv y)) (H:J R D (k (.int .i64 (x.tdiv y)))):J R D (BO .quo (.int .i64 x) (.int .i64 y) k):=by
 have e:BO .quo (.int .i64 x) (.int .i64 y) k = λh=>y≠0∧k (.int .i64 (IntKind.i64.wrap (x.tdiv y))) h:=rfl
 rw[e,wrap_i64 h];exact λh hs=>⟨hy,H h hs⟩
theorem jrem {x y:Int} (hy:y≠0) (H:J R D (k (.int .i64 (x.tmod y)))):J R D (BO .rem (.int .i64 x) (.int .i64 y) k):=by
 exact λh hs=>⟨hy,H h hs⟩
theorem jeq {x y:Int} (H:J R D (k (.bool (x == y)))):J R D (BO .eql (.int .i64 x) (.int .i64 y) k):=H
theorem jne {x y:Int} (H:J R D (k (.bool (x != y)))):J R D (BO .neq (.int .i64 x) (.int .i64 y) k):=H
theorem jlt {x y:Int} (H:J R D (k (.bool (x < y)))):J R D (BO .lss (.int .i64 x) (.int .i64 y) k):=H
theorem jle {x y:Int} (H:J R D (k (.bool (x≤y)))):J R D (BO .leq (.int .i64 x) (.int .i64 y) k):=H
theorem jgr {x y:Int} (H:J R D (k (.bool (x > y)))):J R D (BO .gtr (.int .i64 x) (.int .i64 y) k):=H
theorem jge {x y:Int} (H:J R D (k (.bool (x≥y)))):J R D (BO .geq (.int .i64 x) (.int .i64 y) k):=H
theorem jgtt {c:Bool} {a b:M} (ht:c = true→J R D a) (hf:c = false→J R D b):J R D (GT (.bool c) true a b):=by
 cases c
 ·exact hf rfl
 ·exact ht rfl
theorem jgtf {c:Bool} {a b:M} (hf:c = false→J R D a) (ht:c = true→J R D b):J R D (GT (.bool c) false a b):=by
 cases c
 ·exact hf rfl
 ·exact ht rfl
theorem jift {a b:M} (H:J R D a):J R D (IF (.bool true) a b):=H
theorem jiff {a b:M} (H:J R D b):J R D (IF (.bool false) a b):=H
def layAll:List Value→List (Nat × Nat × Value)→List Value
 | zs,[]=>zs
 | zs,(o,_,v) :: r=>layAll (lay zs o (cl v)) r
def lens:List (Nat × Nat × Value)→Bool
 | []=>true
 | (_,n,v) :: r=>(cl v).length == n && lens r
theorem jfl {ps:List (Nat × Nat × Value)}:∀{zs:List Value} {k:List Value→M},lens ps = true→J R D (k (layAll zs ps))→J R D (FL zs ps k):=by
 induction ps with
 | nil=>intro zs k _ H;exact H
 | cons p r ih=>
  obtain⟨o,n,v⟩:=p
  intro zs k hl H
  simp only[lens,z_b,beq_iff_eq] at hl
  exact λh hs=>⟨hl.1,ih hl.2 H h hs⟩
theorem jbd {zs cs:List Value} {ps:List (Nat × Nat × Value)} (hl:lens ps = true) (hc:layAll zs ps = cs) (H:J R D (k (.agg cs.toArray))):J R D (BD zs ps k):=by
 subst hc;exact jfl hl H
theorem jbs {t len:Nat} {zs cs:List Value} {ps:List (Nat × Nat × Value)} (hl:lens ps = true) (hc:layAll zs ps = cs)
  (H:∀b,J R ((b,C t cs) :: D) (k (.slice (some ⟨b,0,none⟩) len len))):J R D (BS t len zs ps k):=by
 subst hc
 exact jfl hl λh hs=>H h.size _ hs.push
theorem jms {t n by_:Nat} {zs:List Value} {l:Int} (h0:0≤l) (h1:by_ * l≤2 ^ 48) (h2:l≤9223372036854775807)
  (H:∀b,J R ((b,C t (List.replicate l.toNat zs).flatten) :: D) (k (.slice (some ⟨b,0,none⟩) l.toNat l.toNat))):J R D (MS t n by_ zs (.int .i64 l) (.int .i64 l) k):=
 λh hs=>⟨⟨h0,Int.le_refl _,h1,by simpa [IntKind.max,IntKind.bits,IntKind.signed] using h2⟩,H h.size _ hs.push⟩
theorem jcutq {lv:List Nat} {B:(List Value→M)→M} {K:Env→M} (Q:List Value→RM→Chs→Prop)
  (H1:∀K' : List Value→M,(∀vs R' D',Q vs R' D'→J R' D' (K' vs))→J R D (B K')) (H2:∀e R' D',Q (lv.map e) R' D'→J R' D' (K e)):J R D (CUT lv B K):=
 λh hs=>⟨λvs h=>∃R' D',Q vs R' D'∧St h R' D',λe _ ⟨R',D',hq,hs'⟩=>H2 e R' D' hq _ hs',H1 _ (λ_ R' D' hq _ hs'=>⟨R',D',hq,hs'⟩) h hs⟩
theorem least {p:Nat→Prop} (h:∃n,p n):∃n,p n∧∀m,p m→n≤m:=by
 obtain⟨n,hn⟩:=h
 induction n using Nat.strongRecOn with
 | _ n ih=>
  by_cases hm:∃m,m < n∧p m
  ·obtain⟨m,hlt,hp⟩:=hm;exact ih m hlt hp
  ·exact⟨n,hn,λm hp=>Nat.le_of_not_lt λhlt=>hm ⟨m,hlt,hp⟩⟩
theorem jlp {lv:List Nat} {B:(List Value→M)→Env→M} {vs:List Value} (Q:Nat→List Value→RM→Chs→Prop) {n:Nat} (h0:Q n vs R D)
  (H:∀n e R' D' K,Q n (lv.map e) R' D'→(∀n' vs' R'' D'',n' < n→Q n' vs' R'' D''→J R'' D'' (K vs'))→J R' D' (B K e)):J R D (LP lv B vs):=by
 intro h hs
 classical
 let ok:Nat→List Value→Heap→Prop:=λn vs h=>∃R D,Q n vs R D∧St h R D
 let I:List Value→Heap→Prop:=λvs h=>∃n,ok n vs h
 let μ:List Value→Heap→Nat:=λvs h=>if hI:I vs h then (least hI).choose else 0
 refine⟨I,μ,⟨n,R,D,h0,hs⟩,λe h hI=>?_⟩
 have hμ:μ (lv.map e) h = (least hI).choose:=dif_pos hI
 obtain⟨R',D',hq,hs'⟩:=(least hI).choose_spec.1
 refine H (least hI).choose e R' D' _ hq (λn' vs' R'' D'' hn hq' h' hs''=>?_) h hs'
 have hI' : I vs' h':=⟨n',R'',D'',hq',hs''⟩
 refine⟨hI',?_⟩
 rw[hμ]
 have:μ vs' h' = (least hI').choose:=dif_pos hI'
 rw[this]
 exact Nat.lt_of_le_of_lt ((least hI').choose_spec.2 _ ⟨R'',D'',hq',hs''⟩) hn
def Reads (R:RM) (D:Chs) (a:Option Addr) (n:Nat) (l:List Value):Prop:=∀h,St h R D→rdS h a n = some l
theorem Reads.held {b o n t:Nat} {cs:List Value} [a:At D b (C t cs)] (hn:o + n≤cs.length):Reads R D (some ⟨b,o,none⟩) n ((cs.drop o).take n):=
 λ_ hs=>rd_cells (hs.at_ b _ a.m).1 n o hn
theorem Reads.frozen {b o n t:Nat} {cs:List Value} (hb:R b = some (C t cs)) (hn:o + n≤cs.length):Reads R D (some ⟨b,o,none⟩) n ((cs.drop o).take n):=
 λ_ hs=>rd_cells (hs.rd b _ hb) n o hn
theorem Reads.none_:Reads R D none 0 []:=λ_ _=>rfl
theorem Reads.zero {a:Addr} (h:a.spot = none):Reads R D (some a) 0 []:=by
 obtain⟨b,o,p⟩:=a;simp only at h;subst h;exact λ_ _=>rfl
theorem growBy_le {n:Nat}:∀(r c:Nat),c≤2 * n + 200→Builtin.growBy n r c≤2 * n + 200:=by
 intro r;induction r with
 | zero=>intro c h;exact h
 | succ r ih=>
  intro c h
  simp only[Builtin.growBy]
  split
  ·exact h
  ·exact ih _ (by omega)
theorem cap_le {n c:Nat} (h:c < n):Builtin.nextslicecap n c≤2 * n + 200:=by
 unfold Builtin.nextslicecap
 split
 ·omega
 ·split
  ·omega
  ·exact growBy_le _ _ (by omega)
theorem jap {t n by_:Nat} {zs old new:List Value} {a xa:Option Addr} {sl sc m cx:Nat} (hx:Reads R D xa (m * n) new) (ho:Reads R D a (sl * n) old) (hb:by_≠0) (hs:by_ * (2 * (sl + m) + 200)≤2 ^ 48)
  (H1:sl + m≤sc→∀h,St h R D→match a with
    | some ⟨b,o,none⟩=>∃h',wr h b (o + sl * n) new = some h'∧k (.slice a (sl + m) sc) h'
    | some _=>False
    | none=>k (.slice none (sl + m) sc) h)
  (H2:∀b c,sl + m≤c→J R ((b,C t (old ++ new ++ (List.replicate (c - (sl + m)) zs).flatten)) :: D) (k (.slice (some ⟨b,0,none⟩) (sl + m) c))) :
  J R D (AP t n by_ zs (.slice a sl sc) (.slice xa m cx) k):=by
 intro h hst
 refine⟨new,hx h hst,?_⟩
 by_cases hc:sl + m≤sc
 ·rw[if_pos hc];exact H1 hc h hst
 ·rw[if_neg hc]
  refine⟨?_,hb,old,ho h hst,λc hcc=>H2 h.size c hcc _ hst.push⟩
  have:=cap_le (n:=sl + m) (c:=sc) (by omega)
  exact Nat.le_trans (Nat.mul_le_mul_right _ this) (by rw[Nat.mul_comm];exact hs)
theorem jap0 {t n by_ b o sc m cx:Nat} {zs new:List Value} {xa:Option Addr} (hx:Reads R D xa (m * n) new) (hb:by_≠0) (hs:by_ * (2 * m + 200)≤2 ^ 48) (hm:0 < m→sc = 0)
  (H1:m = 0→J R D (k (.slice (some ⟨b,o,none⟩) 0 sc)))
  (H2:∀b c,m≤c→J R ((b,C t (new ++ (List.replicate (c - m) zs).flatten)) :: D) (k (.slice (some ⟨b,0,none⟩) m c))) :
  J R D (AP t n by_ zs (.slice (some ⟨b,o,none⟩) 0 sc) (.slice xa m cx) k):=by
 refine jap hx (by rw[Nat.zero_mul];exact Reads.zero rfl) hb (by rw[Nat.zero_add];exact hs) (λhc h hst=>?_) (λb c hc=>?_)
 ·have h0:m = 0:=by
   by_cases hp:0 < m
   ·have:=hm hp;omega
   ·omega
  subst h0
  have hn:new = []:=by
   have:=hx h hst
   cases xa with
   | none=>simp only[rdS] at this;exact (Option.some.inj this).symm
   | some a=>
    obtain⟨b',o',p⟩:=a
    cases p with
    | none=>simp only[rdS,Nat.zero_mul,rd] at this;exact (Option.some.inj this).symm
    | some _=>simp only[rdS] at this;cases this
  subst hn
  exact⟨h,rfl,H1 rfl h hst⟩
 ·have:=H2 b c (by omega)
  simpa only[Nat.zero_add,List.nil_append] using this
theorem japh {t n by_ b sl sc m cx:Nat} {zs cs new:List Value} {xa:Option Addr} {E:Chs} (hx:Reads R D xa (m * n) new) [tk:Tk D b (C t cs) E] (hc:cs.length = sc * n) (hl:sl≤sc) (hnl:new.length = m * n) (hf:allFlat new = true) (hb:by_≠0) (hs:by_ * (2 * (sl + m) + 200)≤2 ^ 48)
  (H1:sl + m≤sc→J R ((b,C t (lay cs (sl * n) new)) :: E) (k (.slice (some ⟨b,0,none⟩) (sl + m) sc)))
  (H2:∀b' c,sl + m≤c→J R ((b',C t (cs.take (sl * n) ++ new ++ (List.replicate (c - (sl + m)) zs).flatten)) :: D) (k (.slice (some ⟨b',0,none⟩) (sl + m) c))) :
  J R D (AP t n by_ zs (.slice (some ⟨b,0,none⟩) sl sc) (.slice xa m cx) k):=by
 refine jap hx (old:=cs.take (sl * n)) (λh hst=>?_) hb hs (λhcc h hst=>?_) H2
 ·have hst':=hst.perm tk.p
  have:=rd_cells (hst'.at_ b (C t cs) (by simp)).1 (sl * n) 0 (by rw[hc,Nat.zero_add];exact Nat.mul_le_mul_right n hl)
  simpa only[List.drop_zero] using this
 ·have hst':=hst.perm tk.p
  obtain⟨h',w1,w2,w3⟩:=wr_cells new (0 + sl * n) (hst'.at_ b (C t cs) (by simp)).1 (by rw[hc,hnl,Nat.zero_add,← Nat.add_mul];exact Nat.mul_le_mul_right n hcc) hf
  refine⟨h',w1,H1 hcc h' ?_⟩
  have:=hst'.turn (b:=b) (o:=C t cs) (o':=C t (lay cs (0 + sl * n) new)) w2 w3
  simpa only[Nat.zero_add] using this
end more
end Go.Lf
end
namespace Go.Lf
theorem lj {α : Type _} {a b : α} {x y : List α} : (a :: x = b :: y) = (a = b ∧ x = y) := List.cons.injEq a x b y
theorem lc {α : Type _} {a : α} {x y : List α} : (a :: x) ++ y = a :: (x ++ y) := rfl
theorem ln {α : Type _} {x : List α} : [] ++ x = x := rfl
end Go.Lf
section
namespace Go.Lf
open Go Go.Proofs Go.Proofs.Tryz
set_option linter.unusedVariables false
noncomputable abbrev P:Program:=Tryz.prog
abbrev U:Value:=.tuple #[]
@[reducible] def ZR (n:Nat) (z:Value):List Value:=(List.replicate n (cl z)).flatten
@[reducible] def z3:Value:=I 0
@[reducible] def z4:Value:=.bool false
@[reducible] def z29:Value:=.agg #[(I 0),(I 0),(I 0),(I 0),(I 0)]
@[reducible] def z54:Value:=.agg #[(.slice none 0 0),(I 0)]
@[reducible] def z58:Value:=.agg #[(.slice none 0 0),(.slice none 0 0),(.slice none 0 0),(I 0),(.bool false),(.bool false),(.bool false),(I 0),(.slice none 0 0),(.slice none 0 0),(.slice none 0 0),(I 0),(I 0)]
@[reducible] def z67:Value:=.agg #[(I 0),(I 0),(I 0)]
@[reducible] def z78:Value:=.agg #[(.slice none 0 0),(I 0),(.bool false),(I 0)]
@[reducible] def z82:Value:=.slice none 0 0
@[reducible] def z92:Value:=.agg #[(I 0),(I 0)]
@[reducible] def z94:Value:=.agg #[(I 0),(.bool false),(I 0),(.slice none 0 0),(I 0),(I 0),(I 0),(I 0),(I 0),(I 0),(I 0),(I 0),(I 0),(I 0),(I 0)]
@[reducible] def z96:Value:=.agg #[(I 0),(I 0),(I 0),(.slice none 0 0),(.slice none 0 0),(.slice none 0 0),(.slice none 0 0),(I 0),(.bool false),(.bool false),(.bool false),(I 0),(.slice none 0 0),(.slice none 0 0),(.slice none 0 0),(I 0),(I 0),(.slice none 0 0),(I 0),(.bool false),(I 0),(.slice none 0 0),(I 0),(I 0),(I 0),(I 0),(I 0),(I 0),(I 0),(I 0),(I 0),(I 0),(I 0),(.slice none 0 0),(.bool false)]
@[reducible] def z99:Value:=.agg #[(I 0),(I 0),(I 0),(I 0),(I 0),(I 0),(I 0),(I 0)]
@[reducible] def z106:Value:=.agg #[(.slice none 0 0),(I 0),(I 0),(I 0),(I 0),(I 0),(I 0),(I 0),(I 0),(I 0),(I 0),(I 0),(I 0),(I 0),(I 0),(I 0),(I 0)]
@[reducible] def z128:Value:=.agg #[(I 0),(I 0),(I 0),(I 0)]
@[reducible] def z135:Value:=.agg #[(I 0),(I 0),(I 0),(I 0),(.slice none 0 0),(.slice none 0 0)]
@[reducible] def F_w_FnTableRoom:Nat:=3
@[reducible] def F_s_DrawTableRoom:Nat:=6
@[reducible] def F_i_TableRoom:Nat:=7
@[reducible] def F_s_TableRoom:Nat:=8
@[reducible] def F_i_RegionOf:Nat:=9
@[reducible] def F_i_TableOk:Nat:=10
@[reducible] def F_s_TableChoose:Nat:=13
@[reducible] def F_i_RegionBase:Nat:=15
@[reducible] def F_s_l1Open:Nat:=16
@[reducible] def F_s_l20Table:Nat:=17
@[reducible] def F_s_l1Rd_pick:Nat:=18
@[reducible] def F_i_own:Nat:=19
@[reducible] def F_slices_Clone:Nat:=20
@[reducible] def F_i_TableClose:Nat:=21
@[reducible] def F_i_TableTake:Nat:=22
@[reducible] def F_s_TableOk:Nat:=23
@[reducible] def F_s_l4Own:Nat:=24
@[reducible] def F_s_RegionBase:Nat:=25
@[reducible] def F_s_l4Copy:Nat:=26
@[reducible] def F_s_TableClose:Nat:=27
@[reducible] def F_s_TableTake:Nat:=28
@[reducible] def F_i_edge:Nat:=29
@[reducible] def F_i_Region_ok:Nat:=30
@[reducible] def F_s_l4Has:Nat:=35
@[reducible] def F_s_l20State:Nat:=36
@[reducible] def F_slices_IndexFunc:Nat:=37
@[reducible] def F_i_own_1:Nat:=38
@[reducible] def F_i_hasRegion:Nat:=39
@[reducible] def F_i_TableTake_1:Nat:=40
@[reducible] def F_i_free:Nat:=41
@[reducible] def F_s_l20Config:Nat:=45
@[reducible] def F_s_l20Progs:Nat:=46
@[reducible] def F_s_l20Picks:Nat:=47
@[reducible] def F_s_l20Busy:Nat:=48
@[reducible] def F_s_StoryPlay:Nat:=49
@[reducible] def F_s_l5Ints:Nat:=50
@[reducible] def F_s_l20Prog:Nat:=53
@[reducible] def F_s_l20Churn:Nat:=54
@[reducible] def F_s_l20Focus:Nat:=55
@[reducible] def F_s_StoryOk:Nat:=56
@[reducible] def F_s_l8Start:Nat:=57
@[reducible] def F_Sim_pick:Nat:=58
@[reducible] def F_Sim_view:Nat:=59
@[reducible] def F_s_l20Op:Nat:=61
@[reducible] def F_s_l20Shape:Nat:=62
@[reducible] def F_s_ConfigOk:Nat:=63
@[reducible] def F_s_StateNew:Nat:=64
@[reducible] def F_Sim_thread:Nat:=65
@[reducible] def F_Sim_collector:Nat:=66
@[reducible] def F_s_TableNew:Nat:=68
@[reducible] def F_s_ThingMake:Nat:=69
@[reducible] def F_s_ShapeSize:Nat:=70
@[reducible] def F_Sim_begin:Nat:=71
@[reducible] def F_Sim_resolve:Nat:=72
@[reducible] def F_Sim_shape:Nat:=73
@[reducible] def F_Sim_making:Nat:=74
@[reducible] def F_Sim_copying:Nat:=75
@[reducible] def F_Sim_field:Nat:=76
@[reducible] def F_Sim_calm:Nat:=77
@[reducible] def F_Sim_pause:Nat:=78
@[reducible] def F_Sim_work:Nat:=79
@[reducible] def F_s_l3Fits:Nat:=80
@[reducible] def F_s_ShapeWord:Nat:=81
@[reducible] def F_s_ShapeOk:Nat:=82
@[reducible] def F_s_OpOk:Nat:=83
@[reducible] def F_Sim_event:Nat:=84
@[reducible] def F_s_l5Begin:Nat:=85
@[reducible] def F_Sim_push:Nat:=86
@[reducible] def F_s_l8Held:Nat:=87
@[reducible] def F_Sim_from:Nat:=88
@[reducible] def F_s_l8Next:Nat:=89
@[reducible] def F_Sim_read:Nat:=90
@[reducible] def F_s_l8Hold:Nat:=91
@[reducible] def F_s_l5One:Nat:=92
@[reducible] def F_s_l5Pins:Nat:=93
@[reducible] def F_s_ShapeOf:Nat:=94
@[reducible] def F_s_l5Field:Nat:=95
@[reducible] def F_Sim_back:Nat:=96
@[reducible] def F_Sim_write:Nat:=97
@[reducible] def F_Sim_top:Nat:=98
@[reducible] def F_Sim_load:Nat:=99
@[reducible] def F_Sim_old:Nat:=100
@[reducible] def F_Sim_swap:Nat:=101
@[reducible] def F_s_l7Full:Nat:=102
@[reducible] def F_Sim_snapshot:Nat:=103
@[reducible] def F_Sim_choose:Nat:=104
@[reducible] def F_Sim_finish:Nat:=105
@[reducible] def F_Sim_mark:Nat:=106
@[reducible] def F_Sim_look:Nat:=107
@[reducible] def F_Sim_walk:Nat:=108
@[reducible] def F_Sim_carry:Nat:=109
@[reducible] def F_Sim_renew:Nat:=110
@[reducible] def F_s_WordsOk:Nat:=111
@[reducible] def F_s_RegionOf:Nat:=112
@[reducible] def F_s_l5Fields:Nat:=113
@[reducible] def F_s_l6Things:Nat:=114
@[reducible] def F_s_l7Sorted:Nat:=115
@[reducible] def F_s_l7Reached:Nat:=116
@[reducible] def F_s_l7Stay:Nat:=117
@[reducible] def F_s_l6Find:Nat:=118
@[reducible] def F_s_l7Held:Nat:=119
@[reducible] def F_s_l5Place:Nat:=120
@[reducible] def F_s_l6Now:Nat:=121
@[reducible] def F_Sim_unmark:Nat:=122
@[reducible] def F_s_TableDrop:Nat:=123
@[reducible] def F_Sim_idle:Nat:=124
@[reducible] def F_s_l8Then:Nat:=125
@[reducible] def F_s_ThingsIn:Nat:=126
@[reducible] def F_s_l6Put:Nat:=127
@[reducible] def F_s_ThingAt:Nat:=128
@[reducible] def T_int:Nat:=3
@[reducible] def T_bool:Nat:=4
@[reducible] def T_Region:Nat:=29
@[reducible] def T_State:Nat:=58
@[reducible] def T_Shape:Nat:=92
@[reducible] def T_l8Col:Nat:=94
@[reducible] def T_l8Sim:Nat:=96
@[reducible] def T_l8Thread:Nat:=106
@[reducible] def T_Event:Nat:=128
@[reducible] def T_Thing:Nat:=135
end Go.Lf
end
