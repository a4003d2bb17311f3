/- A part of the proof of the given row: the walk of the law and of all that it calls. Conditions: none. -/
import Derived.Shelf.Sort.Plain
import Derived.Shelf.Lay
import Derived.Test.YtlagojobcbkpdaaGreatEE
set_option linter.unusedVariables false
set_option linter.unusedSimpArgs false
set_option maxRecDepth 100000
section
namespace Go.Lf
open Go Sm
def lk (l:List (Int × Value)) (x:Int):Option Value:=(l.find? λp=>p.1 == x).map Prod.snd
def up (l:List (Int × Value)) (x:Int) (v:Value):List (Int × Value):=if (lk l x).isSome then l.map λp=>if p.1 = x then (x,v) else p else l ++ [(x,v)]
def pr (e:MapEntry):Value × Value:=(e.key,e.val)
def pk (p:Int × Value):Value × Value:=(I p.1,p.2)
def Mg (o:Obj) (l:List (Int × Value)):Prop:=∃es clock,o = .map es clock∧MapKept.Stamped es clock∧es.toList.map pr = l.map pk
theorem Kk {es:List MapEntry} {l:List (Int × Value)} (h:es.map pr = l.map pk) {j:Nat} {e:MapEntry} (he:es[j]? = some e):∃p,l[j]? = some p∧e.key = I p.1∧e.val = p.2:=by
 have h1:(es.map pr)[j]? = some (pr e):=by rw[S4,he];rfl
 rw[h,S4] at h1;cases hl:l[j]? with
 | none=>rw[hl] at h1;cases h1
 | some p=>
  rw[hl] at h1;have h1:pk p = pr e:=Option.some.inj h1;exact⟨p,rfl,(congrArg Prod.fst h1).symm,(congrArg Prod.snd h1).symm⟩
theorem Pb {es:List MapEntry} {l:List (Int × Value)} (h:es.map pr = l.map pk) {e:MapEntry} (he:e∈es):∃p,p∈l∧e.key = I p.1∧e.val = p.2:=by
 obtain⟨j,hj⟩:=List.mem_iff_getElem?.1 he;obtain⟨p,h1,h2⟩:=Kk h hj;exact⟨p,List.mem_of_getElem? h1,h2⟩
theorem LC {es:List MapEntry} {l:List (Int × Value)} (h:es.map pr = l.map pk) {p:Int × Value} (hp:p∈l):∃e,e∈es∧e.key = I p.1∧e.val = p.2:=by
 have:pk p∈es.map pr:=by rw[h];exact Sr hp
 obtain⟨e,h1,h2⟩:=S6.1 this;exact⟨e,h1,congrArg Prod.fst h2,congrArg Prod.snd h2⟩
theorem Kv {es:Array MapEntry} {l:List (Int × Value)} (h:es.toList.map pr = l.map pk):∀e∈es.toList,MapKept.IsKey (.int .i64) e.key:=λe he=>by
 obtain⟨p,_,hk,_⟩:=Pb h he;rw[hk];rfl
theorem MC {es:Array MapEntry} {clock:Nat} {l:List (Int × Value)} (hs:MapKept.Stamped es clock) (h:es.toList.map pr = l.map pk):(l.map Prod.fst).Nodup:=by
 have h1:=((MapKept.stamped_iff _ _).1 hs).2.2;have h2:(es.toList.map (·.key)).Nodup:=List.pairwise_map.2 h1;have h3:es.toList.map (·.key) = (l.map Prod.fst).map I:=by
  have:=congrArg (List.map Prod.fst) h;simpa [List.map_map,Function.comp_def,pr,pk] using this
 rw[h3] at h2;exact (List.pairwise_map.1 h2).imp λh e=>h (by rw[e])
theorem Mg.nd {o:Obj} {l:List (Int × Value)} (h:Mg o l):(l.map Prod.fst).Nodup:=by
 obtain⟨es,clock,_,hs,h⟩:=h;exact MC hs h
theorem It {l:List (Int × Value)} {x:Int}:lk l x = none↔∀p∈l,p.1≠x:=by
 unfold lk;rw[Option.map_eq_none_iff,List.find?_eq_none];simp
theorem KC:∀{l:List (Int × Value)},(l.map Prod.fst).Nodup→∀{p:Int × Value},p∈l→lk l p.1 = some p.2
 | a :: l,hn,p,hp=>by
  rw[So,SZ] at hn;unfold lk;rcases Rf.1 hp with rfl | hp
  ·rw[TE σ];rfl
  ·have:a.1≠p.1:=λe=>hn.1 (e▸Sr hp)
   rw[T0 (by simpa using this)];exact KC hn.2 hp
def Li (R:RM) (D:Chs) (b:Nat) (o:Obj):Prop:=∀h,St h R D→h[b]? = some o
theorem Li.fz {R:RM} {D:Chs} {b:Nat} {o:Obj} (h:R b = some o):Li R D b o:=λ_ hs=>hs.rd _ _ h
theorem Li.at {R:RM} {D:Chs} {b:Nat} {o:Obj} [a:At D b o]:Li R D b o:=λ_ hs=>(hs.at_ _ _ a.m).1
section rules
variable {R:RM} {D:Chs} {k:Value→M}
theorem OW {t:Nat} (ht:∀w,(Instr.makeMap t none).run P w = .ok (.map (some w.heap.size)) (w.alloc (.map #[] 0))) (H:∀b o,Mg o []→J R ((b,o) :: D) (k (.map (some b)))):J R D (X P (Instr.makeMap t none) k):=by
 intro h hs w hw;rw[ht];subst hw;exact⟨⟨rfl,rfl⟩,H _ _ ⟨#[],0,rfl,MapKept.stamped_empty 0,rfl⟩ _ hs.push⟩
theorem Ns {w:World} {t e b:Nat} {o:Obj} {l:List (Int × Value)} {x:Int} {z:Value} (c:Bool) (ht:P.underlying t = some (.map 3 e)) (hz:∀w,(zeroValue e).run P w = .ok z w) (hb:w.heap[b]? = some o) (hm:Mg o l) :
  (Instr.lookup t (.map (some b)) (I x) c).run P w = .ok (if c then .tuple #[(lk l x).getD z,.bool (lk l x).isSome] else (lk l x).getD z) w:=by
 obtain⟨es,clock,rfl,hs,hl⟩:=hm;have hk:MapKept.IsKey (.int .i64) (I x):=rfl;rcases MapKept.findNow_spec hk es.toList 0 (Kv hl) with ⟨f1,f2⟩ | ⟨j,e0,f1,f2,f3⟩
 ·have:lk l x = none:=It.2 λp hp e=>by
   obtain⟨e1,h1,h2,_⟩:=LC hl hp;exact f2 e1 h1 (by rw[h2,e])
  rw[this];cases c<;>simp[Instr.lookup,run_underlying ht,MapKept.run_getObj_map hb,MapKept.run_checkKey CX hk,MapKept.run_findKey CX f1,hz,Result.andThen]
 ·obtain⟨p,h1,h2,h3⟩:=Kk hl f2;have hx:p.1 = x:=(Value.int.inj (h2.symm.trans f3)).2;have:lk l x = some e0.val:=by
   rw[← hx,h3];exact KC (MC hs hl) (List.mem_of_getElem? h1)
  rw[this];cases c<;>simp[Instr.lookup,run_underlying ht,MapKept.run_getObj_map hb,MapKept.run_checkKey CX hk,MapKept.run_findKey CX f1,Result.andThen]
theorem QL {t e b:Nat} {o:Obj} {l:List (Int × Value)} {x:Int} {z:Value} (c:Bool) (a:Li R D b o) (ht:P.underlying t = some (.map 3 e)) (hz:∀w,(zeroValue e).run P w = .ok z w) (hm:Mg o l)
  (H:J R D (k (if c then .tuple #[(lk l x).getD z,.bool (lk l x).isSome] else (lk l x).getD z))):J R D (X P (Instr.lookup t (.map (some b)) (I x) c) k):=
 @jXr R D k _ λh hs w hw=>⟨_,_,Ns c ht hz (by rw[hw];exact a _ hs) hm,Aa.refl _,D,by rw[hw];exact hs,H⟩
theorem OO {w:World} {t e b:Nat} {o:Obj} {l:List (Int × Value)} {x:Int} {v:Value} (ht:P.underlying t = some (.map 3 e)) (hb:w.heap[b]? = some o) (hm:Mg o l) :
  ∃o',Mg o' (up l x v)∧(do Instr.mapUpdate t (.map (some b)) (I x) v;pure undef).run P w = .ok U (ChangeMaps.setBlock w b o')∧(∀b',b'≠b→(ChangeMaps.setBlock w b o').heap[b']? = w.heap[b']?)∧(ChangeMaps.setBlock w b o').heap[b]? = some o':=by
 obtain⟨es,clock,rfl,hs,hl⟩:=hm;have hk:MapKept.IsKey (.int .i64) (I x):=rfl;have run:∃es' clock',(Instr.mapUpdate t (.map (some b)) (I x) v).run P w = .ok () (ChangeMaps.setBlock w b (.map es' clock'))∧Mg (.map es' clock') (up l x v):=by
  rcases MapKept.findNow_spec hk es.toList 0 (Kv hl) with ⟨f1,f2⟩ | ⟨j,e0,f1,f2,f3⟩
  ·have hn:lk l x = none:=It.2 λp hp e=>by
    obtain⟨e1,h1,h2,_⟩:=LC hl hp;exact f2 e1 h1 (by rw[h2,e])
   refine⟨es.push ⟨I x,v,clock⟩,clock + 1,?_,_,_,rfl,MapKept.stamped_push hs (λy hy=>f2 y hy),?_⟩
   ·simp[Instr.mapUpdate,run_underlying ht,MapKept.run_getObj_map hb,MapKept.run_checkKey CX hk,MapKept.run_findKey CX f1,MapKept.run_setObj_map _ hb,Result.andThen,ChangeMaps.setBlock]
   ·unfold up;rw[if_neg (by rw[hn];simp),Array.toList_push,S8,S8,hl];rfl
  ·have hj:es[j]? = some e0:=by rw[← SA];exact f2
   have hf:∀e,es[j]? = some e→({ e with key:=I x,val:=v }:MapEntry).key = e.key:=λe h=>by
    rw[hj] at h;cases h;exact f3.symm
   obtain⟨p,h1,h2,h3⟩:=Kk hl f2;have hx:p.1 = x:=(Value.int.inj (h2.symm.trans f3)).2;have nd:=MC hs hl;have hsm:(lk l x).isSome:=by rw[← hx,KC nd (List.mem_of_getElem? h1)];rfl
   refine⟨es.modify j (λe=>{ e with key:=I x,val:=v }),clock,?_,_,_,rfl,MapKept.stamped_modify hs j _ (λe _=>rfl) (λe _ h=>hf e h),?_⟩
   ·simp[Instr.mapUpdate,run_underlying ht,MapKept.run_getObj_map hb,MapKept.run_checkKey CX hk,MapKept.run_findKey CX f1,hj,f3,MapKept.run_keyThatStays hk,MapKept.run_setObj_map _ hb,Result.andThen,ChangeMaps.setBlock]
   ·unfold up;rw[if_pos hsm];apply List.ext_getElem?;intro i;rw[S4,SA,Si,S4,S4];by_cases hij:j = i
    ·subst hij;rw[if_pos rfl,hj,h1];simp only[TM,if_pos hx];rfl
    ·rw[if_neg hij,← SA];have e1:=congrArg (λz=>z[i]?) hl;simp only[S4] at e1;rw[e1];cases hli:l[i]? with
     | none=>rfl
     | some q=>
      have:q.1≠x:=λe=>by
       have a1:(l.map Prod.fst)[i]? = some x:=by rw[S4,hli,← e];rfl
       have a2:(l.map Prod.fst)[j]? = some x:=by rw[S4,h1,← hx];rfl
       have l1:=(Rp.1 a1).1;exact hij ((List.getElem?_inj l1 nd).1 (a1.trans a2.symm)).symm
      simp only[TM,if_neg this]
 obtain⟨es',clock',hr,hq⟩:=run;have hst:=MapKept.heap_set (o':=.map es' clock') hb;exact⟨_,hq,by rw[Rb,hr];rfl,hst.2,hst.1⟩
theorem Q9 {t e b:Nat} {o:Obj} {E:Chs} {l:List (Int × Value)} {x:Int} {v:Value} [tk:Tk D b o E] (ht:P.underlying t = some (.map 3 e)) (hm:Mg o l) (H:∀o',Mg o' (up l x v)→J R ((b,o') :: E) (k U)):J R D (X P (do Instr.mapUpdate t (.map (some b)) (I x) v;pure undef) k):=
 @jXr R D k _ λh hs w hw=>(OO ht (by rw[hw];exact ((hs.perm tk.p).at_ b _ (.head _)).1) hm).elim λo' h=>⟨U,_,h.2.1,⟨rfl,rfl⟩,_,(hs.perm tk.p).turn h.2.2.2 (by rw[← hw];exact h.2.2.1),H _ h.1⟩
def ItG (m:Nat) (o it:Obj) (rem:List (Int × Value)) (cur:Option (Int × Value)):Prop:=
 ∃es clock seen,o = .map es clock∧it = .mapIter (some m) clock seen clock∧(es.toList.filter λe=>!seen.contains e.born).map pr = rem.map pk∧
  match cur with | none=>True | some p=>∃e∈es.toList,seen.back? = some e.born∧e.key = I p.1∧e.val = p.2
theorem RO {t e b:Nat} {o:Obj} {l:List (Int × Value)} (a:Li R D b o) (ht:P.underlying t = some (.map 3 e)) (hm:Mg o l)
  (H:∀ib it,ItG b o it l none→J R ((ib,it) :: D) (k (Pt ib))):J R D (X P (Instr.range t (.map (some b))) k):=by
 obtain⟨es,clock,rfl,hs,hl⟩:=hm;refine @jXr R D k _ λh hst w hw=>⟨.pointer (some ⟨w.heap.size,0,none⟩),w.alloc (.mapIter (some b) clock #[] clock),?_,⟨rfl,rfl⟩,_,?_,H _ _ ⟨es,clock,#[],rfl,rfl,?_,trivial⟩⟩
 ·have hb:w.heap[b]? = some (.map es clock):=by rw[hw];exact a _ hst
  simp[Instr.range,run_underlying ht,MapKept.run_getObj_map hb,Result.andThen]
 ·subst hw;exact hst.push
 ·rw[← hl,List.filter_eq_self.2 σ]
theorem Fj {w:World} {r:Nat} {m since stepped:Nat} {seen:Array Nat} (hb:w.heap[r]? = some (.mapIter (some m) since seen stepped)):(getObj r).run P w = .ok (.mapIter (some m) since seen stepped) w:=by
 simp only[getObj,Sem.run,hb]
theorem LW {w:World} {r:Nat} {m since stepped:Nat} {seen:Array Nat} (o:Obj) (hb:w.heap[r]? = some (.mapIter (some m) since seen stepped)):(setObj r o).run P w = .ok () { w with heap:=w.heap.setIfInBounds r o }:=by
 simp only[setObj,Sem.run,hb]
theorem Ko {α:Type}:∀(l:List α) (i:Nat) (h:i < l.length),l.Perm (l[i] :: l.eraseIdx i)
 | a :: l,0,_=>σ
 | a :: l,i + 1,h=>by
  rw[Sy,List.eraseIdx_cons_succ];exact ((Ko l i (by simpa using h)).cons a).trans (T8 _ _ _)
theorem KD {α β:Type} (f:α→β):∀(l:List α) (i:Nat),(l.eraseIdx i).map f = (l.map f).eraseIdx i
 | [],i=>σ
 | a :: l,0=>σ
 | a :: l,i + 1=>by simp[KD f l i]
theorem Qw {b ib:Nat} {o it:Obj} {E:Chs} {l rem:List (Int × Value)} {cur:Option (Int × Value)} [tk:Tk D ib it E] (a:Li R D b o) (hm:Mg o l) (hi:ItG b o it rem cur)
  (H0:rem = []→J R D (k (.tuple #[.bool false])))
  (H1:∀p rem' it',rem.Perm (p :: rem')→ItG b o it' rem' (some p)→J R ((ib,it') :: E) (k (.tuple #[.bool true,I p.1,p.2]))):J R D (X P (Instr.next (Pt ib) false 0) k):=by
 obtain⟨es,clock,seen,rfl,rfl,hr,_⟩:=hi;obtain⟨es',clock',he,hs,hl⟩:=hm;cases he;intro h hst w hw;subst hw;have hb:=a _ hst;have hib:=((hst.perm tk.p).at_ ib _ (.head _)).1;have hse:(!seen.isEmpty && !es.isEmpty && es.all (λx=>decide (x.born≥clock))) = false:=by
  cases hes:es.isEmpty with
  | true=>simp
  | false=>
   have hne:es≠#[]:=by simpa using hes
   have hsz:0 < es.size:=Array.size_pos_iff.2 hne;have:es.all (λx=>decide (x.born≥clock)) = false:=by
    rw[T9];intro By;have h1:=Array.all_eq_true.1 By 0 hsz;have h2:=hs.1 es[0] σ;have h1:=z_f h1;omega
   simp[this]
 have hold:∀x∈(es.filter λe=>!seen.contains e.born).toList,x.born < clock:=λx hx=>by
  rw[Array.toList_filter] at hx;exact hs.1 x (TA.1 hx).1
 generalize hL:es.filter (λe=>!seen.contains e.born) = L at hold;have hL' : L.toList = es.toList.filter λe=>!seen.contains e.born:=by rw[← hL,Array.toList_filter]
 have e1:L.filter (λx=>decide (x.born < clock)) = L:=by
  apply Array.toList_inj.1;rw[Array.toList_filter,List.filter_eq_self];exact λx hx=>decide_eq_true (hold x hx)
 have e2:L.filter (λx=>decide (x.born≥clock)) = #[]:=by
  apply Array.toList_inj.1;rw[Array.toList_filter,List.filter_eq_nil_iff.2];intro x hx;have:=hold x hx;simp;omega
 by_cases h0:L = #[]
 ·have hre:rem = []:=by
   rw[← hL',h0] at hr;exact List.map_eq_nil_iff.1 hr.symm
  have run:(Instr.next (Pt ib) false 0).run P w = .ok (.tuple #[.bool false]) w:=by
   simp only[Instr.next,Rb,Fj hib,Result.andThen,MapKept.run_getObj_map hb,hse,hL,e1,e2];subst h0;simp[choose,Sem.run,Question.forced]
  rw[run];exact⟨Aa.refl _,H0 hre w.heap hst⟩
 ·have hpos:0 < L.size:=Array.size_pos_iff.2 h0;have run:∃i,∃hi:i < L.size,∃d,(Instr.next (Pt ib) false 0).run P w = .ok (.tuple #[.bool true,L[i].key,L[i].val]) { w with drawn:=d,heap:=w.heap.setIfInBounds ib (.mapIter (some b) clock (seen.push L[i].born) clock) }:=by
   have hemp:L.isEmpty = false:=by simpa using h0
   have hch:∃i,i < L.size∧∃d,(choose (.mapNext L.size)).run P w = .ok i { w with drawn:=d }:=by
    by_cases hf:L.size≤1
    ·exact⟨0,hpos,w.drawn,by simp[choose,Sem.run,Question.forced,hf]⟩
    ·exact⟨(w.tape w.drawn (.mapNext L.size)) % L.size,Nat.mod_lt _ hpos,w.drawn + 1,by simp[choose,Sem.run,Question.forced,hf,Question.cut]⟩
   obtain⟨i,hi,d,hc⟩:=hch;refine⟨i,hi,d,?_⟩;have hib' : ({ w with drawn:=d }:World).heap[ib]? = some (.mapIter (some b) clock seen clock):=hib;simp only[Instr.next,Rb,Fj hib,Result.andThen,MapKept.run_getObj_map hb,hse,hL,e1,e2,hemp,Ru,if_false,Array.append_empty,Array.empty_append,Array.size_map,hc];have hg:(L.map some)[i]? = some (some L[i]):=by simp[hi]
   simp only[hg,Rb,LW _ hib',Result.andThen];rfl
  obtain⟨i,hi,d,hrun⟩:=run;rw[hrun];have hmem:L[i]∈es.toList:=by
   have:L[i]∈L.toList:=σ
   rw[hL'] at this;exact (TA.1 this).1
  have hLl:L.toList[i]? = some L[i]:=by rw[SA,T4 hi]
  rw[← hL'] at hr;obtain⟨p,p1,p2,p3⟩:=Kk hr hLl;have hst2:=MapKept.heap_set (o':=.mapIter (some b) clock (seen.push L[i].born) clock) hib;have hil:i < rem.length:=(Rp.1 p1).1;have hip:rem[i] = p:=(Rp.1 p1).2;have hperm:rem.Perm (p :: rem.eraseIdx i):=by
   have:=Ko rem i hil;rwa [hip] at this
  refine⟨⟨rfl,rfl⟩,?_⟩;rw[p2,p3];refine H1 p (rem.eraseIdx i) _ hperm ⟨es,clock,seen.push L[i].born,rfl,rfl,?_,L[i],hmem,σ,p2,p3⟩ _ ((hst.perm tk.p).turn hst2.1 hst2.2);have e3:(es.toList.filter λe=>!(seen.push L[i].born).contains e.born) = L.toList.eraseIdx i:=by
   have nb:(L.toList.map (·.born)).Nodup:=by
    rw[hL'];exact (List.Sublist.map _ List.filter_sublist).nodup hs.2.1
   have:(es.toList.filter λe=>!(seen.push L[i].born).contains e.born) = L.toList.filter λe=>!(e.born == L[i].born):=by
    rw[hL',List.filter_filter];congr 1;funext e;simp only[Array.contains_push];cases (seen.contains e.born)<;>cases h:(e.born == L[i].born)<;>simp_all
   rw[this];have key:∀(M:List MapEntry) (i:Nat) (hi:i < M.length),(M.map (·.born)).Nodup→(M.filter λe=>!(e.born == (M[i]).born)) = M.eraseIdx i:=by
    intro M;induction M with
    | nil=>intro i hi;cases hi
    | cons a M ih=>
     intro i hi hn;rw[So,SZ] at hn;cases i with
     | zero=>
      rw[List.filter_cons_of_neg σ];simp only[List.getElem_cons_zero,List.eraseIdx_zero,List.tail_cons];rw[List.filter_eq_self];intro x hx;have:x.born≠a.born:=λe=>hn.1 (e▸Sr hx)
      simpa using this
     | succ i=>
      simp only[Sy,List.eraseIdx_cons_succ];have hi:i < M.length:=by simpa using hi
      have:a.born≠(M[i]).born:=λe=>hn.1 (e▸Sr (RZ hi))
      rw[List.filter_cons_of_pos (by simpa using this),ih i hi hn.2]
   have:=key L.toList i (by simpa using hi) nb;simpa using this
  rw[e3,KD,KD,hr]
theorem Qo {b ib:Nat} {o it:Obj} {l rem:List (Int × Value)} {p:Int × Value} [ai:At D ib it] (a:Li R D b o) (hm:Mg o l) (hi:ItG b o it rem (some p)) (H:J R D (k (.tuple #[I p.1,p.2]))):J R D (X P (Instr.entry (Pt ib)) k):=by
 obtain⟨es,clock,seen,rfl,rfl,hr,e,e1,e2,e3,e4⟩:=hi;obtain⟨es',clock',he,hs,hl⟩:=hm;cases he;refine @jXr R D k _ λh hst w hw=>⟨_,w,?_,Aa.refl _,D,by rw[hw];exact hst,H⟩
 subst hw;have hb:=a _ hst;have hib:=(hst.at_ ib _ ai.m).1;have hf:es.find? (λx=>x.born == e.born) = some e:=by
  rw[← Array.find?_toList];have key:∀(M:List MapEntry),(M.map (·.born)).Nodup→e∈M→M.find? (λx=>x.born == e.born) = some e:=by
   intro M;induction M with
   | nil=>intro _ h;cases h
   | cons a M ih=>
    intro hn hm;rw[So,SZ] at hn;rcases Rf.1 hm with rfl | hm
    ·rw[TE σ]
    ·have:a.born≠e.born:=λx=>hn.1 (x▸Sr hm)
     rw[T0 (by simpa using this),ih hn.2 hm]
  exact key _ hs.2.1 e1
 simp[Instr.entry,Fj hib,e2,MapKept.run_getObj_map hb,hf,e3,e4,Result.andThen]
end rules
set_option maxHeartbeats 1000000 in
theorem Hz (x:Rg) {r:Int} (r0:0≤r) (r1:r < 12):Pu Eb [.agg (eRg x).toArray,I r] (.bool (Fg r x)):=by
 intro R;refine I2 λF=>?_
 refine z_2 ?_;have hb:AG r = 16 * r:=EN r0 r1;refine ja λb=>jp (Bn r) ?_
 rw[hb];have key:Fg r x = true↔(¬ x.kind < 1∧¬ x.kind > 4∧¬ x.top < 16 * r∧¬ x.top > 16 * r + 16∧¬ x.Bl < 16 * r∧¬ x.Bl > x.top∧¬ x.AQ < 0∧¬ x.AQ > x.top - 16 * r∧¬ (x.kind = 1∧x.top≠16 * r))∧(if x.kind = 2 then 0≤x.AM∧x.AM≤3 else x.AM = -1):=by
  unfold Fg;rw[hb];simp only[z_b,SB,Rt,z_d,beq_iff_eq,beq_eq_false_iff_ne];by_cases h2:x.kind = 2
  ·rw[if_pos h2,h2];simp;omega
  ·rw[if_neg h2,show (x.kind == 2) = false from beq_eq_false_iff_ne.2 h2];by_cases ho:0≤x.AM
   ·simp[ho];omega
   ·simp[ho];omega
 have fin:∀{c:Bool} {D:Chs} [Sf D F],c = Fg r x→J R D (Fr R F (λv' _ _=>v' = .bool (Fg r x)) (.bool c)):=λ{c D} _ hc=>AV (A:=[]) (RM.le.refl R) (by rw[hc])
 refine jor [Pt b,I (16 * r)] ((decide (x.kind < 1)) || (decide (x.kind > 4))) (λK' hK'=>?_) (λe c u ho he=>?_)
 ·refine jl rfl (jlt (BT (λh1=>?_) (λh1=>?_)))
  ·refine jl rfl (jgr (hK' _ _ _ (h1▸AY) (by rw[h1,Re])))
  ·exact hK' _ _ _ (h1▸Ao) (by rw[h1,Rm])
 refine z_V ?_;obtain⟨B1,hB1⟩:∃B1,B1 = (decide (x.kind < 1) || decide (x.kind > 4)):=⟨_,rfl⟩;rw[← hB1] at ho;refine jor [Pt b,I (16 * r)] ((B1) || (decide (x.top < 16 * r))) (λK' hK'=>?_) (λe c u ho he=>?_)
 ·rw[ho];refine BT (λh1=>?_) (λh1=>?_)
  ·refine jl rfl (jlt (hK' _ _ _ (h1▸AY) (by rw[h1,Re])))
  ·exact hK' _ _ _ (h1▸Ao) (by rw[h1,Rm])
 refine z_V ?_;obtain⟨B2,hB2⟩:∃B2,B2 = (B1 || decide (x.top < 16 * r)):=⟨_,rfl⟩;rw[← hB2] at ho;refine jor [Pt b,I (16 * r)] ((B2) || (decide (x.top > 16 * r + 16))) (λK' hK'=>?_) (λe c u ho he=>?_)
 ·rw[ho];refine BT (λh1=>?_) (λh1=>?_)
  ·refine jl rfl (jad (jgr (hK' _ _ _ (h1▸AY) (by rw[h1,Re]))))
  ·exact hK' _ _ _ (h1▸Ao) (by rw[h1,Rm])
 refine z_V ?_;obtain⟨B3,hB3⟩:∃B3,B3 = (B2 || decide (x.top > 16 * r + 16)):=⟨_,rfl⟩;rw[← hB3] at ho;refine jor [Pt b,I (16 * r)] ((B3) || (decide (x.Bl < 16 * r))) (λK' hK'=>?_) (λe c u ho he=>?_)
 ·rw[ho];refine BT (λh1=>?_) (λh1=>?_)
  ·refine jl rfl (jlt (hK' _ _ _ (h1▸AY) (by rw[h1,Re])))
  ·exact hK' _ _ _ (h1▸Ao) (by rw[h1,Rm])
 refine z_V ?_;obtain⟨B4,hB4⟩:∃B4,B4 = (B3 || decide (x.Bl < 16 * r)):=⟨_,rfl⟩;rw[← hB4] at ho;refine jor [Pt b,I (16 * r)] ((B4) || (decide (x.Bl > x.top))) (λK' hK'=>?_) (λe c u ho he=>?_)
 ·rw[ho];refine BT (λh1=>?_) (λh1=>?_)
  ·refine jl rfl (jl rfl (jgr (hK' _ _ _ (h1▸AY) (by rw[h1,Re]))))
  ·exact hK' _ _ _ (h1▸Ao) (by rw[h1,Rm])
 refine z_V ?_;obtain⟨B5,hB5⟩:∃B5,B5 = (B4 || decide (x.Bl > x.top)):=⟨_,rfl⟩;rw[← hB5] at ho;refine jor [Pt b,I (16 * r)] ((B5) || (decide (x.AQ < 0))) (λK' hK'=>?_) (λe c u ho he=>?_)
 ·rw[ho];refine BT (λh1=>?_) (λh1=>?_)
  ·refine jl rfl (jlt (hK' _ _ _ (h1▸AY) (by rw[h1,Re])))
  ·exact hK' _ _ _ (h1▸Ao) (by rw[h1,Rm])
 refine z_V ?_;obtain⟨B6,hB6⟩:∃B6,B6 = (B5 || decide (x.AQ < 0)):=⟨_,rfl⟩;rw[← hB6] at ho;have hsub:B6 = false→inR (x.top - 16 * r):=λh=>by
  rw[hB6,hB5,hB4,hB3,hB2] at h;simp only[SV,decide_eq_false_iff_not] at h;constructor<;>omega
 refine jor [Pt b,I (16 * r)] ((B6) || (decide (x.AQ > x.top - 16 * r))) (λK' hK'=>?_) (λe c u ho he=>?_)
 ·rw[ho];refine BT (λh1=>?_) (λh1=>?_)
  ·refine jl rfl (jl rfl (P6 (hsub h1) (jgr (hK' _ _ _ (h1▸AY) (by rw[h1,Re])))))
  ·exact hK' _ _ _ (h1▸Ao) (by rw[h1,Rm])
 refine z_V ?_;rw[ho];refine jif (λh=>fin ?_) (λh=>?_)
 ·symm;rw[T9];intro hk;obtain⟨⟨k1,k2,k3,k4,k5,k6,k7,k8,k9⟩,k10⟩:=key.1 hk;rw[hB6,hB5,hB4,hB3,hB2,hB1] at h;simp only[SB,z_d] at h;omega
 rw[hB6,hB5,hB4,hB3,hB2,hB1] at h;simp only[SV,decide_eq_false_iff_not] at h;obtain⟨⟨⟨⟨⟨⟨⟨k1,k2⟩,k3⟩,k4⟩,k5⟩,k6⟩,k7⟩,k8⟩:=h;clear ho hsub;refine jan [Pt b] ((x.kind == 1) && (x.top != 16 * r)) (λK' hK'=>?_) (λe c u ho he=>?_)
 ·refine jl rfl (jeq (Bc (λh1=>?_) (λh1=>?_)))
  ·refine jl rfl (jne (hK' _ _ _ (h1▸Ac) (by rw[h1,Rj])))
  ·exact hK' _ _ _ (h1▸Aj) (by rw[h1,Rl])
 refine z_V ?_;rw[ho];refine jif (λh=>fin ?_) (λh=>?_)
 ·symm;rw[T9];intro hk;simp only[z_b,beq_iff_eq,bne_iff_ne] at h;exact (key.1 hk).1.2.2.2.2.2.2.2.2 h
 have k9:¬ (x.kind = 1∧x.top≠16 * r):=λhh=>by
  rw[show (x.kind == 1) = true from beq_iff_eq.2 hh.1,show (x.top != 16 * r) = true from bne_iff_ne.2 hh.2] at h;cases h
 refine jl rfl (jeq (jif (λh2=>?_) (λh2=>?_)))
 ·have h2:=eq_of_beq h2;refine jan [] ((decide (x.AM≥0)) && (decide (x.AM≤3))) (λK' hK'=>?_) (λe c u ho he=>?_)
  ·refine jl rfl (jge (Bc (λh1=>?_) (λh1=>?_)))
   ·refine jl rfl (jle (hK' _ _ _ (h1▸Ac) (by rw[h1,Rj])))
   ·exact hK' _ _ _ (h1▸Aj) (by rw[h1,Rl])
  refine z_V ?_;rw[ho];refine fin ?_;rw[Sa,key,if_pos h2];simp only[z_b,z_d];exact⟨λh=>⟨⟨k1,k2,k3,k4,k5,k6,k7,k8,k9⟩,h⟩,λh=>h.2⟩
 ·have h2:=ne_of_beq_false h2;refine jl rfl (jeq (fin ?_));rw[Sa,key,if_neg h2];exact⟨λh=>⟨⟨k1,k2,k3,k4,k5,k6,k7,k8,k9⟩,eq_of_beq h⟩,λh=>beq_iff_eq.2 h.2⟩
theorem JY:Pu Ji [] (.agg (eRg DZ).toArray):=by
 intro R;refine MV λF=>?_
 refine z_0 ?_;refine ja λb=>jbd rfl rfl (js rfl rfl (by exact z_n 5) rfl (jla (by exact z_n 5) rfl (AV (A:=[]) (RM.le.refl R) rfl)))
theorem Mn (r:Int):Pu Jv [I r] (.agg (eRg ⟨1,-1,AG r,AG r,0⟩).toArray):=by
 intro R;refine Ni λF=>?_
 refine z_1 ?_;refine ja λb=>jp (Bn r) (jbd rfl rfl (js rfl rfl (by exact z_n 5) rfl (jla (by exact z_n 5) rfl (AV (A:=[]) (RM.le.refl R) rfl))))
theorem MpI.iff {o:Obj} {q q' : Int→Prop} (h:MpI o q) (e:∀x,q x↔q' x):MpI o q':=by
 have:q = q':=funext λx=>propext (e x)
 rw[← this];exact h
section
variable {R:RM} {D:Chs} {t:List Rg} {sp:List Value} {b cap:Nat}
set_option maxHeartbeats 1000000 in
theorem Jg (hl:t.length < 1000000) [a:At D b (C AK (Aq eRg t ++ sp))]:Ro G3 [S0 b t.length cap] (.bool (BV t)) R D:=by
 refine J9 λF=>?_
 refine z_1 ?_;have nok:(TOk t→False)→Value.bool false = Value.bool (BV t):=λh=>by
  cases hh:BV t
  ·rfl
  ·exact (h (BZ.1 hh)).elim
 refine Aw (λvs R' D'=>R' = R∧D' = D ++ F∧vs = [S0 b t.length cap,.bool ((decide ((t.length:Int) < 2) || decide ((t.length:Int) > 12)) || !(rv t 0 == DZ))]) (λK hK=>?_) ?_
 ·refine jor [S0 b t.length cap] ((decide ((t.length:Int) < 2)) || (decide ((t.length:Int) > 12))) (λK' hK'=>?_) (λe c u ho he=>?_)
  ·refine jln (jlt (BT (λh1=>?_) (λh1=>?_)))
   ·refine jln (jgr (hK' _ _ _ (h1▸AY) (by rw[h1,Re])))
   ·exact hK' _ _ _ (h1▸Ao) (by rw[h1,Rm])
  refine z_V ?_;refine Aw (λvs R' D'=>R' = R∧D' = D ++ F∧(((decide ((t.length:Int) < 2) || decide ((t.length:Int) > 12)) = false∧∃h:0 < t.length,vs = [S0 b t.length cap,.bool false,.pointer (some ⟨b,0 + (0:Int).toNat * 5,none⟩),.agg (eRg (t[0])).toArray])∨((decide ((t.length:Int) < 2) || decide ((t.length:Int) > 12)) = true∧vs = [S0 b t.length cap,.bool true,U,U]))) (λK2 hK2=>?_) ?_
  ·rw[ho];refine BT (λh1=>?_) (λh1=>?_)
   ·have h1':=h1;simp only[SV,decide_eq_false_iff_not] at h1';have h0:0 < t.length:=ω
    refine jia ω ω (jla (Gd h0) (EO (w:=5) (λ_=>rfl) h0) (hK2 _ _ _ ⟨rfl,rfl,.inl ⟨h1,h0,by rw[h1]⟩⟩))
   ·exact hK2 _ _ _ ⟨rfl,rfl,.inr ⟨h1,by rw[h1]⟩⟩
  rintro e2 R2 D2 ⟨hR,hD,h⟩;subst hR;rw[hD];clear hD;rcases h with ⟨h1,h0,he⟩ | ⟨h1,he⟩
  ·refine z_V ?_;refine jff (jp JY (As (jla (Gd h0) (EO (w:=5) (λ_=>rfl) h0) jev) (@QQ (t[0]) DZ _ _ _ _ _ (JH (hK _ _ _ ⟨rfl,rfl,?_⟩)))));rw[h1,Re,show rv t 0 = t[0] from NI h0]
  ·refine z_V ?_;refine jtf (As jev (Jj (hK _ _ _ ⟨rfl,rfl,?_⟩)));rw[h1,Rm]
 rintro e R2 D2 ⟨hR,hD,he⟩;subst hR;refine z_W ?_;clear hD;refine jif (λh0=>?_) (λh0=>?_)
 ·refine Af (nok λT=>?_);have n0:=T.n0;have n1:=T.n1;have e:=T.e;simp only[SB,z_d,Rt,beq_eq_false_iff_ne] at h0;rcases h0 with (h | h) | h
  ·omega
  ·omega
  ·exact h e
 simp only[SV,decide_eq_false_iff_not,Sl,beq_iff_eq] at h0;obtain⟨⟨n0,n1⟩,hedge⟩:=h0;refine @QR _ _ _ λmb o hm=>jln ?_
 refine jlp (λn vs R' D'=>R' = R2∧∃(i:Nat) (o:Obj),D' = (mb,o) :: (D ++ F)∧i≤t.length∧vs = [.map (some mb),S0 b t.length cap,I t.length,I i]∧n = t.length - i∧MpI o (λy=>∃k:Nat,1≤k∧k < i∧(rv t k).AM = y)∧(∀k:Nat,1≤k→k < i→Ib k (rv t k)∧∀m:Nat,1≤m→m < k→0≤(rv t k).AM→(rv t m).AM≠(rv t k).AM))
  ⟨rfl,0,o,rfl,ω,rfl,rfl,hm.iff λx=>⟨λh=>h.elim,λ⟨k,_,h,_⟩=>ω⟩,λk h1 h2=>ω⟩ ?_
 clear hm;rintro n e R' D' K ⟨hR,i,o,hD,hi,he,hn,hm,hinv⟩ hK;subst hR;refine z_W ?_;clear hD;refine jlt (jif (λhc=>?_) (λhc=>?_));rotate_left
 ·have hc:=z_g hc;refine Ab [] (G:=D ++ F) (Af ?_);rw[BZ.2 ⟨ω,ω,hedge,λq q0 q1=>?_,λq s q0 q1 s0 s1 hoo heq=>?_⟩]
  ·have:=(hinv q.toNat ω ω).1;rwa [show ((q.toNat:Nat):Int) = q from ω] at this
  ·have h1:=(hinv q.toNat ω ω).2 s.toNat ω;have h2:=(hinv s.toNat ω ω).2 q.toNat ω;rw[show ((q.toNat:Nat):Int) = q from ω,show ((s.toNat:Nat):Int) = s from ω] at h1 h2;rcases Int.lt_trichotomy q s with c | c | c
   ·exact absurd heq (h2 ω (by rw[← heq];exact hoo))
   ·exact c
   ·exact absurd heq.symm (h1 ω hoo)
 have hc:=z_f hc;have hil:i < t.length:=ω
 have hrv:=NI hil;refine Aw (λvs R3 D3=>R3 = R'∧∃o',D3 = (mb,o') :: (D ++ F)∧MpI o' (λy=>∃k:Nat,1≤k∧k < i + 1∧(rv t k).AM = y)∧(∀k:Nat,1≤k→k < i + 1→Ib k (rv t k)∧∀m:Nat,1≤m→m < k→0≤(rv t k).AM→(rv t m).AM≠(rv t k).AM)∧vs = [.map (some mb),S0 b t.length cap,I t.length,I i]) (λK2 hK2=>?_) ?_;rotate_left
 ·rintro e3 R3 D3 ⟨hR,o',hD,hm',hinv',he⟩;subst hR;refine z_W ?_;clear hD;exact jad (hK (t.length - (i + 1)) _ _ _ ω ⟨rfl,i + 1,o',rfl,ω,rfl,rfl,hm',hinv'⟩)
 refine Aw (λvs R3 D3=>R3 = R'∧∃o',D3 = (mb,o') :: (D ++ F)∧MpI o' (λy=>∃k:Nat,1≤k∧k < i + 1∧(rv t k).AM = y)∧(∀k:Nat,1≤k→k < i + 1→Ib k (rv t k)∧∀m:Nat,1≤m→m < k→0≤(rv t k).AM→(rv t m).AM≠(rv t k).AM)∧vs = [.map (some mb),S0 b t.length cap,I t.length,I i]) (λK3 hK3=>?_) ?_;rotate_left
 ·rintro e3 R3 D3 ⟨hR,o',hD,hm',hinv',he⟩;subst hR;refine z_W ?_;clear hD;exact hK2 _ _ _ ⟨rfl,o',rfl,hm',hinv',rfl⟩
 refine E5 hil (Pw hil (ja λb13=>js rfl rfl (by exact z_n 5) rfl (jeq (jif (λhz=>?_) (λhz=>?_)))))
 ·have hz:=eq_of_beq hz;have hz:i = 0:=ω
  refine jk1 (F:=D ++ F) mb (hK3 _ _ _ ⟨rfl,o,rfl,hm.iff λy=>⟨λ⟨k,h1,h2,h3⟩=>ω,λ⟨k,h1,h2,h3⟩=>ω⟩,λk h1 h2=>ω,rfl⟩)
 have hz:=ne_of_beq_false hz;have hi1:1≤i:=ω
 obtain⟨sb,hsb⟩:∃sb:Bool,((∃k:Nat,1≤k∧k < i∧(rv t k).AM = (t[i]).AM)↔sb = true):=by
  by_cases h:∃k:Nat,1≤k∧k < i∧(rv t k).AM = (t[i]).AM
  ·exact⟨true,by simp[h]⟩
  ·exact⟨false,by simp[h]⟩
 refine jor [.map (some mb),Pt b13,S0 b t.length cap,I t.length,I i] (!Fg i (t[i]) || (decide ((t[i]).AM≥0) && sb)) (λK' hK'=>?_) (λe c u ho he=>?_)
 ·refine jla (l:=eRg (t[i])) (by exact z_n 5) rfl (jp (Hz (t[i]) ω ω) (BT (λh1=>?_) (λh1=>?_)))
  ·refine jl rfl (jge (Bc (λh2=>?_) (λh2=>?_)))
   ·refine jl rfl (@jlk _ _ _ mb o _ _ sb _ hm hsb ?_);rw[h2];exact Jj (hK' _ _ _ (h1▸AY) (by rw[h1,h2];rfl))
   ·rw[h2];exact JH (hK' _ _ _ (h1▸AY) (by rw[h1,h2];rfl))
  ·exact hK' _ _ _ (h1▸Ao) (by rw[h1];rfl)
 refine z_V ?_;rw[ho];refine jif (λhv=>?_) (λhv=>?_)
 ·refine Ab [] (G:=D ++ F) (Af (nok λT=>?_));simp only[SB,Rt,z_b,z_d] at hv;rcases hv with hv | ⟨hv1,hv2⟩
  ·have:=(Fk ω ω).2 (T.row i ω ω);rw[hrv,hv] at this;cases this
  ·obtain⟨k,k1,k2,k3⟩:=hsb.2 hv2;have:=T.own i k ω ω ω ω (by rw[hrv];exact hv1) (by rw[hrv,k3]);omega
 ·simp only[SV,Sl,Bool.and_eq_false_iff,decide_eq_false_iff_not] at hv;obtain⟨hv1,hv2⟩:=hv;refine jl rfl (@jmu _ _ _ mb o _ _ _ _ hm λo' hm'=>(jk1 (F:=D ++ F) mb (hK3 _ _ _ ⟨rfl,o',rfl,hm'.iff λy=>⟨?_,?_⟩,λk h1 h2=>?_,rfl⟩)))
  ·rintro (⟨k,h1,h2,h3⟩ | rfl)
   ·exact⟨k,h1,ω,h3⟩
   ·exact⟨i,hi1,ω,by rw[hrv]⟩
  ·rintro⟨k,h1,h2,h3⟩;by_cases hk:k = i
   ·subst hk;rw[hrv] at h3;exact .inr h3.symm
   ·exact .inl ⟨k,h1,ω,h3⟩
  ·by_cases hk:k = i
   ·subst hk;rw[hrv];refine⟨(Fk ω ω).1 hv1,λm m1 m2 h0 heq=>?_⟩;rcases hv2 with hv2 | hv2
    ·omega
    ·have:=hsb.1 ⟨m,m1,m2,heq⟩;rw[hv2] at this;cases this
   ·exact hinv k h1 ω
end
theorem Nt {cs:List Value} {o:Nat} {v:Value} (h:o < cs.length):lay cs o [v] = cs.set o v:=by
 unfold lay;rw[List.set_eq_take_append_cons_drop,if_pos h];simp
theorem PX {cs:List Value} {o f n:Nat} (h:o + n≤cs.length) (hf:f < n) (v:Value):lay cs (o + f) [v] = lay cs o (((cs.drop o).take n).set f v):=by
 rw[Nt ω];unfold lay;have hl:(((cs.drop o).take n).set f v).length = n:=by simp;omega
 apply List.ext_getElem?;intro i;rw[hl,TP,RY];by_cases h1:i < o
 ·rw[Sq (by simp;omega),Sk,if_pos h1,if_neg ω]
 ·rw[TH (by simp;omega)];have e:(cs.take o).length = o:=by simp;omega
  rw[e];by_cases h2:i < o + n
  ·rw[Sq (by rw[hl];omega),TP,Sk,Sd];by_cases h3:o + f = i
   ·rw[if_pos h3,if_pos ω,if_pos ω,if_pos (by simp;omega)]
   ·rw[if_neg h3,if_neg ω,if_pos ω];congr 1;omega
  ·rw[TH (by rw[hl];omega),hl,Sd,if_neg ω];congr 1;omega
section
variable {R:RM} {D:Chs} {t:List Rg} {sp:List Value} {b cap:Nat}
end
theorem Qt {f:Nat} {args:List Value} {v:Value} {R:RM} {D F:Chs} {k:Value→M} (hF:Ro f args v R D) (H:J R (D ++ F) (k v)):J R (D ++ F) (CA P f args k):=by
 intro h hs;refine Db ?_ (hF F h hs);rintro v' h' ⟨R',A',h1,h2,rfl,rfl⟩;exact H h' (h2.le h1)
section
variable {R:RM} {D:Chs} {t:List Rg} {sp:List Value} {b cap:Nat}
end
section
variable {R:RM} {D:Chs} {t:List Rg} {sp:List Value} {b cap:Nat}
end
theorem getD_some {w:List Int} {j:Nat} (h:j < w.length):w[j]? = some (w.getD j 0):=by
 rw[Rh,RU h];rfl
theorem Dz {R:RM} {D:Chs} {v:Value} {t:AF} {k:Value→M} (h:ThV R v t) (H:J R D (k (I (AA t.sh)))):J R D (CA P E7 [v] k):=by
 refine jro (Gl λF=>?_) H;refine z_1 ?_;obtain⟨rv,nv,rfl,hr,hn⟩:=h;refine ja λb=>jfo (jla (l:=[I t.sh.refs,I t.sh.nums]) (RQ rfl) rfl (jp (Bx t.sh) (Ab [] (G:=D ++ F) (Af rfl))))
theorem RE {f:Nat} {args:List Value} {v:Value} {R:RM} {D:Chs} {b:Nat} {o:Obj} {k:Value→M} (hb:R b = some o) (hF:∀R' : RM,R'.le R→Ro f args v R' [(b,o)]) (H:J R D (k v)):J R D (CA P f args k):=by
 intro h hs;have hne:∀c o',(c,o')∈D→c≠b:=λc o' hm e=>by
  have:=(hs.at_ c o' hm).2;rw[e,hb] at this;cases this
 have le:RM.le (λc=>if c = b then none else R c) R:=λc o' h=>by
  have h:(if c = b then none else R c) = some o':=h;split at h
  ·cases h
  ·exact h
 have hs2:St h (λc=>if c = b then none else R c) ((b,o) :: D):=by
  refine⟨λc o' h=>hs.rd c o' (le c o' h),λc o' hm=>?_,?_⟩
  ·rcases Rf.1 hm with e | hm
   ·cases e;exact⟨hs.rd _ _ hb,if_pos rfl⟩
   ·have:=hs.at_ c o' hm;exact⟨this.1,(if_neg (hne c o' hm)).trans this.2⟩
  ·rw[So,SZ];refine⟨λhm=>?_,hs.nd⟩;obtain⟨⟨c,o'⟩,h1,h2⟩:=S6.1 hm;exact hne c o' h1 h2
 refine Db ?_ (hF _ le D h hs2);rintro v' h' ⟨R2,A,hR,hst,rfl,rfl⟩;refine H h' ⟨λc o' hc=>?_,λc o' hm=>⟨(hst.at_ c o' (Rx _ hm)).1,(hs.at_ c o' hm).2⟩,?_⟩
 ·by_cases e:c = b
  ·subst e;rw[hb] at hc;cases hc;exact (hst.at_ _ _ (.head _)).1
  ·exact hst.rd c o' (hR c o' ((if_neg e).trans hc))
 ·have:=hst.nd;exact (SZ.1 this).2
set_option maxHeartbeats 1000000 in
theorem Ii {R:RM} {wv:Value} {w:List Int} (r top:Int) (h:Ai R wv w) (hl:w.length < 1000000) (hrn:∀x∈w,Rn x) :
  Fn P FP [wv,I r,I top] R [] (λv R' A=>A = []∧QTs (Ap w r top) v R'):=by
 refine Ip λF=>?_
 refine z_3 ?_;have inn:∀a:Int,inR (w.getD (a.toNat + 1) 0):=λa=>by
  rw[Rh];cases hx:w[a.toNat + 1]? with
  | none=>exact⟨δ,δ⟩
  | some x=>exact hrn x (List.mem_of_getElem? hx)
 obtain⟨wa,wc,hwv⟩:=h.sl;have eq:(w.length:Int).tdiv 16 = (w.length / 16:Nat):=by rw[SQ ω];omega
 rw[hwv];have br:0≤AG r∧AG r≤176:=by unfold AG;split<;>omega
 refine jor [.slice wa w.length wc,I r,I top] ((!Ag w.length) || (decide (r < 1))) (λK' hK'=>?_) (λe c u ho he=>?_)
 ·refine jp (EA wa w.length wc ω) (BT (λh1=>?_) (λh1=>?_))
  ·refine jlt (hK' _ _ _ (h1▸AY) (by rw[h1,Re]))
  ·exact hK' _ _ _ (h1▸Ao) (by rw[h1,Rm])
 refine z_V ?_;refine jor [.slice wa w.length wc,I r,I top] ((!Ag w.length || decide (r < 1)) || (decide (r≥(w.length:Int).tdiv 16))) (λK' hK'=>?_) (λe c u ho he=>?_)
 ·rw[ho];refine BT (λh1=>?_) (λh1=>?_)
  ·refine jln (Jo δ ⟨ω,ω⟩ (jge (hK' _ _ _ (h1▸AY) (by rw[h1,Re]))))
  ·exact hK' _ _ _ (h1▸Ao) (by rw[h1,Rm])
 refine z_V ?_;refine jor [.slice wa w.length wc,I r,I top] ((!Ag w.length || decide (r < 1) || decide (r≥(w.length:Int).tdiv 16)) || (decide (top < AG r))) (λK' hK'=>?_) (λe c u ho he=>?_)
 ·rw[ho];refine BT (λh1=>?_) (λh1=>?_)
  ·refine jp (Bn r) (jlt (hK' _ _ _ (h1▸AY) (by rw[h1,Re])))
  ·exact hK' _ _ _ (h1▸Ao) (by rw[h1,Rm])
 refine z_V ?_;refine jor [.slice wa w.length wc,I r,I top] ((!Ag w.length || decide (r < 1) || decide (r≥(w.length:Int).tdiv 16) || decide (top < AG r)) || (decide (top > AG r + 16))) (λK' hK'=>?_) (λe c u ho he=>?_)
 ·rw[ho];refine BT (λh1=>?_) (λh1=>?_)
  ·refine jp (Bn r) (jad (jgr (hK' _ _ _ (h1▸AY) (by rw[h1,Re]))))
  ·exact hK' _ _ _ (h1▸Ao) (by rw[h1,Rm])
 refine z_V ?_;rw[ho];refine jif (λh0=>?_) (λh0=>?_)
 ·refine AV (RM.le.refl R) ⟨rfl,?_⟩;have:Ap w r top = none:=by
   unfold Ap;rw[if_neg];intro hh;simp only[SB,Rt,z_d,z_b] at h0 hh;rw[eq] at h0;obtain⟨⟨⟨⟨g1,g2⟩,g3⟩,g4⟩,g5⟩:=hh;rw[g1] at h0;rcases h0 with (((h0 | h0) | h0) | h0) | h0
   ·exact absurd h0 δ
   all_goals omega
  rw[this];exact rfl
 simp only[SV,Sl,decide_eq_false_iff_not] at h0;rw[eq] at h0;obtain⟨⟨⟨⟨g1,g2⟩,g3⟩,g4⟩,g5⟩:=h0;have et:Ap w r top = AX w 16 (AG r) top:=by
  unfold Ap;rw[if_pos];simp only[z_b,z_d];exact⟨⟨⟨⟨g1,ω⟩,ω⟩,ω⟩,ω⟩
 rw[← hwv];refine Aw (λvs R' D'=>R.le R'∧∃l tv A,Ap w r top = some l∧(∃rows,Rw (ThC R') rows l∧SW Cc 6 rows tv A)∧D' = A ++ ([] ++ F)∧vs = [tv]) (λK hK=>?_) ?_;rotate_left
 ·rintro e R1 D1 ⟨hR,l,tv,A,hl,⟨rows,hrw,so⟩,hD,he⟩;refine z_W ?_;refine jfw so (hrw.all λ_ _=>ThC.len) λR2 hR2 hfz=>(AV (hR.trans hR2) ⟨rfl,?_⟩)
  rw[hl];exact⟨tv,⟨rows,hrw.mono λ_ _=>ThC.le hR2,hfz⟩,rfl⟩
 refine jp (Bn r) (Aw (λvs R' D'=>R.le R'∧∃l tv A,Ap w r top = some l∧(∃rows,Rw (ThC R') rows l∧SW Cc 6 rows tv A)∧D' = A ++ ([] ++ F)∧vs = [tv]) (λK2 hK2=>?_) ?_);rotate_left
 ·rintro e R1 D1 ⟨hR,l,tv,A,hl,so,hD,he⟩;refine z_W ?_;exact hK _ _ _ ⟨hR,l,tv,A,hl,so,rfl,rfl⟩
 refine jlp (λm vs R' D'=>R.le R'∧∃(a:Int) (l:List AF) (tv:Value) (A:Chs) (rows:List (List Value)),m≤16∧AG r + 2 * (16 - m)≤a∧a≤top∧l.length≤16 - m∧(match AX w m a top with | none=>none | some l2=>some (l ++ l2)) = Ap w r top∧Rw (ThC R') rows l∧SW Cc 6 rows tv A∧D' = A ++ ([] ++ F)∧vs = [wv,I top,tv,I a])
  (n:=16) ⟨RM.le.refl R,AG r,[],SN,[],[],ω,ω,ω,σ,by rw[et];cases AX w 16 (AG r) top<;>rfl,Rw.nil,.inl ⟨rfl,rfl,rfl⟩,rfl,rfl⟩ ?_
 rintro m e R1 D1 K3 ⟨hR,a,l,tv,A,rows,hm,ha,hat,hll,hth,hrw,so,hD,he⟩ hK3;refine z_W ?_;have h1:=h.le hR;refine jlt (jif (λhc=>?_) (λhc=>?_));rotate_left
 ·have hc:=z_g hc;refine hK2 _ _ _ ⟨hR,l,tv,A,?_,⟨rows,hrw,so⟩,rfl,rfl⟩;rw[← hth];cases m<;>(unfold AX;rw[if_neg hc];simp)
 have hc:=z_f hc;obtain⟨m,rfl⟩:∃k,m = k + 1:=⟨m - 1,ω⟩;unfold AX at hth;rw[if_pos hc] at hth;dsimp only at hth;obtain⟨sz1,sz2⟩:=NQ (AZ w a).1.sh;have tsz:=@HW w a;refine jc (JO a h1 hl (inn a)) ?_;rintro _ R2 _ hR2 ⟨rfl,x,⟨rv,nv,rfl,hrv,hnv⟩,rfl⟩;generalize AZ w a = t at hth hrv hnv sz1 sz2 tsz ⊢;obtain⟨t,tb⟩:=t;dsimp only at hth hrv hnv sz1 sz2 tsz ⊢;obtain⟨ra,rc,rfl⟩:=hrv.sl;obtain⟨na,nc,rfl⟩:=hnv.sl;refine jex rfl (jex rfl (ja λb=>(js rfl rfl (by exact z_n 6) rfl (jor [wv,I top,tv,I a,Pt b] ((!tb) || (decide (a + AA t.sh > top))) (λK' hK'=>?_) (λe c u ho he=>?_)))))
 ·refine BT (λh1=>?_) (λh1=>?_)
  ·refine jla (by exact z_n 6) rfl (Dz ⟨_,_,rfl,hrv,hnv⟩ (jad (jgr (hK' _ _ _ (h1▸AY) (by rw[h1,Re])))))
  ·exact hK' _ _ _ (h1▸Ao) (by rw[h1,Rm])
 refine z_V ?_;rw[ho];refine jif (λh0=>?_) (λh0=>?_)
 ·refine AV (hR.trans hR2) ⟨rfl,?_⟩;have:Ap w r top = none:=by
   rw[← hth,if_neg];intro hh;simp only[SB,Rt,z_d,z_b] at h0 hh;rcases h0 with h0 | h0
   ·rw[h0] at hh;exact absurd hh.1 δ
   ·omega
  rw[this];exact rfl
 simp only[SV,Sl,decide_eq_false_iff_not] at h0;obtain⟨h2,h3⟩:=h0;rw[if_pos (by rw[h2];simp;omega)] at hth;have tsz:=tsz h2;refine jla (by exact z_n 6) rfl (jbs rfl rfl λb4=>(Bq (D':=(b4,C Cc (eTh t (.slice ra t.refs.length rc) (.slice na t.nums.length nc))) :: ((b,C Cc (eTh t (.slice ra t.refs.length rc) (.slice na t.nums.length nc))) :: (A ++ ([] ++ F)))) (SJ _) (Ab A (G:=(b4,C Cc (eTh t (.slice ra t.refs.length rc) (.slice na t.nums.length nc))) :: (b,C Cc (eTh t (.slice ra t.refs.length rc) (.slice na t.nums.length nc))) :: ([] ++ F)) ?_)));have hx:BB R2 (A ++ ((b4,C Cc (eTh t (.slice ra t.refs.length rc) (.slice na t.nums.length nc))) :: (b,C Cc (eTh t (.slice ra t.refs.length rc) (.slice na t.nums.length nc))) :: ([] ++ F))) (some ⟨b4,0,none⟩) (1 * 6) [eTh t (.slice ra t.refs.length rc) (.slice na t.nums.length nc)].flatten:=BB.held (cs:=eTh t (.slice ra t.refs.length rc) (.slice na t.nums.length nc)) (z_n 6);have hrl:=hrw.1;refine jaw so (hrw.all λ_ _=>ThC.len) (by intro r hr;rw[Ri.1 hr];rfl) rfl rfl rfl δ (by rw[Ss];omega) hx λv' A' so'=>(jla (by exact z_n 6) rfl (Dz ⟨_,_,rfl,hrv,hnv⟩ (jad (Ab A' (G:=[] ++ F) (hK3 m _ _ _ ω ⟨hR.trans hR2,a + AA t.sh,l ++ [t],v',A',rows ++ [eTh t (.slice ra t.refs.length rc) (.slice na t.nums.length nc)],ω,ω,ω,by rw[Rc,Ss];omega,?_,(hrw.mono λ_ _=>ThC.le hR2).app (Rw.one ⟨_,_,rfl,hrv,hnv⟩),so',rfl,rfl⟩)))))
 rw[← hth];cases AX w m (a + AA t.sh) top with
 | none=>rfl
 | some l2=>simp
end Go.Lf
end
section
namespace Sm
open Go.Lf
def F2 (s:AU):Bool:=Ag s.AE.length && BV s.AB && s.AB.length == s.AE.length / 16 && s.AS.length == s.AE.length
def DJ (s:AU):Option (List AF):=if F2 s then B7 s else none
def D6 (s:AU) (a:Int):Bool:=decide (0≤AI a) && decide (AI a < s.AB.length) && (rv s.AB (AI a)).kind == 4
def Cm (s:AU) (l:List AF) (t:AF):Bool:=t.moved == t.at_ || match Al l t.moved with
 | none=>false
 | some n=>n.sh == t.sh && n.moved == n.at_ && !D6 s n.at_ && D6 s t.at_
def Bf (s:AU) (l:List AF):Bool:=l.all (Cm s l)
def IL (t:Th):Bool:=decide (t.AD.length≤8) && decide (0≤t.BL) && decide (t.BL≤2)
def Eg (s:AU) (l:List AF) (a:Int):Bool:=match Al l a with
 | none=>false
 | some t=>t.moved == a && !D6 s a
def Cw (s:AU) (l:List AF):Bool:=Bf s l && decide (0≤s.Ay) && decide (s.Ay≤3) && decide (1≤s.A9.length) && decide (s.A9.length≤3) && decide (s.AN.length≤8) && s.A9.all IL && s.AN.all (Eg s l)
def CD (s:AU):Option (List AF × List Int):=match DJ s with
 | none=>none
 | some l=>if Cw s l then (D5 s l).map λm=>(l,m) else none
def DV (s:AU):List Int:=s.A9.flatMap (·.AD) ++ s.AN
theorem Jp {w:List Int}:∀{n:Nat} {a top:Int} {l:List AF},AX w n a top = some l→l.Pairwise (λx y=>x.at_ + AA x.sh≤y.at_)∧∀t∈l,a≤t.at_∧t.at_ + AA t.sh≤top∧2≤AA t.sh∧(AZ w t.at_) = (t,true)
 | 0,a,top,l,h=>by
  unfold AX at h;split at h
  ·cases h
  ·cases h;exact⟨List.Pairwise.nil,λt ht=>by cases ht⟩
 | n + 1,a,top,l,h=>by
  unfold AX at h;split at h;rotate_left
  ·cases h;exact⟨List.Pairwise.nil,λt ht=>by cases ht⟩
  dsimp only at h;split at h;rotate_left
  ·cases h
  rename_i h1 h2;simp only[z_b,z_d] at h2;have hs:=HW h2.1;have ha:(AZ w a).1.at_ = a:=by
   have:=h2.1;unfold AZ at this ⊢;split at this
   ·rename_i c1;rw[if_pos c1];dsimp only at this ⊢;split at this
    ·rename_i c2;rw[if_pos c2]
    ·cases this
   ·cases this
  cases ht:AX w n (a + AA (AZ w a).1.sh) top with
  | none=>rw[ht] at h;cases h
  | some l2=>
   rw[ht] at h;cases h;obtain⟨i1,i2⟩:=Jp ht;refine⟨List.pairwise_cons.2 ⟨λy hy=>by have:=i2 y hy;rw[ha];omega,i1⟩,λt ht=>?_⟩;rcases Rf.1 ht with rfl | ht
   ·exact⟨by rw[ha];omega,by rw[ha];exact h2.2,hs,by rw[ha,← h2.1]⟩
   ·have:=i2 t ht;exact⟨ω,this.2⟩
theorem Ix {w:List Int} {r:Nat} {top:Int} {l:List AF} (h:Ap w r top = some l):l.Pairwise (λx y=>x.at_ + AA x.sh≤y.at_)∧∀t∈l,16 * (r:Int)≤t.at_∧t.at_ + AA t.sh≤top∧top≤16 * r + 16∧2≤AA t.sh∧AZ w t.at_ = (t,true):=by
 unfold Ap at h;split at h;rotate_left
 ·cases h
 rename_i c;simp only[z_b,z_d] at c;obtain⟨⟨⟨⟨c1,c2⟩,c3⟩,c4⟩,c5⟩:=c;have:(r:Int) < 12:=by
  unfold Ag at c1;simp only[z_b,z_d] at c1;omega
 have hb:=EN (r:=(r:Int)) ω this;obtain⟨i1,i2⟩:=Jp h;exact⟨i1,λt ht=>by have:=i2 t ht;rw[hb] at this c5;exact⟨this.1,this.2.1,c5,this.2.2⟩⟩
theorem Di {w:List Int}:∀{t:List Rg} {r:Nat} {l:List AF},Ax w r t = some l→l.Pairwise (λx y=>x.at_ + AA x.sh≤y.at_)∧∀x∈l,16 * (r:Int)≤x.at_∧2≤AA x.sh∧AZ w x.at_ = (x,true)∧∃k:Nat,∃h:k < t.length,x.at_ / 16 = r + k∧x.at_ + AA x.sh≤(t[k]).top∧(t[k]).top≤16 * (r + k) + 16
 | [],r,l,h=>by cases h;exact⟨List.Pairwise.nil,λt ht=>by cases ht⟩
 | x :: t,r,l,h=>by
  unfold Ax at h;cases h1:Ap w r x.top with
  | none=>rw[h1] at h;cases h
  | some a=>
   rw[h1] at h;dsimp only at h;cases h2:Ax w (r + 1) t with
   | none=>rw[h2] at h;cases h
   | some b=>
    rw[h2] at h;cases h;obtain⟨i1,i2⟩:=Ix h1;obtain⟨j1,j2⟩:=Di h2;refine⟨List.pairwise_append.2 ⟨i1,j1,λy hy z hz=>?_⟩,λy hy=>?_⟩
    ·have:=i2 y hy;have:=j2 z hz;omega
    ·rcases Rq.1 hy with hy | hy
     ·have:=i2 y hy;exact⟨this.1,this.2.2.2.1,this.2.2.2.2,0,σ,ω,this.2.1,by simpa using this.2.2.1⟩
     ·obtain⟨g1,g2,g3,k,hk,g4,g5,g6⟩:=j2 y hy;exact⟨ω,g2,g3,k + 1,by simp;omega,ω,by simpa using g5,by simp only[Sy];omega⟩
theorem Ik {l:List AF} (h:l.Pairwise (λx y=>x.at_ + AA x.sh≤y.at_)) (hs:∀x∈l,2≤AA x.sh):(l.map AF.at_).Nodup:=by
 rw[List.Nodup,List.pairwise_map];exact h.imp_of_mem λ{a b} ha hb h e=>by have:=hs a ha;omega
theorem BX {l:List AF} {a:Int} {t:AF} (h:Al l a = some t):t∈l∧t.at_ = a:=by
 unfold Al at h;exact⟨List.mem_of_find?_eq_some h,by simpa using List.find?_some h⟩
theorem Gr {l:List AF} (hn:(l.map AF.at_).Nodup) {t:AF} (h:t∈l):Al l t.at_ = some t:=by
 unfold Al;induction l with
 | nil=>cases h
 | cons x l ih=>
  rw[So,SZ] at hn;rcases Rf.1 h with rfl | h
  ·rw[TE σ]
  ·have:x.at_≠t.at_:=λe=>hn.1 (e▸Sr h)
   rw[T0 (by simpa using this)];exact ih hn.2 h
end Sm
end
section
namespace Go.Lf
open Go Sm
def RgZ (R:RM) (v:Value) (t:List Rg):Prop:=∃b c sp,v = S0 b t.length c∧R b = some (C AK (Aq eRg t ++ sp))∧t.length≤c
theorem RgZ.le {R R' : RM} {v:Value} {t:List Rg} (h:R.le R') (H:RgZ R v t):RgZ R' v t:=by
 obtain⟨b,c,sp,h1,h2,h3⟩:=H;exact⟨b,c,sp,h1,h _ _ h2,h3⟩
structure SF (R:RM) (s:Sm.AU) (wv tv mv thv ov pv:Value):Prop where
 c:StC R s wv tv mv thv ov pv
 z:RgZ R tv s.AB
 b:StB 9 s
theorem SF.le {R R' : RM} {s:Sm.AU} {wv tv mv thv ov pv:Value} (h:R.le R') (H:SF R s wv tv mv thv ov pv):SF R' s wv tv mv thv ov pv:=⟨H.c.le h,H.z.le h,H.b⟩
theorem IW {a:Int} (h0:0≤a) (h1:a < 1000000):Pu Fa [I a] (I (AI a)):=by
 intro R;refine Iu λF=>?_
 refine z_1 ?_;have e1:a.tdiv 16 = a / 16:=SQ h0;refine jlt (jif (λh=>?_) (λh=>?_))
 ·have h:=z_f h;omega
 ·refine Jo δ (by rw[e1];constructor<;>omega) ?_;rw[e1];exact AV (A:=[]) (RM.le.refl R) (by unfold AI;rw[if_neg ω])
section st
variable {R:RM} {s:Sm.AU} {wv tv mv thv ov pv:Value}
theorem Lv (h:SF R s wv tv mv thv ov pv):Ro Dl [.agg (eSt s wv tv mv thv ov pv).toArray] (.bool (F2 s)) R []:=by
 refine GR λF=>?_
 refine z_1 ?_;refine ja λb=>?_
 rw[show cl (.agg (eSt s wv tv mv thv ov pv).toArray) = eSt s wv tv mv thv ov pv from rfl];obtain⟨tb,tc,sp,rfl,hb,htc⟩:=h.z;obtain⟨wa,wc,rfl⟩:=h.c.w.sl;obtain⟨ma,mc,rfl⟩:=h.c.m.sl;have t0:=h.b.t0;have t1:=h.b.t1;have wl:=h.b.wl;have eq:(s.AE.length:Int).tdiv 16 = (s.AE.length / 16:Nat):=by rw[SQ ω];omega
 refine jan [Pt b] ((Ag s.AE.length) && (BV s.AB)) (λK' hK'=>?_) (λe c u ho he=>?_)
 ·refine jl rfl (jp (EA wa s.AE.length wc ω) (Bc (λh1=>?_) (λh1=>?_)))
  ·refine jl rfl (RE hb (λR' _=>Jg ω) (hK' _ _ _ (h1▸Ac) (by rw[h1,Rj])))
  ·exact hK' _ _ _ (h1▸Aj) (by rw[h1,Rl])
 refine z_V ?_;refine jan [Pt b] ((Ag s.AE.length && BV s.AB) && ((s.AB.length:Int) == (s.AE.length:Int).tdiv 16)) (λK' hK'=>?_) (λe c u ho he=>?_)
 ·rw[ho];refine Bc (λh1=>?_) (λh1=>?_)
  ·refine jl rfl (jln (jl rfl (jln (Jo δ ⟨ω,ω⟩ (jeq (hK' _ _ _ (h1▸Ac) (by rw[h1,Rj])))))))
  ·exact hK' _ _ _ (h1▸Aj) (by rw[h1,Rl])
 refine z_V ?_;refine jan [] ((Ag s.AE.length && BV s.AB && ((s.AB.length:Int) == (s.AE.length:Int).tdiv 16)) && ((s.AS.length:Int) == (s.AE.length:Int))) (λK' hK'=>?_) (λe c u ho he=>?_)
 ·rw[ho];refine Bc (λh1=>?_) (λh1=>?_)
  ·refine jl rfl (jln (jl rfl (jln (jeq (hK' _ _ _ (h1▸Ac) (by rw[h1,Rj]))))))
  ·exact hK' _ _ _ (h1▸Aj) (by rw[h1,Rl])
 refine z_V ?_;rw[ho];refine Af ?_;have e1:((s.AB.length:Int) == ((s.AE.length / 16:Nat):Int)) = (s.AB.length == s.AE.length / 16):=by rw[Sa,beq_iff_eq,beq_iff_eq];omega
 have e2:((s.AS.length:Int) == (s.AE.length:Int)) = (s.AS.length == s.AE.length):=by rw[Sa,beq_iff_eq,beq_iff_eq];omega
 rw[eq,e1,e2];rfl
theorem HZ (h:SF R s wv tv mv thv ov pv) {a:Int} (h0:0≤a) (h1:a < 1000000):Ro E1 [.agg (eSt s wv tv mv thv ov pv).toArray,I a] (.bool (D6 s a)) R []:=by
 refine Gj λF=>?_
 refine z_2 ?_;refine ja λb=>?_
 rw[show cl (.agg (eSt s wv tv mv thv ov pv).toArray) = eSt s wv tv mv thv ov pv from rfl];obtain⟨tb,tc,sp,rfl,hb,htc⟩:=h.z;refine jp (IW h0 h1) (jan [Pt b,I (AI a)] ((decide (AI a≥0)) && (decide (AI a < s.AB.length))) (λK' hK'=>?_) (λe c u ho he=>?_))
 ·refine jge (Bc (λh1=>?_) (λh1=>?_))
  ·refine jl rfl (jln (jlt (hK' _ _ _ (h1▸Ac) (by rw[h1,Rj]))))
  ·exact hK' _ _ _ (h1▸Aj) (by rw[h1,Rl])
 refine z_V ?_;refine jan [] (decide (AI a≥0) && decide (AI a < s.AB.length) && ((rv s.AB (AI a)).kind == 4)) (λK' hK'=>?_) (λe c u ho he=>?_)
 ·rw[ho];refine Bc (λh1=>?_) (λh1=>?_)
  ·have h2:=h1;simp only[z_b,z_d] at h2;obtain⟨r,hr⟩:∃r:Nat,AI a = r:=⟨(AI a).toNat,ω⟩;have hlt:r < s.AB.length:=ω
   refine jl rfl ?_;rw[hr];refine E5 hlt (jfo (jlr hb (by rw[SY];exact N3 hlt rfl) (jeq (hK' _ _ ((s.AB[r]).kind == 4) (by rw[← hr,h1];exact Ac) ?_))));rw[h1,hr,NI hlt,Rj]
  ·exact hK' _ _ _ (h1▸Aj) (by rw[h1,Rl])
 refine z_V ?_;rw[ho];exact Af rfl
theorem CN {r:Nat}:∀(l:List Th),(∀t∈l,t.AD.length≤r)→(l.flatMap (·.AD)).length≤r * l.length
 | [],_=>σ
 | t :: l,h=>by
  have h1:=h t σ;have h2:=CN l (λt ht=>h t (by simp[ht]));rw[List.flatMap_cons,Rc,Rr,Nat.mul_succ];omega
theorem LZ (h:SF R s wv tv mv thv ov pv):Fn P Ds [.agg (eSt s wv tv mv thv ov pv).toArray] R [] (λv R' A=>R' = R∧SO (DV s) v A):=by
 refine GU λF=>?_
 refine z_1 ?_;refine ja λb=>?_
 rw[show cl (.agg (eSt s wv tv mv thv ov pv).toArray) = eSt s wv tv mv thv ov pv from rfl];have n1:=h.b.n1;have rl:=h.b.rl;have pl:=h.b.pl;have fl:=CN s.A9 rl;have fle:9 * s.A9.length≤27:=ω
 refine Aw (λvs R' D'=>R' = R∧∃v A,SO (s.A9.flatMap (·.AD)) v A∧D' = A ++ ((b,C AO (eSt s wv tv mv thv ov pv)) :: F)∧vs = [Pt b,v]) (λK hK=>?_) ?_
 ·refine jl rfl (Bh h.c.th.sl (Aw (λvs R' D'=>R' = R∧∃v A,SO (s.A9.flatMap (·.AD)) v A∧D' = A ++ ((b,C AO (eSt s wv tv mv thv ov pv)) :: F)∧vs = [Pt b,v]) (λK2 hK2=>?_) ?_))
  ·refine jlp (λm vs R' D'=>R' = R∧∃(i:Nat) (v:Value) (A:Chs),i≤s.A9.length∧m = s.A9.length - i∧SO ((s.A9.take i).flatMap (·.AD)) v A∧D' = A ++ ((b,C AO (eSt s wv tv mv thv ov pv)) :: F)∧vs = [Pt b,v,thv,I s.A9.length,I i]) ⟨rfl,0,_,[],ω,rfl,.inl ⟨rfl,rfl,rfl⟩,rfl,rfl⟩ ?_;rintro m e R1 D1 K3 ⟨hR,i,v,A,hi,hm,so,hD,he⟩ hK3;subst hR;refine z_W ?_;refine jlt (jif (λhc=>?_) (λhc=>?_));rotate_left
   ·have hc:=z_g hc;rw[RX ω] at so;exact hK2 _ _ _ ⟨rfl,v,A,so,rfl,rfl⟩
   have hc:i < s.A9.length:=by have:=z_f hc;omega
   obtain⟨ta,tcc,htv⟩:=h.c.th.sl;refine jtr h.c.th hc λb2 o2 ty cs rv hrv hb2 ho2 hrow=>(Ce hb2 ho2 hrow (ja λb3=>?_))
   obtain⟨ra,rc,rfl⟩:=hrv.sl;refine js rfl rfl (RQ rfl) rfl (jl rfl (BH ?_));obtain⟨xa,cx,hxv,hx⟩:=Fz.reads hrv;cases hxv;have hrl:=rl _ (RZ hc);have ftl:=CN (s.A9.take i) (λt ht=>rl t (SM ht));have ftl2:9 * (s.A9.take i).length≤27:=by rw[Rk];omega
   refine jas so rfl ω hx λv' A' so'=>(jad (hK3 (s.A9.length - (i + 1)) _ _ _ ω ⟨rfl,i + 1,v',A',ω,rfl,?_,rfl,rfl⟩))
   rw[RW hc,List.flatMap_append];simpa using so'
  rintro e R1 D1 ⟨hR,v,A,so,hD,he⟩;subst hR;refine z_W ?_;exact hK _ _ _ ⟨rfl,v,A,so,rfl,rfl⟩
 rintro e R1 D1 ⟨hR,v,A,so,hD,he⟩;subst hR;refine z_W ?_;obtain⟨pa,pc,rfl⟩:=h.c.p.sl;refine jl rfl ?_;obtain⟨xa,cx,hxv,hx⟩:=Fz.reads h.c.p;cases hxv;refine jas so rfl ω hx λv' A' so'=>(Ab A' (G:=F) (AV (RM.le.refl _) ⟨rfl,so'⟩))
end st
theorem KF:P.underlying 73 = some (.map 3 62):=by kernel_rfl
theorem RB (w:World):(zeroValue 62).run P w = .ok z62 w:=by kernel_rfl
theorem QM (w:World):(Instr.makeMap 73 none).run P w = .ok (.map (some w.heap.size)) (w.alloc (.map #[] 0)):=rfl
def MpT (R:RM) (o:Obj) (l:List AF):Prop:=∃ps:List (Int × Value),Mg o ps∧ps.length = l.length∧∀i (h:i < ps.length) (h' : i < l.length),(ps[i]).1 = (l[i]).at_∧ThV R (ps[i]).2 (l[i])
theorem MpT.le {R R' : RM} {o:Obj} {l:List AF} (h:R.le R') (H:MpT R o l):MpT R' o l:=by
 obtain⟨ps,h1,h2,h3⟩:=H;exact⟨ps,h1,h2,λi a b=>⟨(h3 i a b).1,(h3 i a b).2.le h⟩⟩
theorem Ka {R:RM} {x:Int}:∀{ps:List (Int × Value)} {l:List AF},ps.length = l.length→(∀i (h:i < ps.length) (h' : i < l.length),(ps[i]).1 = (l[i]).at_∧ThV R (ps[i]).2 (l[i]))→(Al l x = none∧lk ps x = none)∨∃t v,Al l x = some t∧lk ps x = some v∧ThV R v t
 | [],[],_,_=>.inl ⟨rfl,rfl⟩
 | p :: ps,t :: l,hl,h=>by
  obtain⟨h1,h2⟩:=h 0 σ σ;have h1:p.1 = t.at_:=h1;have h2:ThV R p.2 t:=h2;by_cases c:t.at_ = x
  ·refine .inr ⟨t,p.2,?_,?_,h2⟩
   ·unfold Al;rw[TE (by simpa using c)]
   ·unfold lk;rw[TE (by simpa [h1] using c)];rfl
  ·have ih:=Ka (x:=x) (by simpa using hl) (λi a b=>h (i + 1) (by simpa using a) (by simpa using b));have e1:Al (t :: l) x = Al l x:=by unfold Al;rw[T0 (by simpa using c)]
   have e2:lk (p :: ps) x = lk ps x:=by unfold lk;rw[T0 (by simpa [h1] using c)]
   rw[e1,e2];exact ih
theorem MU {R:RM} {D:Chs} {k:Value→M} {b:Nat} {o:Obj} {l:List AF} {x:Int} (c:Bool) (a:Li R D b o) (hm:MpT R o l)
  (H0:Al l x = none→J R D (k (if c then .tuple #[z62,.bool false] else z62)))
  (H1:∀t v,Al l x = some t→ThV R v t→J R D (k (if c then .tuple #[v,.bool true] else v))):J R D (X P (Instr.lookup 73 (.map (some b)) (I x) c) k):=by
 obtain⟨ps,h1,h2,h3⟩:=hm;refine @QL R D k 73 62 b o ps x z62 c a KF RB h1 ?_;rcases Ka h2 h3 with ⟨e1,e2⟩ | ⟨t,v,e1,e2,e3⟩
 ·rw[e2];exact H0 e1
 ·rw[e2];exact H1 t v e1 e3
def QTm (r:Option (List AF)) (v:Value) (R:RM):Prop:=match r with
 | none=>v = .tuple #[.map none,.bool false]
 | some l=>∃mb o,R mb = some o∧MpT R o l∧v = .tuple #[.map (some mb),.bool true]
section st
variable {R:RM} {s:Sm.AU} {wv tv mv thv ov pv:Value}
set_option maxHeartbeats 1000000 in
theorem KK (h:SF R s wv tv mv thv ov pv):Fn P DQ [.agg (eSt s wv tv mv thv ov pv).toArray] R [] (λv R' A=>A = []∧QTm (DJ s) v R'):=by
 refine Fy λF=>?_
 refine z_1 ?_;refine ja λb=>?_
 rw[show cl (.agg (eSt s wv tv mv thv ov pv).toArray) = eSt s wv tv mv thv ov pv from rfl];have t0:=h.b.t0;have t1:=h.b.t1;have wl:=h.b.wl;have wr:=h.b.wr;refine jla (l:=eSt s wv tv mv thv ov pv) (by exact z_n 13) rfl (jrp (Lv h) (jif (λh0=>?_) (λh0=>?_)))
 ·have h0:F2 s = false:=by simpa using h0
  refine AV (RM.le.refl R) ⟨rfl,?_⟩;have:DJ s = none:=by unfold DJ;rw[if_neg (by rw[h0];decide)]
  rw[this];exact rfl
 have h0:F2 s = true:=by simpa using h0
 have eth:DJ s = B7 s:=by unfold DJ;rw[if_pos h0]
 rw[eth];refine OW QM λmb o0 hm0=>(Aw (λvs R' D'=>R.le R'∧∃l o,B7 s = some l∧MpT R' o l∧D' = (mb,o) :: (b,C AO (eSt s wv tv mv thv ov pv)) :: F∧vs = [.map (some mb)]) (λK hK=>?_) ?_)
 rotate_left
 ·rintro e R1 D1 ⟨hR,l,o,hl,hm,hD,he⟩;refine z_W ?_;refine AJ (b:=mb) λR2 hR2 hb=>(AV (hR.trans hR2) ⟨rfl,?_⟩)
  rw[hl];exact⟨mb,o,hb,hm.le hR2,rfl⟩
 refine Aw (λvs R' D'=>R.le R'∧∃l o,B7 s = some l∧MpT R' o l∧D' = (mb,o) :: (b,C AO (eSt s wv tv mv thv ov pv)) :: F∧vs = [.map (some mb)]) (λK2 hK2=>?_) ?_;rotate_left
 ·rintro e R1 D1 ⟨hR,l,o,hl,hm,hD,he⟩;refine z_W ?_;exact hK _ _ _ ⟨hR,l,o,hl,hm,rfl,rfl⟩
 refine jlp (λm vs R' D'=>R.le R'∧∃(i:Nat) (l:List AF) (o:Obj),1≤i∧i≤s.AB.length + 1∧m = s.AB.length + 1 - i∧(match Ax s.AE i (s.AB.drop i) with | none=>none | some l2=>some (l ++ l2)) = B7 s∧MpT R' o l∧(∀t∈l,t.at_ < 16 * i)∧D' = (mb,o) :: (b,C AO (eSt s wv tv mv thv ov pv)) :: F∧vs = [Pt b,.map (some mb),I i])
  (n:=s.AB.length) ⟨RM.le.refl R,1,[],o0,ω,ω,ω,by unfold B7;rw[List.drop_one];cases Ax s.AE 1 s.AB.tail<;>rfl,⟨[],hm0,rfl,λi h=>absurd h σ⟩,(λt ht=>by cases ht),rfl,rfl⟩ ?_
 rintro m e R1 D1 K3 ⟨hR,i,l,o,hi0,hi1,hmm,hth,hm,hlt,hD,he⟩ hK3;refine z_W ?_;have h1:=h.le hR;refine jl rfl (Bh h1.c.t.sl (jlt (jif (λhc=>?_) (λhc=>?_))));rotate_left
 ·have hc:=z_g hc;refine hK2 _ _ _ ⟨hR,l,o,?_,hm,rfl,rfl⟩;rw[← hth,SU ω];simp[Ax]
 have hc:i < s.AB.length:=by have:=z_f hc;omega
 rw[SH hc] at hth;unfold Ax at hth;refine Aw (λvs R' D'=>R1.le R'∧∃l1 o,Ap s.AE i (s.AB[i]).top = some l1∧MpT R' o (l ++ l1)∧D' = (mb,o) :: (b,C AO (eSt s wv tv mv thv ov pv)) :: F∧vs = [Pt b,.map (some mb),I i]) (λK4 hK4=>?_) ?_;rotate_left
 ·rintro e R2 D2 ⟨hR2,l1,o1,hl1,hm1,hD,he⟩;refine z_W ?_;refine jad (hK3 (s.AB.length + 1 - (i + 1)) _ _ _ ω ⟨hR.trans hR2,i + 1,l ++ l1,o1,ω,ω,ω,?_,hm1,λt ht=>?_,rfl,rfl⟩)
  ·rw[← hth,hl1];dsimp only;cases Ax s.AE (i + 1) (s.AB.drop (i + 1)) with
   | none=>rfl
   | some l2=>simp
  ·rcases Rq.1 ht with ht | ht
   ·have:=hlt t ht;omega
   ·have:=(Ix hl1).2 t ht;omega
 refine Aw (λvs R' D'=>R1.le R'∧∃l1 o,Ap s.AE i (s.AB[i]).top = some l1∧MpT R' o (l ++ l1)∧D' = (mb,o) :: (b,C AO (eSt s wv tv mv thv ov pv)) :: F∧vs = [Pt b,.map (some mb),I i]) (λK5 hK5=>?_) ?_;rotate_left
 ·rintro e R2 D2 ⟨hR2,l1,o1,hl1,hm1,hD,he⟩;refine z_W ?_;exact hK4 _ _ _ ⟨hR2,l1,o1,hl1,hm1,rfl,rfl⟩
 refine jl rfl (jl rfl (jrg h1.c.t hc λb2 o2 ty cs hb ho hrow=>(jfo (jlr hb (EQ hrow rfl) (jc (Ii i (s.AB[i]).top h1.c.w ω wr) ?_)))));rintro _ R2 _ hR2 ⟨rfl,hq⟩;cases hti:Ap s.AE i (s.AB[i]).top with
 | none=>
  rw[hti] at hq hth;subst hq;refine jex rfl (jex rfl (Dv (AV (hR.trans hR2) ⟨rfl,?_⟩)));rw[← hth];exact rfl
 | some l1=>
  rw[hti] at hq;obtain⟨tv1,htg,rfl⟩:=hq;refine Qc (jex rfl (jex rfl (C9 (Bh htg.sl ?_))));obtain⟨as1,as2⟩:=Ix hti;have nd1:=Ik as1 (λx hx=>(as2 x hx).2.2.2.1);refine Aw (λvs R' D'=>R' = R2∧∃o,MpT R' o (l ++ l1)∧D' = (mb,o) :: (b,C AO (eSt s wv tv mv thv ov pv)) :: F∧vs = [Pt b,.map (some mb),I i]) (λK6 hK6=>?_) ?_;rotate_left
  ·rintro e R3 D3 ⟨hR3,o1,hm1,hD,he⟩;subst hR3;refine z_W ?_;exact hK5 _ _ _ ⟨hR2,l1,o1,hti,hm1,rfl,rfl⟩
  refine jlp (λm vs R' D'=>R' = R2∧∃(j:Nat) (o:Obj),j≤l1.length∧m = l1.length - j∧MpT R' o (l ++ l1.take j)∧D' = (mb,o) :: (b,C AO (eSt s wv tv mv thv ov pv)) :: F∧vs = [Pt b,.map (some mb),I i,tv1,I l1.length,I j])
   ⟨rfl,0,o,ω,rfl,by rw[List.take_zero,SP];exact hm.le hR2,rfl,rfl⟩ ?_
  rintro m2 e R3 D3 K7 ⟨hR3,j,o1,hj,hm2,⟨ps,hmg,hpl,hps⟩,hD,he⟩ hK7;subst hR3;refine z_W ?_;refine jlt (jif (λhcj=>?_) (λhcj=>?_));rotate_left
  ·have hcj:=z_g hcj;rw[RX ω] at hpl hps;exact hK6 _ _ _ ⟨rfl,o1,⟨ps,hmg,hpl,hps⟩,rfl,rfl⟩
  have hcj:j < l1.length:=by have:=z_f hcj;omega
  have hil:=My hti;refine jtg htg hcj λb3 o3 ty3 cs3 rv nv hrv hnv hb3 ho3 hrow3=>?_
  obtain⟨ra,rc,rfl⟩:=hrv.sl;obtain⟨na,nc,rfl⟩:=hnv.sl;refine Ce hb3 ho3 hrow3 (ja λb4=>(js rfl rfl (by exact z_n 6) rfl (jl rfl (jla (l:=eTh (l1[j]) (.slice ra (l1[j]).refs.length rc) (.slice na (l1[j]).nums.length nc)) (by exact z_n 6) rfl (@Q9 _ _ _ 73 62 mb o1 _ ps _ _ _ KF hmg λo' hmg'=>?_)))));have hno:lk ps (l1[j]).at_ = none:=by
   rcases Ka hpl hps with ⟨_,e⟩ | ⟨t,v,e1,_,_⟩
   ·exact e
   ·exfalso;obtain⟨m1,m2⟩:=BX e1;rcases Rq.1 m1 with m1 | m1
    ·have g1:=hlt t m1;have g2:=(as2 _ (RZ hcj)).1;omega
    ·obtain⟨q,hq,rfl⟩:=S5 m1;rw[Rk] at hq;rw[List.getElem_take] at m2;have:=T5.1 as1 q j ω hcj ω;have:=(as2 _ (RZ (show q < l1.length by omega))).2.2.2.1;omega
  have hup:up ps (l1[j]).at_ (.agg (eTh (l1[j]) (.slice ra (l1[j]).refs.length rc) (.slice na (l1[j]).nums.length nc)).toArray) = ps ++ [((l1[j]).at_,.agg (eTh (l1[j]) (.slice ra (l1[j]).refs.length rc) (.slice na (l1[j]).nums.length nc)).toArray)]:=by unfold up;rw[if_neg (by rw[hno];simp)]
  rw[hup] at hmg';refine jad (Ab [(mb,o')] (G:=(b,C AO (eSt s wv tv mv thv ov pv)) :: F) (hK7 (l1.length - (j + 1)) _ _ _ ω ⟨rfl,j + 1,o',ω,rfl,⟨_,hmg',?_,λq hq hq'=>?_⟩,rfl,rfl⟩))
  ·rw[RW hcj,← RY,Rc,Rc,hpl];rfl
  ·rw[Rc,Ss] at hq;have e:l ++ l1.take (j + 1) = (l ++ l1.take j) ++ [l1[j]]:=by rw[RW hcj,RY]
   simp only[e];by_cases c:q < ps.length
   ·rw[T7 c,T7 ω];exact hps q c ω
   ·rw[Sc ω,Sc ω];simp only[List.getElem_singleton];exact⟨trivial,_,_,rfl,hrv,hnv⟩
end st
theorem Pc {R:RM} {D:Chs} {k:Value→M} {b:Nat} {o:Obj} {l:List AF} {x:Int} (a:Li R D b o) (hm:MpT R o l)
  (H:∀(n:AF) (nb:Bool) (rv nv:Value),nb = (Al l x).isSome→(nb = true→Al l x = some n)→Ai R rv n.refs→Ai R nv n.nums→J R D (k (.tuple #[.agg (eTh n rv nv).toArray,.bool nb]))):J R D (X P (Instr.lookup 73 (.map (some b)) (I x) true) k):=by
 refine @MU R D k b o l x true a hm (λh=>?_) (λt v h hv=>?_)
 ·exact H Df false (SN) (SN) (by rw[h];rfl) (λh=>by cases h) (.inl ⟨rfl,rfl,rfl⟩) (.inl ⟨rfl,rfl,rfl⟩)
 ·obtain⟨rv,nv,rfl,h1,h2⟩:=hv;exact H t true rv nv (by rw[h];rfl) (λ_=>h) h1 h2
section st
variable {R:RM} {s:Sm.AU} {wv tv mv thv ov pv:Value}
theorem PP {o:Obj} {l:List AF} {ps:List (Int × Value)} (h2:ps.length = l.length) (h3:∀i (h:i < ps.length) (h' : i < l.length),(ps[i]).1 = (l[i]).at_∧ThV R (ps[i]).2 (l[i])) {p:Int × Value} (hp:p∈ps):∃t∈l,p.1 = t.at_∧ThV R p.2 t:=by
 obtain⟨i,hi,rfl⟩:=S5 hp;exact⟨l[i],RZ ω,h3 i hi ω⟩
theorem Oc {l:List AF} {ps:List (Int × Value)} (h2:ps.length = l.length) (h3:∀i (h:i < ps.length) (h' : i < l.length),(ps[i]).1 = (l[i]).at_∧ThV R (ps[i]).2 (l[i])) {t:AF} (ht:t∈l):∃p∈ps,p.1 = t.at_:=by
 obtain⟨i,hi,rfl⟩:=S5 ht;exact⟨ps[i]'(ω),RZ ω,(h3 i ω hi).1⟩
set_option maxHeartbeats 1000000 in
set_option maxRecDepth 4000 in
theorem Jh (h:SF R s wv tv mv thv ov pv) {mb:Nat} {o:Obj} {l:List AF} (hb:R mb = some o) (hm:MpT R o l) (tb:TB l) (nd:(l.map AF.at_).Nodup):Ro D9 [.agg (eSt s wv tv mv thv ov pv).toArray,.map (some mb)] (.bool (Bf s l)) R []:=by
 refine F7 λF=>?_
 refine z_2 ?_;refine ja λb=>?_
 rw[show cl (.agg (eSt s wv tv mv thv ov pv).toArray) = eSt s wv tv mv thv ov pv from rfl];obtain⟨ps,hg,h2,h3⟩:=hm;refine @RO _ _ _ 73 62 mb o ps (Li.fz hb) KF hg λib it hit=>?_
 refine jlp (λm vs R' D'=>R' = R∧∃(rem don:List (Int × Value)) (it:Obj) (cur:Option (Int × Value)),m = rem.length∧ps.Perm (don ++ rem)∧ItG mb o it rem cur∧(∀p∈don,∀t∈l,p.1 = t.at_→Cm s l t = true)∧D' = (ib,it) :: (b,C AO (eSt s wv tv mv thv ov pv)) :: ([] ++ F)∧vs = [.map (some mb),Pt b,Pt ib])
  ⟨rfl,ps,[],it,none,rfl,SJ _,hit,(λp hp=>by cases hp),rfl,rfl⟩ ?_
 rintro m e R1 D1 K ⟨hR,rem,don,it,cur,hmm,hpm,hit,hdn,hD,he⟩ hK;subst hR;refine z_W ?_;refine @Qw _ _ _ mb ib o it _ ps rem cur _ (Li.fz hb) hg hit (λh0=>?_) (λp rem' it' hpr hit'=>?_)
 ·subst h0;refine jex rfl (C9 ?_);refine Af ?_;congr 1;rw[eq_comm];unfold Bf;rw[Rs];intro t ht;obtain⟨p,hp,hpt⟩:=Oc h2 h3 ht;exact hdn p (by have:=hpm.mem_iff.1 hp;simpa using this) t ht hpt
 have hpp:p∈ps:=hpm.mem_iff.2 (Rq.2 (.inr (hpr.mem_iff.2 (.head _))));obtain⟨t,ht,hpt,rv,nv,hpv,hrv,hnv⟩:=PP (o:=o) h2 h3 hpp;obtain⟨ra,rc,rfl⟩:=hrv.sl;obtain⟨na,nc,rfl⟩:=hnv.sl;have htb:=tb t ht;have hlen:rem'.length < m:=by rw[hmm,hpr.length_eq,Rr];omega
 have hpm' : ps.Perm ((don ++ [p]) ++ rem'):=hpm.trans (by
  rw[RY]
  exact List.Perm.append_left don hpr)
 have huniq:∀t'∈l,p.1 = t'.at_→t' = t:=λt' ht' e=>by
  have e1:=Gr nd ht;have e2:=Gr nd ht';rw[← e,hpt,e1] at e2;exact (Option.some.inj e2).symm
 refine jex rfl (Dv ?_);refine Aw (λvs R' D'=>R' = R1∧Cm s l t = true∧D' = (ib,it') :: (b,C AO (eSt s wv tv mv thv ov pv)) :: ([] ++ F)∧vs = [.map (some mb),Pt b,Pt ib]) (λK2 hK2=>?_) ?_;rotate_left
 ·rintro e R2 D2 ⟨hR,hst,hD,he⟩;subst hR;refine z_W ?_;refine hK rem'.length _ _ _ hlen ⟨rfl,rem',don ++ [p],it',some p,rfl,hpm',hit',λq hq t' ht' e=>?_,rfl,rfl⟩;rcases Rq.1 hq with hq | hq
  ·exact hdn q hq t' ht' e
  ·rw[Ri.1 hq] at e;rw[huniq t' ht' e];exact hst
 refine @Qo _ _ _ mb ib o it' ps rem' p _ (Li.fz hb) hg hit' ?_;rw[hpv];refine jex rfl (ja λtbk=>?_);refine js rfl rfl (by exact z_n 6) rfl ?_;refine jl rfl (jl rfl (jeq (jif (λhc=>?_) (λhc=>?_))))
 ·refine Ab [(ib,it')] (G:=(b,C AO (eSt s wv tv mv thv ov pv)) :: ([] ++ F)) ?_;exact hK2 _ _ _ ⟨rfl,by unfold Cm;rw[hc,Rm],rfl,rfl⟩
 refine jl rfl ?_;refine Pc (Li.fz hb) ⟨ps,hg,h2,h3⟩ λn nb rv2 nv2 hnb hfn hrv2 hnv2=>?_
 obtain⟨ra2,rc2,rfl⟩:=hrv2.sl;obtain⟨na2,nc2,rfl⟩:=hnv2.sl;refine jex rfl (jex rfl (ja λnbk=>?_));refine js rfl rfl (by exact z_n 6) rfl ?_;have hbad:Cm s l t = !(!nb || !(n.sh == t.sh) || (n.moved != n.at_) || D6 s n.at_ || !D6 s t.at_):=by
  unfold Cm;rw[hc,Re];cases nb with
  | false=>
   have:Al l t.moved = none:=by
    cases h:Al l t.moved with
    | none=>rfl
    | some x=>rw[h] at hnb;cases hnb
   rw[this];rfl
  | true=>
   rw[hfn rfl];dsimp only;unfold bne;cases n.sh == t.sh<;>cases n.moved == n.at_<;>cases D6 s n.at_<;>cases D6 s t.at_<;>rfl
 refine jor [.map (some mb),Pt b,Pt tbk,Pt nbk,Pt ib] ((!nb) || (!(n.sh == t.sh))) (λK' hK'=>?_) (λe c u ho he=>?_)
 ·refine BT (λh1=>?_) (λh1=>?_)
  ·refine jfo (jla (l:=[I n.sh.refs,I n.sh.nums]) (by exact (by decide:4≤6)) rfl (jfo (jla (cs:=eTh t (.slice ra t.refs.length rc) (.slice na t.nums.length nc)) (l:=[I t.sh.refs,I t.sh.nums]) (by exact (by decide:4≤6)) rfl (@RG n.sh t.sh _ _ _ _ _ (hK' _ _ _ (h1▸AY) (by rw[h1,Re]))))))
  ·exact hK' _ _ _ (h1▸Ao) (by rw[h1,Rm])
 refine z_V ?_;refine jor [.map (some mb),Pt b,Pt tbk,Pt nbk,Pt ib] ((!nb || !(n.sh == t.sh)) || ((n.moved != n.at_))) (λK' hK'=>?_) (λe c u ho he=>?_)
 ·rw[ho];refine BT (λh1=>?_) (λh1=>?_)
  ·refine jl (v:=I n.moved) rfl (jl (v:=I n.at_) rfl (jne (hK' _ _ _ (h1▸AY) (by rw[h1,Re]))))
  ·exact hK' _ _ _ (h1▸Ao) (by rw[h1,Rm])
 refine z_V ?_;refine jor [.map (some mb),Pt b,Pt tbk,Pt ib] (!nb || !(n.sh == t.sh) || (n.moved != n.at_) || D6 s n.at_) (λK' hK'=>?_) (λe c u ho he=>?_)
 ·rw[ho];refine BT (λh1=>?_) (λh1=>?_)
  ·have hnb' : nb = true:=by cases nb with | true=>rfl | false=>cases h1
   have hn:=tb n (BX (hfn hnb')).1;exact jla (l:=eSt s wv tv mv thv ov pv) (by exact z_n 13) rfl (jl (v:=I n.at_) rfl (jrp (HZ h hn.1 hn.2.1) (hK' _ _ _ (h1▸AY) (by rw[h1,Re]))))
  ·exact hK' _ _ _ (h1▸Ao) (by rw[h1,Rm])
 refine z_V ?_;refine jor [.map (some mb),Pt b,Pt ib] ((!nb || !(n.sh == t.sh) || (n.moved != n.at_) || D6 s n.at_) || (!D6 s t.at_)) (λK' hK'=>?_) (λe c u ho he=>?_)
 ·rw[ho];refine BT (λh1=>?_) (λh1=>?_)
  ·refine jla (l:=eSt s wv tv mv thv ov pv) (by exact z_n 13) rfl (jl (v:=I t.at_) rfl (jrp (HZ h htb.1 htb.2.1) (hK' _ _ _ (h1▸AY) (by rw[h1,Re]))))
  ·exact hK' _ _ _ (h1▸Ao) (by rw[h1,Rm])
 refine z_V ?_;rw[ho];refine jif (λh0=>?_) (λh0=>?_)
 ·refine Af ?_;congr 1;rw[eq_comm,T9];unfold Bf;intro By;have:=Rs.1 By t ht;rw[hbad,h0] at this;cases this
 ·refine Ab [(ib,it')] (G:=(b,C AO (eSt s wv tv mv thv ov pv)) :: ([] ++ F)) ?_;exact hK2 _ _ _ ⟨rfl,by rw[hbad,h0];rfl,rfl,rfl⟩
end st
section rules
variable {R:RM} {D:Chs} {k:Value→M}
theorem FZ {f:Nat} {cap:Array Value} {args:List Value} (hok:Ls P f = true) (H:J R D (CA P f (args ++ cap.toList) k)):J R D (CV P (.func (.func f) #[] cap) args k):=λh hs=>⟨hok,H h hs⟩
theorem jfd {o n:Nat} {cs:Array Value} {v:Value} (hv:cs.toList[o]? = some v) (H:J R D (k v)):J R D (FD false o n (.agg cs) k):=by
 unfold FD;simp only[cond_false,hv];exact H
end rules
def eHp (s:Sm.AU) (wv tv mv thv ov pv:Value) (mb:Nat) (v:Value):List Value:=[wv,tv,mv,I s.Ay,.bool s.stop,.bool s.full,.bool s.C5,I s.want,thv,ov,pv,I s.C4,I s.Cl,.map (some mb),v]
section st
variable {R:RM} {s:Sm.AU} {wv tv mv thv ov pv:Value} {l:List AF}
theorem O0 {hb mb:Nat} {o:Obj} {v:Value} {a x:Int} {D:Chs} [at_:At D hb (C 99 (eHp s wv tv mv thv ov pv mb v))] (hm0:R mb = some o) (hm:MpT R o l) (hx:now l a = some x):Ro Dk [Pt hb,I a] (I x) R D:=by
 refine FR λF=>?_
 refine z_2 ?_;unfold now at hx;refine jeq (jif (λh=>?_) (λh=>?_))
 ·rw[if_pos (by simpa using h)] at hx;cases hx;exact Af rfl
 have h:a≠0:=by simpa using h
 rw[if_neg h] at hx;refine jl rfl (@MU _ _ _ mb o l a false (Li.fz hm0) hm (λe=>?_) (λt v e hv=>?_))
 ·rw[e] at hx;cases hx
 ·rw[e] at hx;obtain⟨rv,nv,rfl,_,_⟩:=hv;cases hx;exact jfd rfl (Af rfl)
theorem Jm {x:Int} {r acc:List Int}:Ah l (x :: r) acc = (now l x).bind λy=>Ah l r (Cj acc y):=rfl
def Py (r:Option (List Int)) (s:Sm.AU) (wv tv mv thv ov pv:Value) (mb b1 b3 hb sb:Nat) (v:Value) (A:Chs):Prop:=match r with
 | none=>v = .bool false∧A = []
 | some acc=>v = .bool true∧∃v2 so2 A2,SO acc v2 A2∧MpI so2 (·∈acc)∧A = (b1,C 86 [Pt hb]) :: (b3,C 76 [.map (some sb)]) :: (hb,C 99 (eHp s wv tv mv thv ov pv mb v2)) :: (sb,so2) :: A2
set_option maxHeartbeats 1000000 in
set_option maxRecDepth 4000 in
theorem Iy {xs acc:List Int} {lv v:Value} {mb b1 b3 hb sb:Nat} {o so:Obj} {A:Chs} (hm0:R mb = some o) (hm:MpT R o l) (hmv:∀t∈l,t.moved≠0) (hxs:Ai R lv xs) (hxl:xs.length < 1000000) (hal:acc.length + xs.length < 1000000) (hso:SO acc v A) (hms:MpI so (·∈acc)) :
  Fn P DK [lv,Pt b1,Pt b3] R ((b1,C 86 [Pt hb]) :: (b3,C 76 [.map (some sb)]) :: (hb,C 99 (eHp s wv tv mv thv ov pv mb v)) :: (sb,so) :: A)
   (λr R' A'=>R' = R∧Py (Ah l xs acc) s wv tv mv thv ov pv mb b1 b3 hb sb r A'):=by
 refine G2 λF=>?_
 refine z_3 ?_;refine Bh hxs.sl ?_;refine jlp (λm vs R' D'=>R' = R∧∃(i:Nat) (ac:List Int) (v2:Value) (so2:Obj) (A2:Chs),i≤xs.length∧m = xs.length - i∧Ah l (xs.drop i) ac = Ah l xs acc∧ac.length≤acc.length + i∧SO ac v2 A2∧MpI so2 (·∈ac)∧D' = (b1,C 86 [Pt hb]) :: (b3,C 76 [.map (some sb)]) :: (hb,C 99 (eHp s wv tv mv thv ov pv mb v2)) :: (sb,so2) :: (A2 ++ F)∧vs = [Pt b1,Pt b3,lv,I xs.length,I i])
  ⟨rfl,0,acc,v,so,A,ω,rfl,rfl,ω,hso,hms,rfl,rfl⟩ ?_
 rintro m e R1 D1 K ⟨hR,i,ac,v2,so2,A2,hi,hmm,hn,hac,hs2,hm2,hD,he⟩ hK;subst hR;refine z_W ?_;refine jlt (jif (λhc=>?_) (λhc=>?_));rotate_left
 ·have hc:=z_g hc;rw[SU ω] at hn;refine AV (A:=(b1,C 86 [Pt hb]) :: (b3,C 76 [.map (some sb)]) :: (hb,C 99 (eHp s wv tv mv thv ov pv mb v2)) :: (sb,so2) :: A2) (RM.le.refl _) ⟨rfl,?_⟩;rw[← hn];exact⟨rfl,v2,so2,A2,hs2,hm2,rfl⟩
 have hc:i < xs.length:=by have:=z_f hc;omega
 rw[SH hc] at hn;refine Aw (λvs R' D'=>R' = R1∧∃(ac2:List Int) (v2:Value) (so2:Obj) (A2:Chs),Ah l (xs.drop (i + 1)) ac2 = Ah l xs acc∧ac2.length≤acc.length + (i + 1)∧SO ac2 v2 A2∧MpI so2 (·∈ac2)∧D' = (b1,C 86 [Pt hb]) :: (b3,C 76 [.map (some sb)]) :: (hb,C 99 (eHp s wv tv mv thv ov pv mb v2)) :: (sb,so2) :: (A2 ++ F)∧vs = [Pt b1,Pt b3,lv,I xs.length,I i]) (λK2 hK2=>?_) ?_;rotate_left
 ·rintro e R2 D2 ⟨hR,ac2,v3,so3,A3,hn2,hac2,hs3,hm3,hD,he⟩;subst hR;refine z_W ?_;refine jad (hK (xs.length - (i + 1)) _ _ _ ω ⟨rfl,i + 1,ac2,v3,so3,A3,ω,rfl,hn2,hac2,hs3,hm3,rfl,rfl⟩)
 refine Aw (λvs R' D'=>R' = R1∧∃(ac2:List Int) (v2:Value) (so2:Obj) (A2:Chs),Ah l (xs.drop (i + 1)) ac2 = Ah l xs acc∧ac2.length≤acc.length + (i + 1)∧SO ac2 v2 A2∧MpI so2 (·∈ac2)∧D' = (b1,C 86 [Pt hb]) :: (b3,C 76 [.map (some sb)]) :: (hb,C 99 (eHp s wv tv mv thv ov pv mb v2)) :: (sb,so2) :: (A2 ++ F)∧vs = [Pt b1,Pt b3,lv,I xs.length,I i]) (λK3 hK3=>?_) ?_;rotate_left
 ·rintro e R2 D2 ⟨hR,ac2,v3,so3,A3,hn2,hac2,hs3,hm3,hD,he⟩;subst hR;refine z_W ?_;exact hK2 _ _ _ ⟨rfl,ac2,v3,so3,A3,hn2,hac2,hs3,hm3,rfl,rfl⟩
 rw[Jm] at hn;refine ER hxs ω ω ?_;simp only[RV];refine jeq (jif (λh0=>?_) (λh0=>?_))
 ·have h0:xs[i] = 0:=by simpa using h0
  refine hK3 _ _ _ ⟨rfl,ac,v2,so2,A2,?_,ω,hs2,hm2,rfl,rfl⟩;rw[← hn,h0];simp[now,Cj]
 have h0:xs[i]≠0:=by simpa using h0
 refine jl rfl (jl rfl (Pc (Li.fz hm0) hm λn nb rv nv hnb hfn hrv hnv=>?_));obtain⟨ra,rc,rfl⟩:=hrv.sl;obtain⟨na,nc,rfl⟩:=hnv.sl;refine jex rfl (jex rfl (ja λnbk=>(js rfl rfl (by exact z_n 6) rfl (BH ?_))));cases nb with
 | false=>
  have hf:Al l xs[i] = none:=by
   cases h:Al l xs[i] with
   | none=>rfl
   | some x=>rw[h] at hnb;cases hnb
  refine Dv (AV (A:=[]) (RM.le.refl _) ⟨rfl,?_⟩);rw[← hn];unfold now;rw[if_neg h0,hf];exact⟨rfl,rfl⟩
 | true=>
  have hf:=hfn rfl;have hnow:now l xs[i] = some n.moved:=by unfold now;rw[if_neg h0,hf];rfl
  have hnm:=hmv n (BX hf).1;rw[hnow] at hn;have hn:Ah l (xs.drop (i + 1)) (Cj ac n.moved) = Ah l xs acc:=hn;unfold Cj at hn;refine C9 (jl rfl (Ab [(hb,C 99 (eHp s wv tv mv thv ov pv mb v2))] (G:=(b1,C 86 [Pt hb]) :: (b3,C 76 [.map (some sb)]) :: (sb,so2) :: (A2 ++ F)) (Qt (O0 hm0 hm hnow) (Ab [(b1,C 86 [Pt hb]),(b3,C 76 [.map (some sb)]),(hb,C 99 (eHp s wv tv mv thv ov pv mb v2)),(sb,so2)] (G:=A2 ++ F) (jl rfl (@jlk _ _ _ sb so2 _ n.moved (decide (n.moved∈ac)) _ hm2 σ (jif (λhd=>?_) (λhd=>?_))))))));rotate_left
  ·have hd:n.moved∈ac:=by simpa using hd
   rw[if_pos (.inr hd)] at hn;exact hK3 _ _ _ ⟨rfl,ac,v2,so2,A2,hn,ω,hs2,hm2,rfl,rfl⟩
  have hd:n.moved ∉ ac:=by simpa using hd
  rw[if_neg (by rintro (h | h);exact hnm h;exact hd h)] at hn;refine jl rfl (@jmu _ _ _ sb so2 _ _ n.moved _ hm2 λso3 hm3=>(jl rfl (jl rfl (jl rfl (jbs rfl rfl λxb=>?_)))));refine As (jl rfl jev) (As (jl rfl jev) (As (jl rfl jev) (Pv hs2 ω λv3 A3 hs3=>(As (jl rfl jev) ?_))));obtain⟨a3,c3,rfl⟩:=hs3.sln;refine jS (eHp s wv tv mv thv ov pv mb (.slice a3 (ac ++ [n.moved]).length c3)) (Ab [(b1,C 86 [Pt hb]),(b3,C 76 [.map (some sb)]),(hb,C 99 (eHp s wv tv mv thv ov pv mb (.slice a3 (ac ++ [n.moved]).length c3))),(sb,so3)] (G:=A3 ++ ([] ++ F)) (hK3 _ _ _ ⟨rfl,ac ++ [n.moved],_,so3,A3,hn,by rw[Rc,Ss];omega,hs3,?_,rfl,rfl⟩));have e:(λy=>y∈ac∨y = n.moved) = (·∈ac ++ [n.moved]):=by funext y;simp
  rw[← e];exact hm3
end st
end Go.Lf
end
section
namespace Sm
open Go.Lf
theorem Be {l:List AF} {x:Int} {r acc:List Int}:Ah l (x :: r) acc = (now l x).bind λy=>Ah l r (Cj acc y):=rfl
theorem Ew {l:List AF}:∀{xs ys acc:List Int},Ah l (xs ++ ys) acc = (Ah l xs acc).bind λo=>Ah l ys o
 | [],ys,acc=>rfl
 | x :: xs,ys,acc=>by
  rw[zc,Be,Be];cases now l x with
  | none=>rfl
  | some y=>exact Ew
theorem G5 {l:List AF}:∀{ts:List Th} {acc:List Int},FV l ts acc = Ah l (ts.flatMap (·.AD)) acc
 | [],acc=>rfl
 | t :: ts,acc=>by
  rw[List.flatMap_cons,Ew];show (Ah l t.AD acc).bind (λo=>FV l ts o) = _;congr 1;funext o;exact G5
theorem L8 {s:AU} {l:List AF}:∀{ps acc:List Int},ps.all (Eg s l) = true→Ah l ps acc = some (ps.foldl Cj acc)
 | [],acc,_=>rfl
 | a :: ps,acc,h=>by
  rw[List.all_cons,z_b] at h;have h1:=h.1;unfold Eg at h1;have:now l a = some a:=by
   unfold now;split
   ·rename_i e;rw[e]
   ·cases ht:Al l a with
    | none=>rw[ht] at h1;cases h1
    | some t=>
     rw[ht] at h1;simp only[z_b,beq_iff_eq] at h1;rw[TM,h1.1]
  rw[Be,this];exact L8 h.2
theorem Ex {s:AU} {l:List AF} (h:s.AN.all (Eg s l) = true):D5 s l = (Ah l (DV s) []).bind λout=>Az l (l.length + 2) 0 out:=by
 unfold D5 DV;rw[G5,Ew];cases Ah l (s.A9.flatMap (·.AD)) [] with
 | none=>rfl
 | some out=>rw[z_o,L8 h];rfl
structure Stl (l:List AF):Prop where
 nd:(l.map AF.at_).Nodup
 at16:∀t∈l,16≤t.at_
 mv:∀t∈l,∃t'∈l,t'.at_ = t.moved
theorem Stl.nz {l:List AF} (S:Stl l):∀t∈l,t.moved≠0:=λt ht e=>by
 obtain⟨t',h1,h2⟩:=S.mv t ht;have:=S.at16 t' h1;omega
theorem Nb {s:AU} {l:List AF} (h:DJ s = some l) (hs:Bf s l = true):Stl l:=by
 unfold DJ at h;split at h;rotate_left
 ·cases h
 unfold B7 at h;obtain⟨h1,h2⟩:=Di h;refine⟨Ik h1 λx hx=>(h2 x hx).2.1,λt ht=>by have:=(h2 t ht).1;omega,λt ht=>?_⟩;unfold Bf at hs;have:=Rs.1 hs t ht;unfold Cm at this;rw[SB] at this;rcases this with e | e
 ·exact⟨t,ht,(eq_of_beq e).symm⟩
 ·cases hf:Al l t.moved with
  | none=>rw[hf] at e;cases e
  | some n=>exact⟨n,BX hf⟩
structure CF (l:List AF) (ac:List Int):Prop where
 nd:ac.Nodup
 th:∀a∈ac,∃t,Al l a = some t
theorem CF.put {l:List AF} {ac:List Int} (M:CF l ac) (S:Stl l) {x:Int} (h:x = 0∨∃t∈l,t.at_ = x):CF l (Cj ac x):=by
 unfold Cj;split
 ·exact M
 ·rename_i c;have c0:x≠0:=λe=>c (.inl e)
  have c1:x ∉ ac:=λe=>c (.inr e)
  refine⟨?_,λa ha=>?_⟩
  ·rw[List.nodup_append];refine⟨M.nd,σ,λa ha b hb e=>?_⟩;rw[Ri.1 hb] at e;exact c1 (e▸ha)
  ·rcases Rq.1 ha with ha | ha
   ·exact M.th a ha
   ·rw[Ri.1 ha];rcases h with h | ⟨t,h1,h2⟩
    ·exact absurd h c0
    ·exact⟨t,by rw[← h2];exact Gr S.nd h1⟩
theorem CF.all {l:List AF} (S:Stl l):∀{xs ac ac' : List Int},CF l ac→Ah l xs ac = some ac'→CF l ac'
 | [],ac,ac',M,h=>by cases h;exact M
 | x :: xs,ac,ac',M,h=>by
  rw[Be] at h;cases hn:now l x with
  | none=>rw[hn] at h;cases h
  | some y=>
   rw[hn] at h;refine CF.all S (M.put S ?_) h;unfold now at hn;split at hn
   ·cases hn;exact .inl rfl
   ·obtain⟨t,ht,rfl⟩:=Option.map_eq_some_iff.1 hn;exact .inr (S.mv t (BX ht).1)
theorem CF.len {l:List AF} {ac:List Int} (M:CF l ac):ac.length≤l.length:=by
 have:ac.length≤(l.map AF.at_).length:=ET M.nd λx hx=>by
  obtain⟨t,ht⟩:=M.th x hx;obtain⟨h1,h2⟩:=BX ht;rw[← h2];exact Sr h1
 rwa [Ry] at this
theorem CF.nil {l:List AF}:CF l []:=⟨List.nodup_nil,λa h=>by cases h⟩
theorem CJ {l:List AF} {n i:Nat} {out:List Int} {t:AF} (hi:i < out.length) (ht:Al l out[i] = some t):Az l (n + 1) i out = (Ah l t.refs out).bind λo=>Az l n (i + 1) o:=by
 conv=>lhs;unfold Az
 rw[RU hi];dsimp only;rw[ht];rfl
theorem CM {l:List AF} {n i:Nat} {out:List Int} (hi:out.length≤i):Az l (n + 1) i out = some out:=by
 unfold Az;rw[Sg hi]
end Sm
end
section
namespace Go.Lf
open Go Sm
section rules
variable {R:RM} {D:Chs} {k:Value→M}
theorem O8 {l:List Int} {v:Value} {A E:Chs} {i:Nat} (so:SO l v A) [s:Sp D A E] (hi:i < l.length) (H:J R D (k (I l[i]))):J R D (IA 1 v (I (i:Int)) λx=>L1 x k):=by
 refine Bq s.p ?_;have:=(so.rd (R:=R) (E:=E)).2 [] i hi k;rw[SP] at this;exact this (Bq s.p.symm H)
end rules
section st
variable {R:RM} {s:Sm.AU} {wv tv mv thv ov pv:Value} {l:List AF}
def Pa (r:Option (List Int)) (s:Sm.AU) (wv tv mv thv ov pv:Value) (mb hb:Nat) (v:Value) (A:Chs):Prop:=match r with
 | none=>v = .bool false∧A = []
 | some met=>v = .bool true∧∃v2 A2,SO met v2 A2∧A = (hb,C 99 (eHp s wv tv mv thv ov pv mb v2)) :: A2
set_option maxHeartbeats 1000000 in
set_option maxRecDepth 4000 in
theorem Lz {mb hb:Nat} {o:Obj} (h:SF R s wv tv mv thv ov pv) (hm0:R mb = some o) (hm:MpT R o l) (S:Stl l) (hll:l.length < 10000) (tb:TB l) (hp:s.AN.all (Eg s l) = true) :
  Fn P EG [Pt hb] R [(hb,C 99 (eHp s wv tv mv thv ov pv mb (SN)))] (λr R' A'=>Pa (D5 s l) s wv tv mv thv ov pv mb hb r A'):=by
 refine H3 λF=>?_
 refine z_1 ?_;refine ja λb1=>QR λsb so0 hs0=>ja λb3=>(jS [.map (some sb)] ?_)
 refine jl rfl (jnc (jfo (jla (RQ rfl) rfl ?_)));refine jc (LZ h) ?_;rintro rv R1 A1 hR1 ⟨hR,so1⟩;subst hR;have n1:=h.b.n1;have fl:=CN s.A9 h.b.rl;have fle:9 * s.A9.length≤27:=ω
 have pl:=h.b.pl;have rl:(DV s).length≤35:=by unfold DV;rw[Rc];omega
 refine EE so1 λR2 hR2 hri=>?_
 have h:=h.le hR2;have hm0:=hR2 _ _ hm0;have hm:=hm.le hR2;rw[Ex hp];refine FZ (by kernel_rfl) ?_;refine jc (A:=(b1,C 86 [Pt hb]) :: (b3,C 76 [.map (some sb)]) :: (hb,C 99 (eHp s wv tv mv thv ov pv mb (SN))) :: (sb,so0) :: []) (Iy hm0 hm S.nz hri ω (by simp;omega) (.inl ⟨rfl,rfl,rfl⟩) (by simpa using hs0)) ?_;rintro r R3 A3 _ ⟨hR,hq⟩;subst hR;cases hn:Ah l (DV s) [] with
 | none=>
  rw[hn] at hq;obtain⟨rfl,rfl⟩:=hq;exact Dv (AV hR2 ⟨rfl,rfl⟩)
 | some out=>
  rw[hn] at hq;obtain⟨rfl,v2,so2,A2,hs2,hm2,rfl⟩:=hq;rw[z_o];have M0:CF l out:=CF.nil.all S hn;refine C9 ?_;refine jlp (λm vs R' D'=>R' = R3∧∃(i:Nat) (ac:List Int) (v2:Value) (so2:Obj) (A2:Chs),i≤ac.length∧m = l.length + 2 - i∧Az l (l.length + 2 - i) i ac = Az l (l.length + 2) 0 out∧CF l ac∧SO ac v2 A2∧MpI so2 (·∈ac)∧D' = (b1,C 86 [Pt hb]) :: (b3,C 76 [.map (some sb)]) :: (hb,C 99 (eHp s wv tv mv thv ov pv mb v2)) :: (sb,so2) :: (A2 ++ F)∧vs = [Pt b1,.func (.func 147) #[] #[Pt b1,Pt b3],I i])
   (n:=l.length + 2) ⟨rfl,0,out,v2,so2,A2,ω,ω,rfl,M0,hs2,hm2,rfl,rfl⟩ ?_
  clear hm2 hs2 M0 hn;rintro m e R4 D4 K ⟨hR,i,ac,v3,so3,A3,hi,hmm,hrl,M,hs3,hm3,hD,he⟩ hK;subst hR;refine z_W ?_;clear hD;have hal:=M.len;obtain⟨a3,c3,rfl⟩:=hs3.sln;refine jl rfl (jl (v:=.slice a3 ac.length c3) rfl (jln (jlt (jif (λhc=>?_) (λhc=>?_)))));rotate_left
  ·have hc:=z_g hc;obtain⟨q,hq⟩:∃q,l.length + 2 - i = q + 1:=⟨l.length + 1 - i,ω⟩;rw[hq,CM ω] at hrl;refine Ab [(hb,C 99 (eHp s wv tv mv thv ov pv mb (.slice a3 ac.length c3)))] (G:=A3 ++ F) ?_;refine AV (A:=(hb,C 99 (eHp s wv tv mv thv ov pv mb (.slice a3 ac.length c3))) :: A3) hR2 ?_;rw[← hrl];exact⟨rfl,_,A3,hs3,rfl⟩
  have hc:i < ac.length:=by have:=z_f hc;omega
  obtain⟨t,ht⟩:=M.th _ (RZ hc);obtain⟨htm,hta⟩:=BX ht;obtain⟨q,hq⟩:∃q,l.length + 2 - i = q + 1:=⟨l.length + 1 - i,ω⟩;rw[hq,CJ hc ht] at hrl;refine jl rfl (jl rfl (jl rfl (jl rfl ?_)));refine O8 hs3 hc ?_;refine @MU _ _ _ mb o l ac[i] false (Li.fz hm0) hm (λe=>by rw[ht] at e;cases e) (λt2 v e hv=>?_);rw[ht] at e;cases e;obtain⟨rv,nv,rfl,hrv,hnv⟩:=hv;refine jfd rfl (FZ (by kernel_rfl) ?_);have htb:=tb t htm;refine jc (A:=(b1,C 86 [Pt hb]) :: (b3,C 76 [.map (some sb)]) :: (hb,C 99 (eHp s wv tv mv thv ov pv mb (.slice a3 ac.length c3))) :: (sb,so3) :: A3) (Iy hm0 hm S.nz hrv ω ω hs3 hm3) ?_;rintro r R5 A5 _ ⟨hR,hq2⟩;subst hR;cases hn:Ah l t.refs ac with
  | none=>
   rw[hn] at hq2 hrl;obtain⟨rfl,rfl⟩:=hq2;refine Dv (AV (A:=[]) hR2 ?_);rw[← hrl];exact⟨rfl,rfl⟩
  | some out2=>
   rw[hn] at hq2 hrl;obtain⟨rfl,v4,so4,A4,hs4,hm4,rfl⟩:=hq2;have M2:=M.all S hn;have ml2:=M2.len;have hge:=Gx hn;refine C9 (jad ?_);refine Ab [(b1,C 86 [Pt hb]),(b3,C 76 [.map (some sb)]),(hb,C 99 (eHp s wv tv mv thv ov pv mb v4)),(sb,so4)] (G:=A4 ++ F) ?_;refine hK q _ _ _ ω ⟨rfl,i + 1,out2,v4,so4,A4,ω,ω,?_,M2,hs4,hm4,rfl,rfl⟩;rw[← hrl,z_o];congr 1;omega
end st
def HpV (R:RM) (s:Sm.AU) (wv tv mv thv ov pv:Value) (l:List AF) (met:List Int) (hb mb:Nat) (v:Value):Prop:=∃o,R hb = some (C 99 (eHp s wv tv mv thv ov pv mb v))∧R mb = some o∧MpT R o l∧Ai R v met
def OU (r:Option (List AF × List Int)) (s:Sm.AU) (wv tv mv thv ov pv:Value) (x:Value) (R:RM):Prop:=match r with
 | none=>x = .pointer none
 | some (l,met)=>∃hb mb v,x = Pt hb∧HpV R s wv tv mv thv ov pv l met hb mb v
section st
variable {R:RM} {s:Sm.AU} {wv tv mv thv ov pv:Value}
theorem Kf {l:List AF} (h:DJ s = some l) (h2:Cw s l = false):CD s = none:=by
 unfold CD;rw[h];dsimp only;rw[if_neg (by rw[h2];decide)]
set_option maxHeartbeats 2000000 in
set_option maxRecDepth 4000 in
theorem H7 (h:SF R s wv tv mv thv ov pv):Fn P H8 [.agg (eSt s wv tv mv thv ov pv).toArray] R [] (λr R' A=>A = []∧OU (CD s) s wv tv mv thv ov pv r R'):=by
 refine KW λF=>?_
 refine z_1 ?_;refine ja λb=>?_
 rw[show cl (.agg (eSt s wv tv mv thv ov pv).toArray) = eSt s wv tv mv thv ov pv from rfl];refine jla (l:=eSt s wv tv mv thv ov pv) (by exact z_n 13) rfl ?_;refine jc (A:=[]) (KK h) ?_;rintro _ R1 _ hR1 ⟨rfl,hq⟩;refine Qc ?_;cases hth:DJ s with
 | none=>
  rw[hth] at hq;obtain rfl:_ = Value.tuple #[.map none,.bool false]:=hq;have hn:CD s = none:=by unfold CD;rw[hth]
  refine jex rfl (jex rfl ?_);refine jor [Pt b,.map none] true (λK' hK'=>?_) (λe c u ho he=>?_)
  ·exact jtf (hK' _ _ _ Ao rfl)
  refine z_V ?_;refine jor [Pt b,.map none] true (λK' hK'=>?_) (λe c u ho he=>?_)
  ·rw[ho];exact jtf (hK' _ _ _ Ao rfl)
  refine z_V ?_;refine jor [Pt b,.map none] true (λK' hK'=>?_) (λe c u ho he=>?_)
  ·rw[ho];exact jtf (hK' _ _ _ Ao rfl)
  refine z_V ?_;refine jor [Pt b,.map none] true (λK' hK'=>?_) (λe c u ho he=>?_)
  ·rw[ho];exact jtf (hK' _ _ _ Ao rfl)
  refine z_V ?_;refine jor [Pt b,.map none] true (λK' hK'=>?_) (λe c u ho he=>?_)
  ·rw[ho];exact jtf (hK' _ _ _ Ao rfl)
  refine z_V ?_;refine jor [Pt b,.map none] true (λK' hK'=>?_) (λe c u ho he=>?_)
  ·rw[ho];exact jtf (hK' _ _ _ Ao rfl)
  refine z_V ?_;rw[ho];refine Dv (AV (A:=[]) hR1 ⟨rfl,?_⟩);rw[hn];exact rfl
 | some l=>
  rw[hth] at hq;obtain⟨mb,o,hmb,hm,rfl⟩:=hq;have hsf:=h;have h:=h.le hR1;have bnd:TB l∧l.length≤192∧(l.map AF.at_).Nodup:=by
   have h1:=hth;unfold DJ at h1;split at h1;rotate_left
   ·cases h1
   unfold B7 at h1;have h2:=Ki (by have:=h.b.wl;have:=h.b.t1;omega) h1;obtain⟨h3,h4⟩:=Di h1;have:=h.b.t1;rw[TF] at h2;exact⟨h2.1,ω,Ik h3 λx hx=>(h4 x hx).2.1⟩
  obtain⟨tb,hll,nd⟩:=bnd;refine jex rfl (jex rfl ?_);refine jor [Pt b,.map (some mb)] (!Bf s l) (λK' hK'=>?_) (λe c u ho he=>?_)
  ·exact jff (jla (l:=eSt s wv tv mv thv ov pv) (by exact z_n 13) rfl (jrp (Jh h hmb hm tb nd) (hK' _ _ _ AY rfl)))
  refine z_V ?_;refine jor [Pt b,.map (some mb)] ((!Bf s l) || (decide (s.Ay < 0))) (λK' hK'=>?_) (λe c u ho he=>?_)
  ·rw[ho];refine BT (λh1=>?_) (λh1=>?_)
   ·refine jl (v:=I s.Ay) rfl (jlt (hK' _ _ _ (h1▸AY) (by rw[h1,Re])))
   ·exact hK' _ _ _ (h1▸Ao) (by rw[h1,Rm])
  refine z_V ?_;refine jor [Pt b,.map (some mb)] ((!Bf s l || decide (s.Ay < 0)) || (decide (s.Ay > 3))) (λK' hK'=>?_) (λe c u ho he=>?_)
  ·rw[ho];refine BT (λh1=>?_) (λh1=>?_)
   ·refine jl (v:=I s.Ay) rfl (jgr (hK' _ _ _ (h1▸AY) (by rw[h1,Re])))
   ·exact hK' _ _ _ (h1▸Ao) (by rw[h1,Rm])
  refine z_V ?_;refine jor [Pt b,.map (some mb)] ((!Bf s l || decide (s.Ay < 0) || decide (s.Ay > 3)) || (decide ((s.A9.length:Int) < 1))) (λK' hK'=>?_) (λe c u ho he=>?_)
  ·rw[ho];refine BT (λh1=>?_) (λh1=>?_)
   ·refine jl (v:=thv) rfl (Bh h.c.th.sl (jlt (hK' _ _ _ (h1▸AY) (by rw[h1,Re]))))
   ·exact hK' _ _ _ (h1▸Ao) (by rw[h1,Rm])
  refine z_V ?_;refine jor [Pt b,.map (some mb)] ((!Bf s l || decide (s.Ay < 0) || decide (s.Ay > 3) || decide ((s.A9.length:Int) < 1)) || (decide ((s.A9.length:Int) > 3))) (λK' hK'=>?_) (λe c u ho he=>?_)
  ·rw[ho];refine BT (λh1=>?_) (λh1=>?_)
   ·refine jl (v:=thv) rfl (Bh h.c.th.sl (jgr (hK' _ _ _ (h1▸AY) (by rw[h1,Re]))))
   ·exact hK' _ _ _ (h1▸Ao) (by rw[h1,Rm])
  refine z_V ?_;refine jor [Pt b,.map (some mb)] ((!Bf s l || decide (s.Ay < 0) || decide (s.Ay > 3) || decide ((s.A9.length:Int) < 1) || decide ((s.A9.length:Int) > 3)) || (decide ((s.AN.length:Int) > 8))) (λK' hK'=>?_) (λe c u ho he=>?_)
  ·rw[ho];refine BT (λh1=>?_) (λh1=>?_)
   ·refine jl (v:=pv) rfl (Bh h.c.p.sl (jgr (hK' _ _ _ (h1▸AY) (by rw[h1,Re]))))
   ·exact hK' _ _ _ (h1▸Ao) (by rw[h1,Rm])
  refine z_V ?_;rw[ho];have hno:Cw s l = false→∀{D:Chs},[Sf D F]→J R1 D (Fr R F (λr R' A=>A = []∧OU (CD s) s wv tv mv thv ov pv r R') (.pointer none)):=λhh D _=>AV (A:=[]) hR1 ⟨rfl,by rw[Kf hth hh];exact rfl⟩
  refine jif (λh0=>?_) (λh0=>?_)
  ·refine hno ?_;rw[T9];intro hh;unfold Cw at hh;simp only[z_b,z_d] at hh;obtain⟨⟨⟨⟨⟨⟨⟨g1,g2⟩,g3⟩,g4⟩,g5⟩,g6⟩,g7⟩,g8⟩:=hh;rw[g1] at h0;simp only[Bool.not_true,Re,SB,z_d] at h0;omega
  simp only[SV,Sl,decide_eq_false_iff_not] at h0;obtain⟨⟨⟨⟨⟨g1,g2⟩,g3⟩,g4⟩,g5⟩,g6⟩:=h0;have S:=Nb hth g1;have n1:=h.b.n1;clear ho he;refine Aw (λvs R' D'=>R' = R1∧s.A9.all IL = true∧D' = (b,C AO (eSt s wv tv mv thv ov pv)) :: F∧vs = [Pt b,.map (some mb)]) (λK hK=>?_) ?_
  ·refine jl (v:=thv) rfl (Bh h.c.th.sl ?_);refine Aw (λvs R' D'=>R' = R1∧s.A9.all IL = true∧D' = (b,C AO (eSt s wv tv mv thv ov pv)) :: F∧vs = [Pt b,.map (some mb)]) (λK2 hK2=>?_) ?_;rotate_left
   ·rintro e R2 D2 ⟨hR,ht,hD,he⟩;subst hR;refine z_W ?_;clear hD;exact hK _ _ _ ⟨rfl,ht,rfl,rfl⟩
   refine jlp (λm vs R' D'=>R' = R1∧∃(i:Nat),i≤s.A9.length∧m = s.A9.length - i∧(s.A9.take i).all IL = true∧D' = (b,C AO (eSt s wv tv mv thv ov pv)) :: F∧vs = [Pt b,.map (some mb),thv,I s.A9.length,I i]) (n:=s.A9.length) ⟨rfl,0,ω,rfl,rfl,rfl,rfl⟩ ?_;rintro m e R2 D2 K3 ⟨hR,i,hi,hmm,hta,hD,he⟩ hK3;subst hR;refine z_W ?_;clear hD;refine jlt (jif (λhc=>?_) (λhc=>?_));rotate_left
   ·have hc:=z_g hc;rw[RX ω] at hta;exact hK2 _ _ _ ⟨rfl,hta,rfl,rfl⟩
   have hc:i < s.A9.length:=by have:=z_f hc;omega
   refine jtr h.c.th hc λb2 o2 ty cs rv hrv hb2 ho2 hrow=>?_
   refine Ce (l:=[rv,I (s.A9[i]).next,.bool (s.A9[i]).busy,I (s.A9[i]).BL]) hb2 ho2 hrow (ja λb3=>?_);obtain⟨ra,rc,rfl⟩:=hrv.sl;refine jS ([.slice ra (s.A9[i]).AD.length rc,I (s.A9[i]).next,.bool (s.A9[i]).busy,I (s.A9[i]).BL]) ?_;refine jor [Pt b,.map (some mb),Pt b3,thv,I s.A9.length,I (i:Int)] ((decide (((s.A9[i]).AD.length:Int) > 8)) || (decide ((s.A9[i]).BL < 0))) (λK' hK'=>?_) (λe c u ho he=>?_)
   ·refine jl (v:=.slice ra (s.A9[i]).AD.length rc) rfl (jln (jgr (BT (λh1=>?_) (λh1=>?_))))
    ·refine jl (v:=I (s.A9[i]).BL) rfl (jlt (hK' _ _ _ (h1▸AY) (by rw[h1,Re])))
    ·exact hK' _ _ _ (h1▸Ao) (by rw[h1,Rm])
   refine z_V ?_;refine jor [Pt b,.map (some mb),thv,I s.A9.length,I (i:Int)] ((decide (((s.A9[i]).AD.length:Int) > 8) || decide ((s.A9[i]).BL < 0)) || (decide ((s.A9[i]).BL > 2))) (λK' hK'=>?_) (λe c u ho he=>?_)
   ·rw[ho];refine BT (λh1=>?_) (λh1=>?_)
    ·refine jl (v:=I (s.A9[i]).BL) rfl (jgr (hK' _ _ _ (h1▸AY) (by rw[h1,Re])))
    ·exact hK' _ _ _ (h1▸Ao) (by rw[h1,Rm])
   refine z_V ?_;rw[ho];have hthr:(decide (((s.A9[i]).AD.length:Int) > 8) || decide ((s.A9[i]).BL < 0) || decide ((s.A9[i]).BL > 2)) = !IL s.A9[i]:=by
    unfold IL;rw[Sa];simp only[SB,Rt,Bool.and_eq_false_iff,z_d,decide_eq_false_iff_not];omega
   rw[hthr];refine jif (λh1=>?_) (λh1=>?_)
   ·refine hno ?_;rw[T9];intro hh;unfold Cw at hh;simp only[z_b] at hh;have:=Rs.1 hh.1.2 _ (RZ hc);rw[this] at h1;cases h1
   ·refine jad (BH ?_);refine hK3 (s.A9.length - (i + 1)) _ _ _ ω ⟨rfl,i + 1,ω,rfl,?_,rfl,rfl⟩;rw[RW hc,List.all_append,hta];simpa using h1
  rintro e R2 D2 ⟨hR,hta,hD,he⟩;subst hR;refine z_W ?_;clear hD;refine Aw (λvs R' D'=>R' = R2∧s.AN.all (Eg s l) = true∧D' = (b,C AO (eSt s wv tv mv thv ov pv)) :: F∧vs = [Pt b,.map (some mb)]) (λK hK=>?_) ?_
  ·refine jl (v:=pv) rfl (Bh h.c.p.sl ?_);refine Aw (λvs R' D'=>R' = R2∧s.AN.all (Eg s l) = true∧D' = (b,C AO (eSt s wv tv mv thv ov pv)) :: F∧vs = [Pt b,.map (some mb)]) (λK2 hK2=>?_) ?_;rotate_left
   ·rintro e R3 D3 ⟨hR,ht,hD,he⟩;subst hR;refine z_W ?_;clear hD;exact hK _ _ _ ⟨rfl,ht,rfl,rfl⟩
   refine jlp (λm vs R' D'=>R' = R2∧∃(i:Nat),i≤s.AN.length∧m = s.AN.length - i∧(s.AN.take i).all (Eg s l) = true∧D' = (b,C AO (eSt s wv tv mv thv ov pv)) :: F∧vs = [Pt b,.map (some mb),pv,I s.AN.length,I i]) (n:=s.AN.length) ⟨rfl,0,ω,rfl,rfl,rfl,rfl⟩ ?_;rintro m e R3 D3 K3 ⟨hR,i,hi,hmm,hpa,hD,he⟩ hK3;subst hR;refine z_W ?_;clear hD;refine jlt (jif (λhc=>?_) (λhc=>?_));rotate_left
   ·have hc:=z_g hc;rw[RX ω] at hpa;exact hK2 _ _ _ ⟨rfl,hpa,rfl,rfl⟩
   have hc:i < s.AN.length:=by have:=z_f hc;omega
   have hpv:=h.b.pv _ (RZ hc);refine ER h.c.p ω ω ?_;simp only[RV];refine Pc (Li.fz hmb) hm λn nb rv nv hnb hfn hrv hnv=>?_
   obtain⟨ra,rc,rfl⟩:=hrv.sl;obtain⟨na,nc,rfl⟩:=hnv.sl;refine jex rfl (jex rfl (ja λb3=>?_));refine jS (eTh n (.slice ra n.refs.length rc) (.slice na n.nums.length nc)) ?_;refine jor [Pt b,.map (some mb),I (s.AN[i]),pv,I s.AN.length,I (i:Int)] ((!nb) || (n.moved != s.AN[i])) (λK' hK'=>?_) (λe c u ho he=>?_)
   ·refine BT (λh1=>?_) (λh1=>?_)
    ·refine jl (v:=I n.moved) rfl (jne (hK' _ _ _ (h1▸AY) (by rw[h1,Re])))
    ·exact hK' _ _ _ (h1▸Ao) (by rw[h1,Rm])
   refine z_V ?_;refine jor [Pt b,.map (some mb),pv,I s.AN.length,I (i:Int)] ((!nb || (n.moved != s.AN[i])) || (D6 s s.AN[i])) (λK' hK'=>?_) (λe c u ho he=>?_)
   ·rw[ho];refine BT (λh1=>?_) (λh1=>?_)
    ·refine jla (l:=eSt s wv tv mv thv ov pv) (by exact z_n 13) rfl (jrp (HZ h hpv.1 ω) (hK' _ _ _ (h1▸AY) (by rw[h1,Re])))
    ·exact hK' _ _ _ (h1▸Ao) (by rw[h1,Rm])
   refine z_V ?_;rw[ho];have hpo:(!nb || (n.moved != s.AN[i]) || D6 s s.AN[i]) = !Eg s l s.AN[i]:=by
    unfold Eg;cases nb with
    | false=>
     have:Al l s.AN[i] = none:=by
      cases h:Al l s.AN[i] with
      | none=>rfl
      | some x=>rw[h] at hnb;cases hnb
     rw[this];rfl
    | true=>
     rw[hfn rfl];dsimp only;unfold bne;cases n.moved == s.AN[i]<;>cases D6 s s.AN[i]<;>rfl
   rw[hpo];refine jif (λh1=>?_) (λh1=>?_)
   ·refine hno ?_;rw[T9];intro hh;unfold Cw at hh;simp only[z_b] at hh;have:=Rs.1 hh.2 _ (RZ hc);rw[this] at h1;cases h1
   ·refine jad (BH ?_);refine hK3 (s.AN.length - (i + 1)) _ _ _ ω ⟨rfl,i + 1,ω,rfl,?_,rfl,rfl⟩;rw[RW hc,List.all_append,hpa];simpa using h1
  rintro e R3 D3 ⟨hR,hpa,hD,he⟩;subst hR;refine z_W ?_;clear hD;have hhead:Cw s l = true:=by
   unfold Cw;simp only[z_b,z_d];exact⟨⟨⟨⟨⟨⟨⟨g1,ω⟩,ω⟩,ω⟩,ω⟩,ω⟩,hta⟩,hpa⟩
  have hho:CD s = (D5 s l).map λm=>(l,m):=by unfold CD;rw[hth];dsimp only;rw[if_pos hhead]
  rw[hho];refine jla (l:=eSt s wv tv mv thv ov pv) (by exact z_n 13) rfl ?_;refine jbd (cs:=eHp s wv tv mv thv ov pv mb (SN)) rfl rfl (ja λhb=>?_);rw[show cl (.agg (eHp s wv tv mv thv ov pv mb (SN)).toArray) = eHp s wv tv mv thv ov pv mb (SN) from rfl];refine jc (A:=[(hb,C 99 (eHp s wv tv mv thv ov pv mb (SN)))]) (Lz h hmb hm S ω tb hpa) ?_;intro r R4 A4 hR4 hq;cases hre:D5 s l with
  | none=>
   rw[hre] at hq;obtain⟨rfl,rfl⟩:=hq;exact Dv (AV (A:=[]) (hR1.trans hR4) ⟨rfl,rfl⟩)
  | some met=>
   rw[hre] at hq;obtain⟨rfl,v2,A2,hs2,rfl⟩:=hq;refine C9 ?_;refine Ab A2 (G:=[(hb,C 99 (eHp s wv tv mv thv ov pv mb v2))] ++ (b,C AO (eSt s wv tv mv thv ov pv)) :: F) ?_;refine EE hs2 λR5 hR5 hi5=>?_
   refine AJ (b:=hb) λR6 hR6 hb6=>?_
   exact AV (A:=[]) (hR1.trans (hR4.trans (hR5.trans hR6))) ⟨rfl,hb,mb,v2,rfl,o,hb6,hR6 _ _ (hR5 _ _ (hR4 _ _ hmb)),hm.le (hR4.trans (hR5.trans hR6)),hi5.le hR6⟩
end st
end Go.Lf
end
section
namespace Go.Proofs
def Tryz.lays189_ren:Go.Shelf.Ren:=⟨λ | 189=>112 | 125=>150 | 257=>149 | 128=>181 | 129=>182 | 294=>173 | 295=>174 | 296=>175 | 297=>176 | 298=>177 | 299=>178 | 216=>113 | 300=>179 | 301=>180 | 328=>211 | 329=>212 | 330=>213 | 331=>214 | 332=>215 | 215=>151 | 343=>260 | n=>n,λ | 28=>23 | 3=>3 | 46=>130 | 0=>0 | 51=>188 | 53=>191 | 4=>4 | 183=>196 | 182=>195 | 131=>96 | 5=>5 | 9=>9 | 218=>217 | 222=>208 | 228=>236 | 229=>56 | n=>n,λ | n=>n⟩
theorem Tryz.lays189:Go.Proofs.Lays.n189 Tryz.prog Tryz.lays189_ren:={
 mixed:=by kernel_rfl
 f125:=Tryz.func150.trans (congrArg some (by kernel_rfl))
 f128:=Tryz.func181.trans (congrArg some (by kernel_rfl))
 f129:=Tryz.func182.trans (congrArg some (by kernel_rfl))
 f189:=Tryz.func112.trans (congrArg some (by kernel_rfl))
 f215:=Tryz.func151.trans (congrArg some (by kernel_rfl))
 f216:=Tryz.func113.trans (congrArg some (by kernel_rfl))
 f257:=Tryz.func149.trans (congrArg some (by kernel_rfl))
 f294:=Tryz.func173.trans (congrArg some (by kernel_rfl))
 f295:=Tryz.func174.trans (congrArg some (by kernel_rfl))
 f296:=Tryz.func175.trans (congrArg some (by kernel_rfl))
 f297:=Tryz.func176.trans (congrArg some (by kernel_rfl))
 f298:=Tryz.func177.trans (congrArg some (by kernel_rfl))
 f299:=Tryz.func178.trans (congrArg some (by kernel_rfl))
 f300:=Tryz.func179.trans (congrArg some (by kernel_rfl))
 f301:=Tryz.func180.trans (congrArg some (by kernel_rfl))
 f328:=Tryz.func211.trans (congrArg some (by kernel_rfl))
 f329:=Tryz.func212.trans (congrArg some (by kernel_rfl))
 f330:=Tryz.func213.trans (congrArg some (by kernel_rfl))
 f331:=Tryz.func214.trans (congrArg some (by kernel_rfl))
 f332:=Tryz.func215.trans (congrArg some (by kernel_rfl))
 f343:=Tryz.func260.trans (congrArg some (by kernel_rfl))
 t0:=Tryz.underlying0
 a0:=Tryz.isAgg0
 z0:=Tryz.sizeOf0
 v0:=Tryz.zeroValue0
 t3:=Tryz.underlying3
 a3:=Tryz.isAgg3
 z3:=Tryz.sizeOf3
 v3:=Tryz.zeroValue3
 t4:=Tryz.underlying4
 a4:=Tryz.isAgg4
 z4:=Tryz.sizeOf4
 v4:=Tryz.zeroValue4
 t5:=Tryz.underlying5
 a5:=Tryz.isAgg5
 z5:=Tryz.sizeOf5
 v5:=Tryz.zeroValue5
 t9:=Tryz.underlying9
 a9:=Tryz.isAgg9
 z9:=Tryz.sizeOf9
 v9:=Tryz.zeroValue9
 t28:=Tryz.underlying23
 a28:=Tryz.isAgg23
 z28:=Tryz.sizeOf23
 v28:=Tryz.zeroValue23
 t46:=Tryz.underlying130
 a46:=Tryz.isAgg130
 z46:=Tryz.sizeOf130
 v46:=Tryz.zeroValue130
 t51:=Tryz.underlying188
 a51:=Tryz.isAgg188
 z51:=Tryz.sizeOf188
 v51:=Tryz.zeroValue188
 t53:=Tryz.underlying191
 a53:=Tryz.isAgg191
 z53:=Tryz.sizeOf191
 v53:=Tryz.zeroValue191
 t131:=Tryz.underlying96
 a131:=Tryz.isAgg96
 z131:=Tryz.sizeOf96
 v131:=Tryz.zeroValue96
 t182:=Tryz.underlying195
 a182:=Tryz.isAgg195
 z182:=Tryz.sizeOf195
 v182:=Tryz.zeroValue195
 t183:=Tryz.underlying196
 a183:=Tryz.isAgg196
 z183:=Tryz.sizeOf196
 v183:=Tryz.zeroValue196
 t218:=Tryz.underlying217
 a218:=Tryz.isAgg217
 z218:=Tryz.sizeOf217
 v218:=Tryz.zeroValue217
 t222:=Tryz.underlying208
 a222:=Tryz.isAgg208
 z222:=Tryz.sizeOf208
 v222:=Tryz.zeroValue208
 t228:=Tryz.underlying236
 a228:=Tryz.isAgg236
 z228:=Tryz.sizeOf236
 v228:=Tryz.zeroValue236
 t229:=Tryz.underlying56
 a229:=Tryz.isAgg56
 z229:=Tryz.sizeOf56
 v229:=Tryz.zeroValue56 }
end Go.Proofs
namespace Go.Lf
open Go Sm Go.Sort
theorem St.grow {h:Bb} {R:RM} {D:Chs} (hs:St h R D) (os:Array Obj):St (h ++ os) R D:=by
 have key:∀b o,h[b]? = some o→(h ++ os)[b]? = some o:=λb o hb=>by
  have:=(Sb.1 hb).1;rw[Array.getElem?_append_left this];exact hb
 exact⟨λb o hb=>key b o (hs.rd b o hb),λb o hm=>⟨key b o (hs.at_ b o hm).1,(hs.at_ b o hm).2⟩,hs.nd⟩
def GW (l:List Int):List Int:=l.mergeSort λx y=>decide (x≤y)
theorem Fe (l:List Int):(GW l).length = l.length:=(List.mergeSort_perm l _).length_eq
theorem On {R:RM} {l:List Int} {b c:Nat} {sp:List Value} (hl:l.length < 1000000) :
  Fn P DG [S0 b l.length c] R [(b,C AW (l.map I ++ sp))] (λv R' A=>R' = R∧v = U∧A = [(b,C AW ((GW l).map I ++ sp))]):=by
 intro F h hs w hw;subst hw;have hb:=(hs.at_ b (C AW (l.map I ++ sp)) σ).1;have hblk:b < w.heap.size:=(Sb.1 hb).1;have hH:Holds (Value.int .i64) w b 0 l.toArray:=λj hj=>by
  have hj' : j < l.length:=by simpa using hj
  refine⟨?_,by simp[World.frozen?,hb]⟩;rw[SY];show w.cell? ⟨b,j,none⟩ = _;rw[LH];unfold hc;rw[hb];show ((l.map I ++ sp).toArray)[j]? = _;rw[List.getElem?_toArray,Sq (by simpa using hj'),S4,RU hj'];simp[hj']
 refine (Go.Proofs.Any.slices_Sort_int Go.Proofs.Tryz.lays189 b 0 c l w hH hblk ω).mono ?_;rintro e w' ⟨rfl,n,os,rfl⟩;refine⟨_,rfl,⟨rfl,rfl⟩,R,[(b,C AW ((GW l).map I ++ sp))],RM.le.refl R,?_,rfl,rfl,rfl⟩;have hmod:(w.heap.modify b (onCells (putCells (Value.int .i64) 0 (GW l).toArray)))[b]? = some (C AW ((GW l).map I ++ sp)):=by
  rw[Si,if_pos rfl,hb];simp only[TM,onCells];congr 2;apply Array.toList_inj.1;apply List.ext_getElem?;intro k;unfold putCells;rw[SA,Array.getElem?_mapIdx,List.getElem?_toArray];by_cases hk:k < l.length
  ·have hk2:k < (GW l).length:=by rw[Fe];exact hk
   rw[Sq (by simpa using hk),Sq (by simpa using hk2),S4,S4,RU hk,RU hk2];simp[hk2]
  ·have hk2:¬ k < (GW l).length:=by rw[Fe];exact hk
   rw[TH (by simpa using hk),TH (by simpa using hk2),Ry,Ry,Fe];cases sp[k - l.length]? with
   | none=>rfl
   | some x=>simp[hk2]
 have h2:St (w.heap.modify b (onCells (putCells (Value.int .i64) 0 (GW l).toArray))) R ([(b,C AW ((GW l).map I ++ sp))] ++ F):=
  hs.turn (b:=b) (o:=C AW (l.map I ++ sp)) hmod λb' hne=>by rw[Si,if_neg (λe=>hne e.symm)]
 exact h2.grow os
theorem Mt:∀{a b:List Int},a.Pairwise (· < ·)→b.Pairwise (· < ·)→(∀x,x∈a↔x∈b)→a = b
 | [],[],_,_,_=>rfl
 | [],y :: b,_,_,h=>absurd ((h y).2 (.head _)) σ
 | x :: a,[],_,_,h=>absurd ((h x).1 (.head _)) σ
 | x :: a,y :: b,ha,hb,h=>by
  rw[List.pairwise_cons] at ha hb;have h1:x = y:=by
   rcases Rf.1 ((h x).1 (.head _)) with e | e
   ·exact e
   ·rcases Rf.1 ((h y).2 (.head _)) with e2 | e2
    ·exact e2.symm
    ·have:=hb.1 x e;have:=ha.1 y e2;omega
  subst h1;rw[Mt ha.2 hb.2 λz=>?_];have hz:=h z;simp only[Rf] at hz;constructor
  ·intro hm;rcases hz.1 (.inr hm) with e | e
   ·subst e;have:=ha.1 z hm;omega
   ·exact e
  ·intro hm;rcases hz.2 (.inr hm) with e | e
   ·subst e;have:=hb.1 z hm;omega
   ·exact e
theorem Nk {l:List Int} (h:l.Nodup):GW l = AR l:=by
 obtain⟨h1,h2⟩:=DA h;refine Mt ?_ h1 λx=>?_
 ·have p:=List.mergeSort_perm l (λx y=>decide (x≤y));have s:(GW l).Pairwise λx y=>decide (x≤y) = true:=List.pairwise_mergeSort (λa b c h1 h2=>by simp at *;omega) (λa b=>by simp;omega) l
  have nd:(GW l).Nodup:=p.nodup_iff.2 h;exact (s.and nd).imp λ⟨a,b⟩=>by have:=z_f a;omega
 ·rw[h2];exact (List.mergeSort_perm l _).mem_iff
end Go.Lf
end
