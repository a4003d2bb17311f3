/- A part of the proof of the given row. Conditions: none. -/
import Derived.Shelf.Sort.Plain
import Derived.Shelf.Lay
import Derived.Test.YthfhnheigfoioaaGreatGI
set_option linter.unusedVariables false
set_option linter.unusedSimpArgs false
set_option maxRecDepth 100000
section
namespace Go.Lf
open Go Sm
theorem Iy {R:RM} {D:Chs} {y A:Value} {la lb:List Int} (x:Ay R y la) (hb:Ay R A lb) (h1:la.length < 1000000) (h2:lb.length < 1000000):Ro Mo [y,A] (.bool (la == lb)) R D:=by
 refine Tb λF=>?_
 refine z_2 ?_;refine Bf x.sl (Bf hb.sl (jne (jif (λh=>?_) (λh=>?_))))
 .have h:(la.length:Int)≠lb.length:=by simpa using h
  refine BB ?_;congr 1;rw[eq_comm,beq_eq_false_iff_ne];intro e;rw[e] at h;exact h rfl
 have hl:la.length = lb.length:=by
  have:((la.length:Int) != lb.length) = false:=h;rw[bne_eq_false_iff_eq] at this;omega
 refine jlp (λm Q H G=>H = R/\G = D ++ F/\∃i:Nat,i<=la.length/\Q = [y,A,I i]/\la.take i = lb.take i/\m = la.length - i) (n:=la.length) ⟨rfl,rfl,0,Z,rfl,V,Z⟩ ?_;rintro m e W T K ⟨O,hD,i,hi,he,j,hm⟩ N;subst O;refine z_W ?_;refine Bf x.sl (jlt (jif (λhc=>?_) (λhc=>?_)));rotate_left
 .have hc:=z_g hc;refine BB ?_;rw[dO Z,dO Z] at j;rw[j];simp
 have hc:i < la.length:=by have:=z_f hc;omega
 refine Bk x Z Z (Bk hb Z Z (jne ?_));simp only[dG];refine jif (λhd=>?_) (λhd=>?_)
 .have hd:la[i]≠lb[i]:=by simpa using hd
  refine BB ?_;congr 1;rw[eq_comm,beq_eq_false_iff_ne];intro e;subst e;exact hd rfl
 .have hd:la[i] = lb[i]:=by simpa using hd
  refine jad (N (la.length - (i + 1)) _ _ _ Z ⟨rfl,rfl,i + 1,Z,rfl,?_,rfl⟩);rw[dJ hc,dJ (by omega:i < lb.length),j,hd]
theorem YY:(P.fieldsOf 68).toList.map (λf=>(f.name != "_",f.type,f.offset)) = [(true,Ab,0),(true,Ab,1)]:=by kernel_rfl
def Cod (R:RM) (v:Value):Prop:=∃n,Bsl R v n
theorem cJ {a b:Shp} {x y:Operand} {R:RM} {D:Chs} {k:Value->M} (H:J R D (k (.bool (!(a == b))))):J R D (X P (do eqGuard .neq 68 x y (.agg #[I a.refs,I a.nums]) (.agg #[I b.refs,I b.nums]);binOp .neq 68 (.agg #[I a.refs,I a.nums]) (.agg #[I b.refs,I b.nums])) k):=by
 intro h A w G;have j:=YY;rw[dq,run_eqGuard_agg _ _ _ _ _ _ _ (by kernel_rfl)];simp only[dY];rw[run_neq_struct,run_equalIn_struct w 9999 68 _ _ (by kernel_rfl) (by kernel_rfl),Ql 9998 w [I a.refs,I a.nums] [I b.refs,I b.nums] _ [0,1] [a.refs,a.nums] [b.refs,b.nums] j rfl rfl];simp only[dY];have:([a.refs,a.nums] == [b.refs,b.nums]) = (a == b):=by
  rw[eY];obtain⟨K,N⟩:=a;obtain⟨O,Q⟩:=b;simp
 rw[this];subst G;exact⟨BH.refl _,H _ A⟩
structure Blk (w w' : World):Prop where
 same:BH w w'
 block:∀k,k < w.heap.size->w'.heap[k]? = w.heap[k]?
theorem Blk.frame {W w' : World} (h:Blk W w') (j:MemPlace->Prop):W.keptBut w' j:=by
 refine⟨h.same.1,h.same.2,λi x=>?_⟩;rw[h.block i x];split<;>simp_all
theorem Blk.at_ {W w' : World} (h:Blk W w') {p:MemPlace} (j:p.block < W.heap.size):W.sameAt w' p:=by
 cases p with
 | cell b o=>exact World.cell?_of_block (w:=W) (h.block b j)
 | map b=>exact h.block b j
def Xt (w:World) (a:Option Addr) (len cap:Nat) (zs:List Int):Prop:=
 (a = none/\len = 0/\cap = 0/\zs = [])\/
 ∃x,a = some x/\len<=cap/\zs.length = cap/\(∀i,i < zs.length->w.cell? (x.add i) = some (.int .u8 (zs.getD i 0)))/\∀n∈zs,(Lit.int .u8 n).wf = true
theorem ax {w:World} {a:Option Addr} {len y:Nat} {zs:List Int} (h:Xt w a len y zs):Cod (λb=>w.heap[b]?) (.slice a len y):=by
 rcases h with ⟨rfl,rfl,rfl,rfl⟩ | ⟨x,rfl,hl,hz,j,K⟩
 .exact⟨0,none,0,rfl,z_n _,.inl rfl⟩
 .by_cases h0:len = 0
  .exact⟨len,some x,y,rfl,hl,.inl h0⟩
  .obtain⟨b,D,H⟩:=x;have hc:=j 0 Z;have A:H = none:=by simpa [Addr.add] using World.cell?_spot hc
   subst A;refine⟨len,_,y,rfl,hl,.inr ⟨b,D,rfl,λi W=>?_⟩⟩;have G : i < zs.length:=Z
   have hc:=j i G;have T:=K (zs.getD i 0) (by simp[List.getD,G]);rw[show (⟨b,D,none⟩:Addr).add i = ⟨b,D + i,none⟩ by simp[Addr.add],Uh] at hc;unfold Go.Lf.hc at hc;split at hc
   .rename_i N t fz hb;refine⟨t,N,fz,_,hb,hc,?_⟩;have R:∀n:Int,(Lit.int .u8 n).wf = true->0<=n/\n < 256:=λn Q=>by
     have O:(decide (0<=n) && decide (n<=255)) = true:=Q;simp only[z_b,z_d] at O;omega
    exact R _ T
   .cases hc
theorem XQ {f:Nat} (Q:∀(R:RM) (v:Value),Cod R v->Fn P f [v] R [] (λx _ A=>x = .bool true/\A = [])) {w:World} {a:Option Addr} {len j:Nat} {zs:List Int} (h:Xt w a len j zs) :
  Calls P f #[.slice a len j] w λe D=>e = .returned (.bool true)/\Blk w D:=by
 have G:=Q _ _ (ax h) [] w.heap ⟨λb o hb=>hb,(λb o N=>by cases N),List.nodup_nil⟩ w rfl;refine G.mono ?_;rintro e D ⟨v,rfl,O,W,T,H,K,rfl,h4⟩;refine⟨rfl,O,λk y=>?_⟩;have:=K.rd k _ (H k _ (gL y));rw[this,gL y]
theorem U4:P.underlying 160 = some (.map 3 4):=by kernel_rfl
theorem FH:P.underlying 3 = some (.int .i64):=by kernel_rfl
theorem dD (w:World):(zeroValue 4).run P w = .ok (.bool false) w:=by kernel_rfl
def MpI (o:Obj) (q:Int->Prop):Prop:=∃es clock,o = .map es clock/\(∀e∈es.toList,∃x,e.key = I x/\q x/\e.val = .bool true)/\∀x,q x->∃e∈es.toList,e.key = I x
section rules
variable {R:RM} {D:Chs} {k:Value->M}
theorem jXr {s:Sem Value} (H:∀h,St h R D->∀w:World,w.heap = h->∃v j,s.run P w = .ok v j/\BH w j/\∃x,St j.heap R x/\J R x (k v)):J R D (X P s k):=by
 intro h K w N;have:=H h K w N;generalize s.run P w = r at this;obtain⟨v,j,rfl,y,x,A,G⟩:=this;exact⟨y,G _ A⟩
theorem ae (H:∀b o,MpI o (λ_=>False)->J R ((b,o) :: D) (k (.map (some b)))):J R D (X P (Instr.makeMap 160 none) k):=by
 intro h j w x;rw[show (Instr.makeMap 160 none).run P w = .ok (.map (some w.heap.size)) (w.alloc (.map #[] 0)) from rfl];subst x;exact⟨⟨rfl,rfl⟩,H _ _ ⟨#[],0,rfl,V,λ_ y=>y.elim⟩ _ j.push⟩
theorem UL {j:Array MapEntry} {q:Int->Prop} (h:∀e∈j.toList,∃x,e.key = I x/\q x/\e.val = .bool true):∀e∈j.toList,MapKept.IsKey (.int .i64) e.key:=λe he=>by
 obtain⟨x,y,_⟩:=h e he;rw[y];rfl
theorem aE {w:World} {b:Nat} {o:Obj} {q:Int->Prop} {x:Int} {t:Bool} (hb:w.heap[b]? = some o) (T:MpI o q) (ht:q x↔t = true):(Instr.lookup 160 (.map (some b)) (I x) false).run P w = .ok (.bool t) w:=by
 obtain⟨O,A,rfl,N,R⟩:=T;have H:MapKept.IsKey (.int .i64) (I x):=rfl;have run:∃c,(Instr.lookup 160 (.map (some b)) (I x) false).run P w = .ok (.bool c) w/\(c = true↔q x):=by
  rcases MapKept.findNow_spec H O.toList 0 (UL N) with ⟨D,G⟩ | ⟨j,e0,D,G,Q⟩
  .refine⟨false,?_,⟨(λh=>by cases h),λK=>?_⟩⟩
   .simp[Instr.lookup,run_underlying U4,MapKept.run_getObj_map hb,MapKept.run_checkKey FH H,MapKept.run_findKey FH D,dD,Result.andThen]
   .obtain⟨e,he,hx⟩:=R x K;exact absurd hx (G e he)
  .obtain⟨y,hy,K,hv⟩:=N e0 (List.mem_of_getElem? G);have:y = x:=by
    have:=hy.symm.trans Q;exact (Value.int.inj this).2
   subst this;refine⟨true,?_,⟨λ_=>K,λ_=>rfl⟩⟩;simp[Instr.lookup,run_underlying U4,MapKept.run_getObj_map hb,MapKept.run_checkKey FH H,MapKept.run_findKey FH D,hv,Result.andThen]
 obtain⟨c,W,hc⟩:=run;have:c = t:=by
  have:=hc.trans ht;cases c<;>cases t<;>simp_all
 subst this;exact W
theorem jlk {b:Nat} {o:Obj} {q:Int->Prop} {x:Int} {t:Bool} [a:At D b o] (A:MpI o q) (G:q x↔t = true) (H:J R D (k (.bool t))):J R D (X P (Instr.lookup 160 (.map (some b)) (I x) false) k):=
 @jXr R D k _ λh j w y=>⟨_,_,aE (by rw[y];exact (j.at_ b _ a.m).1) A G,BH.refl _,D,by rw[y];exact j,H⟩
theorem Zu {w:World} {b:Nat} {o:Obj} {q:Int->Prop} {x:Int} (hb:w.heap[b]? = some o) (hm:MpI o q):∃o',MpI o' (λy=>q y\/y = x)/\(do Instr.mapUpdate 160 (.map (some b)) (I x) (.bool true);pure undef).run P w = .ok U (ChangeMaps.setBlock w b o')/\(∀b',b'≠b->(ChangeMaps.setBlock w b o').heap[b']? = w.heap[b']?)/\(ChangeMaps.setBlock w b o').heap[b]? = some o':=by
 obtain⟨Q,D,rfl,h1,h2⟩:=hm;have hk:MapKept.IsKey (.int .i64) (I x):=rfl;have run:∃H A,(Instr.mapUpdate 160 (.map (some b)) (I x) (.bool true)).run P w = .ok () (ChangeMaps.setBlock w b (.map H A))/\MpI (.map H A) (λy=>q y\/y = x):=by
  rcases MapKept.findNow_spec hk Q.toList 0 (UL h1) with ⟨f1,f2⟩ | ⟨j,e0,f1,f2,f3⟩
  .refine⟨Q.push ⟨I x,.bool true,D⟩,D + 1,?_,_,_,rfl,?_,?_⟩
   .simp[Instr.mapUpdate,run_underlying U4,MapKept.run_getObj_map hb,MapKept.run_checkKey FH hk,MapKept.run_findKey FH f1,MapKept.run_setObj_map _ hb,Result.andThen,ChangeMaps.setBlock]
   .intro e he;simp only[Array.toList_push,dg,dZ] at he;rcases he with he | rfl
    .obtain⟨y,N,a2,a3⟩:=h1 e he;exact⟨y,N,.inl a2,a3⟩
    .exact⟨x,rfl,.inr rfl,rfl⟩
   .rintro y (O | rfl)
    .obtain⟨e,he,N⟩:=h2 y O;exact⟨e,by simp only[Array.toList_push,dg];exact .inl he,N⟩
    .exact⟨⟨I y,.bool true,D⟩,V,rfl⟩
  .have R:Q[j]? = some e0:=by rw[<- fE];exact f2
   have a4:j < Q.size:=(fX.1 R).1;obtain⟨x0,W,a0,a5⟩:=h1 e0 (List.mem_of_getElem? f2);have hx:x0 = x:=(Value.int.inj (W.symm.trans f3)).2;subst hx;refine⟨Q.modify j (λe=>{ e with key:=I x0,val:=.bool true }),D,?_,_,_,rfl,?_,?_⟩
   .simp[Instr.mapUpdate,run_underlying U4,MapKept.run_getObj_map hb,MapKept.run_checkKey FH hk,MapKept.run_findKey FH f1,R,f3,MapKept.run_keyThatStays hk,MapKept.run_setObj_map _ hb,Result.andThen,ChangeMaps.setBlock]
   .intro e he;obtain⟨i,G⟩:=List.mem_iff_getElem?.1 he;rw[fE,fo] at G;split at G
    .rename_i K;subst K;rw[R] at G;cases G;exact⟨x0,rfl,.inr rfl,rfl⟩
    .obtain⟨y,N,a2,a3⟩:=h1 e (by rw[<- fE] at G;exact List.mem_of_getElem? G);exact⟨y,N,.inl a2,a3⟩
   .intro y O;have O:q y:=by rcases O with O | rfl;exact O;exact a0
    obtain⟨e,he,N⟩:=h2 y O;obtain⟨i,G⟩:=List.mem_iff_getElem?.1 he;rw[fE] at G;by_cases K:j = i
    .subst K;rw[R] at G;cases G;exact⟨{ e0 with key:=I x0,val:=.bool true },List.mem_of_getElem? (by rw[fE,fo,if_pos rfl,R];rfl),by show I x0 = I y;rw[<- W];exact N⟩
    .exact⟨e,List.mem_of_getElem? (by rw[fE,fo,if_neg K];exact G),N⟩
 obtain⟨H,A,hr,hq⟩:=run;have T:=MapKept.heap_set (o':=.map H A) hb;exact⟨_,hq,by rw[dq,hr];rfl,T.2,T.1⟩
theorem jmu {b:Nat} {o:Obj} {E:Chs} {q:Int->Prop} {x:Int} [t:Tk D b o E] (K:MpI o q) (H:∀j,MpI j (λy=>q y\/y = x)->J R ((b,j) :: E) (k U)):J R D (X P (do Instr.mapUpdate 160 (.map (some b)) (I x) (.bool true);pure undef) k):=
 @jXr R D k _ λh A w G=>(Zu (by rw[G];exact ((A.perm t.p).at_ b _ (.head _)).1) K).elim λj h=>⟨U,_,h.2.1,⟨rfl,rfl⟩,_,(A.perm t.p).turn h.2.2.2 (by rw[<- G];exact h.2.2.1),H _ h.1⟩
end rules
def lk (l:List (Int × Value)) (x:Int):Option Value:=(l.find? λp=>p.1 == x).map Prod.snd
def up (l:List (Int × Value)) (x:Int) (v:Value):List (Int × Value):=if (lk l x).isSome then l.map λp=>if p.1 = x then (x,v) else p else l ++ [(x,v)]
def pr (e:MapEntry):Value × Value:=(e.key,e.val)
def pk (p:Int × Value):Value × Value:=(I p.1,p.2)
def Mg (o:Obj) (l:List (Int × Value)):Prop:=∃es clock,o = .map es clock/\MapKept.Stamped es clock/\es.toList.map pr = l.map pk
theorem U1 {y:List MapEntry} {l:List (Int × Value)} (h:y.map pr = l.map pk) {j:Nat} {e:MapEntry} (he:y[j]? = some e):∃p,l[j]? = some p/\e.key = I p.1/\e.val = p.2:=by
 have x:(y.map pr)[j]? = some (pr e):=by rw[eH,he];rfl
 rw[h,eH] at x;cases hl:l[j]? with
 | none=>rw[hl] at x;cases x
 | some p=>
  rw[hl] at x;have x:pk p = pr e:=ei x;exact⟨p,rfl,(congrArg Prod.fst x).symm,(congrArg Prod.snd x).symm⟩
theorem ah {x:List MapEntry} {l:List (Int × Value)} (h:x.map pr = l.map pk) {e:MapEntry} (he:e∈x):∃p,p∈l/\e.key = I p.1/\e.val = p.2:=by
 obtain⟨j,D⟩:=List.mem_iff_getElem?.1 he;obtain⟨p,y,A⟩:=U1 h D;exact⟨p,List.mem_of_getElem? y,A⟩
theorem Ua {j:List MapEntry} {l:List (Int × Value)} (h:j.map pr = l.map pk) {p:Int × Value} (A:p∈l):∃e,e∈j/\e.key = I p.1/\e.val = p.2:=by
 have:pk p∈j.map pr:=by rw[h];exact fI A
 obtain⟨e,y,x⟩:=dc.1 this;exact⟨e,y,congrArg Prod.fst x,congrArg Prod.snd x⟩
theorem UE {j:Array MapEntry} {l:List (Int × Value)} (h:j.toList.map pr = l.map pk):∀e∈j.toList,MapKept.IsKey (.int .i64) e.key:=λe he=>by
 obtain⟨p,_,x,_⟩:=ah h he;rw[x];rfl
theorem W8 {x:Array MapEntry} {j:Nat} {l:List (Int × Value)} (G:MapKept.Stamped x j) (h:x.toList.map pr = l.map pk):(l.map Prod.fst).Nodup:=by
 have A:=((MapKept.stamped_iff _ _).1 G).2.2;have y:(x.toList.map (·.key)).Nodup:=gZ.2 A;have D:x.toList.map (·.key) = (l.map Prod.fst).map I:=by
  have:=congrArg (List.map Prod.fst) h;simpa [fq,Function.comp_def,pr,pk] using this
 rw[D] at y;exact (gZ.1 y).imp λh e=>h (by rw[e])
theorem Mg.nd {o:Obj} {l:List (Int × Value)} (h:Mg o l):(l.map Prod.fst).Nodup:=by
 obtain⟨y,j,_,x,h⟩:=h;exact W8 x h
theorem PV {l:List (Int × Value)} {x:Int}:lk l x = none↔∀p∈l,p.1≠x:=by
 unfold lk;rw[Option.map_eq_none_iff,List.find?_eq_none];simp
theorem Oy:∀{l:List (Int × Value)},(l.map Prod.fst).Nodup->∀{p:Int × Value},p∈l->lk l p.1 = some p.2
 | a :: l,hn,p,j=>by
  rw[eN,fJ] at hn;unfold lk;rcases dX.1 j with rfl | j
  .rw[gR V];rfl
  .have:a.1≠p.1:=λe=>hn.1 (e▸fI j)
   rw[gH (by simpa using this)];exact Oy hn.2 j
def Li (R:RM) (D:Chs) (b:Nat) (o:Obj):Prop:=∀h,St h R D->h[b]? = some o
theorem Li.fz {R:RM} {D:Chs} {b:Nat} {o:Obj} (h:R b = some o):Li R D b o:=λ_ j=>j.rd _ _ h
theorem Li.at {R:RM} {D:Chs} {b:Nat} {o:Obj} [a:At D b o]:Li R D b o:=λ_ j=>(j.at_ _ _ a.m).1
section rules
variable {R:RM} {D:Chs} {k:Value->M}
theorem WU {t:Nat} (x:∀w,(Instr.makeMap t none).run P w = .ok (.map (some w.heap.size)) (w.alloc (.map #[] 0))) (H:∀b o,Mg o []->J R ((b,o) :: D) (k (.map (some b)))):J R D (X P (Instr.makeMap t none) k):=by
 intro h j w y;rw[x];subst y;exact⟨⟨rfl,rfl⟩,H _ _ ⟨#[],0,rfl,MapKept.stamped_empty 0,rfl⟩ _ j.push⟩
theorem YT {w:World} {t e b:Nat} {o:Obj} {l:List (Int × Value)} {x:Int} {z:Value} (c:Bool) (N:P.underlying t = some (.map 3 e)) (hz:∀w,(zeroValue e).run P w = .ok z w) (hb:w.heap[b]? = some o) (W:Mg o l) :
  (Instr.lookup t (.map (some b)) (I x) c).run P w = .ok (if c then .tuple #[(lk l x).getD z,.bool (lk l x).isSome] else (lk l x).getD z) w:=by
 obtain⟨Q,y,rfl,hs,hl⟩:=W;have K:MapKept.IsKey (.int .i64) (I x):=rfl;rcases MapKept.findNow_spec K Q.toList 0 (UE hl) with ⟨A,D⟩ | ⟨j,e0,A,D,R⟩
 .have:lk l x = none:=PV.2 λp hp e=>by
   obtain⟨O,G,H,_⟩:=Ua hl hp;exact D O G (by rw[H,e])
  rw[this];cases c<;>simp[Instr.lookup,run_underlying N,MapKept.run_getObj_map hb,MapKept.run_checkKey FH K,MapKept.run_findKey FH A,hz,Result.andThen]
 .obtain⟨p,G,H,T⟩:=U1 hl D;have hx:p.1 = x:=(Value.int.inj (H.symm.trans R)).2;have:lk l x = some e0.val:=by
   rw[<- hx,T];exact Oy (W8 hs hl) (List.mem_of_getElem? G)
  rw[this];cases c<;>simp[Instr.lookup,run_underlying N,MapKept.run_getObj_map hb,MapKept.run_checkKey FH K,MapKept.run_findKey FH A,Result.andThen]
theorem VM {t e b:Nat} {o:Obj} {l:List (Int × Value)} {x:Int} {z:Value} (c:Bool) (a:Li R D b o) (G:P.underlying t = some (.map 3 e)) (K:∀w,(zeroValue e).run P w = .ok z w) (A:Mg o l)
  (H:J R D (k (if c then .tuple #[(lk l x).getD z,.bool (lk l x).isSome] else (lk l x).getD z))):J R D (X P (Instr.lookup t (.map (some b)) (I x) c) k):=
 @jXr R D k _ λh j w y=>⟨_,_,YT c G K (by rw[y];exact a _ j) A,BH.refl _,D,by rw[y];exact j,H⟩
theorem ZF {w:World} {t e b:Nat} {o:Obj} {l:List (Int × Value)} {x:Int} {v:Value} (ht:P.underlying t = some (.map 3 e)) (hb:w.heap[b]? = some o) (hm:Mg o l) :
  ∃o',Mg o' (up l x v)/\(do Instr.mapUpdate t (.map (some b)) (I x) v;pure undef).run P w = .ok U (ChangeMaps.setBlock w b o')/\(∀W,W≠b->(ChangeMaps.setBlock w b o').heap[W]? = w.heap[W]?)/\(ChangeMaps.setBlock w b o').heap[b]? = some o':=by
 obtain⟨K,D,rfl,hs,hl⟩:=hm;have T:MapKept.IsKey (.int .i64) (I x):=rfl;have run:∃G A,(Instr.mapUpdate t (.map (some b)) (I x) v).run P w = .ok () (ChangeMaps.setBlock w b (.map G A))/\Mg (.map G A) (up l x v):=by
  rcases MapKept.findNow_spec T K.toList 0 (UE hl) with ⟨f1,N⟩ | ⟨j,e0,f1,N,f3⟩
  .have hn:lk l x = none:=PV.2 λp hp e=>by
    obtain⟨R,O,h2,_⟩:=Ua hl hp;exact N R O (by rw[h2,e])
   refine⟨K.push ⟨I x,v,D⟩,D + 1,?_,_,_,rfl,MapKept.stamped_push hs (λy hy=>N y hy),?_⟩
   .simp[Instr.mapUpdate,run_underlying ht,MapKept.run_getObj_map hb,MapKept.run_checkKey FH T,MapKept.run_findKey FH f1,MapKept.run_setObj_map _ hb,Result.andThen,ChangeMaps.setBlock]
   .unfold up;rw[if_neg (by rw[hn];simp),Array.toList_push,dz,dz,hl];rfl
  .have hj:K[j]? = some e0:=by rw[<- fE];exact N
   have hf:∀e,K[j]? = some e->({ e with key:=I x,val:=v }:MapEntry).key = e.key:=λe h=>by
    rw[hj] at h;cases h;exact f3.symm
   obtain⟨p,O,h2,h3⟩:=U1 hl N;have hx:p.1 = x:=(Value.int.inj (h2.symm.trans f3)).2;have nd:=W8 hs hl;have a3:(lk l x).isSome:=by rw[<- hx,Oy nd (List.mem_of_getElem? O)];rfl
   refine⟨K.modify j (λe=>{ e with key:=I x,val:=v }),D,?_,_,_,rfl,MapKept.stamped_modify hs j _ (λe _=>rfl) (λe _ h=>hf e h),?_⟩
   .simp[Instr.mapUpdate,run_underlying ht,MapKept.run_getObj_map hb,MapKept.run_checkKey FH T,MapKept.run_findKey FH f1,hj,f3,MapKept.run_keyThatStays T,MapKept.run_setObj_map _ hb,Result.andThen,ChangeMaps.setBlock]
   .unfold up;rw[if_pos a3];apply List.ext_getElem?;intro i;rw[eH,fE,fo,eH,eH];by_cases H:j = i
    .subst H;rw[if_pos rfl,hj,O];simp only[fg,if_pos hx];rfl
    .rw[if_neg H,<- fE];have R:=congrArg (λz=>z[i]?) hl;simp only[eH] at R;rw[R];cases a0:l[i]? with
     | none=>rfl
     | some q=>
      have:q.1≠x:=λe=>by
       have a1:(l.map Prod.fst)[i]? = some x:=by rw[eH,a0,<- e];rfl
       have a2:(l.map Prod.fst)[j]? = some x:=by rw[eH,O,<- hx];rfl
       have l1:=(eF.1 a1).1;exact H ((List.getElem?_inj l1 nd).1 (a1.trans a2.symm)).symm
      simp only[fg,if_neg this]
 obtain⟨G,A,hr,hq⟩:=run;have Q:=MapKept.heap_set (o':=.map G A) hb;exact⟨_,hq,by rw[dq,hr];rfl,Q.2,Q.1⟩
theorem YR {t e b:Nat} {o:Obj} {E:Chs} {l:List (Int × Value)} {x:Int} {v:Value} [tk:Tk D b o E] (K:P.underlying t = some (.map 3 e)) (G:Mg o l) (H:∀j,Mg j (up l x v)->J R ((b,j) :: E) (k U)):J R D (X P (do Instr.mapUpdate t (.map (some b)) (I x) v;pure undef) k):=
 @jXr R D k _ λh y w A=>(ZF K (by rw[A];exact ((y.perm tk.p).at_ b _ (.head _)).1) G).elim λj h=>⟨U,_,h.2.1,⟨rfl,rfl⟩,_,(y.perm tk.p).turn h.2.2.2 (by rw[<- A];exact h.2.2.1),H _ h.1⟩
def ItG (m:Nat) (o it:Obj) (rem:List (Int × Value)) (cur:Option (Int × Value)):Prop:=
 ∃es clock seen,o = .map es clock/\it = .mapIter (some m) clock seen clock/\(es.toList.filter λe=>!seen.contains e.born).map pr = rem.map pk/\
  match cur with | none=>True | some p=>∃e∈es.toList,seen.back? = some e.born/\e.key = I p.1/\e.val = p.2
theorem bB {t e b:Nat} {o:Obj} {l:List (Int × Value)} (a:Li R D b o) (O:P.underlying t = some (.map 3 e)) (N:Mg o l)
  (H:∀G K,ItG b o K l none->J R ((G,K) :: D) (k (Pt G))):J R D (X P (Instr.range t (.map (some b))) k):=by
 obtain⟨y,j,rfl,Q,hl⟩:=N;refine @jXr R D k _ λh x w A=>⟨.pointer (some ⟨w.heap.size,0,none⟩),w.alloc (.mapIter (some b) j #[] j),?_,⟨rfl,rfl⟩,_,?_,H _ _ ⟨y,j,#[],rfl,rfl,?_,trivial⟩⟩
 .have hb:w.heap[b]? = some (.map y j):=by rw[A];exact a _ x
  simp[Instr.range,run_underlying O,MapKept.run_getObj_map hb,Result.andThen]
 .subst A;exact x.push
 .rw[<- hl,List.filter_eq_self.2 V]
theorem Jj {w:World} {r:Nat} {m x j:Nat} {y:Array Nat} (hb:w.heap[r]? = some (.mapIter (some m) x y j)):(getObj r).run P w = .ok (.mapIter (some m) x y j) w:=by
 simp only[getObj,Sem.run,hb]
theorem Us {w:World} {r:Nat} {m x j:Nat} {y:Array Nat} (o:Obj) (hb:w.heap[r]? = some (.mapIter (some m) x y j)):(setObj r o).run P w = .ok () { w with heap:=w.heap.setIfInBounds r o }:=by
 simp only[setObj,Sem.run,hb]
theorem U6 {α:Type}:∀(l:List α) (i:Nat) (h:i < l.length),l.Perm (l[i] :: l.eraseIdx i)
 | a :: l,0,_=>V
 | a :: l,i + 1,h=>by
  rw[gQ,List.eraseIdx_cons_succ];exact ((U6 l i (by simpa using h)).cons a).trans (fF _ _ _)
theorem SY {α β:Type} (f:α->β):∀(l:List α) (i:Nat),(l.eraseIdx i).map f = (l.map f).eraseIdx i
 | [],i=>V
 | a :: l,0=>V
 | a :: l,i + 1=>by simp[SY f l i]
theorem aS {b ib:Nat} {o it:Obj} {E:Chs} {l A:List (Int × Value)} {a9:Option (Int × Value)} [tk:Tk D ib it E] (a:Li R D b o) (hm:Mg o l) (G:ItG b o it A a9)
  (H0:A = []->J R D (k (.tuple #[.bool false])))
  (H1:∀p a0 a7,A.Perm (p :: a0)->ItG b o a7 a0 (some p)->J R ((ib,a7) :: E) (k (.tuple #[.bool true,I p.1,p.2]))):J R D (X P (Instr.next (Pt ib) false 0) k):=by
 obtain⟨H,j,y,rfl,rfl,hr,_⟩:=G;obtain⟨b9,a8,he,hs,hl⟩:=hm;cases he;intro h O w hw;subst hw;have hb:=a _ O;have N:=((O.perm tk.p).at_ ib _ (.head _)).1;have a6:(!y.isEmpty && !H.isEmpty && H.all (λx=>decide (x.born>=j))) = false:=by
  cases b2:H.isEmpty with
  | true=>simp
  | false=>
   have b5:H≠#[]:=by simpa using b2
   have b7:0 < H.size:=Array.size_pos_iff.2 b5;have:H.all (λx=>decide (x.born>=j)) = false:=by
    rw[fU];intro Bp;have h1:=Array.all_eq_true.1 Bp 0 b7;have h2:=hs.1 H[0] V;have h1:=z_f h1;omega
   simp[this]
 have hold:∀x∈(H.filter λe=>!y.contains e.born).toList,x.born < j:=λx W=>by
  rw[Array.toList_filter] at W;exact hs.1 x (eV.1 W).1
 generalize hL:H.filter (λe=>!y.contains e.born) = L at hold;have K : L.toList = H.toList.filter λe=>!y.contains e.born:=by rw[<- hL,Array.toList_filter]
 have e1:L.filter (λx=>decide (x.born < j)) = L:=by
  apply Array.toList_inj.1;rw[Array.toList_filter,List.filter_eq_self];exact λx W=>decide_eq_true (hold x W)
 have e2:L.filter (λx=>decide (x.born>=j)) = #[]:=by
  apply Array.toList_inj.1;rw[Array.toList_filter,List.filter_eq_nil_iff.2];intro x W;have:=hold x W;simp;omega
 by_cases h0:L = #[]
 .have b6:A = []:=by
   rw[<- K,h0] at hr;exact List.map_eq_nil_iff.1 hr.symm
  have run:(Instr.next (Pt ib) false 0).run P w = .ok (.tuple #[.bool false]) w:=by
   simp only[Instr.next,dq,Jj N,Result.andThen,MapKept.run_getObj_map hb,a6,hL,e1,e2];subst h0;simp[choose,Sem.run,Question.forced]
  rw[run];exact⟨BH.refl _,H0 b6 w.heap O⟩
 .have Q:0 < L.size:=Array.size_pos_iff.2 h0;have run:∃i,∃G:i < L.size,∃d,(Instr.next (Pt ib) false 0).run P w = .ok (.tuple #[.bool true,L[i].key,L[i].val]) { w with drawn:=d,heap:=w.heap.setIfInBounds ib (.mapIter (some b) j (y.push L[i].born) j) }:=by
   have a2:L.isEmpty = false:=by simpa using h0
   have b1:∃i,i < L.size/\∃d,(choose (.mapNext L.size)).run P w = .ok i { w with drawn:=d }:=by
    by_cases hf:L.size<=1
    .exact⟨0,Q,w.drawn,by simp[choose,Sem.run,Question.forced,hf]⟩
    .exact⟨(w.tape w.drawn (.mapNext L.size)) % L.size,Nat.mod_lt _ Q,w.drawn + 1,by simp[choose,Sem.run,Question.forced,hf,Question.cut]⟩
   obtain⟨i,G,d,hc⟩:=b1;refine⟨i,G,d,?_⟩;have a3 : ({ w with drawn:=d }:World).heap[ib]? = some (.mapIter (some b) j y j):=N;simp only[Instr.next,dq,Jj N,Result.andThen,MapKept.run_getObj_map hb,a6,hL,e1,e2,a2,dv,if_false,Array.append_empty,Array.empty_append,Array.size_map,hc];have hg:(L.map some)[i]? = some (some L[i]):=by simp[G]
   simp only[hg,dq,Us _ a3,Result.andThen];rfl
  obtain⟨i,G,d,a5⟩:=run;rw[a5];have a4:L[i]∈H.toList:=by
   have:L[i]∈L.toList:=V
   rw[K] at this;exact (eV.1 this).1
  have b0:L.toList[i]? = some L[i]:=by rw[fE,gL G]
  rw[<- K] at hr;obtain⟨p,p1,p2,p3⟩:=U1 hr b0;have T:=MapKept.heap_set (o':=.mapIter (some b) j (y.push L[i].born) j) N;have b3:i < A.length:=(eF.1 p1).1;have b4:A[i] = p:=(eF.1 p1).2;have a1:A.Perm (p :: A.eraseIdx i):=by
   have:=U6 A i b3;rwa [b4] at this
  refine⟨⟨rfl,rfl⟩,?_⟩;rw[p2,p3];refine H1 p (A.eraseIdx i) _ a1 ⟨H,j,y.push L[i].born,rfl,rfl,?_,L[i],a4,V,p2,p3⟩ _ ((O.perm tk.p).turn T.1 T.2);have e3:(H.toList.filter λe=>!(y.push L[i].born).contains e.born) = L.toList.eraseIdx i:=by
   have nb:(L.toList.map (·.born)).Nodup:=by
    rw[K];exact (List.Sublist.map _ List.filter_sublist).nodup hs.2.1
   have:(H.toList.filter λe=>!(y.push L[i].born).contains e.born) = L.toList.filter λe=>!(e.born == L[i].born):=by
    rw[K,List.filter_filter];congr 1;funext e;simp only[Array.contains_push];cases (y.contains e.born)<;>cases h:(e.born == L[i].born)<;>simp_all
   rw[this];have b8:∀(M:List MapEntry) (i:Nat) (G:i < M.length),(M.map (·.born)).Nodup->(M.filter λe=>!(e.born == (M[i]).born)) = M.eraseIdx i:=by
    intro M;induction M with
    | nil=>intro i G;cases G
    | cons a M ih=>
     intro i G hn;rw[eN,fJ] at hn;cases i with
     | zero=>
      rw[List.filter_cons_of_neg V];simp only[List.getElem_cons_zero,List.eraseIdx_zero,List.tail_cons];rw[List.filter_eq_self];intro x W;have:x.born≠a.born:=λe=>hn.1 (e▸fI W)
      simpa using this
     | succ i=>
      simp only[gQ,List.eraseIdx_cons_succ];have G:i < M.length:=by simpa using G
      have:a.born≠(M[i]).born:=λe=>hn.1 (e▸fI (dL G))
      rw[List.filter_cons_of_pos (by simpa using this),ih i G hn.2]
   have:=b8 L.toList i (by simpa using G) nb;simpa using this
  rw[e3,SY,SY,hr]
theorem aC {b O:Nat} {o it:Obj} {l T:List (Int × Value)} {p:Int × Value} [ai:At D O it] (a:Li R D b o) (y:Mg o l) (hi:ItG b o it T (some p)) (H:J R D (k (.tuple #[I p.1,p.2]))):J R D (X P (Instr.entry (Pt O)) k):=by
 obtain⟨es,G,a0,rfl,rfl,hr,e,e1,e2,e3,e4⟩:=hi;obtain⟨a1,A,he,hs,hl⟩:=y;cases he;refine @jXr R D k _ λh j w W=>⟨_,w,?_,BH.refl _,D,by rw[W];exact j,H⟩
 subst W;have hb:=a _ j;have K:=(j.at_ O _ ai.m).1;have hf:es.find? (λx=>x.born == e.born) = some e:=by
  rw[<- Array.find?_toList];have Q:∀(M:List MapEntry),(M.map (·.born)).Nodup->e∈M->M.find? (λx=>x.born == e.born) = some e:=by
   intro M;induction M with
   | nil=>intro _ h;cases h
   | cons a M ih=>
    intro N y;rw[eN,fJ] at N;rcases dX.1 y with rfl | y
    .rw[gR V]
    .have:a.born≠e.born:=λx=>N.1 (x▸fI y)
     rw[gH (by simpa using this),ih N.2 y]
  exact Q _ hs.2.1 e1
 simp[Instr.entry,Jj K,e2,MapKept.run_getObj_map hb,hf,e3,e4,Result.andThen]
end rules
set_option maxHeartbeats 1000000 in
theorem Nd (x:Rg) {r:Int} (r0:0<=r) (r1:r < 12):Pu I3 [.agg (eRg x).toArray,I r] (.bool (Jb r x)):=by
 intro R;refine Nn λF=>?_
 refine z_2 ?_;have hb:AK r = 16 * r:=Bq r0 r1;refine ja λb=>jp (CZ r) ?_
 rw[hb];have a1:Jb r x = true↔(¬ x.kind < 1/\¬ x.kind > 4/\¬ x.top < 16 * r/\¬ x.top > 16 * r + 16/\¬ x.BC < 16 * r/\¬ x.BC > x.top/\¬ x.AI < 0/\¬ x.AI > x.top - 16 * r/\¬ (x.kind = 1/\x.top≠16 * r))/\(if x.kind = 2 then 0<=x.AX/\x.AX<=3 else x.AX = -1):=by
  unfold Jb;rw[hb];simp only[z_b,du,dp,z_d,beq_iff_eq,beq_eq_false_iff_ne];by_cases H:x.kind = 2
  .rw[if_pos H,H];simp;omega
  .rw[if_neg H,show (x.kind == 2) = false from beq_eq_false_iff_ne.2 H];by_cases y:0<=x.AX
   .simp[y];omega
   .simp[y];omega
 have K:∀{c:Bool} {D:Chs} [Sf D F],c = Jb r x->J R D (Fj R F (λv' _ _=>v' = .bool (Jb r x)) (.bool c)):=λ{c D} _ hc=>Ao (A:=[]) (RM.le.refl R) (by rw[hc])
 refine jor [Pt b,I (16 * r)] ((decide (x.kind < 1)) || (decide (x.kind > 4))) (λK' j=>?_) (λe c u y he=>?_)
 .refine jl rfl (jlt (jgO j λN G=>jl rfl (jgr G)))
 refine z_V ?_;obtain⟨B1,a3⟩:∃B1,B1 = (decide (x.kind < 1) || decide (x.kind > 4)):=⟨_,rfl⟩;rw[<- a3] at y;refine jor [Pt b,I (16 * r)] ((B1) || (decide (x.top < 16 * r))) (λK' j=>?_) (λe c u y he=>?_)
 .rw[y];refine jgO j λN G=>jl rfl (jlt G)
 refine z_V ?_;obtain⟨B2,O⟩:∃B2,B2 = (B1 || decide (x.top < 16 * r)):=⟨_,rfl⟩;rw[<- O] at y;refine jor [Pt b,I (16 * r)] ((B2) || (decide (x.top > 16 * r + 16))) (λK' j=>?_) (λe c u y he=>?_)
 .rw[y];refine jgO j λN G=>jl rfl (jad (jgr G))
 refine z_V ?_;obtain⟨B3,Q⟩:∃B3,B3 = (B2 || decide (x.top > 16 * r + 16)):=⟨_,rfl⟩;rw[<- Q] at y;refine jor [Pt b,I (16 * r)] ((B3) || (decide (x.BC < 16 * r))) (λK' j=>?_) (λe c u y he=>?_)
 .rw[y];refine jgO j λN G=>jl rfl (jlt G)
 refine z_V ?_;obtain⟨B4,T⟩:∃B4,B4 = (B3 || decide (x.BC < 16 * r)):=⟨_,rfl⟩;rw[<- T] at y;refine jor [Pt b,I (16 * r)] ((B4) || (decide (x.BC > x.top))) (λK' j=>?_) (λe c u y he=>?_)
 .rw[y];refine jgO j λN G=>jl rfl (jl rfl (jgr G))
 refine z_V ?_;obtain⟨B5,W⟩:∃B5,B5 = (B4 || decide (x.BC > x.top)):=⟨_,rfl⟩;rw[<- W] at y;refine jor [Pt b,I (16 * r)] ((B5) || (decide (x.AI < 0))) (λK' j=>?_) (λe c u y he=>?_)
 .rw[y];refine jgO j λN G=>jl rfl (jlt G)
 refine z_V ?_;obtain⟨B6,a0⟩:∃B6,B6 = (B5 || decide (x.AI < 0)):=⟨_,rfl⟩;rw[<- a0] at y;have a2:B6 = false->inR (x.top - 16 * r):=λh=>by
  rw[a0,W,T,Q,O] at h;simp only[db,decide_eq_false_iff_not] at h;constructor<;>omega
 refine jor [Pt b,I (16 * r)] ((B6) || (decide (x.AI > x.top - 16 * r))) (λK' j=>?_) (λe c u y he=>?_)
 .rw[y];refine jgO j λN G=>jl rfl (jl rfl (Sb (a2 N) (jgr G)))
 refine z_V ?_;rw[y];refine jif (λh=>K ?_) (λh=>?_)
 .symm;rw[fU];intro hk;obtain⟨⟨k1,k2,k3,k4,k5,k6,k7,k8,k9⟩,k10⟩:=a1.1 hk;rw[a0,W,T,Q,O,a3] at h;simp only[du,z_d] at h;omega
 rw[a0,W,T,Q,O,a3] at h;simp only[db,decide_eq_false_iff_not] at h;obtain⟨⟨⟨⟨⟨⟨⟨k1,k2⟩,k3⟩,k4⟩,k5⟩,k6⟩,k7⟩,k8⟩:=h;clear y a2;refine jan [Pt b] ((x.kind == 1) && (x.top != 16 * r)) (λK' j=>?_) (λe c u y he=>?_)
 .refine jl rfl (jeq (jgA j λN G=>jl rfl (jne G)))
 refine z_V ?_;rw[y];refine jif (λh=>K ?_) (λh=>?_)
 .symm;rw[fU];intro hk;simp only[z_b,beq_iff_eq,bne_iff_ne] at h;exact (a1.1 hk).1.2.2.2.2.2.2.2.2 h
 have k9:¬ (x.kind = 1/\x.top≠16 * r):=λhh=>by
  rw[show (x.kind == 1) = true from beq_iff_eq.2 hh.1,show (x.top != 16 * r) = true from bne_iff_ne.2 hh.2] at h;cases h
 refine jl rfl (jeq (jif (λH=>?_) (λH=>?_)))
 .have H:=eq_of_beq H;refine jan [] ((decide (x.AX>=0)) && (decide (x.AX<=3))) (λK' j=>?_) (λe c u y he=>?_)
  .refine jl rfl (jge (jgA j λN G=>jl rfl (jle G)))
  refine z_V ?_;rw[y];refine K ?_;rw[eY,a1,if_pos H];simp only[z_b,z_d];exact⟨λh=>⟨⟨k1,k2,k3,k4,k5,k6,k7,k8,k9⟩,h⟩,λh=>h.2⟩
 .have H:=ne_of_beq_false H;refine jl rfl (jeq (K ?_));rw[eY,a1,if_neg H];exact⟨λh=>⟨⟨k1,k2,k3,k4,k5,k6,k7,k8,k9⟩,eq_of_beq h⟩,λh=>beq_iff_eq.2 h.2⟩
theorem XR:Pu RN [] (.agg (eRg De).toArray):=by
 intro R;refine WY λF=>?_
 refine z_0 ?_;refine ja λb=>jbd rfl rfl (js rfl rfl (by exact z_n 5) rfl (jla (by exact z_n 5) rfl (Ao (A:=[]) (RM.le.refl R) rfl)))
theorem Wz (r:Int):Pu Rl [I r] (.agg (eRg ⟨1,-1,AK r,AK r,0⟩).toArray):=by
 intro R;refine Y6 λF=>?_
 refine z_1 ?_;refine ja λb=>jp (CZ r) (jbd rfl rfl (js rfl rfl (by exact z_n 5) rfl (jla (by exact z_n 5) rfl (Ao (A:=[]) (RM.le.refl R) rfl))))
theorem MpI.iff {o:Obj} {q j : Int->Prop} (h:MpI o q) (e:∀x,q x↔j x):MpI o j:=by
 have:q = j:=funext λx=>propext (e x)
 rw[<- this];exact h
section
variable {R:RM} {D:Chs} {t:List Rg} {sp:List Value} {b cap:Nat}
set_option maxHeartbeats 1000000 in
theorem RK (hl:t.length < 1000000) [a:At D b (C AO (Ad eRg t ++ sp))]:Ro KG [S0 b t.length cap] (.bool (BT t)) R D:=by
 refine QI λF=>?_
 refine z_1 ?_;have a9:(TOk t->False)->Value.bool false = Value.bool (BT t):=λh=>by
  cases hh:BT t
  .rfl
  .exact (h (Bj.1 hh)).elim
 refine Ac (λvs R' D'=>R' = R/\D' = D ++ F/\vs = [S0 b t.length cap,.bool ((decide ((t.length:Int) < 2) || decide ((t.length:Int) > 12)) || !(rv t 0 == De))]) (λK hK=>?_) ?_
 .refine jor [S0 b t.length cap] ((decide ((t.length:Int) < 2)) || (decide ((t.length:Int) > 12))) (λK' Q=>?_) (λe c u ho he=>?_)
  .refine jln (jlt (jgO Q λj hN=>jln (jgr hN)))
  refine z_V ?_;refine Ac (λvs R' D'=>R' = R/\D' = D ++ F/\(((decide ((t.length:Int) < 2) || decide ((t.length:Int) > 12)) = false/\∃h:0 < t.length,vs = [S0 b t.length cap,.bool false,.pointer (some ⟨b,0 + (0:Int).toNat * 5,none⟩),.agg (eRg (t[0])).toArray])\/((decide ((t.length:Int) < 2) || decide ((t.length:Int) > 12)) = true/\vs = [S0 b t.length cap,.bool true,U,U]))) (λK2 a0=>?_) ?_
  .rw[ho];refine FB (λj=>?_) (λj=>?_)
   .have b1:=j;simp only[db,decide_eq_false_iff_not] at b1;have h0:0 < t.length:=Z
    refine jia Z Z (jla (Fr h0) (Db (w:=5) (λ_=>rfl) h0) (a0 _ _ _ ⟨rfl,rfl,.inl ⟨j,h0,by rw[j]⟩⟩))
   .exact a0 _ _ _ ⟨rfl,rfl,.inr ⟨j,by rw[j]⟩⟩
  rintro e2 R2 D2 ⟨hR,hD,h⟩;subst hR;rw[hD];clear hD;rcases h with ⟨j,h0,he⟩ | ⟨j,he⟩
  .refine z_V ?_;refine jff (jp XR (Ak (jla (Fr h0) (Db (w:=5) (λ_=>rfl) h0) jev) (@aX (t[0]) De _ _ _ _ _ (F5 (hK _ _ _ ⟨rfl,rfl,?_⟩)))));rw[j,eU,show rv t 0 = t[0] from Eh h0]
  .refine z_V ?_;refine jtf (Ak jev (EP (hK _ _ _ ⟨rfl,rfl,?_⟩)));rw[j,fW]
 rintro e R2 D2 ⟨hR,hD,he⟩;subst hR;refine z_W ?_;clear hD;refine jif (λh0=>?_) (λh0=>?_)
 .refine BB (a9 λT=>?_);have n0:=T.n0;have n1:=T.n1;have e:=T.e;simp only[du,z_d,dp,beq_eq_false_iff_ne] at h0;rcases h0 with (h | h) | h
  .omega
  .omega
  .exact h e
 simp only[db,decide_eq_false_iff_not,eL,beq_iff_eq] at h0;obtain⟨⟨n0,n1⟩,a1⟩:=h0;refine @ae _ _ _ λmb o hm=>jln ?_
 refine jlp (λn vs R' D'=>R' = R2/\∃(i:Nat) (o:Obj),D' = (mb,o) :: (D ++ F)/\i<=t.length/\vs = [.map (some mb),S0 b t.length cap,I t.length,I i]/\n = t.length - i/\MpI o (λy=>∃k:Nat,1<=k/\k < i/\(rv t k).AX = y)/\(∀k:Nat,1<=k->k < i->LD k (rv t k)/\∀m:Nat,1<=m->m < k->0<=(rv t k).AX->(rv t m).AX≠(rv t k).AX))
  ⟨rfl,0,o,rfl,Z,rfl,rfl,hm.iff λx=>⟨λh=>h.elim,λ⟨k,_,h,_⟩=>Z⟩,λk j A=>Z⟩ ?_
 clear hm;rintro n e R' D' K ⟨hR,i,o,hD,hi,he,hn,hm,H⟩ hK;subst hR;refine z_W ?_;clear hD;refine jlt (jif (λhc=>?_) (λhc=>?_));rotate_left
 .have hc:=z_g hc;refine Al [] (G:=D ++ F) (BB ?_);rw[Bj.2 ⟨Z,Z,a1,λq q0 q1=>?_,λq s q0 q1 s0 s1 a8 W=>?_⟩]
  .have:=(H q.toNat Z Z).1;rwa [show ((q.toNat:Nat):Int) = q from Z] at this
  .have j:=(H q.toNat Z Z).2 s.toNat Z;have A:=(H s.toNat Z Z).2 q.toNat Z;rw[show ((q.toNat:Nat):Int) = q from Z,show ((s.toNat:Nat):Int) = s from Z] at j A;rcases Int.lt_trichotomy q s with c | c | c
   .exact absurd W (A Z (by rw[<- W];exact a8))
   .exact c
   .exact absurd W.symm (j Z a8)
 have hc:=z_f hc;have a2:i < t.length:=Z
 have N:=Eh a2;refine Ac (λvs R3 D3=>R3 = R'/\∃o',D3 = (mb,o') :: (D ++ F)/\MpI o' (λy=>∃k:Nat,1<=k/\k < i + 1/\(rv t k).AX = y)/\(∀k:Nat,1<=k->k < i + 1->LD k (rv t k)/\∀m:Nat,1<=m->m < k->0<=(rv t k).AX->(rv t m).AX≠(rv t k).AX)/\vs = [.map (some mb),S0 b t.length cap,I t.length,I i]) (λK2 a0=>?_) ?_;rotate_left
 .rintro e3 R3 D3 ⟨hR,o',hD,a4,a3,he⟩;subst hR;refine z_W ?_;clear hD;exact jad (hK (t.length - (i + 1)) _ _ _ Z ⟨rfl,i + 1,o',rfl,Z,rfl,rfl,a4,a3⟩)
 refine jcI a0 λK3 a7=>?_
 refine C0 a2 (Lb a2 (ja λb0=>js rfl rfl (by exact z_n 5) rfl (jeq (jif (λhz=>?_) (λhz=>?_)))))
 .have hz:=eq_of_beq hz;have hz:i = 0:=Z
  refine jk1 (F:=D ++ F) mb (a7 _ _ _ ⟨rfl,o,rfl,hm.iff λy=>⟨λ⟨k,j,A,h3⟩=>Z,λ⟨k,j,A,h3⟩=>Z⟩,λk j A=>Z,rfl⟩)
 have hz:=ne_of_beq_false hz;have b2:1<=i:=Z
 obtain⟨sb,a5⟩:∃sb:Bool,((∃k:Nat,1<=k/\k < i/\(rv t k).AX = (t[i]).AX)↔sb = true):=by
  by_cases h:∃k:Nat,1<=k/\k < i/\(rv t k).AX = (t[i]).AX
  .exact⟨true,by simp[h]⟩
  .exact⟨false,by simp[h]⟩
 refine jor [.map (some mb),Pt b0,S0 b t.length cap,I t.length,I i] (!Jb i (t[i]) || (decide ((t[i]).AX>=0) && sb)) (λK' Q=>?_) (λe c u ho he=>?_)
 .refine jla (l:=eRg (t[i])) (by exact z_n 5) rfl (jp (Nd (t[i]) Z Z) (FB (λj=>?_) (λj=>?_)))
  .refine jl rfl (jge (Dl (λA=>?_) (λA=>?_)))
   .refine jl rfl (@jlk _ _ _ mb o _ _ sb _ hm a5 ?_);rw[A];exact EP (Q _ _ _ (j▸CH) (by rw[j,A];rfl))
   .rw[A];exact F5 (Q _ _ _ (j▸CH) (by rw[j,A];rfl))
  .exact Q _ _ _ (j▸DN) (by rw[j];rfl)
 refine z_V ?_;rw[ho];refine jif (λhv=>?_) (λhv=>?_)
 .refine Al [] (G:=D ++ F) (BB (a9 λT=>?_));simp only[du,dp,z_b,z_d] at hv;rcases hv with hv | ⟨a6,O⟩
  .have:=(Jm Z Z).2 (T.row i Z Z);rw[N,hv] at this;cases this
  .obtain⟨k,k1,k2,k3⟩:=a5.2 O;have:=T.own i k Z Z Z Z (by rw[N];exact a6) (by rw[N,k3]);omega
 .simp only[db,eL,gM,decide_eq_false_iff_not] at hv;obtain⟨a6,O⟩:=hv;refine jl rfl (@jmu _ _ _ mb o _ _ _ _ hm λo' a4=>(jk1 (F:=D ++ F) mb (a7 _ _ _ ⟨rfl,o',rfl,a4.iff λy=>⟨?_,?_⟩,λk j A=>?_,rfl⟩)))
  .rintro (⟨k,j,A,h3⟩ | rfl)
   .exact⟨k,j,Z,h3⟩
   .exact⟨i,b2,Z,by rw[N]⟩
  .rintro⟨k,j,A,h3⟩;by_cases hk:k = i
   .subst hk;rw[N] at h3;exact .inr h3.symm
   .exact .inl ⟨k,j,Z,h3⟩
  .by_cases hk:k = i
   .subst hk;rw[N];refine⟨(Jm Z Z).1 a6,λm m1 m2 h0 W=>?_⟩;rcases O with O | O
    .omega
    .have:=a5.1 ⟨m,m1,m2,W⟩;rw[O] at this;cases this
   .exact H k j Z
end
theorem YU {cs:List Value} {o:Nat} {v:Value} (h:o < cs.length):lay cs o [v] = cs.set o v:=by
 unfold lay;rw[List.set_eq_take_append_cons_drop,if_pos h];simp
theorem aZ {cs:List Value} {o f n:Nat} (h:o + n<=cs.length) (A:f < n) (v:Value):lay cs (o + f) [v] = lay cs o (((cs.drop o).take n).set f v):=by
 rw[YU Z];unfold lay;have hl:(((cs.drop o).take n).set f v).length = n:=by simp;omega
 apply List.ext_getElem?;intro i;rw[hl,gC,dS];by_cases x:i < o
 .rw[fC (by simp;omega),fM,if_pos x,if_neg Z]
 .rw[fZ (by simp;omega)];have e:(cs.take o).length = o:=by simp;omega
  rw[e];by_cases y:i < o + n
  .rw[fC (by rw[hl];omega),gC,fM,ec];by_cases j:o + f = i
   .rw[if_pos j,if_pos Z,if_pos Z,if_pos (by simp;omega)]
   .rw[if_neg j,if_neg Z,if_pos Z];congr 1;omega
  .rw[fZ (by rw[hl];omega),hl,ec,if_neg Z];congr 1;omega
section
variable {R:RM} {D:Chs} {t:List Rg} {sp:List Value} {b cap:Nat}
end
theorem cZ {f:Nat} {j:List Value} {v:Value} {R:RM} {D F:Chs} {k:Value->M} (G:Ro f j v R D) (H:J R (D ++ F) (k v)):J R (D ++ F) (CA P f j k):=by
 intro h K;refine Fq ?_ (G F h K);rintro Q x ⟨O,N,y,A,rfl,rfl⟩;exact H x (A.le y)
section
variable {R:RM} {D:Chs} {t:List Rg} {sp:List Value} {b cap:Nat}
end
section
variable {R:RM} {D:Chs} {t:List Rg} {sp:List Value} {b cap:Nat}
end
theorem getD_some {w:List Int} {j:Nat} (h:j < w.length):w[j]? = some (w.getD j 0):=by
 rw[dI,dH h];rfl
theorem YI {w q:List Int} {sp:List Value} {m z:Nat} (j:q.length = z) (x:m + z<=w.length):lay (w.map I ++ sp) (0 + m * 1) (q.map I) = (w.take m ++ q ++ w.drop (m + z)).map I ++ sp:=by
 unfold lay;rw[da,fN,dN,j,eX (by rw[dN];omega),List.drop_append_of_le_length (by rw[dN];omega)];simp[dz,List.map_take,List.map_drop]
theorem Dm {R:RM} {D:Chs} {v:Value} {t:AQ} {k:Value->M} (h:ThV R v t) (H:J R D (k (I (AF t.sh)))):J R D (CA P HL [v] k):=by
 refine jro (Lm λF=>?_) H;refine z_1 ?_;obtain⟨rv,nv,rfl,x,j⟩:=h;refine ja λb=>jfo (jla (l:=[I t.sh.refs,I t.sh.nums]) (dM rfl) rfl (jp (Hw t.sh) (Al [] (G:=D ++ F) (BB rfl))))
end Go.Lf
end
section
namespace Go.Lf
open Go Sm
theorem cG {f:Nat} {G:List Value} {v:Value} {R:RM} {D:Chs} {b:Nat} {o:Obj} {k:Value->M} (hb:R b = some o) (hF:∀Q : RM,Q.le R->Ro f G v Q [(b,o)]) (H:J R D (k v)):J R D (CA P f G k):=by
 intro h K;have N:∀c j,(c,j)∈D->c≠b:=λc j x e=>by
  have:=(K.at_ c j x).2;rw[e,hb] at this;cases this
 have le:RM.le (λc=>if c = b then none else R c) R:=λc j h=>by
  have h:(if c = b then none else R c) = some j:=h;split at h
  .cases h
  .exact h
 have O:St h (λc=>if c = b then none else R c) ((b,o) :: D):=by
  refine⟨λc j h=>K.rd c j (le c j h),λc j x=>?_,?_⟩
  .rcases dX.1 x with e | x
   .cases e;exact⟨K.rd _ _ hb,if_pos rfl⟩
   .have:=K.at_ c j x;exact⟨this.1,(if_neg (N c j x)).trans this.2⟩
  .rw[eN,fJ];refine⟨λx=>?_,K.nd⟩;obtain⟨⟨c,j⟩,W,h2⟩:=dc.1 x;exact N c j W h2
 refine Fq ?_ (hF _ le D h O);rintro v' T ⟨R2,A,hR,y,rfl,rfl⟩;refine H T ⟨λc j hc=>?_,λc j x=>⟨(y.at_ c j (dh _ x)).1,(K.at_ c j x).2⟩,?_⟩
 .by_cases e:c = b
  .subst e;rw[hb] at hc;cases hc;exact (y.at_ _ _ (.head _)).1
  .exact y.rd c j (hR c j ((if_neg e).trans hc))
 .have:=y.nd;exact (fJ.1 this).2
set_option maxHeartbeats 1000000 in
theorem P4 {R:RM} {wv:Value} {w:List Int} (r top:Int) (h:Ay R wv w) (hl:w.length < 1000000) (a6:∀x∈w,Rn x) :
  Fn P JE [wv,I r,I top] R [] (λv T A=>A = []/\QTs (BU w r top) v T):=by
 refine PO λF=>?_
 refine z_3 ?_;have inn:∀a:Int,inR (w.getD (a.toNat + 1) 0):=λa=>by
  rw[dI];cases hx:w[a.toNat + 1]? with
  | none=>exact⟨δ,δ⟩
  | some x=>exact a6 x (List.mem_of_getElem? hx)
 obtain⟨wa,wc,a1⟩:=h.sl;have eq:(w.length:Int).tdiv 16 = (w.length / 16:Nat):=by rw[fL Z];omega
 rw[a1];have br:0<=AK r/\AK r<=176:=by unfold AK;split<;>omega
 refine jor [.slice wa w.length wc,I r,I top] ((!BM w.length) || (decide (r < 1))) (λK' j=>?_) (λe c u ho he=>?_)
 .refine jp (HO wa w.length wc Z) (jgO j λh1 W=>jlt W)
 refine z_V ?_;refine jor [.slice wa w.length wc,I r,I top] ((!BM w.length || decide (r < 1)) || (decide (r>=(w.length:Int).tdiv 16))) (λK' j=>?_) (λe c u ho he=>?_)
 .rw[ho];refine jgO j λh1 W=>jln (PX δ ⟨Z,Z⟩ (jge W))
 refine z_V ?_;refine jor [.slice wa w.length wc,I r,I top] ((!BM w.length || decide (r < 1) || decide (r>=(w.length:Int).tdiv 16)) || (decide (top < AK r))) (λK' j=>?_) (λe c u ho he=>?_)
 .rw[ho];refine jgO j λh1 W=>jp (CZ r) (jlt W)
 refine z_V ?_;refine jor [.slice wa w.length wc,I r,I top] ((!BM w.length || decide (r < 1) || decide (r>=(w.length:Int).tdiv 16) || decide (top < AK r)) || (decide (top > AK r + 16))) (λK' j=>?_) (λe c u ho he=>?_)
 .rw[ho];refine jgO j λh1 W=>jp (CZ r) (jad (jgr W))
 refine z_V ?_;rw[ho];refine jif (λh0=>?_) (λh0=>?_)
 .refine Ao (RM.le.refl R) ⟨rfl,?_⟩;have:BU w r top = none:=by
   unfold BU;rw[if_neg];intro hh;simp only[du,dp,z_d,z_b] at h0 hh;rw[eq] at h0;obtain⟨⟨⟨⟨g1,g2⟩,g3⟩,g4⟩,g5⟩:=hh;rw[g1] at h0;rcases h0 with (((h0 | h0) | h0) | h0) | h0
   .exact absurd h0 δ
   all_goals omega
  rw[this];exact rfl
 simp only[db,eL,decide_eq_false_iff_not] at h0;rw[eq] at h0;obtain⟨⟨⟨⟨g1,g2⟩,g3⟩,g4⟩,g5⟩:=h0;have et:BU w r top = Au w 16 (AK r) top:=by
  unfold BU;rw[if_pos];simp only[z_b,z_d];exact⟨⟨⟨⟨g1,Z⟩,Z⟩,Z⟩,Z⟩
 rw[<- a1];refine Ac (λvs T D'=>R.le T/\∃l H A,BU w r top = some l/\(∃rows,Rw (ThC T) rows l/\SW BL 6 rows H A)/\D' = A ++ ([] ++ F)/\vs = [H]) (λK hK=>?_) ?_;rotate_left
 .rintro e R1 D1 ⟨hR,l,H,A,hl,⟨rows,D,so⟩,hD,he⟩;refine z_W ?_;refine jfw so (D.all λ_ _=>ThC.len) λR2 N hfz=>(Ao (hR.trans N) ⟨rfl,?_⟩)
  rw[hl];exact⟨H,⟨rows,D.mono λ_ _=>ThC.le N,hfz⟩,rfl⟩
 refine jp (CZ r) (Ac (λvs T D'=>R.le T/\∃l H A,BU w r top = some l/\(∃rows,Rw (ThC T) rows l/\SW BL 6 rows H A)/\D' = A ++ ([] ++ F)/\vs = [H]) (λK2 a4=>?_) ?_);rotate_left
 .rintro e R1 D1 ⟨hR,l,H,A,hl,so,hD,he⟩;refine z_W ?_;exact hK _ _ _ ⟨hR,l,H,A,hl,so,rfl,rfl⟩
 refine jlp (λm vs T D'=>R.le T/\∃(a:Int) (l:List AQ) (H:Value) (A:Chs) (rows:List (List Value)),m<=16/\AK r + 2 * (16 - m)<=a/\a<=top/\l.length<=16 - m/\(match Au w m a top with | none=>none | some l2=>some (l ++ l2)) = BU w r top/\Rw (ThC T) rows l/\SW BL 6 rows H A/\D' = A ++ ([] ++ F)/\vs = [wv,I top,H,I a])
  (n:=16) ⟨RM.le.refl R,AK r,[],SN,[],[],Z,Z,Z,V,by rw[et];cases Au w 16 (AK r) top<;>rfl,Rw.nil,.inl ⟨rfl,rfl,rfl⟩,rfl,rfl⟩ ?_
 rintro m e R1 D1 K3 ⟨hR,a,l,H,A,rows,hm,ha,a8,a9,y,D,so,hD,he⟩ a5;refine z_W ?_;have h1:=h.le hR;refine jlt (jif (λhc=>?_) (λhc=>?_));rotate_left
 .have hc:=z_g hc;refine a4 _ _ _ ⟨hR,l,H,A,?_,⟨rows,D,so⟩,rfl,rfl⟩;rw[<- y];cases m<;>(unfold Au;rw[if_neg hc];simp)
 have hc:=z_f hc;obtain⟨m,rfl⟩:∃k,m = k + 1:=⟨m - 1,Z⟩;unfold Au at y;rw[if_pos hc] at y;dsimp only at y;obtain⟨a2,a3⟩:=EE (As w a).1.sh;have a0:=@In w a;refine jc (Qi a h1 hl (inn a)) ?_;rintro _ R2 _ N ⟨rfl,x,⟨rv,nv,rfl,Q,O⟩,rfl⟩;generalize As w a = t at y Q O a2 a3 a0 ⊢;obtain⟨t,tb⟩:=t;dsimp only at y Q O a2 a3 a0 ⊢;obtain⟨ra,rc,rfl⟩:=Q.sl;obtain⟨na,nc,rfl⟩:=O.sl;refine jex rfl (jex rfl (ja λb=>(js rfl rfl (by exact z_n 6) rfl (jor [wv,I top,H,I a,Pt b] ((!tb) || (decide (a + AF t.sh > top))) (λK' j=>?_) (λe c u ho he=>?_)))))
 .refine jgO j λh1 W=>jla (by exact z_n 6) rfl (Dm ⟨_,_,rfl,Q,O⟩ (jad (jgr W)))
 refine z_V ?_;rw[ho];refine jif (λh0=>?_) (λh0=>?_)
 .refine Ao (hR.trans N) ⟨rfl,?_⟩;have:BU w r top = none:=by
   rw[<- y,if_neg];intro hh;simp only[du,dp,z_d,z_b] at h0 hh;rcases h0 with h0 | h0
   .rw[h0] at hh;exact absurd hh.1 δ
   .omega
  rw[this];exact rfl
 simp only[db,eL,decide_eq_false_iff_not] at h0;obtain⟨h2,h3⟩:=h0;rw[if_pos (by rw[h2];simp;omega)] at y;have a0:=a0 h2;refine jla (by exact z_n 6) rfl (jbs rfl rfl λb4=>(B8 (D':=(b4,C BL (eTh t (.slice ra t.refs.length rc) (.slice na t.nums.length nc))) :: ((b,C BL (eTh t (.slice ra t.refs.length rc) (.slice na t.nums.length nc))) :: (A ++ ([] ++ F)))) (eK _) (Al A (G:=(b4,C BL (eTh t (.slice ra t.refs.length rc) (.slice na t.nums.length nc))) :: (b,C BL (eTh t (.slice ra t.refs.length rc) (.slice na t.nums.length nc))) :: ([] ++ F)) ?_)));have hx:BY R2 (A ++ ((b4,C BL (eTh t (.slice ra t.refs.length rc) (.slice na t.nums.length nc))) :: (b,C BL (eTh t (.slice ra t.refs.length rc) (.slice na t.nums.length nc))) :: ([] ++ F))) (some ⟨b4,0,none⟩) (1 * 6) [eTh t (.slice ra t.refs.length rc) (.slice na t.nums.length nc)].flatten:=BY.held (cs:=eTh t (.slice ra t.refs.length rc) (.slice na t.nums.length nc)) (z_n 6);have b0:=D.1;refine jaw so (D.all λ_ _=>ThC.len) (by intro r hr;rw[dZ.1 hr];rfl) rfl rfl rfl δ (by rw[di];omega) hx λv' A' a7=>(jla (by exact z_n 6) rfl (Dm ⟨_,_,rfl,Q,O⟩ (jad (Al A' (G:=[] ++ F) (a5 m _ _ _ Z ⟨hR.trans N,a + AF t.sh,l ++ [t],v',A',rows ++ [eTh t (.slice ra t.refs.length rc) (.slice na t.nums.length nc)],Z,Z,Z,by rw[dK,di];omega,?_,(D.mono λ_ _=>ThC.le N).app (Rw.one ⟨_,_,rfl,Q,O⟩),a7,rfl,rfl⟩)))))
 rw[<- y];cases Au w m (a + AF t.sh) top with
 | none=>rfl
 | some l2=>simp
end Go.Lf
end
section
namespace Sm
open Go.Lf
def EQ (s:Ah):Bool:=BM s.AC.length && BT s.AA && s.AA.length == s.AC.length / 16 && s.AM.length == s.AC.length
def Ey (s:Ah):Option (List AQ):=if EQ s then BJ s else none
def Dk (s:Ah) (a:Int):Bool:=decide (0<=AN a) && decide (AN a < s.AA.length) && (rv s.AA (AN a)).kind == 4
def CL (s:Ah) (l:List AQ) (t:AQ):Bool:=t.moved == t.at_ || match Ax l t.moved with
 | none=>false
 | some n=>n.sh == t.sh && n.moved == n.at_ && !Dk s n.at_ && Dk s t.at_
def CP (s:Ah) (l:List AQ):Bool:=l.all (CL s l)
def Fs (t:Th):Bool:=decide (t.AD.length<=8) && decide (0<=t.Am) && decide (t.Am<=2)
def E6 (s:Ah) (l:List AQ) (a:Int):Bool:=match Ax l a with
 | none=>false
 | some t=>t.moved == a && !Dk s a
def C8 (s:Ah) (l:List AQ):Bool:=CP s l && decide (0<=s.Ae) && decide (s.Ae<=3) && decide (1<=s.AB.length) && decide (s.AB.length<=3) && decide (s.AJ.length<=8) && s.AB.all Fs && s.AJ.all (E6 s l)
def CD (s:Ah):Option (List AQ × List Int):=match Ey s with
 | none=>none
 | some l=>if C8 s l then (Dg s l).map λm=>(l,m) else none
def Ct (s:Ah):List Int:=s.AB.flatMap (·.AD) ++ s.AJ
theorem Rd {w:List Int}:∀{n:Nat} {a top:Int} {l:List AQ},Au w n a top = some l->l.Pairwise (λx y=>x.at_ + AF x.sh<=y.at_)/\∀t∈l,a<=t.at_/\t.at_ + AF t.sh<=top/\2<=AF t.sh/\(As w t.at_) = (t,true)
 | 0,a,top,l,h=>by
  unfold Au at h;split at h
  .cases h
  .cases h;exact⟨List.Pairwise.nil,λt j=>by cases j⟩
 | n + 1,a,top,l,h=>by
  unfold Au at h;split at h;rotate_left
  .cases h;exact⟨List.Pairwise.nil,λt j=>by cases j⟩
  dsimp only at h;split at h;rotate_left
  .cases h
  rename_i K A;simp only[z_b,z_d] at A;have G:=In A.1;have D:(As w a).1.at_ = a:=by
   have:=A.1;unfold As at this ⊢;split at this
   .rename_i c1;rw[if_pos c1];dsimp only at this ⊢;split at this
    .rename_i c2;rw[if_pos c2]
    .cases this
   .cases this
  cases j:Au w n (a + AF (As w a).1.sh) top with
  | none=>rw[j] at h;cases h
  | some N=>
   rw[j] at h;cases h;obtain⟨i1,i2⟩:=Rd j;refine⟨gE.2 ⟨λy H=>by have:=i2 y H;rw[D];omega,i1⟩,λt j=>?_⟩;rcases dX.1 j with rfl | j
   .exact⟨by rw[D];omega,by rw[D];exact A.2,G,by rw[D,<- A.1]⟩
   .have:=i2 t j;exact⟨Z,this.2⟩
theorem Pk {w:List Int} {r:Nat} {top:Int} {l:List AQ} (h:BU w r top = some l):l.Pairwise (λx y=>x.at_ + AF x.sh<=y.at_)/\∀t∈l,16 * (r:Int)<=t.at_/\t.at_ + AF t.sh<=top/\top<=16 * r + 16/\2<=AF t.sh/\As w t.at_ = (t,true):=by
 unfold BU at h;split at h;rotate_left
 .cases h
 rename_i c;simp only[z_b,z_d] at c;obtain⟨⟨⟨⟨c1,c2⟩,c3⟩,D⟩,j⟩:=c;have:(r:Int) < 12:=by
  unfold BM at c1;simp only[z_b,z_d] at c1;omega
 have hb:=Bq (r:=(r:Int)) Z this;obtain⟨i1,i2⟩:=Rd h;exact⟨i1,λt A=>by have:=i2 t A;rw[hb] at this j;exact⟨this.1,this.2.1,j,this.2.2⟩⟩
theorem FP {w:List Int}:∀{t:List Rg} {r:Nat} {l:List AQ},Bc w r t = some l->l.Pairwise (λx y=>x.at_ + AF x.sh<=y.at_)/\∀x∈l,16 * (r:Int)<=x.at_/\2<=AF x.sh/\As w x.at_ = (x,true)/\∃k:Nat,∃h:k < t.length,x.at_ / 16 = r + k/\x.at_ + AF x.sh<=(t[k]).top/\(t[k]).top<=16 * (r + k) + 16
 | [],r,l,h=>by cases h;exact⟨List.Pairwise.nil,λt O=>by cases O⟩
 | x :: t,r,l,h=>by
  unfold Bc at h;cases A:BU w r x.top with
  | none=>rw[A] at h;cases h
  | some a=>
   rw[A] at h;dsimp only at h;cases D:Bc w (r + 1) t with
   | none=>rw[D] at h;cases h
   | some b=>
    rw[D] at h;cases h;obtain⟨i1,i2⟩:=Pk A;obtain⟨R,G⟩:=FP D;refine⟨List.pairwise_append.2 ⟨i1,R,λy j z Q=>?_⟩,λy j=>?_⟩
    .have:=i2 y j;have:=G z Q;omega
    .rcases dg.1 j with j | j
     .have:=i2 y j;exact⟨this.1,this.2.2.2.1,this.2.2.2.2,0,V,Z,this.2.1,by simpa using this.2.2.1⟩
     .obtain⟨T,H,K,k,hk,W,N,g6⟩:=G y j;exact⟨Z,H,K,k + 1,by simp;omega,Z,by simpa using N,by simp only[gQ];omega⟩
theorem MJ {l:List AQ} (h:l.Pairwise (λx y=>x.at_ + AF x.sh<=y.at_)) (A:∀x∈l,2<=AF x.sh):(l.map AQ.at_).Nodup:=by
 rw[List.Nodup,gZ];exact h.imp_of_mem λ{a b} j hb h e=>by have:=A a j;omega
theorem BF {l:List AQ} {a:Int} {t:AQ} (h:Ax l a = some t):t∈l/\t.at_ = a:=by
 unfold Ax at h;exact⟨gV h,by simpa using List.find?_some h⟩
theorem DM {l:List AQ} (j:(l.map AQ.at_).Nodup) {t:AQ} (h:t∈l):Ax l t.at_ = some t:=by
 unfold Ax;induction l with
 | nil=>cases h
 | cons x l y=>
  rw[eN,fJ] at j;rcases dX.1 h with rfl | h
  .rw[gR V]
  .have:x.at_≠t.at_:=λe=>j.1 (e▸fI h)
   rw[gH (by simpa using this)];exact y j.2 h
end Sm
end
section
namespace Go.Lf
open Go Sm
def RgZ (R:RM) (v:Value) (t:List Rg):Prop:=∃b c sp,v = S0 b t.length c/\R b = some (C AO (Ad eRg t ++ sp))/\t.length<=c
theorem RgZ.le {R j : RM} {v:Value} {t:List Rg} (h:R.le j) (H:RgZ R v t):RgZ j v t:=by
 obtain⟨b,c,sp,x,y,A⟩:=H;exact⟨b,c,sp,x,h _ _ y,A⟩
structure SF (R:RM) (s:Sm.Ah) (wv tv mv thv ov pv:Value):Prop where
 c:StC R s wv tv mv thv ov pv
 z:RgZ R tv s.AA
 b:StB 10 s
theorem SF.le {R x : RM} {s:Sm.Ah} {wv A mv j y pv:Value} (h:R.le x) (H:SF R s wv A mv j y pv):SF x s wv A mv j y pv:=⟨H.c.le h,H.z.le h,H.b⟩
theorem FK {a:Int} (h0:0<=a) (x:a < 1000000):Pu JV [I a] (I (AN a)):=by
 intro R;refine PY λF=>?_
 refine z_1 ?_;have j:a.tdiv 16 = a / 16:=fL h0;refine jlt (jif (λh=>?_) (λh=>?_))
 .have h:=z_f h;omega
 .refine PX δ (by rw[j];constructor<;>omega) ?_;rw[j];exact Ao (A:=[]) (RM.le.refl R) (by unfold AN;rw[if_neg Z])
section st
variable {R:RM} {s:Sm.Ah} {wv tv mv thv ov pv:Value}
theorem Ve (h:SF R s wv tv mv thv ov pv):Ro Gm [.agg (eSt s wv tv mv thv ov pv).toArray] (.bool (EQ s)) R []:=by
 refine LC λF=>?_
 refine z_1 ?_;refine ja λb=>?_
 rw[show cl (.agg (eSt s wv tv mv thv ov pv).toArray) = eSt s wv tv mv thv ov pv from rfl];obtain⟨tb,tc,sp,rfl,hb,K⟩:=h.z;obtain⟨N,wc,rfl⟩:=h.c.w.sl;obtain⟨Q,mc,rfl⟩:=h.c.m.sl;have t0:=h.b.t0;have t1:=h.b.t1;have wl:=h.b.wl;have eq:(s.AC.length:Int).tdiv 16 = (s.AC.length / 16:Nat):=by rw[fL Z];omega
 refine jan [Pt b] ((BM s.AC.length) && (BT s.AA)) (λA j=>?_) (λe c u y he=>?_)
 .refine jl rfl (jp (HO N s.AC.length wc Z) (jgA j λD x=>jl rfl (cG hb (λO _=>RK Z) x)))
 refine z_V ?_;refine jan [Pt b] ((BM s.AC.length && BT s.AA) && ((s.AA.length:Int) == (s.AC.length:Int).tdiv 16)) (λA j=>?_) (λe c u y he=>?_)
 .rw[y];refine jgA j λD x=>jl rfl (jln (jl rfl (jln (PX δ ⟨Z,Z⟩ (jeq x)))))
 refine z_V ?_;refine jan [] ((BM s.AC.length && BT s.AA && ((s.AA.length:Int) == (s.AC.length:Int).tdiv 16)) && ((s.AM.length:Int) == (s.AC.length:Int))) (λA j=>?_) (λe c u y he=>?_)
 .rw[y];refine jgA j λD x=>jl rfl (jln (jl rfl (jln (jeq x))))
 refine z_V ?_;rw[y];refine BB ?_;have G:((s.AA.length:Int) == ((s.AC.length / 16:Nat):Int)) = (s.AA.length == s.AC.length / 16):=by rw[eY,beq_iff_eq,beq_iff_eq];omega
 have H:((s.AM.length:Int) == (s.AC.length:Int)) = (s.AM.length == s.AC.length):=by rw[eY,beq_iff_eq,beq_iff_eq];omega
 rw[eq,G,H];rfl
theorem N9 (h:SF R s wv tv mv thv ov pv) {a:Int} (h0:0<=a) (j:a < 1000000):Ro HG [.agg (eSt s wv tv mv thv ov pv).toArray,I a] (.bool (Dk s a)) R []:=by
 refine Lk λF=>?_
 refine z_2 ?_;refine ja λb=>?_
 rw[show cl (.agg (eSt s wv tv mv thv ov pv).toArray) = eSt s wv tv mv thv ov pv from rfl];obtain⟨tb,tc,sp,rfl,hb,N⟩:=h.z;refine jp (FK h0 j) (jan [Pt b,I (AN a)] ((decide (AN a>=0)) && (decide (AN a < s.AA.length))) (λG x=>?_) (λe c u A he=>?_))
 .refine jge (jgA x λj K=>jl rfl (jln (jlt K)))
 refine z_V ?_;refine jan [] (decide (AN a>=0) && decide (AN a < s.AA.length) && ((rv s.AA (AN a)).kind == 4)) (λG x=>?_) (λe c u A he=>?_)
 .rw[A];refine Dl (λj=>?_) (λj=>?_)
  .have H:=j;simp only[z_b,z_d] at H;obtain⟨r,D⟩:∃r:Nat,AN a = r:=⟨(AN a).toNat,Z⟩;have y:r < s.AA.length:=Z
   refine jl rfl ?_;rw[D];refine C0 y (jfo (jlr hb (by rw[da];exact C6 y rfl) (jeq (x _ _ ((s.AA[r]).kind == 4) (by rw[<- D,j];exact Bh) ?_))));rw[j,D,Eh y,eP]
  .exact x _ _ _ (j▸By) (by rw[j,fA])
 refine z_V ?_;rw[A];exact BB rfl
theorem Dc {r:Nat}:∀(l:List Th),(∀t∈l,t.AD.length<=r)->(l.flatMap (·.AD)).length<=r * l.length
 | [],_=>V
 | t :: l,h=>by
  have x:=h t V;have y:=Dc l (λt j=>h t (by simp[j]));rw[List.flatMap_cons,dK,dR,Nat.mul_succ];omega
theorem Ux (h:SF R s wv tv mv thv ov pv):Fn P Gu [.agg (eSt s wv tv mv thv ov pv).toArray] R [] (λv j A=>j = R/\SO (Ct s) v A):=by
 refine LH λF=>?_
 refine z_1 ?_;refine ja λb=>?_
 rw[show cl (.agg (eSt s wv tv mv thv ov pv).toArray) = eSt s wv tv mv thv ov pv from rfl];have n1:=h.b.n1;have rl:=h.b.rl;have pl:=h.b.pl;have fl:=Dc s.AB rl;have a5:9 * s.AB.length<=27:=Z
 refine Ac (λT j H=>j = R/\∃v A,SO (s.AB.flatMap (·.AD)) v A/\H = A ++ ((b,C AW (eSt s wv tv mv thv ov pv)) :: F)/\T = [Pt b,v]) (λK hK=>?_) ?_
 .refine jl rfl (Bf h.c.th.sl (Ac (λT j H=>j = R/\∃v A,SO (s.AB.flatMap (·.AD)) v A/\H = A ++ ((b,C AW (eSt s wv tv mv thv ov pv)) :: F)/\T = [Pt b,v]) (λK2 a0=>?_) ?_))
  .refine jlp (λm T j H=>j = R/\∃(i:Nat) (v:Value) (A:Chs),i<=s.AB.length/\m = s.AB.length - i/\SO ((s.AB.take i).flatMap (·.AD)) v A/\H = A ++ ((b,C AW (eSt s wv tv mv thv ov pv)) :: F)/\T = [Pt b,v,thv,I s.AB.length,I i]) ⟨rfl,0,_,[],Z,rfl,.inl ⟨rfl,rfl,rfl⟩,rfl,rfl⟩ ?_;rintro m e R1 D1 K3 ⟨N,i,v,A,hi,hm,y,hD,he⟩ a1;subst N;refine z_W ?_;refine jlt (jif (λhc=>?_) (λhc=>?_));rotate_left
   .have hc:=z_g hc;rw[dO Z] at y;exact a0 _ _ _ ⟨rfl,v,A,y,rfl,rfl⟩
   have hc:i < s.AB.length:=by have:=z_f hc;omega
   obtain⟨ta,a9,a8⟩:=h.c.th.sl;refine jtr h.c.th hc λb2 o2 ty cs rv Q a2 a3 O=>(DR a2 a3 O (ja λb3=>?_))
   obtain⟨ra,rc,rfl⟩:=Q.sl;refine js rfl rfl (dM rfl) rfl (jl rfl (BV ?_));obtain⟨xa,cx,x,hx⟩:=Fz.reads Q;cases x;have a7:=rl _ (dL hc);have a6:=Dc (s.AB.take i) (λt ht=>rl t (eJ ht));have a4:9 * (s.AB.take i).length<=27:=by rw[dU];omega
   refine jas y rfl Z hx λv' W D=>(jad (a1 (s.AB.length - (i + 1)) _ _ _ Z ⟨rfl,i + 1,v',W,Z,rfl,?_,rfl,rfl⟩))
   rw[dJ hc,List.flatMap_append];simpa using D
  rintro e R1 D1 ⟨N,v,A,y,hD,he⟩;subst N;refine z_W ?_;exact hK _ _ _ ⟨rfl,v,A,y,rfl,rfl⟩
 rintro e R1 D1 ⟨N,v,A,y,hD,he⟩;subst N;refine z_W ?_;obtain⟨pa,pc,rfl⟩:=h.c.p.sl;refine jl rfl ?_;obtain⟨xa,cx,x,hx⟩:=Fz.reads h.c.p;cases x;refine jas y rfl Z hx λv' W D=>(Al W (G:=F) (Ao (RM.le.refl _) ⟨rfl,D⟩))
end st
theorem MA:P.underlying 101 = some (.map 3 70):=by kernel_rfl
theorem d5 (w:World):(zeroValue 70).run P w = .ok z70 w:=by kernel_rfl
theorem bv (w:World):(Instr.makeMap 101 none).run P w = .ok (.map (some w.heap.size)) (w.alloc (.map #[] 0)):=rfl
def MpT (R:RM) (o:Obj) (l:List AQ):Prop:=∃ps:List (Int × Value),Mg o ps/\ps.length = l.length/\∀i (h:i < ps.length) (h' : i < l.length),(ps[i]).1 = (l[i]).at_/\ThV R (ps[i]).2 (l[i])
theorem MpT.le {R j : RM} {o:Obj} {l:List AQ} (h:R.le j) (H:MpT R o l):MpT j o l:=by
 obtain⟨D,y,A,x⟩:=H;exact⟨D,y,A,λi a b=>⟨(x i a b).1,(x i a b).2.le h⟩⟩
theorem Ta {R:RM} {x:Int}:∀{j:List (Int × Value)} {l:List AQ},j.length = l.length->(∀i (h:i < j.length) (h' : i < l.length),(j[i]).1 = (l[i]).at_/\ThV R (j[i]).2 (l[i]))->(Ax l x = none/\lk j x = none)\/∃t v,Ax l x = some t/\lk j x = some v/\ThV R v t
 | [],[],_,_=>.inl ⟨rfl,rfl⟩
 | p :: j,t :: l,hl,h=>by
  obtain⟨y,A⟩:=h 0 V V;have y:p.1 = t.at_:=y;have A:ThV R p.2 t:=A;by_cases c:t.at_ = x
  .refine .inr ⟨t,p.2,?_,?_,A⟩
   .unfold Ax;rw[gR (by simpa using c)]
   .unfold lk;rw[gR (by simpa [y] using c)];rfl
  .have H:=Ta (x:=x) (by simpa using hl) (λi a b=>h (i + 1) (by simpa using a) (by simpa using b));have D:Ax (t :: l) x = Ax l x:=by unfold Ax;rw[gH (by simpa using c)]
   have G:lk (p :: j) x = lk j x:=by unfold lk;rw[gH (by simpa [y] using c)]
   rw[D,G];exact H
theorem Ot {R:RM} {D:Chs} {k:Value->M} {b:Nat} {o:Obj} {l:List AQ} {x:Int} (c:Bool) (a:Li R D b o) (Q:MpT R o l)
  (A:Ax l x = none->J R D (k (if c then .tuple #[z70,.bool false] else z70)))
  (G:∀t v,Ax l x = some t->ThV R v t->J R D (k (if c then .tuple #[v,.bool true] else v))):J R D (X P (Instr.lookup 101 (.map (some b)) (I x) c) k):=by
 obtain⟨T,K,N,O⟩:=Q;refine @VM R D k 101 70 b o T x z70 c a MA d5 K ?_;rcases Ta N O with ⟨j,y⟩ | ⟨t,v,j,y,H⟩
 .rw[y];exact A j
 .rw[y];exact G t v j H
def QTm (r:Option (List AQ)) (v:Value) (R:RM):Prop:=match r with
 | none=>v = .tuple #[.map none,.bool false]
 | some l=>∃mb o,R mb = some o/\MpT R o l/\v = .tuple #[.map (some mb),.bool true]
section st
variable {R:RM} {s:Sm.Ah} {wv tv mv thv ov pv:Value}
set_option maxHeartbeats 1000000 in
theorem Sq (h:SF R s wv tv mv thv ov pv):Fn P GI [.agg (eSt s wv tv mv thv ov pv).toArray] R [] (λv H A=>A = []/\QTm (Ey s) v H):=by
 refine KC λF=>?_
 refine z_1 ?_;refine ja λb=>?_
 rw[show cl (.agg (eSt s wv tv mv thv ov pv).toArray) = eSt s wv tv mv thv ov pv from rfl];have t0:=h.b.t0;have t1:=h.b.t1;have wl:=h.b.wl;have wr:=h.b.wr;refine jla (l:=eSt s wv tv mv thv ov pv) (by exact z_n 13) rfl (jrp (Ve h) (jif (λh0=>?_) (λh0=>?_)))
 .have h0:EQ s = false:=by simpa using h0
  refine Ao (RM.le.refl R) ⟨rfl,?_⟩;have:Ey s = none:=by unfold Ey;rw[if_neg (by rw[h0];decide)]
  rw[this];exact rfl
 have h0:EQ s = true:=by simpa using h0
 have b6:Ey s = BJ s:=by unfold Ey;rw[if_pos h0]
 rw[b6];refine WU bv λmb o0 c7=>(Ac (λvs H Q=>R.le H/\∃l o,BJ s = some l/\MpT H o l/\Q = (mb,o) :: (b,C AW (eSt s wv tv mv thv ov pv)) :: F/\vs = [.map (some mb)]) (λK hK=>?_) ?_)
 rotate_left
 .rintro e R1 D1 ⟨hR,l,o,hl,hm,hD,he⟩;refine z_W ?_;refine B9 (b:=mb) λR2 D hb=>(Ao (hR.trans D) ⟨rfl,?_⟩)
  rw[hl];exact⟨mb,o,hb,hm.le D,rfl⟩
 refine jcI hK λK2 b7=>?_
 refine jlp (λm vs H Q=>R.le H/\∃(i:Nat) (l:List AQ) (o:Obj),1<=i/\i<=s.AA.length + 1/\m = s.AA.length + 1 - i/\(match Bc s.AC i (s.AA.drop i) with | none=>none | some l2=>some (l ++ l2)) = BJ s/\MpT H o l/\(∀t∈l,t.at_ < 16 * i)/\Q = (mb,o) :: (b,C AW (eSt s wv tv mv thv ov pv)) :: F/\vs = [Pt b,.map (some mb),I i])
  (n:=s.AA.length) ⟨RM.le.refl R,1,[],o0,Z,Z,Z,by unfold BJ;rw[List.drop_one];cases Bc s.AC 1 s.AA.tail<;>rfl,⟨[],c7,rfl,λi h=>absurd h V⟩,(λt ht=>by cases ht),rfl,rfl⟩ ?_
 rintro m e R1 D1 K3 ⟨hR,i,l,o,d4,e2,e5,N,hm,a7,hD,he⟩ b8;refine z_W ?_;have h1:=h.le hR;refine jl rfl (Bf h1.c.t.sl (jlt (jif (λhc=>?_) (λhc=>?_))));rotate_left
 .have hc:=z_g hc;refine b7 _ _ _ ⟨hR,l,o,?_,hm,rfl,rfl⟩;rw[<- N,dT Z];simp[Bc]
 have hc:i < s.AA.length:=by have:=z_f hc;omega
 rw[dQ hc] at N;unfold Bc at N;refine Ac (λvs H Q=>R1.le H/\∃l1 o,BU s.AC i (s.AA[i]).top = some l1/\MpT H o (l ++ l1)/\Q = (mb,o) :: (b,C AW (eSt s wv tv mv thv ov pv)) :: F/\vs = [Pt b,.map (some mb),I i]) (λK4 b9=>?_) ?_;rotate_left
 .rintro e R2 D2 ⟨D,l1,o1,a6,a3,hD,he⟩;refine z_W ?_;refine jad (b8 (s.AA.length + 1 - (i + 1)) _ _ _ Z ⟨hR.trans D,i + 1,l ++ l1,o1,Z,Z,Z,?_,a3,λt ht=>?_,rfl,rfl⟩)
  .rw[<- N,a6];dsimp only;cases Bc s.AC (i + 1) (s.AA.drop (i + 1)) with
   | none=>rfl
   | some l2=>simp
  .rcases dg.1 ht with ht | ht
   .have:=a7 t ht;omega
   .have:=(Pk a6).2 t ht;omega
 refine jcI b9 λK5 c0=>?_
 refine jl rfl (jl rfl (jrg h1.c.t hc λb2 o2 ty cs hb ho b0=>(jfo (jlr hb (Bm b0 rfl) (jc (P4 i (s.AA[i]).top h1.c.w Z wr) ?_)))));rintro _ R2 _ D ⟨rfl,hq⟩;cases O:BU s.AC i (s.AA[i]).top with
 | none=>
  rw[O] at hq N;subst hq;refine jex rfl (jex rfl (DG (Ao (hR.trans D) ⟨rfl,?_⟩)));rw[<- N];exact rfl
 | some l1=>
  rw[O] at hq;obtain⟨d2,b5,rfl⟩:=hq;refine Pa (jex rfl (jex rfl (CQ (Bf b5.sl ?_))));obtain⟨a5,a1⟩:=Pk O;have e7:=MJ a5 (λx hx=>(a1 x hx).2.2.2.1);refine Ac (λvs H Q=>H = R2/\∃o,MpT H o (l ++ l1)/\Q = (mb,o) :: (b,C AW (eSt s wv tv mv thv ov pv)) :: F/\vs = [Pt b,.map (some mb),I i]) (λK6 c4=>?_) ?_;rotate_left
  .rintro e R3 D3 ⟨a2,o1,a3,hD,he⟩;subst a2;refine z_W ?_;exact c0 _ _ _ ⟨D,l1,o1,O,a3,rfl,rfl⟩
  refine jlp (λm vs H Q=>H = R2/\∃(j:Nat) (o:Obj),j<=l1.length/\m = l1.length - j/\MpT H o (l ++ l1.take j)/\Q = (mb,o) :: (b,C AW (eSt s wv tv mv thv ov pv)) :: F/\vs = [Pt b,.map (some mb),I i,d2,I l1.length,I j])
   ⟨rfl,0,o,Z,rfl,by rw[List.take_zero,eD];exact hm.le D,rfl,rfl⟩ ?_
  rintro m2 e R3 D3 K7 ⟨a2,j,o1,hj,e4,⟨ps,a8,T,W⟩,hD,he⟩ c5;subst a2;refine z_W ?_;refine jlt (jif (λy=>?_) (λy=>?_));rotate_left
  .have y:=z_g y;rw[dO Z] at T W;exact c4 _ _ _ ⟨rfl,o1,⟨ps,a8,T,W⟩,rfl,rfl⟩
  have y:j < l1.length:=by have:=z_f y;omega
  have e3:=TA O;refine jtg b5 y λb3 o3 e8 d3 rv nv b1 a9 c6 c9 a4=>?_
  obtain⟨ra,rc,rfl⟩:=b1.sl;obtain⟨na,nc,rfl⟩:=a9.sl;refine DR c6 c9 a4 (ja λb4=>(js rfl rfl (by exact z_n 6) rfl (jl rfl (jla (l:=eTh (l1[j]) (.slice ra (l1[j]).refs.length rc) (.slice na (l1[j]).nums.length nc)) (by exact z_n 6) rfl (@YR _ _ _ 101 70 mb o1 _ ps _ _ _ MA a8 λo' a0=>?_)))));have c8:lk ps (l1[j]).at_ = none:=by
   rcases Ta T W with ⟨_,e⟩ | ⟨t,v,e1,_,_⟩
   .exact e
   .exfalso;obtain⟨m1,m2⟩:=BF e1;rcases dg.1 m1 with m1 | m1
    .have g1:=a7 t m1;have g2:=(a1 _ (dL y)).1;omega
    .obtain⟨q,hq,rfl⟩:=dm m1;rw[dU] at hq;rw[fy] at m2;have:=gB.1 a5 q j Z y Z;have:=(a1 _ (dL (show q < l1.length by omega))).2.2.2.1;omega
  have d1:up ps (l1[j]).at_ (.agg (eTh (l1[j]) (.slice ra (l1[j]).refs.length rc) (.slice na (l1[j]).nums.length nc)).toArray) = ps ++ [((l1[j]).at_,.agg (eTh (l1[j]) (.slice ra (l1[j]).refs.length rc) (.slice na (l1[j]).nums.length nc)).toArray)]:=by unfold up;rw[if_neg (by rw[c8];simp)]
  rw[d1] at a0;refine jad (Al [(mb,o')] (G:=(b,C AW (eSt s wv tv mv thv ov pv)) :: F) (c5 (l1.length - (j + 1)) _ _ _ Z ⟨rfl,j + 1,o',Z,rfl,⟨_,a0,?_,λq hq e6=>?_⟩,rfl,rfl⟩))
  .rw[dJ y,<- dS,dK,dK,T];rfl
  .rw[dK,di] at hq;have e:l ++ l1.take (j + 1) = (l ++ l1.take j) ++ [l1[j]]:=by rw[dJ y,dS]
   simp only[e];by_cases c:q < ps.length
   .rw[fj c,fj Z];exact W q c Z
   .rw[fD Z,fD Z];simp only[List.getElem_singleton];exact⟨trivial,_,_,rfl,b1,a9⟩
end st
theorem aj {R:RM} {D:Chs} {k:Value->M} {b:Nat} {o:Obj} {l:List AQ} {x:Int} (a:Li R D b o) (A:MpT R o l)
  (H:∀(n:AQ) (nb:Bool) (rv nv:Value),nb = (Ax l x).isSome->(nb = true->Ax l x = some n)->Ay R rv n.refs->Ay R nv n.nums->J R D (k (.tuple #[.agg (eTh n rv nv).toArray,.bool nb]))):J R D (X P (Instr.lookup 101 (.map (some b)) (I x) true) k):=by
 refine @Ot R D k b o l x true a A (λh=>?_) (λt v h G=>?_)
 .exact H Eg false (SN) (SN) (by rw[h];rfl) (λh=>by cases h) (.inl ⟨rfl,rfl,rfl⟩) (.inl ⟨rfl,rfl,rfl⟩)
 .obtain⟨rv,nv,rfl,j,y⟩:=G;exact H t true rv nv (by rw[h];rfl) (λ_=>h) j y
section st
variable {R:RM} {s:Sm.Ah} {wv tv mv thv ov pv:Value}
theorem T5 {o:Obj} {l:List AQ} {j:List (Int × Value)} (D:j.length = l.length) (x:∀i (h:i < j.length) (h' : i < l.length),(j[i]).1 = (l[i]).at_/\ThV R (j[i]).2 (l[i])) {p:Int × Value} (A:p∈j):∃t∈l,p.1 = t.at_/\ThV R p.2 t:=by
 obtain⟨i,y,rfl⟩:=dm A;exact⟨l[i],dL Z,x i y Z⟩
theorem ZY {l:List AQ} {j:List (Int × Value)} (D:j.length = l.length) (x:∀i (h:i < j.length) (h' : i < l.length),(j[i]).1 = (l[i]).at_/\ThV R (j[i]).2 (l[i])) {t:AQ} (A:t∈l):∃p∈j,p.1 = t.at_:=by
 obtain⟨i,y,rfl⟩:=dm A;exact⟨j[i]'(Z),dL Z,(x i Z y).1⟩
set_option maxHeartbeats 1000000 in
set_option maxRecDepth 4000 in
theorem RL (h:SF R s wv tv mv thv ov pv) {mb:Nat} {o:Obj} {l:List AQ} (hb:R mb = some o) (hm:MpT R o l) (tb:TB l) (nd:(l.map AQ.at_).Nodup):Ro Fo [.agg (eSt s wv tv mv thv ov pv).toArray,.map (some mb)] (.bool (CP s l)) R []:=by
 refine Ix λF=>?_
 refine z_2 ?_;refine ja λb=>?_
 rw[show cl (.agg (eSt s wv tv mv thv ov pv).toArray) = eSt s wv tv mv thv ov pv from rfl];obtain⟨W,hg,h2,h3⟩:=hm;refine @bB _ _ _ 101 70 mb o W (Li.fz hb) MA hg λD it a1=>?_
 refine jlp (λm vs R' D'=>R' = R/\∃(N A:List (Int × Value)) (it:Obj) (a0:Option (Int × Value)),m = N.length/\W.Perm (A ++ N)/\ItG mb o it N a0/\(∀p∈A,∀t∈l,p.1 = t.at_->CL s l t = true)/\D' = (D,it) :: (b,C AW (eSt s wv tv mv thv ov pv)) :: ([] ++ F)/\vs = [.map (some mb),Pt b,Pt D])
  ⟨rfl,W,[],it,none,rfl,eK _,a1,(λp hp=>by cases hp),rfl,rfl⟩ ?_
 rintro m e R1 D1 K ⟨hR,N,A,it,a0,b7,a2,a1,a8,hD,he⟩ hK;subst hR;refine z_W ?_;refine @aS _ _ _ mb D o it _ W N a0 _ (Li.fz hb) hg a1 (λh0=>?_) (λp j H a3 T=>?_)
 .subst h0;refine jex rfl (CQ ?_);refine BB ?_;congr 1;rw[eq_comm];unfold CP;rw[df];intro t ht;obtain⟨p,hp,a4⟩:=ZY h2 h3 ht;exact a8 p (by have:=a2.mem_iff.1 hp;simpa using this) t ht a4
 have b9:p∈W:=a2.mem_iff.2 (dg.2 (.inr (a3.mem_iff.2 (.head _))));obtain⟨t,ht,a4,rv,nv,c0,c4,b8⟩:=T5 (o:=o) h2 h3 b9;obtain⟨ra,rc,rfl⟩:=c4.sl;obtain⟨na,nc,rfl⟩:=b8.sl;have b5:=tb t ht;have hlen:j.length < m:=by rw[b7,a3.length_eq,dR];omega
 have b3 : W.Perm ((A ++ [p]) ++ j):=a2.trans (by
  rw[dS]
  exact List.Perm.append_left A a3)
 have a5:∀t'∈l,p.1 = t'.at_->t' = t:=λt' O e=>by
  have e1:=DM nd ht;have e2:=DM nd O;rw[<- e,a4,e1] at e2;exact (ei e2).symm
 refine jex rfl (DG ?_);refine Ac (λvs R' D'=>R' = R1/\CL s l t = true/\D' = (D,H) :: (b,C AW (eSt s wv tv mv thv ov pv)) :: ([] ++ F)/\vs = [.map (some mb),Pt b,Pt D]) (λK2 a7=>?_) ?_;rotate_left
 .rintro e R2 D2 ⟨hR,c5,hD,he⟩;subst hR;refine z_W ?_;refine hK j.length _ _ _ hlen ⟨rfl,j,A ++ [p],H,some p,rfl,b3,T,λq hq t' O e=>?_,rfl,rfl⟩;rcases dg.1 hq with hq | hq
  .exact a8 q hq t' O e
  .rw[dZ.1 hq] at e;rw[a5 t' O e];exact c5
 refine @aC _ _ _ mb D o H W j p _ (Li.fz hb) hg T ?_;rw[c0];refine jex rfl (ja λa6=>?_);refine js rfl rfl (by exact z_n 6) rfl ?_;refine jl rfl (jl rfl (jeq (jif (λhc=>?_) (λhc=>?_))))
 .refine Al [(D,H)] (G:=(b,C AW (eSt s wv tv mv thv ov pv)) :: ([] ++ F)) ?_;exact a7 _ _ _ ⟨rfl,by unfold CL;rw[hc,fW],rfl,rfl⟩
 refine jl rfl ?_;refine aj (Li.fz hb) ⟨W,hg,h2,h3⟩ λn nb d2 c8 b0 a9 b4 b2=>?_
 obtain⟨c9,d1,rfl⟩:=b4.sl;obtain⟨c6,c7,rfl⟩:=b2.sl;refine jex rfl (jex rfl (ja λb6=>?_));refine js rfl rfl (by exact z_n 6) rfl ?_;have Q:CL s l t = !(!nb || !(n.sh == t.sh) || (n.moved != n.at_) || Dk s n.at_ || !Dk s t.at_):=by
  unfold CL;rw[hc,eU];cases nb with
  | false=>
   have:Ax l t.moved = none:=by
    cases h:Ax l t.moved with
    | none=>rfl
    | some x=>rw[h] at b0;cases b0
   rw[this];rfl
  | true=>
   rw[a9 rfl];dsimp only;unfold bne;cases n.sh == t.sh<;>cases n.moved == n.at_<;>cases Dk s n.at_<;>cases Dk s t.at_<;>rfl
 refine jor [.map (some mb),Pt b,Pt a6,Pt b6,Pt D] ((!nb) || (!(n.sh == t.sh))) (λK' y=>?_) (λe c u ho he=>?_)
 .refine jgO y λh1 hN=>jfo (jla (l:=[I n.sh.refs,I n.sh.nums]) (by exact (by decide:4<=6)) rfl (jfo (jla (cs:=eTh t (.slice ra t.refs.length rc) (.slice na t.nums.length nc)) (l:=[I t.sh.refs,I t.sh.nums]) (by exact (by decide:4<=6)) rfl (@cJ n.sh t.sh _ _ _ _ _ hN))))
 refine z_V ?_;refine jor [.map (some mb),Pt b,Pt a6,Pt b6,Pt D] ((!nb || !(n.sh == t.sh)) || ((n.moved != n.at_))) (λK' y=>?_) (λe c u ho he=>?_)
 .rw[ho];refine jgO y λh1 hN=>jl (v:=I n.moved) rfl (jl (v:=I n.at_) rfl (jne hN))
 refine z_V ?_;refine jor [.map (some mb),Pt b,Pt a6,Pt D] (!nb || !(n.sh == t.sh) || (n.moved != n.at_) || Dk s n.at_) (λK' y=>?_) (λe c u ho he=>?_)
 .rw[ho];refine jgO y λh1 hN=>?_
  have b1 : nb = true:=by cases nb with | true=>rfl | false=>cases h1
  have hn:=tb n (BF (a9 b1)).1;exact jla (l:=eSt s wv tv mv thv ov pv) (by exact z_n 13) rfl (jl (v:=I n.at_) rfl (jrp (N9 h hn.1 hn.2.1) hN))
 refine z_V ?_;refine jor [.map (some mb),Pt b,Pt D] ((!nb || !(n.sh == t.sh) || (n.moved != n.at_) || Dk s n.at_) || (!Dk s t.at_)) (λK' y=>?_) (λe c u ho he=>?_)
 .rw[ho];refine jgO y λh1 hN=>jla (l:=eSt s wv tv mv thv ov pv) (by exact z_n 13) rfl (jl (v:=I t.at_) rfl (jrp (N9 h b5.1 b5.2.1) hN))
 refine z_V ?_;rw[ho];refine jif (λh0=>?_) (λh0=>?_)
 .refine BB ?_;congr 1;rw[eq_comm,fU];unfold CP;intro Bp;have:=df.1 Bp t ht;rw[Q,h0] at this;cases this
 .refine Al [(D,H)] (G:=(b,C AW (eSt s wv tv mv thv ov pv)) :: ([] ++ F)) ?_;exact a7 _ _ _ ⟨rfl,by rw[Q,h0];rfl,rfl,rfl⟩
end st
section rules
variable {R:RM} {D:Chs} {k:Value->M}
theorem H4 {f:Nat} {x:Array Value} {j:List Value} (y:Vb P f = true) (H:J R D (CA P f (j ++ x.toList) k)):J R D (CV P (.func (.func f) #[] x) j k):=λh A=>⟨y,H h A⟩
theorem jfd {o n:Nat} {cs:Array Value} {v:Value} (j:cs.toList[o]? = some v) (H:J R D (k v)):J R D (FD false o n (.agg cs) k):=by
 unfold FD;simp only[cond_false,j];exact H
end rules
def eHp (s:Sm.Ah) (wv tv mv thv ov pv:Value) (mb:Nat) (v:Value):List Value:=[wv,tv,mv,I s.Ae,.bool s.stop,.bool s.full,.bool s.Ap,I s.want,thv,ov,pv,I s.BE,I s.BK,.map (some mb),v]
section st
variable {R:RM} {s:Sm.Ah} {wv tv mv thv ov pv:Value} {l:List AQ}
theorem Yh {hb mb:Nat} {o:Obj} {v:Value} {a x:Int} {D:Chs} [at_:At D hb (C 103 (eHp s wv tv mv thv ov pv mb v))] (y:R mb = some o) (A:MpT R o l) (j:now l a = some x):Ro Gk [Pt hb,I a] (I x) R D:=by
 refine JI λF=>?_
 refine z_2 ?_;unfold now at j;refine jeq (jif (λh=>?_) (λh=>?_))
 .rw[if_pos (by simpa using h)] at j;cases j;exact BB rfl
 have h:a≠0:=by simpa using h
 rw[if_neg h] at j;refine jl rfl (@Ot _ _ _ mb o l a false (Li.fz y) A (λe=>?_) (λt v e G=>?_))
 .rw[e] at j;cases j
 .rw[e] at j;obtain⟨rv,nv,rfl,_,_⟩:=G;cases j;exact jfd rfl (BB rfl)
theorem RQ {x:Int} {r acc:List Int}:Aq l (x :: r) acc = (now l x).bind λy=>Aq l r (Bu acc y):=rfl
def bJ (r:Option (List Int)) (s:Sm.Ah) (wv tv mv thv ov pv:Value) (mb b1 b3 hb sb:Nat) (v:Value) (A:Chs):Prop:=match r with
 | none=>v = .bool false/\A = []
 | some acc=>v = .bool true/\∃v2 so2 A2,SO acc v2 A2/\MpI so2 (·∈acc)/\A = (b1,C 98 [Pt hb]) :: (b3,C 160 [.map (some sb)]) :: (hb,C 103 (eHp s wv tv mv thv ov pv mb v2)) :: (sb,so2) :: A2
set_option maxHeartbeats 1000000 in
set_option maxRecDepth 4000 in
theorem Pp {xs acc:List Int} {lv v:Value} {mb W b3 hb D:Nat} {o so:Obj} {A:Chs} (a9:R mb = some o) (hm:MpT R o l) (b7:∀t∈l,t.moved≠0) (b2:Ay R lv xs) (c9:xs.length < 1000000) (c7:acc.length + xs.length < 1000000) (c5:SO acc v A) (b6:MpI so (·∈acc)) :
  Fn P G9 [lv,Pt W,Pt b3] R ((W,C 98 [Pt hb]) :: (b3,C 160 [.map (some D)]) :: (hb,C 103 (eHp s wv tv mv thv ov pv mb v)) :: (D,so) :: A)
   (λr R' A'=>R' = R/\bJ (Aq l xs acc) s wv tv mv thv ov pv mb W b3 hb D r A'):=by
 refine KE λF=>?_
 refine z_3 ?_;refine Bf b2.sl ?_;refine jlp (λm vs R' D'=>R' = R/\∃(i:Nat) (H:List Int) (T:Value) (j:Obj) (Q:Chs),i<=xs.length/\m = xs.length - i/\Aq l (xs.drop i) H = Aq l xs acc/\H.length<=acc.length + i/\SO H T Q/\MpI j (·∈H)/\D' = (W,C 98 [Pt hb]) :: (b3,C 160 [.map (some D)]) :: (hb,C 103 (eHp s wv tv mv thv ov pv mb T)) :: (D,j) :: (Q ++ F)/\vs = [Pt W,Pt b3,lv,I xs.length,I i])
  ⟨rfl,0,acc,v,so,A,Z,rfl,rfl,Z,c5,b6,rfl,rfl⟩ ?_
 rintro m e R1 D1 K ⟨hR,i,H,T,j,Q,hi,c8,N,c6,a1,a0,hD,he⟩ hK;subst hR;refine z_W ?_;refine jlt (jif (λhc=>?_) (λhc=>?_));rotate_left
 .have hc:=z_g hc;rw[dT Z] at N;refine Ao (A:=(W,C 98 [Pt hb]) :: (b3,C 160 [.map (some D)]) :: (hb,C 103 (eHp s wv tv mv thv ov pv mb T)) :: (D,j) :: Q) (RM.le.refl _) ⟨rfl,?_⟩;rw[<- N];exact⟨rfl,T,j,Q,a1,a0,rfl⟩
 have hc:i < xs.length:=by have:=z_f hc;omega
 rw[dQ hc] at N;refine Ac (λvs R' D'=>R' = R1/\∃(O:List Int) (T:Value) (j:Obj) (Q:Chs),Aq l (xs.drop (i + 1)) O = Aq l xs acc/\O.length<=acc.length + (i + 1)/\SO O T Q/\MpI j (·∈O)/\D' = (W,C 98 [Pt hb]) :: (b3,C 160 [.map (some D)]) :: (hb,C 103 (eHp s wv tv mv thv ov pv mb T)) :: (D,j) :: (Q ++ F)/\vs = [Pt W,Pt b3,lv,I xs.length,I i]) (λK2 b4=>?_) ?_;rotate_left
 .rintro e R2 D2 ⟨hR,O,v3,a4,A3,b8,a8,a2,a7,hD,he⟩;subst hR;refine z_W ?_;refine jad (hK (xs.length - (i + 1)) _ _ _ Z ⟨rfl,i + 1,O,v3,a4,A3,Z,rfl,b8,a8,a2,a7,rfl,rfl⟩)
 refine jcI b4 λK3 a6=>?_
 rw[RQ] at N;refine Bk b2 Z Z ?_;simp only[dG];refine jeq (jif (λh0=>?_) (λh0=>?_))
 .have h0:xs[i] = 0:=by simpa using h0
  refine a6 _ _ _ ⟨rfl,H,T,j,Q,?_,Z,a1,a0,rfl,rfl⟩;rw[<- N,h0];simp[now,Bu]
 have h0:xs[i]≠0:=by simpa using h0
 refine jl rfl (jl rfl (aj (Li.fz a9) hm λn nb rv nv b0 b5 c4 c0=>?_));obtain⟨ra,rc,rfl⟩:=c4.sl;obtain⟨na,nc,rfl⟩:=c0.sl;refine jex rfl (jex rfl (ja λd1=>(js rfl rfl (by exact z_n 6) rfl (BV ?_))));cases nb with
 | false=>
  have hf:Ax l xs[i] = none:=by
   cases h:Ax l xs[i] with
   | none=>rfl
   | some x=>rw[h] at b0;cases b0
  refine DG (Ao (A:=[]) (RM.le.refl _) ⟨rfl,?_⟩);rw[<- N];unfold now;rw[if_neg h0,hf];exact⟨rfl,rfl⟩
 | true=>
  have hf:=b5 rfl;have a5:now l xs[i] = some n.moved:=by unfold now;rw[if_neg h0,hf];rfl
  have b9:=b7 n (BF hf).1;rw[a5] at N;have N:Aq l (xs.drop (i + 1)) (Bu H n.moved) = Aq l xs acc:=N;unfold Bu at N;refine CQ (jl rfl (Al [(hb,C 103 (eHp s wv tv mv thv ov pv mb T))] (G:=(W,C 98 [Pt hb]) :: (b3,C 160 [.map (some D)]) :: (D,j) :: (Q ++ F)) (cZ (Yh a9 hm a5) (Al [(W,C 98 [Pt hb]),(b3,C 160 [.map (some D)]),(hb,C 103 (eHp s wv tv mv thv ov pv mb T)),(D,j)] (G:=Q ++ F) (jl rfl (@jlk _ _ _ D j _ n.moved (decide (n.moved∈H)) _ a0 V (jif (λhd=>?_) (λhd=>?_))))))));rotate_left
  .have hd:n.moved∈H:=by simpa using hd
   rw[if_pos (.inr hd)] at N;exact a6 _ _ _ ⟨rfl,H,T,j,Q,N,Z,a1,a0,rfl,rfl⟩
  have hd:n.moved ∉ H:=by simpa using hd
  rw[if_neg (by rintro (h | h);exact b9 h;exact hd h)] at N;refine jl rfl (@jmu _ _ _ D j _ _ n.moved _ a0 λa4 a7=>(jl rfl (jl rfl (jl rfl (jbs rfl rfl λxb=>?_)))));refine Ak (jl rfl jev) (Ak (jl rfl jev) (Ak (jl rfl jev) (Gw a1 Z λv3 A3 a2=>(Ak (jl rfl jev) ?_))));obtain⟨a3,c3,rfl⟩:=a2.sln;refine jS (eHp s wv tv mv thv ov pv mb (.slice a3 (H ++ [n.moved]).length c3)) (Al [(W,C 98 [Pt hb]),(b3,C 160 [.map (some D)]),(hb,C 103 (eHp s wv tv mv thv ov pv mb (.slice a3 (H ++ [n.moved]).length c3))),(D,a4)] (G:=A3 ++ ([] ++ F)) (a6 _ _ _ ⟨rfl,H ++ [n.moved],_,a4,A3,N,by rw[dK,di];omega,a2,?_,rfl,rfl⟩));have e:(λy=>y∈H\/y = n.moved) = (·∈H ++ [n.moved]):=by funext y;simp
  rw[<- e];exact a7
end st
end Go.Lf
end
section
namespace Sm
open Go.Lf
theorem Bn {l:List AQ} {x:Int} {r acc:List Int}:Aq l (x :: r) acc = (now l x).bind λy=>Aq l r (Bu acc y):=rfl
theorem Cx {l:List AQ}:∀{D A j:List Int},Aq l (D ++ A) j = (Aq l D j).bind λo=>Aq l A o
 | [],A,j=>rfl
 | x :: D,A,j=>by
  rw[zc,Bn,Bn];cases now l x with
  | none=>rfl
  | some y=>exact Cx
theorem KK {l:List AQ}:∀{x:List Th} {j:List Int},ED l x j = Aq l (x.flatMap (·.AD)) j
 | [],j=>rfl
 | t :: x,j=>by
  rw[List.flatMap_cons,Cx];show (Aq l t.AD j).bind (λo=>ED l x o) = _;congr 1;funext o;exact KK
theorem LQ {s:Ah} {l:List AQ}:∀{y j:List Int},y.all (E6 s l) = true->Aq l y j = some (y.foldl Bu j)
 | [],j,_=>rfl
 | a :: y,j,h=>by
  rw[List.all_cons,z_b] at h;have x:=h.1;unfold E6 at x;have:now l a = some a:=by
   unfold now;split
   .rename_i e;rw[e]
   .cases A:Ax l a with
    | none=>rw[A] at x;cases x
    | some t=>
     rw[A] at x;simp only[z_b,beq_iff_eq] at x;rw[fg,x.1]
  rw[Bn,this];exact LQ h.2
theorem DZ {s:Ah} {l:List AQ} (h:s.AJ.all (E6 s l) = true):Dg s l = (Aq l (Ct s) []).bind λout=>BI l (l.length + 2) 0 out:=by
 unfold Dg Ct;rw[KK,Cx];cases Aq l (s.AB.flatMap (·.AD)) [] with
 | none=>rfl
 | some out=>rw[z_o,LQ h];rfl
structure Stl (l:List AQ):Prop where
 nd:(l.map AQ.at_).Nodup
 at16:∀t∈l,16<=t.at_
 mv:∀t∈l,∃t'∈l,t'.at_ = t.moved
theorem Stl.nz {l:List AQ} (S:Stl l):∀t∈l,t.moved≠0:=λt x e=>by
 obtain⟨y,j,A⟩:=S.mv t x;have:=S.at16 y j;omega
theorem Tt {s:Ah} {l:List AQ} (h:Ey s = some l) (D:CP s l = true):Stl l:=by
 unfold Ey at h;split at h;rotate_left
 .cases h
 unfold BJ at h;obtain⟨G,y⟩:=FP h;refine⟨MJ G λx H=>(y x H).2.1,λt j=>by have:=(y t j).1;omega,λt j=>?_⟩;unfold CP at D;have:=df.1 D t j;unfold CL at this;rw[du] at this;rcases this with e | e
 .exact⟨t,j,(eq_of_beq e).symm⟩
 .cases A:Ax l t.moved with
  | none=>rw[A] at e;cases e
  | some n=>exact⟨n,BF A⟩
structure E4 (l:List AQ) (ac:List Int):Prop where
 nd:ac.Nodup
 th:∀a∈ac,∃t,Ax l a = some t
theorem E4.put {l:List AQ} {y:List Int} (M:E4 l y) (S:Stl l) {x:Int} (h:x = 0\/∃t∈l,t.at_ = x):E4 l (Bu y x):=by
 unfold Bu;split
 .exact M
 .rename_i c;have A:x≠0:=λe=>c (.inl e)
  have c1:x ∉ y:=λe=>c (.inr e)
  refine⟨?_,λa j=>?_⟩
  .rw[List.nodup_append];refine⟨M.nd,V,λa j b hb e=>?_⟩;rw[dZ.1 hb] at e;exact c1 (e▸j)
  .rcases dg.1 j with j | j
   .exact M.th a j
   .rw[dZ.1 j];rcases h with h | ⟨t,D,G⟩
    .exact absurd h A
    .exact⟨t,by rw[<- G];exact DM S.nd D⟩
theorem E4.all {l:List AQ} (S:Stl l):∀{G D j : List Int},E4 l D->Aq l G D = some j->E4 l j
 | [],D,j,M,h=>by cases h;exact M
 | x :: G,D,j,M,h=>by
  rw[Bn] at h;cases A:now l x with
  | none=>rw[A] at h;cases h
  | some y=>
   rw[A] at h;refine E4.all S (M.put S ?_) h;unfold now at A;split at A
   .cases A;exact .inl rfl
   .obtain⟨t,H,rfl⟩:=gA.1 A;exact .inr (S.mv t (BF H).1)
theorem E4.len {l:List AQ} {j:List Int} (M:E4 l j):j.length<=l.length:=by
 have:j.length<=(l.map AQ.at_).length:=Et M.nd λx G=>by
  obtain⟨t,D⟩:=M.th x G;obtain⟨y,A⟩:=BF D;rw[<- A];exact fI y
 rwa [dN] at this
theorem E4.nil {l:List AQ}:E4 l []:=⟨List.nodup_nil,λa h=>by cases h⟩
theorem C9 {l:List AQ} {n i:Nat} {out:List Int} {t:AQ} (j:i < out.length) (x:Ax l out[i] = some t):BI l (n + 1) i out = (Aq l t.refs out).bind λo=>BI l n (i + 1) o:=by
 conv=>lhs;unfold BI
 rw[dH j];dsimp only;rw[x];rfl
theorem CJ {l:List AQ} {n i:Nat} {out:List Int} (j:out.length<=i):BI l (n + 1) i out = some out:=by
 unfold BI;rw[eT j]
end Sm
end
section
namespace Go.Lf
open Go Sm
section rules
variable {R:RM} {D:Chs} {k:Value->M}
theorem VX {l:List Int} {v:Value} {A E:Chs} {i:Nat} (y:SO l v A) [s:Sp D A E] (j:i < l.length) (H:J R D (k (I l[i]))):J R D (IA 1 v (I (i:Int)) λx=>L1 x k):=by
 refine B8 s.p ?_;have:=(y.rd (R:=R) (E:=E)).2 [] i j k;rw[eD] at this;exact this (B8 s.p.symm H)
end rules
section st
variable {R:RM} {s:Sm.Ah} {wv tv mv thv ov pv:Value} {l:List AQ}
def ad (r:Option (List Int)) (s:Sm.Ah) (wv tv mv thv ov pv:Value) (mb hb:Nat) (v:Value) (A:Chs):Prop:=match r with
 | none=>v = .bool false/\A = []
 | some met=>v = .bool true/\∃v2 A2,SO met v2 A2/\A = (hb,C 103 (eHp s wv tv mv thv ov pv mb v2)) :: A2
set_option maxHeartbeats 1000000 in
set_option maxRecDepth 4000 in
theorem Vk {mb hb:Nat} {o:Obj} (h:SF R s wv tv mv thv ov pv) (D:R mb = some o) (hm:MpT R o l) (S:Stl l) (c4:l.length < 10000) (tb:TB l) (hp:s.AJ.all (E6 s l) = true) :
  Fn P HZ [Pt hb] R [(hb,C 103 (eHp s wv tv mv thv ov pv mb (SN)))] (λr R' A'=>ad (Dg s l) s wv tv mv thv ov pv mb hb r A'):=by
 refine MD λF=>?_
 refine z_1 ?_;refine ja λb1=>ae λQ b4 a9=>ja λb3=>(jS [.map (some Q)] ?_)
 refine jl rfl (jnc (jfo (jla (dM rfl) rfl ?_)));refine jc (Ux h) ?_;rintro rv R1 A1 b8 ⟨hR,b5⟩;subst hR;have n1:=h.b.n1;have fl:=Dc s.AB h.b.rl;have b7:10 * s.AB.length<=30:=Z
 have pl:=h.b.pl;have rl:(Ct s).length<=38:=by unfold Ct;rw[dK];omega
 refine Dv b5 λR2 y a7=>?_
 have h:=h.le y;have D:=y _ _ D;have hm:=hm.le y;rw[DZ hp];refine H4 (by kernel_rfl) ?_;refine jc (A:=(b1,C 98 [Pt hb]) :: (b3,C 160 [.map (some Q)]) :: (hb,C 103 (eHp s wv tv mv thv ov pv mb (SN))) :: (Q,b4) :: []) (Pp D hm S.nz a7 Z (by simp;omega) (.inl ⟨rfl,rfl,rfl⟩) (by simpa using a9)) ?_;rintro r R3 A3 _ ⟨hR,W⟩;subst hR;cases H:Aq l (Ct s) [] with
 | none=>
  rw[H] at W;obtain⟨rfl,rfl⟩:=W;exact DG (Ao y ⟨rfl,rfl⟩)
 | some out=>
  rw[H] at W;obtain⟨rfl,v2,T,A2,a1,a0,rfl⟩:=W;rw[z_o];have M0:E4 l out:=E4.nil.all S H;refine CQ ?_;refine jlp (λm vs R' D'=>R' = R3/\∃(i:Nat) (x:List Int) (v2:Value) (T:Obj) (A2:Chs),i<=x.length/\m = l.length + 2 - i/\BI l (l.length + 2 - i) i x = BI l (l.length + 2) 0 out/\E4 l x/\SO x v2 A2/\MpI T (·∈x)/\D' = (b1,C 98 [Pt hb]) :: (b3,C 160 [.map (some Q)]) :: (hb,C 103 (eHp s wv tv mv thv ov pv mb v2)) :: (Q,T) :: (A2 ++ F)/\vs = [Pt b1,.func (.func 166) #[] #[Pt b1,Pt b3],I i])
   (n:=l.length + 2) ⟨rfl,0,out,v2,T,A2,Z,Z,rfl,M0,a1,a0,rfl,rfl⟩ ?_
  clear a0 a1 M0 H;rintro m e R4 D4 K ⟨hR,i,x,v3,b6,A3,hi,c5,j,M,O,a5,hD,he⟩ hK;subst hR;refine z_W ?_;clear hD;have b9:=M.len;obtain⟨a3,c3,rfl⟩:=O.sln;refine jl rfl (jl (v:=.slice a3 x.length c3) rfl (jln (jlt (jif (λhc=>?_) (λhc=>?_)))));rotate_left
  .have hc:=z_g hc;obtain⟨q,W⟩:∃q,l.length + 2 - i = q + 1:=⟨l.length + 1 - i,Z⟩;rw[W,CJ Z] at j;refine Al [(hb,C 103 (eHp s wv tv mv thv ov pv mb (.slice a3 x.length c3)))] (G:=A3 ++ F) ?_;refine Ao (A:=(hb,C 103 (eHp s wv tv mv thv ov pv mb (.slice a3 x.length c3))) :: A3) y ?_;rw[<- j];exact⟨rfl,_,A3,O,rfl⟩
  have hc:i < x.length:=by have:=z_f hc;omega
  obtain⟨t,ht⟩:=M.th _ (dL hc);obtain⟨b2,c7⟩:=BF ht;obtain⟨q,W⟩:∃q,l.length + 2 - i = q + 1:=⟨l.length + 1 - i,Z⟩;rw[W,C9 hc ht] at j;refine jl rfl (jl rfl (jl rfl (jl rfl ?_)));refine VX O hc ?_;refine @Ot _ _ _ mb o l x[i] false (Li.fz D) hm (λe=>by rw[ht] at e;cases e) (λt2 v e hv=>?_);rw[ht] at e;cases e;obtain⟨rv,nv,rfl,a8,c6⟩:=hv;refine jfd rfl (H4 (by kernel_rfl) ?_);have c8:=tb t b2;refine jc (A:=(b1,C 98 [Pt hb]) :: (b3,C 160 [.map (some Q)]) :: (hb,C 103 (eHp s wv tv mv thv ov pv mb (.slice a3 x.length c3))) :: (Q,b6) :: A3) (Pp D hm S.nz a8 Z Z O a5) ?_;rintro r R5 A5 _ ⟨hR,N⟩;subst hR;cases H:Aq l t.refs x with
  | none=>
   rw[H] at N j;obtain⟨rfl,rfl⟩:=N;refine DG (Ao (A:=[]) y ?_);rw[<- j];exact⟨rfl,rfl⟩
  | some a2=>
   rw[H] at N j;obtain⟨rfl,v4,a4,A4,b0,a6,rfl⟩:=N;have M2:=M.all S H;have c9:=M2.len;have c0:=EG H;refine CQ (jad ?_);refine Al [(b1,C 98 [Pt hb]),(b3,C 160 [.map (some Q)]),(hb,C 103 (eHp s wv tv mv thv ov pv mb v4)),(Q,a4)] (G:=A4 ++ F) ?_;refine hK q _ _ _ Z ⟨rfl,i + 1,a2,v4,a4,A4,Z,Z,?_,M2,b0,a6,rfl,rfl⟩;rw[<- j,z_o];congr 1;omega
end st
def HpV (R:RM) (s:Sm.Ah) (wv tv mv thv ov pv:Value) (l:List AQ) (met:List Int) (hb mb:Nat) (v:Value):Prop:=∃o,R hb = some (C 103 (eHp s wv tv mv thv ov pv mb v))/\R mb = some o/\MpT R o l/\Ay R v met
def ZN (r:Option (List AQ × List Int)) (s:Sm.Ah) (wv tv mv thv ov pv:Value) (x:Value) (R:RM):Prop:=match r with
 | none=>x = .pointer none
 | some (l,met)=>∃hb mb v,x = Pt hb/\HpV R s wv tv mv thv ov pv l met hb mb v
section st
variable {R:RM} {s:Sm.Ah} {wv tv mv thv ov pv:Value}
theorem NA {l:List AQ} (h:Ey s = some l) (j:C8 s l = false):CD s = none:=by
 unfold CD;rw[h];dsimp only;rw[if_neg (by rw[j];decide)]
set_option maxHeartbeats 2000000 in
set_option maxRecDepth 4000 in
theorem IU (h:SF R s wv tv mv thv ov pv):Fn P MP [.agg (eSt s wv tv mv thv ov pv).toArray] R [] (λr R' A=>A = []/\ZN (CD s) s wv tv mv thv ov pv r R'):=by
 refine TT λF=>?_
 refine z_1 ?_;refine ja λb=>?_
 rw[show cl (.agg (eSt s wv tv mv thv ov pv).toArray) = eSt s wv tv mv thv ov pv from rfl];refine jla (l:=eSt s wv tv mv thv ov pv) (by exact z_n 13) rfl ?_;refine jc (A:=[]) (Sq h) ?_;rintro _ R1 _ a0 ⟨rfl,hq⟩;refine Pa ?_;cases Q:Ey s with
 | none=>
  rw[Q] at hq;obtain rfl:_ = Value.tuple #[.map none,.bool false]:=hq;have hn:CD s = none:=by unfold CD;rw[Q]
  refine jex rfl (jex rfl ?_);refine jor [Pt b,.map none] true (λO j=>?_) (λe c u y he=>?_)
  .exact jtf (j _ _ _ DN rfl)
  refine z_V ?_;refine jor [Pt b,.map none] true (λO j=>?_) (λe c u y he=>?_)
  .rw[y];exact jtf (j _ _ _ DN rfl)
  refine z_V ?_;refine jor [Pt b,.map none] true (λO j=>?_) (λe c u y he=>?_)
  .rw[y];exact jtf (j _ _ _ DN rfl)
  refine z_V ?_;refine jor [Pt b,.map none] true (λO j=>?_) (λe c u y he=>?_)
  .rw[y];exact jtf (j _ _ _ DN rfl)
  refine z_V ?_;refine jor [Pt b,.map none] true (λO j=>?_) (λe c u y he=>?_)
  .rw[y];exact jtf (j _ _ _ DN rfl)
  refine z_V ?_;refine jor [Pt b,.map none] true (λO j=>?_) (λe c u y he=>?_)
  .rw[y];exact jtf (j _ _ _ DN rfl)
  refine z_V ?_;rw[y];refine DG (Ao (A:=[]) a0 ⟨rfl,?_⟩);rw[hn];exact rfl
 | some l=>
  rw[Q] at hq;obtain⟨mb,o,a4,hm,rfl⟩:=hq;have d3:=h;have h:=h.le a0;have bnd:TB l/\l.length<=192/\(l.map AQ.at_).Nodup:=by
   have H:=Q;unfold Ey at H;split at H;rotate_left
   .cases H
   unfold BJ at H;have h2:=NF (by have:=h.b.wl;have:=h.b.t1;omega) H;obtain⟨h3,h4⟩:=FP H;have:=h.b.t1;rw[fh] at h2;exact⟨h2.1,Z,MJ h3 λx hx=>(h4 x hx).2.1⟩
  obtain⟨tb,d2,nd⟩:=bnd;refine jex rfl (jex rfl ?_);refine jor [Pt b,.map (some mb)] (!CP s l) (λO j=>?_) (λe c u y he=>?_)
  .exact jff (jla (l:=eSt s wv tv mv thv ov pv) (by exact z_n 13) rfl (jrp (RL h a4 hm tb nd) (j _ _ _ CH rfl)))
  refine z_V ?_;refine jor [Pt b,.map (some mb)] ((!CP s l) || (decide (s.Ae < 0))) (λO j=>?_) (λe c u y he=>?_)
  .rw[y];refine jgO j λH N=>jl (v:=I s.Ae) rfl (jlt N)
  refine z_V ?_;refine jor [Pt b,.map (some mb)] ((!CP s l || decide (s.Ae < 0)) || (decide (s.Ae > 3))) (λO j=>?_) (λe c u y he=>?_)
  .rw[y];refine jgO j λH N=>jl (v:=I s.Ae) rfl (jgr N)
  refine z_V ?_;refine jor [Pt b,.map (some mb)] ((!CP s l || decide (s.Ae < 0) || decide (s.Ae > 3)) || (decide ((s.AB.length:Int) < 1))) (λO j=>?_) (λe c u y he=>?_)
  .rw[y];refine jgO j λH N=>jl (v:=thv) rfl (Bf h.c.th.sl (jlt N))
  refine z_V ?_;refine jor [Pt b,.map (some mb)] ((!CP s l || decide (s.Ae < 0) || decide (s.Ae > 3) || decide ((s.AB.length:Int) < 1)) || (decide ((s.AB.length:Int) > 3))) (λO j=>?_) (λe c u y he=>?_)
  .rw[y];refine jgO j λH N=>jl (v:=thv) rfl (Bf h.c.th.sl (jgr N))
  refine z_V ?_;refine jor [Pt b,.map (some mb)] ((!CP s l || decide (s.Ae < 0) || decide (s.Ae > 3) || decide ((s.AB.length:Int) < 1) || decide ((s.AB.length:Int) > 3)) || (decide ((s.AJ.length:Int) > 8))) (λO j=>?_) (λe c u y he=>?_)
  .rw[y];refine jgO j λH N=>jl (v:=pv) rfl (Bf h.c.p.sl (jgr N))
  refine z_V ?_;rw[y];have a9:C8 s l = false->∀{D:Chs},[Sf D F]->J R1 D (Fj R F (λr R' A=>A = []/\ZN (CD s) s wv tv mv thv ov pv r R') (.pointer none)):=λT D _=>Ao (A:=[]) a0 ⟨rfl,by rw[NA Q T];exact rfl⟩
  refine jif (λh0=>?_) (λh0=>?_)
  .refine a9 ?_;rw[fU];intro T;unfold C8 at T;simp only[z_b,z_d] at T;obtain⟨⟨⟨⟨⟨⟨⟨g1,g2⟩,g3⟩,g4⟩,g5⟩,g6⟩,g7⟩,g8⟩:=T;rw[g1] at h0;simp only[ga,eU,du,z_d] at h0;omega
  simp only[db,eL,decide_eq_false_iff_not] at h0;obtain⟨⟨⟨⟨⟨g1,g2⟩,g3⟩,g4⟩,g5⟩,g6⟩:=h0;have S:=Tt Q g1;have n1:=h.b.n1;clear y he;refine Ac (λvs R' D'=>R' = R1/\s.AB.all Fs = true/\D' = (b,C AW (eSt s wv tv mv thv ov pv)) :: F/\vs = [Pt b,.map (some mb)]) (λK hK=>?_) ?_
  .refine jl (v:=thv) rfl (Bf h.c.th.sl ?_);refine jcI hK λK2 a5=>?_
   refine jlp (λm vs R' D'=>R' = R1/\∃(i:Nat),i<=s.AB.length/\m = s.AB.length - i/\(s.AB.take i).all Fs = true/\D' = (b,C AW (eSt s wv tv mv thv ov pv)) :: F/\vs = [Pt b,.map (some mb),thv,I s.AB.length,I i]) (n:=s.AB.length) ⟨rfl,0,Z,rfl,rfl,rfl,rfl⟩ ?_;rintro m e R2 D2 K3 ⟨hR,i,hi,c5,a1,hD,he⟩ a6;subst hR;refine z_W ?_;clear hD;refine jlt (jif (λhc=>?_) (λhc=>?_));rotate_left
   .have hc:=z_g hc;rw[dO Z] at a1;exact a5 _ _ _ ⟨rfl,a1,rfl,rfl⟩
   have hc:i < s.AB.length:=by have:=z_f hc;omega
   refine jtr h.c.th hc λb2 o2 ty cs rv b0 b7 c7 b5=>?_
   refine DR (l:=[rv,I (s.AB[i]).next,.bool (s.AB[i]).busy,I (s.AB[i]).Am]) b7 c7 b5 (ja λb3=>?_);obtain⟨ra,rc,rfl⟩:=b0.sl;refine jS ([.slice ra (s.AB[i]).AD.length rc,I (s.AB[i]).next,.bool (s.AB[i]).busy,I (s.AB[i]).Am]) ?_;refine jor [Pt b,.map (some mb),Pt b3,thv,I s.AB.length,I (i:Int)] ((decide (((s.AB[i]).AD.length:Int) > 8)) || (decide ((s.AB[i]).Am < 0))) (λO j=>?_) (λe c u y he=>?_)
   .refine jl (v:=.slice ra (s.AB[i]).AD.length rc) rfl (jln (jgr (jgO j λH N=>jl (v:=I (s.AB[i]).Am) rfl (jlt N))))
   refine z_V ?_;refine jor [Pt b,.map (some mb),thv,I s.AB.length,I (i:Int)] ((decide (((s.AB[i]).AD.length:Int) > 8) || decide ((s.AB[i]).Am < 0)) || (decide ((s.AB[i]).Am > 2))) (λO j=>?_) (λe c u y he=>?_)
   .rw[y];refine jgO j λH N=>jl (v:=I (s.AB[i]).Am) rfl (jgr N)
   refine z_V ?_;rw[y];have b6:(decide (((s.AB[i]).AD.length:Int) > 8) || decide ((s.AB[i]).Am < 0) || decide ((s.AB[i]).Am > 2)) = !Fs s.AB[i]:=by
    unfold Fs;rw[eY];simp only[du,dp,gM,z_d,decide_eq_false_iff_not];omega
   rw[b6];refine jif (λH=>?_) (λH=>?_)
   .refine a9 ?_;rw[fU];intro T;unfold C8 at T;simp only[z_b] at T;have:=df.1 T.1.2 _ (dL hc);rw[this] at H;cases H
   .refine jad (BV ?_);refine a6 (s.AB.length - (i + 1)) _ _ _ Z ⟨rfl,i + 1,Z,rfl,?_,rfl,rfl⟩;rw[dJ hc,gW,a1];simpa using H
  rintro e R2 D2 ⟨hR,a1,hD,he⟩;subst hR;refine z_W ?_;clear hD;refine Ac (λvs R' D'=>R' = R2/\s.AJ.all (E6 s l) = true/\D' = (b,C AW (eSt s wv tv mv thv ov pv)) :: F/\vs = [Pt b,.map (some mb)]) (λK hK=>?_) ?_
  .refine jl (v:=pv) rfl (Bf h.c.p.sl ?_);refine jcI hK λK2 a5=>?_
   refine jlp (λm vs R' D'=>R' = R2/\∃(i:Nat),i<=s.AJ.length/\m = s.AJ.length - i/\(s.AJ.take i).all (E6 s l) = true/\D' = (b,C AW (eSt s wv tv mv thv ov pv)) :: F/\vs = [Pt b,.map (some mb),pv,I s.AJ.length,I i]) (n:=s.AJ.length) ⟨rfl,0,Z,rfl,rfl,rfl,rfl⟩ ?_;rintro m e R3 D3 K3 ⟨hR,i,hi,c5,W,hD,he⟩ a6;subst hR;refine z_W ?_;clear hD;refine jlt (jif (λhc=>?_) (λhc=>?_));rotate_left
   .have hc:=z_g hc;rw[dO Z] at W;exact a5 _ _ _ ⟨rfl,W,rfl,rfl⟩
   have hc:i < s.AJ.length:=by have:=z_f hc;omega
   have c9:=h.b.pv _ (dL hc);refine Bk h.c.p Z Z ?_;simp only[dG];refine aj (Li.fz a4) hm λn nb rv nv b1 b9 b0 c6=>?_
   obtain⟨ra,rc,rfl⟩:=b0.sl;obtain⟨na,nc,rfl⟩:=c6.sl;refine jex rfl (jex rfl (ja λb3=>?_));refine jS (eTh n (.slice ra n.refs.length rc) (.slice na n.nums.length nc)) ?_;refine jor [Pt b,.map (some mb),I (s.AJ[i]),pv,I s.AJ.length,I (i:Int)] ((!nb) || (n.moved != s.AJ[i])) (λO j=>?_) (λe c u y he=>?_)
   .refine jgO j λH N=>jl (v:=I n.moved) rfl (jne N)
   refine z_V ?_;refine jor [Pt b,.map (some mb),pv,I s.AJ.length,I (i:Int)] ((!nb || (n.moved != s.AJ[i])) || (Dk s s.AJ[i])) (λO j=>?_) (λe c u y he=>?_)
   .rw[y];refine jgO j λH N=>jla (l:=eSt s wv tv mv thv ov pv) (by exact z_n 13) rfl (jrp (N9 h c9.1 Z) N)
   refine z_V ?_;rw[y];have c8:(!nb || (n.moved != s.AJ[i]) || Dk s s.AJ[i]) = !E6 s l s.AJ[i]:=by
    unfold E6;cases nb with
    | false=>
     have:Ax l s.AJ[i] = none:=by
      cases h:Ax l s.AJ[i] with
      | none=>rfl
      | some x=>rw[h] at b1;cases b1
     rw[this];rfl
    | true=>
     rw[b9 rfl];dsimp only;unfold bne;cases n.moved == s.AJ[i]<;>cases Dk s s.AJ[i]<;>rfl
   rw[c8];refine jif (λH=>?_) (λH=>?_)
   .refine a9 ?_;rw[fU];intro T;unfold C8 at T;simp only[z_b] at T;have:=df.1 T.2 _ (dL hc);rw[this] at H;cases H
   .refine jad (BV ?_);refine a6 (s.AJ.length - (i + 1)) _ _ _ Z ⟨rfl,i + 1,Z,rfl,?_,rfl,rfl⟩;rw[dJ hc,gW,W];simpa using H
  rintro e R3 D3 ⟨hR,W,hD,he⟩;subst hR;refine z_W ?_;clear hD;have a8:C8 s l = true:=by
   unfold C8;simp only[z_b,z_d];exact⟨⟨⟨⟨⟨⟨⟨g1,Z⟩,Z⟩,Z⟩,Z⟩,Z⟩,a1⟩,W⟩
  have c0:CD s = (Dg s l).map λm=>(l,m):=by unfold CD;rw[Q];dsimp only;rw[if_pos a8]
  rw[c0];refine jla (l:=eSt s wv tv mv thv ov pv) (by exact z_n 13) rfl ?_;refine jbd (cs:=eHp s wv tv mv thv ov pv mb (SN)) rfl rfl (ja λhb=>?_);rw[show cl (.agg (eHp s wv tv mv thv ov pv mb (SN)).toArray) = eHp s wv tv mv thv ov pv mb (SN) from rfl];refine jc (A:=[(hb,C 103 (eHp s wv tv mv thv ov pv mb (SN)))]) (Vk h a4 hm S Z tb W) ?_;intro r R4 A4 a2 hq;cases b4:Dg s l with
  | none=>
   rw[b4] at hq;obtain⟨rfl,rfl⟩:=hq;exact DG (Ao (A:=[]) (a0.trans a2) ⟨rfl,rfl⟩)
  | some d4=>
   rw[b4] at hq;obtain⟨rfl,v2,A2,d1,rfl⟩:=hq;refine CQ ?_;refine Al A2 (G:=[(hb,C 103 (eHp s wv tv mv thv ov pv mb v2))] ++ (b,C AW (eSt s wv tv mv thv ov pv)) :: F) ?_;refine Dv d1 λR5 a7 c4=>?_
   refine B9 (b:=hb) λR6 a3 b8=>?_
   exact Ao (A:=[]) (a0.trans (a2.trans (a7.trans a3))) ⟨rfl,hb,mb,v2,rfl,o,b8,a3 _ _ (a7 _ _ (a2 _ _ a4)),hm.le (a2.trans (a7.trans a3)),c4.le a3⟩
end st
end Go.Lf
end
section
namespace Go.Proofs
def Tryz.lays189_ren:Go.Shelf.Ren:=⟨λ | 189=>137 | 125=>169 | 257=>168 | 128=>193 | 129=>194 | 294=>185 | 295=>186 | 296=>187 | 297=>188 | 298=>189 | 299=>190 | 216=>138 | 300=>191 | 301=>192 | 328=>221 | 329=>222 | 330=>223 | 331=>224 | 332=>225 | 215=>170 | 343=>235 | n=>n,λ | 28=>30 | 3=>3 | 46=>179 | 0=>0 | 51=>206 | 53=>208 | 4=>4 | 183=>201 | 182=>200 | 131=>120 | 5=>5 | 9=>9 | 218=>220 | 222=>224 | 228=>232 | 229=>63 | n=>n,λ | n=>n⟩
theorem Tryz.lays189:Go.Proofs.Lays.n189 Tryz.prog Tryz.lays189_ren:={
 mixed:=by kernel_rfl
 f125:=Tryz.func169.trans (congrArg some (by kernel_rfl))
 f128:=Tryz.func193.trans (congrArg some (by kernel_rfl))
 f129:=Tryz.func194.trans (congrArg some (by kernel_rfl))
 f189:=Tryz.func137.trans (congrArg some (by kernel_rfl))
 f215:=Tryz.func170.trans (congrArg some (by kernel_rfl))
 f216:=Tryz.func138.trans (congrArg some (by kernel_rfl))
 f257:=Tryz.func168.trans (congrArg some (by kernel_rfl))
 f294:=Tryz.func185.trans (congrArg some (by kernel_rfl))
 f295:=Tryz.func186.trans (congrArg some (by kernel_rfl))
 f296:=Tryz.func187.trans (congrArg some (by kernel_rfl))
 f297:=Tryz.func188.trans (congrArg some (by kernel_rfl))
 f298:=Tryz.func189.trans (congrArg some (by kernel_rfl))
 f299:=Tryz.func190.trans (congrArg some (by kernel_rfl))
 f300:=Tryz.func191.trans (congrArg some (by kernel_rfl))
 f301:=Tryz.func192.trans (congrArg some (by kernel_rfl))
 f328:=Tryz.func221.trans (congrArg some (by kernel_rfl))
 f329:=Tryz.func222.trans (congrArg some (by kernel_rfl))
 f330:=Tryz.func223.trans (congrArg some (by kernel_rfl))
 f331:=Tryz.func224.trans (congrArg some (by kernel_rfl))
 f332:=Tryz.func225.trans (congrArg some (by kernel_rfl))
 f343:=Tryz.func235.trans (congrArg some (by kernel_rfl))
 t0:=Tryz.underlying0
 a0:=Tryz.isAgg0
 z0:=Tryz.sizeOf0
 v0:=Tryz.zeroValue0
 t3:=Tryz.underlying3
 a3:=Tryz.isAgg3
 z3:=Tryz.sizeOf3
 v3:=Tryz.zeroValue3
 t4:=Tryz.underlying4
 a4:=Tryz.isAgg4
 z4:=Tryz.sizeOf4
 v4:=Tryz.zeroValue4
 t5:=Tryz.underlying5
 a5:=Tryz.isAgg5
 z5:=Tryz.sizeOf5
 v5:=Tryz.zeroValue5
 t9:=Tryz.underlying9
 a9:=Tryz.isAgg9
 z9:=Tryz.sizeOf9
 v9:=Tryz.zeroValue9
 t28:=Tryz.underlying30
 a28:=Tryz.isAgg30
 z28:=Tryz.sizeOf30
 v28:=Tryz.zeroValue30
 t46:=Tryz.underlying179
 a46:=Tryz.isAgg179
 z46:=Tryz.sizeOf179
 v46:=Tryz.zeroValue179
 t51:=Tryz.underlying206
 a51:=Tryz.isAgg206
 z51:=Tryz.sizeOf206
 v51:=Tryz.zeroValue206
 t53:=Tryz.underlying208
 a53:=Tryz.isAgg208
 z53:=Tryz.sizeOf208
 v53:=Tryz.zeroValue208
 t131:=Tryz.underlying120
 a131:=Tryz.isAgg120
 z131:=Tryz.sizeOf120
 v131:=Tryz.zeroValue120
 t182:=Tryz.underlying200
 a182:=Tryz.isAgg200
 z182:=Tryz.sizeOf200
 v182:=Tryz.zeroValue200
 t183:=Tryz.underlying201
 a183:=Tryz.isAgg201
 z183:=Tryz.sizeOf201
 v183:=Tryz.zeroValue201
 t218:=Tryz.underlying220
 a218:=Tryz.isAgg220
 z218:=Tryz.sizeOf220
 v218:=Tryz.zeroValue220
 t222:=Tryz.underlying224
 a222:=Tryz.isAgg224
 z222:=Tryz.sizeOf224
 v222:=Tryz.zeroValue224
 t228:=Tryz.underlying232
 a228:=Tryz.isAgg232
 z228:=Tryz.sizeOf232
 v228:=Tryz.zeroValue232
 t229:=Tryz.underlying63
 a229:=Tryz.isAgg63
 z229:=Tryz.sizeOf63
 v229:=Tryz.zeroValue63 }
end Go.Proofs
namespace Go.Lf
open Go Sm Go.Sort
theorem St.grow {h:DV} {R:RM} {D:Chs} (x:St h R D) (A:Array Obj):St (h ++ A) R D:=by
 have j:∀b o,h[b]? = some o->(h ++ A)[b]? = some o:=λb o hb=>by
  have:=(fX.1 hb).1;rw[Array.getElem?_append_left this];exact hb
 exact⟨λb o hb=>j b o (x.rd b o hb),λb o y=>⟨j b o (x.at_ b o y).1,(x.at_ b o y).2⟩,x.nd⟩
def LI (l:List Int):List Int:=l.mergeSort λx y=>decide (x<=y)
theorem JZ (l:List Int):(LI l).length = l.length:=(List.mergeSort_perm l _).length_eq
theorem Zi {R:RM} {l:List Int} {b c:Nat} {sp:List Value} (hl:l.length < 1000000) :
  Fn P G3 [S0 b l.length c] R [(b,C Ab (l.map I ++ sp))] (λv Q A=>Q = R/\v = U/\A = [(b,C Ab ((LI l).map I ++ sp))]):=by
 intro F h O w hw;subst hw;have hb:=(O.at_ b (C Ab (l.map I ++ sp)) V).1;have G:b < w.heap.size:=(fX.1 hb).1;have W:Holds (Value.int .i64) w b 0 l.toArray:=λj hj=>by
  have D : j < l.length:=by simpa using hj
  refine⟨?_,by simp[World.frozen?,hb]⟩;rw[da];show w.cell? ⟨b,j,none⟩ = _;rw[Uh];unfold hc;rw[hb];show ((l.map I ++ sp).toArray)[j]? = _;rw[List.getElem?_toArray,fC (by simpa using D),eH,dH D];simp[D]
 refine (Go.Proofs.Any.slices_Sort_int Go.Proofs.Tryz.lays189 b 0 c l w W G Z).mono ?_;rintro e w' ⟨rfl,n,os,rfl⟩;refine⟨_,rfl,⟨rfl,rfl⟩,R,[(b,C Ab ((LI l).map I ++ sp))],RM.le.refl R,?_,rfl,rfl,rfl⟩;have K:(w.heap.modify b (onCells (putCells (Value.int .i64) 0 (LI l).toArray)))[b]? = some (C Ab ((LI l).map I ++ sp)):=by
  rw[fo,if_pos rfl,hb];simp only[fg,onCells];congr 2;apply Array.toList_inj.1;apply List.ext_getElem?;intro k;unfold putCells;rw[fE,Array.getElem?_mapIdx,List.getElem?_toArray];by_cases H:k < l.length
  .have y:k < (LI l).length:=by rw[JZ];exact H
   rw[fC (by simpa using H),fC (by simpa using y),eH,eH,dH H,dH y];simp[y]
  .have y:¬ k < (LI l).length:=by rw[JZ];exact H
   rw[fZ (by simpa using H),fZ (by simpa using y),dN,dN,JZ];cases sp[k - l.length]? with
   | none=>rfl
   | some x=>simp[y]
 have T:St (w.heap.modify b (onCells (putCells (Value.int .i64) 0 (LI l).toArray))) R ([(b,C Ab ((LI l).map I ++ sp))] ++ F):=
  O.turn (b:=b) (o:=C Ab (l.map I ++ sp)) K λb' N=>by rw[fo,if_neg (λe=>N e.symm)]
 exact T.grow os
theorem X9:∀{a b:List Int},a.Pairwise (· < ·)->b.Pairwise (· < ·)->(∀x,x∈a↔x∈b)->a = b
 | [],[],_,_,_=>rfl
 | [],y :: b,_,_,h=>absurd ((h y).2 (.head _)) V
 | x :: a,[],_,_,h=>absurd ((h x).1 (.head _)) V
 | x :: a,y :: b,ha,hb,h=>by
  rw[gE] at ha hb;have G:x = y:=by
   rcases dX.1 ((h x).1 (.head _)) with e | e
   .exact e
   .rcases dX.1 ((h y).2 (.head _)) with A | A
    .exact A.symm
    .have:=hb.1 x e;have:=ha.1 y A;omega
  subst G;rw[X9 ha.2 hb.2 λz=>?_];have D:=h z;simp only[dX] at D;constructor
  .intro j;rcases D.1 (.inr j) with e | e
   .subst e;have:=ha.1 z j;omega
   .exact e
  .intro j;rcases D.2 (.inr j) with e | e
   .subst e;have:=hb.1 z j;omega
   .exact e
theorem Y8 {l:List Int} (h:l.Nodup):LI l = Aa l:=by
 obtain⟨j,A⟩:=Bt h;refine X9 ?_ j λx=>?_
 .have p:=List.mergeSort_perm l (λx y=>decide (x<=y));have s:(LI l).Pairwise λx y=>decide (x<=y) = true:=List.pairwise_mergeSort (λa b c j A=>by simp at *;omega) (λa b=>by simp;omega) l
  have nd:(LI l).Nodup:=p.nodup_iff.2 h;exact (s.and nd).imp λ⟨a,b⟩=>by have:=z_f a;omega
 .rw[A];exact (List.mergeSort_perm l _).mem_iff
end Go.Lf
end
section
namespace Go.Lf
open Go Sm
section rules
variable {R:RM} {D:Chs} {k:Value->M}
theorem Zv {a b:Nat} {x y:Value} (j:∀w,(Go.convert a b x).run P w = .ok y w) (H:J R D (k y)):J R D (X P (Go.convert a b x) k):=by
 intro h A w G;rw[j];subst G;exact⟨BH.refl _,H _ A⟩
theorem jix {s:ByteArray} {i n:Int} {kd:IntKind} (h0:0<=i/\i.toNat < s.size) (j:((s[i.toNat]'h0.2).toNat:Int) = n) (H:J R D (k (.int .u8 n))):J R D (IX (.string s) (.int kd i) k):=λh x=>⟨h0,by rw[j];exact H h x⟩
end rules
set_option maxRecDepth 4000 in
theorem V8:Pu Fm [.int .u64 0] (I 0):=by
 intro R;refine JN λF=>?_
 refine z_1 ?_;refine Bv [.int .u64 0,I 0] (λx j=>?_) (λe he=>?_)
 .exact j
 refine z_V ?_;refine Bv [.int .u64 0,I 0] (λx j=>?_) (λe he=>?_)
 .exact j
 refine z_V ?_;refine Bv [.int .u64 0,I 0] (λx j=>?_) (λe he=>?_)
 .exact j
 refine z_V ?_;refine @Zv _ _ _ 208 5 _ (.int .u8 0) (λw=>by kernel_rfl) (jix (n:=0) ⟨δ,δ⟩ δ (@Zv _ _ _ 5 3 _ (I 0) (λw=>by kernel_rfl) (D0 ⟨δ,δ⟩ (Ao (A:=[]) (RM.le.refl R) rfl))))
theorem ZH:Pu Gq [.int .u64 0] (I 0):=by
 intro R;refine LE λF=>?_
 refine z_1 ?_;exact CQ (jp V8 (Ao (A:=[]) (RM.le.refl R) rfl))
theorem YG:Pu DU [SN,I 0,I 0] U:=by
 intro R;refine F9 λF=>?_
 refine z_3 ?_;refine D0 ⟨δ,δ⟩ (jlp (λm D x j=>x = R/\j = [] ++ F/\D = [SN,I 0,I 0,I 1]) (n:=0) ⟨rfl,rfl,rfl⟩ ?_);rintro m e H G K ⟨y,hD,he⟩ _;subst y;refine z_W ?_;exact jlt (CQ (Ao (A:=[]) (RM.le.refl _) rfl))
theorem ZI:Pu EJ [SN,I 0,I 0,I 0] U:=by
 intro R;refine GK λF=>?_
 refine z_4 ?_;refine jlp (λm G D j=>D = R/\j = [] ++ F/\∃x y,G = [SN,I 0,I 0,I 0,x,y]) (n:=0) ⟨rfl,rfl,_,_,rfl⟩ ?_;rintro m e T O K ⟨N,hD,x,y,he⟩ _;subst N;refine z_W ?_;refine Ac (λG D j=>False) (λQ H=>(Sb ⟨δ,δ⟩ (jle (DG (jp YG (Ao (A:=[]) (RM.le.refl _) rfl)))))) (λe D j h=>h.elim)
theorem WZ:Pu G3 [SN] U:=by
 intro R;refine Ns λF=>?_
 refine z_1 ?_;refine jln ?_;refine @Zv _ _ _ 3 179 _ (.int .u64 0) (λw=>by kernel_rfl) ?_;exact jp ZH (jp ZI (Ao (A:=[]) (RM.le.refl R) rfl))
end Go.Lf
end
section
namespace Sm
open Go.Lf
theorem Rt {l:List AQ} (S:Stl l):∀{n i:Nat} {out r:List Int},E4 l out->BI l n i out = some r->E4 l r
 | 0,i,out,r,M,h=>by cases h
 | n + 1,i,out,r,M,h=>by
  by_cases c:i < out.length
  .obtain⟨t,x⟩:=M.th _ (dL c);rw[C9 c x] at h;cases j:Aq l t.refs out with
   | none=>rw[j] at h;cases h
   | some o=>rw[j] at h;exact Rt S (M.all S j) h
  .rw[CJ Z] at h;cases h;exact M
structure HpF (s:Ah) (l:List AQ) (met:List Int):Prop where
 ths:Ey s = some l
 head:C8 s l = true
 re:Dg s l = some met
 S:Stl l
 M:E4 l met
 asc:l.Pairwise (λx y=>x.at_ + AF x.sh<=y.at_)
theorem Cq {s:Ah} {l:List AQ} {j:List Int} (h:CD s = some (l,j)):HpF s l j:=by
 unfold CD at h;cases y:Ey s with
 | none=>rw[y] at h;cases h
 | some K=>
  rw[y] at h;dsimp only at h;split at h;rotate_left
  .cases h
  rename_i H;obtain⟨m,x,e⟩:=gA.1 h;cases e;have D:=H;unfold C8 at D;simp only[z_b] at D;have S:=Tt y D.1.1.1.1.1.1.1;have M:E4 l j:=by
   rw[DZ D.2] at x;cases G:Aq l (Ct s) [] with
   | none=>rw[G] at x;cases x
   | some out=>rw[G] at x;exact Rt S (E4.nil.all S G) x
  refine⟨y,H,x,S,M,?_⟩;have A:=y;unfold Ey at A;split at A
  .exact (FP A).1
  .cases A
end Sm
namespace Go.Lf
open Go Sm
section st
variable {R:RM} {s:Sm.Ah} {wv tv mv thv ov pv:Value} {l:List AQ} {met:List Int}
theorem QU {hb mb:Nat} {v:Value} (K:HpV R s wv tv mv thv ov pv l met hb mb v) (nd:met.Nodup) (hl:met.length < 1000000):Fn P Hx [Pt hb] R [] (λv D A=>D = R/\SO (Aa met) v A):=by
 refine Ng λF=>?_
 refine z_1 ?_;obtain⟨o,G,h2,h3,H⟩:=K;refine jnc (jfo (jlr G rfl (jc (Dq H hl) ?_)));rintro x T O _ ⟨j,N,_⟩;subst j;rcases N with ⟨rfl,rfl,rfl⟩ | ⟨b,c,sp,hc,hsp,rfl,rfl⟩
 .exact jp WZ (Ao (RM.le.refl _) ⟨rfl,.inl ⟨rfl,rfl,rfl⟩⟩)
 .refine jc (A:=[(b,C Ab (met.map I ++ sp))]) (Zi hl) ?_;rintro v2 W Q _ ⟨j,rfl,rfl⟩;subst j;have e:=Y8 nd;have y:=JZ met;rw[e] at y ⊢;refine Ao (RM.le.refl _) ⟨rfl,.inr ⟨b,c,sp,Z,Z,by rw[y],rfl⟩⟩
theorem QW (w:World) (x y:Operand) (hb:Nat):(do eqGuard .eql 98 x y (Pt hb) (.pointer none);binOp .eql 98 (Pt hb) (.pointer none):Sem Value).run P w = .ok (.bool false) w:=by kernel_rfl
theorem Pw (w:World) (x y:Operand):(do eqGuard .eql 98 x y (.pointer none) (.pointer none);binOp .eql 98 (.pointer none) (.pointer none):Sem Value).run P w = .ok (.bool true) w:=by kernel_rfl
theorem jxr {R:RM} {D:Chs} {k:Value->M} {s:Sem Value} {y:Value} (j:∀w,s.run P w = .ok y w) (H:J R D (k y)):J R D (X P s k):=by
 intro h x w A;rw[j];subst A;exact⟨BH.refl _,H _ x⟩
end st
end Go.Lf
end
section
namespace Go.Lf
open Go Sm
section rules
variable {R:RM} {D:Chs} {k:Value->M}
theorem VT {v:Value} {l:List AQ} {i:Nat} (h:Tgs R v l) (x:i < l.length) (H:J R D (k (I (l[i]).at_))):J R D (IA 6 v (I (i:Int)) λp=>FO 0 p λq=>L1 q k):=
 jtg h x λ_ _ _ _ _ _ _ _ hb _ j=>jfo (jlr hb (Bm j rfl) H)
theorem Yg {v:Value} {l:List AQ} {i:Nat} (h:Tgs R v l) (x:i < l.length) (H:J R D (k (I (l[i]).moved))):J R D (IA 6 v (I (i:Int)) λp=>FO 1 p λq=>L1 q k):=
 jtg h x λ_ _ _ _ _ _ _ _ hb _ j=>jfo (jlr hb (Bm j rfl) H)
theorem Zc {v:Value} {l:List AQ} {i:Nat} (h:Tgs R v l) (x:i < l.length) (H:J R D (k (.agg #[I (l[i]).sh.refs,I (l[i]).sh.nums]))):J R D (IA 6 v (I (i:Int)) λp=>FO 2 p λq=>LA 2 q k):=
 jtg h x λ_ _ _ y _ _ _ _ hb A j=>jfo (DR hb Z (by
  have e:=congrArg (λz=>(z.drop 2).take 2) j
  simp only[gO,gT,gS] at e
  exact e) H)
theorem jrk {v:Value} {t:List Rg} {r:Nat} (h:RgZ R v t) (j:r < t.length) (H:J R D (k (I (t[r]).kind))):J R D (IA 5 v (I (r:Int)) λp=>FO 0 p λq=>L1 q k):=by
 obtain⟨b,c,sp,rfl,hb,_⟩:=h;exact C0 j (jfo (jlr hb (by rw[da];exact C6 j rfl) H))
theorem Hl {l:List AQ} {a:Int} (h:Ax l a = none):PT l a = -1:=by
 unfold PT;have:l.findIdx? (λt=>t.at_ == a) = none:=by
  rw[List.findIdx?_eq_none_iff];unfold Ax at h;rw[List.find?_eq_none] at h;intro x j;simpa using h x j
 rw[this]
theorem PH {G:List Nat} {B:(List Value->M)->M} {K:Env->M} (pre:List Value) (p:Prop) (H:∀j : List Value->M,(p->J R D (j pre))->J R D (B j)) (N:∀e,p->G.map e = pre->J R D (K e)):J R D (CUT G B K):=
 Ac (λW A y=>p/\A = R/\y = D/\W = pre) (λj h=>H j λx=>h _ _ _ ⟨x,rfl,rfl,rfl⟩) λe A y ⟨x,O,Q,T⟩=>by
  subst O Q;exact N e x T
theorem Nm {x:List Nat} {B:(List Value->M)->Env->M} (pre:List Value) (n:Nat) (p:Nat->Prop) (h0:p 0)
  (H:∀(i:Nat) K e,i<=n->p i->(i < n->p (i + 1)->J R D (K (pre ++ [I ((i:Int) + 1)])))->x.map e = pre ++ [I i]->J R D (B K e)):J R D (LP x B (pre ++ [I 0])):=by
 refine jlp (λm T A y=>A = R/\y = D/\∃i:Nat,i<=n/\m = n - i/\p i/\T = pre ++ [I i]) (n:=n) ⟨rfl,rfl,0,Z,Z,h0,rfl⟩ ?_;rintro m e R1 W K ⟨N,hD,i,O,hm,Q,he⟩ G;subst N hD;exact H i K e O Q (λh j=>G (n - (i + 1)) _ _ _ Z ⟨rfl,rfl,i + 1,Z,rfl,j,rfl⟩) he
end rules
end Go.Lf
end
