/- A part of the proof of the given row. Conditions: none. -/
import Derived.Shelf.Sort.Plain
import Derived.Shelf.Lay
import Derived.Test.YthfhnheigfoioaaGreatHI
set_option linter.unusedVariables false
set_option linter.unusedSimpArgs false
set_option maxRecDepth 100000
section
namespace Sm
open Go.Lf
def EN (s:Ah):Bool:=BL s.AC.length && BT s.AA && s.AA.length == s.AC.length / 16 && s.AM.length == s.AC.length
def Eo (s:Ah):Option (List AQ):=if EN s then BI s else none
def Dg (s:Ah) (a:Int):Bool:=decide (0<=AN a) && decide (AN a < s.AA.length) && (rv s.AA (AN a)).kind == 4
def CL (s:Ah) (l:List AQ) (t:AQ):Bool:=t.moved == t.at_ || match B7 l t.moved with
 | none=>false
 | some n=>n.sh == t.sh && n.moved == n.at_ && !Dg s n.at_ && Dg s t.at_
def CP (s:Ah) (l:List AQ):Bool:=l.all (CL s l)
def Fk (t:Th):Bool:=decide (t.AD.length<=8) && decide (0<=t.Am) && decide (t.Am<=2)
def Dt (s:Ah) (l:List AQ) (a:Int):Bool:=match B7 l a with
 | none=>false
 | some t=>t.moved == a && !Dg s a
def C8 (s:Ah) (l:List AQ):Bool:=CP s l && decide (0<=s.Ae) && decide (s.Ae<=3) && decide (1<=s.AB.length) && decide (s.AB.length<=3) && decide (s.AI.length<=8) && s.AB.all Fk && s.AI.all (Dt s l)
def CU (s:Ah):Option (List AQ × List Int):=match Eo s with
 | none=>none
 | some l=>if C8 s l then (Dd s l).map λm=>(l,m) else none
def Cs (s:Ah):List Int:=s.AB.flatMap (·.AD) ++ s.AI
theorem Qf {w:List Int}:∀{n:Nat} {a top:Int} {l:List AQ},Au w n a top = some l->l.Pairwise (λx y=>x.at_ + AG x.sh<=y.at_)/\∀t∈l,a<=t.at_/\t.at_ + AG t.sh<=top/\2<=AG t.sh/\(As w t.at_) = (t,true)
 | 0,a,top,l,h=>by
  unfold Au at h;split at h
  .cases h
  .cases h;exact⟨List.Pairwise.nil,λt j=>by cases j⟩
 | n + 1,a,top,l,h=>by
  unfold Au at h;split at h;rotate_left
  .cases h;exact⟨List.Pairwise.nil,λt j=>by cases j⟩
  dsimp only at h;split at h;rotate_left
  .cases h
  rename_i K A;simp only[z_b,z_d] at A;have G:=IW A.1;have D:(As w a).1.at_ = a:=by
   have:=A.1;unfold As at this ⊢;split at this
   .rename_i c1;rw[if_pos c1];dsimp only at this ⊢;split at this
    .rename_i c2;rw[if_pos c2]
    .cases this
   .cases this
  cases j:Au w n (a + AG (As w a).1.sh) top with
  | none=>rw[j] at h;cases h
  | some N=>
   rw[j] at h;cases h;obtain⟨i1,i2⟩:=Qf j;refine⟨eJ.2 ⟨λy H=>by have:=i2 y H;rw[D];omega,i1⟩,λt j=>?_⟩;rcases cU.1 j with rfl | j
   .exact⟨by rw[D];omega,by rw[D];exact A.2,G,by rw[D,<- A.1]⟩
   .have:=i2 t j;exact⟨Z,this.2⟩
theorem P6 {w:List Int} {r:Nat} {top:Int} {l:List AQ} (h:BU w r top = some l):l.Pairwise (λx y=>x.at_ + AG x.sh<=y.at_)/\∀t∈l,16 * (r:Int)<=t.at_/\t.at_ + AG t.sh<=top/\top<=16 * r + 16/\2<=AG t.sh/\As w t.at_ = (t,true):=by
 unfold BU at h;split at h;rotate_left
 .cases h
 rename_i c;simp only[z_b,z_d] at c;obtain⟨⟨⟨⟨c1,c2⟩,c3⟩,D⟩,j⟩:=c;have:(r:Int) < 12:=by
  unfold BL at c1;simp only[z_b,z_d] at c1;omega
 have hb:=Bj (r:=(r:Int)) Z this;obtain⟨i1,i2⟩:=Qf h;exact⟨i1,λt A=>by have:=i2 t A;rw[hb] at this j;exact⟨this.1,this.2.1,j,this.2.2⟩⟩
theorem FB {w:List Int}:∀{t:List Rg} {r:Nat} {l:List AQ},Ba w r t = some l->l.Pairwise (λx y=>x.at_ + AG x.sh<=y.at_)/\∀x∈l,16 * (r:Int)<=x.at_/\2<=AG x.sh/\As w x.at_ = (x,true)/\∃k:Nat,∃h:k < t.length,x.at_ / 16 = r + k/\x.at_ + AG x.sh<=(t[k]).top/\(t[k]).top<=16 * (r + k) + 16
 | [],r,l,h=>by cases h;exact⟨List.Pairwise.nil,λt O=>by cases O⟩
 | x :: t,r,l,h=>by
  unfold Ba at h;cases A:BU w r x.top with
  | none=>rw[A] at h;cases h
  | some a=>
   rw[A] at h;dsimp only at h;cases D:Ba w (r + 1) t with
   | none=>rw[D] at h;cases h
   | some b=>
    rw[D] at h;cases h;obtain⟨i1,i2⟩:=P6 A;obtain⟨R,G⟩:=FB D;refine⟨List.pairwise_append.2 ⟨i1,R,λy j z Q=>?_⟩,λy j=>?_⟩
    .have:=i2 y j;have:=G z Q;omega
    .rcases cm.1 j with j | j
     .have:=i2 y j;exact⟨this.1,this.2.2.2.1,this.2.2.2.2,0,V,Z,this.2.1,by simpa using this.2.2.1⟩
     .obtain⟨T,H,K,k,hk,W,N,g6⟩:=G y j;exact⟨Z,H,K,k + 1,by simp;omega,Z,by simpa using N,by simp only[fL];omega⟩
theorem Lp {l:List AQ} (h:l.Pairwise (λx y=>x.at_ + AG x.sh<=y.at_)) (A:∀x∈l,2<=AG x.sh):(l.map AQ.at_).Nodup:=by
 rw[List.Nodup,fV];exact h.imp_of_mem λ{a b} j hb h e=>by have:=A a j;omega
theorem BE {l:List AQ} {a:Int} {t:AQ} (h:B7 l a = some t):t∈l/\t.at_ = a:=by
 unfold B7 at h;exact⟨fR h,by simpa using List.find?_some h⟩
theorem E0 {l:List AQ} (j:(l.map AQ.at_).Nodup) {t:AQ} (h:t∈l):B7 l t.at_ = some t:=by
 unfold B7;induction l with
 | nil=>cases h
 | cons x l y=>
  rw[dO,dp] at j;rcases cU.1 h with rfl | h
  .rw[fM V]
  .have:x.at_≠t.at_:=λe=>j.1 (e▸dm h)
   rw[fD (by simpa using this)];exact y j.2 h
end Sm
end
section
namespace Go.Lf
open Go Sm
def RgZ (R:RM) (v:Value) (t:List Rg):Prop:=∃b c sp,v = S0 b t.length c/\R b = some (C AO (Ad eRg t ++ sp))/\t.length<=c
theorem RgZ.le {R j : RM} {v:Value} {t:List Rg} (h:R.le j) (H:RgZ R v t):RgZ j v t:=by
 obtain⟨b,c,sp,x,y,A⟩:=H;exact⟨b,c,sp,x,h _ _ y,A⟩
structure SF (R:RM) (s:Sm.Ah) (wv tv mv thv ov pv:Value):Prop where
 c:StC R s wv tv mv thv ov pv
 z:RgZ R tv s.AA
 b:StB 10 s
theorem SF.le {R x : RM} {s:Sm.Ah} {wv A mv j y pv:Value} (h:R.le x) (H:SF R s wv A mv j y pv):SF x s wv A mv j y pv:=⟨H.c.le h,H.z.le h,H.b⟩
theorem F9 {a:Int} (h0:0<=a) (x:a < 1000000):Pu JE [I a] (I (AN a)):=by
 intro R;refine Ot λF=>?_
 refine z_1 ?_;have j:a.tdiv 16 = a / 16:=dv h0;refine jlt (jif (λh=>?_) (λh=>?_))
 .have h:=z_f h;omega
 .refine Oq δ (by rw[j];constructor<;>omega) ?_;rw[j];exact Ao (A:=[]) (RM.le.refl R) (by unfold AN;rw[if_neg Z])
section st
variable {R:RM} {s:Sm.Ah} {wv tv mv thv ov pv:Value}
theorem Uv (h:SF R s wv tv mv thv ov pv):Ro Gf [.agg (eSt s wv tv mv thv ov pv).toArray] (.bool (EN s)) R []:=by
 refine Kj λF=>?_
 refine z_1 ?_;refine ja λb=>?_
 rw[show cl (.agg (eSt s wv tv mv thv ov pv).toArray) = eSt s wv tv mv thv ov pv from rfl];obtain⟨tb,tc,sp,rfl,hb,K⟩:=h.z;obtain⟨N,wc,rfl⟩:=h.c.w.sl;obtain⟨Q,mc,rfl⟩:=h.c.m.sl;have t0:=h.b.t0;have t1:=h.b.t1;have wl:=h.b.wl;have eq:(s.AC.length:Int).tdiv 16 = (s.AC.length / 16:Nat):=by rw[dv Z];omega
 refine jan [Pt b] ((BL s.AC.length) && (BT s.AA)) (λA j=>?_) (λe c u y he=>?_)
 .refine jl rfl (jp (HF N s.AC.length wc Z) (jgA j λD x=>jl rfl (bC hb (λO _=>QR Z) x)))
 refine z_V ?_;refine jan [Pt b] ((BL s.AC.length && BT s.AA) && ((s.AA.length:Int) == (s.AC.length:Int).tdiv 16)) (λA j=>?_) (λe c u y he=>?_)
 .rw[y];refine jgA j λD x=>jl rfl (jln (jl rfl (jln (Oq δ ⟨Z,Z⟩ (jeq x)))))
 refine z_V ?_;refine jan [] ((BL s.AC.length && BT s.AA && ((s.AA.length:Int) == (s.AC.length:Int).tdiv 16)) && ((s.AM.length:Int) == (s.AC.length:Int))) (λA j=>?_) (λe c u y he=>?_)
 .rw[y];refine jgA j λD x=>jl rfl (jln (jl rfl (jln (jeq x))))
 refine z_V ?_;rw[y];refine BN ?_;have G:((s.AA.length:Int) == ((s.AC.length / 16:Nat):Int)) = (s.AA.length == s.AC.length / 16):=by rw[dX,beq_iff_eq,beq_iff_eq];omega
 have H:((s.AM.length:Int) == (s.AC.length:Int)) = (s.AM.length == s.AC.length):=by rw[dX,beq_iff_eq,beq_iff_eq];omega
 rw[eq,G,H];rfl
theorem Mf (h:SF R s wv tv mv thv ov pv) {a:Int} (h0:0<=a) (j:a < 1000000):Ro H7 [.agg (eSt s wv tv mv thv ov pv).toArray,I a] (.bool (Dg s a)) R []:=by
 refine LH λF=>?_
 refine z_2 ?_;refine ja λb=>?_
 rw[show cl (.agg (eSt s wv tv mv thv ov pv).toArray) = eSt s wv tv mv thv ov pv from rfl];obtain⟨tb,tc,sp,rfl,hb,N⟩:=h.z;refine jp (F9 h0 j) (jan [Pt b,I (AN a)] ((decide (AN a>=0)) && (decide (AN a < s.AA.length))) (λG x=>?_) (λe c u A he=>?_))
 .refine jge (jgA x λj K=>jl rfl (jln (jlt K)))
 refine z_V ?_;refine jan [] (decide (AN a>=0) && decide (AN a < s.AA.length) && ((rv s.AA (AN a)).kind == 4)) (λG x=>?_) (λe c u A he=>?_)
 .rw[A];refine Dv (λj=>?_) (λj=>?_)
  .have H:=j;simp only[z_b,z_d] at H;obtain⟨r,D⟩:∃r:Nat,AN a = r:=⟨(AN a).toNat,Z⟩;have y:r < s.AA.length:=Z
   refine jl rfl ?_;rw[D];refine C0 y (jfo (jlr hb (by rw[cg];exact C6 y rfl) (jeq (x _ _ ((s.AA[r]).kind == 4) (by rw[<- D,j];exact Bx) ?_))));rw[j,D,Ea y,dR]
  .exact x _ _ _ (j▸CB) (by rw[j,dz])
 refine z_V ?_;rw[A];exact BN rfl
theorem DZ {r:Nat}:∀(l:List Th),(∀t∈l,t.AD.length<=r)->(l.flatMap (·.AD)).length<=r * l.length
 | [],_=>V
 | t :: l,h=>by
  have x:=h t V;have y:=DZ l (λt j=>h t (by simp[j]));rw[List.flatMap_cons,cJ,cS,Nat.mul_succ];omega
theorem UA (h:SF R s wv tv mv thv ov pv):Fn P Gn [.agg (eSt s wv tv mv thv ov pv).toArray] R [] (λv j A=>j = R/\SO (Cs s) v A):=by
 refine Kq λF=>?_
 refine z_1 ?_;refine ja λb=>?_
 rw[show cl (.agg (eSt s wv tv mv thv ov pv).toArray) = eSt s wv tv mv thv ov pv from rfl];have n1:=h.b.n1;have rl:=h.b.rl;have pl:=h.b.pl;have fl:=DZ s.AB rl;have a5:9 * s.AB.length<=27:=Z
 refine Ab (λT j H=>j = R/\∃v A,SO (s.AB.flatMap (·.AD)) v A/\H = A ++ ((b,C AW (eSt s wv tv mv thv ov pv)) :: F)/\T = [Pt b,v]) (λK hK=>?_) ?_
 .refine jl rfl (Bo h.c.th.sl (Ab (λT j H=>j = R/\∃v A,SO (s.AB.flatMap (·.AD)) v A/\H = A ++ ((b,C AW (eSt s wv tv mv thv ov pv)) :: F)/\T = [Pt b,v]) (λK2 a0=>?_) ?_))
  .refine jlp (λm T j H=>j = R/\∃(i:Nat) (v:Value) (A:Chs),i<=s.AB.length/\m = s.AB.length - i/\SO ((s.AB.take i).flatMap (·.AD)) v A/\H = A ++ ((b,C AW (eSt s wv tv mv thv ov pv)) :: F)/\T = [Pt b,v,thv,I s.AB.length,I i]) ⟨rfl,0,_,[],Z,rfl,.inl ⟨rfl,rfl,rfl⟩,rfl,rfl⟩ ?_;rintro m e R1 D1 K3 ⟨N,i,v,A,hi,hm,y,hD,he⟩ a1;subst N;refine z_W ?_;refine jlt (jif (λhc=>?_) (λhc=>?_));rotate_left
   .have hc:=z_g hc;rw[cO Z] at y;exact a0 _ _ _ ⟨rfl,v,A,y,rfl,rfl⟩
   have hc:i < s.AB.length:=by have:=z_f hc;omega
   obtain⟨ta,a9,a8⟩:=h.c.th.sl;refine jtr h.c.th hc λb2 o2 ty cs rv Q a2 a3 O=>(Do a2 a3 O (ja λb3=>?_))
   obtain⟨ra,rc,rfl⟩:=Q.sl;refine js rfl rfl (cN rfl) rfl (jl rfl (Bf ?_));obtain⟨xa,cx,x,hx⟩:=Fz.reads Q;cases x;have a7:=rl _ (cK hc);have a6:=DZ (s.AB.take i) (λt ht=>rl t (dJ ht));have a4:9 * (s.AB.take i).length<=27:=by rw[cV];omega
   refine jas y rfl Z hx λv' W D=>(jad (a1 (s.AB.length - (i + 1)) _ _ _ Z ⟨rfl,i + 1,v',W,Z,rfl,?_,rfl,rfl⟩))
   rw[cI hc,List.flatMap_append];simpa using D
  rintro e R1 D1 ⟨N,v,A,y,hD,he⟩;subst N;refine z_W ?_;exact hK _ _ _ ⟨rfl,v,A,y,rfl,rfl⟩
 rintro e R1 D1 ⟨N,v,A,y,hD,he⟩;subst N;refine z_W ?_;obtain⟨pa,pc,rfl⟩:=h.c.p.sl;refine jl rfl ?_;obtain⟨xa,cx,x,hx⟩:=Fz.reads h.c.p;cases x;refine jas y rfl Z hx λv' W D=>(Al W (G:=F) (Ao (RM.le.refl _) ⟨rfl,D⟩))
end st
theorem ON:P.underlying 101 = some (.map 3 70):=by kernel_rfl
theorem bg (w:World):(zeroValue 70).run P w = .ok z70 w:=by kernel_rfl
theorem au (w:World):(Instr.makeMap 101 none).run P w = .ok (.map (some w.heap.size)) (w.alloc (.map #[] 0)):=rfl
def MpT (R:RM) (o:Obj) (l:List AQ):Prop:=∃ps:List (Int × Value),Mg o ps/\ps.length = l.length/\∀i (h:i < ps.length) (h' : i < l.length),(ps[i]).1 = (l[i]).at_/\ThV R (ps[i]).2 (l[i])
theorem MpT.le {R j : RM} {o:Obj} {l:List AQ} (h:R.le j) (H:MpT R o l):MpT j o l:=by
 obtain⟨D,y,A,x⟩:=H;exact⟨D,y,A,λi a b=>⟨(x i a b).1,(x i a b).2.le h⟩⟩
theorem Si {R:RM} {x:Int}:∀{j:List (Int × Value)} {l:List AQ},j.length = l.length->(∀i (h:i < j.length) (h' : i < l.length),(j[i]).1 = (l[i]).at_/\ThV R (j[i]).2 (l[i]))->(B7 l x = none/\lk j x = none)\/∃t v,B7 l x = some t/\lk j x = some v/\ThV R v t
 | [],[],_,_=>.inl ⟨rfl,rfl⟩
 | p :: j,t :: l,hl,h=>by
  obtain⟨y,A⟩:=h 0 V V;have y:p.1 = t.at_:=y;have A:ThV R p.2 t:=A;by_cases c:t.at_ = x
  .refine .inr ⟨t,p.2,?_,?_,A⟩
   .unfold B7;rw[fM (by simpa using c)]
   .unfold lk;rw[fM (by simpa [y] using c)];rfl
  .have H:=Si (x:=x) (by simpa using hl) (λi a b=>h (i + 1) (by simpa using a) (by simpa using b));have D:B7 (t :: l) x = B7 l x:=by unfold B7;rw[fD (by simpa using c)]
   have G:lk (p :: j) x = lk j x:=by unfold lk;rw[fD (by simpa [y] using c)]
   rw[D,G];exact H
theorem Pb {R:RM} {D:Chs} {k:Value->M} {b:Nat} {o:Obj} {l:List AQ} {x:Int} (c:Bool) (a:Li R D b o) (Q:MpT R o l)
  (A:B7 l x = none->J R D (k (if c then .tuple #[z70,.bool false] else z70)))
  (G:∀t v,B7 l x = some t->ThV R v t->J R D (k (if c then .tuple #[v,.bool true] else v))):J R D (X P (Instr.lookup 101 (.map (some b)) (I x) c) k):=by
 obtain⟨T,K,N,O⟩:=Q;refine @Ua R D k 101 70 b o T x z70 c a ON bg K ?_;rcases Si N O with ⟨j,y⟩ | ⟨t,v,j,y,H⟩
 .rw[y];exact A j
 .rw[y];exact G t v j H
def QTm (r:Option (List AQ)) (v:Value) (R:RM):Prop:=match r with
 | none=>v = .tuple #[.map none,.bool false]
 | some l=>∃mb o,R mb = some o/\MpT R o l/\v = .tuple #[.map (some mb),.bool true]
section st
variable {R:RM} {s:Sm.Ah} {wv tv mv thv ov pv:Value}
set_option maxHeartbeats 1000000 in
theorem Rp (h:SF R s wv tv mv thv ov pv):Fn P GC [.agg (eSt s wv tv mv thv ov pv).toArray] R [] (λv H A=>A = []/\QTm (Eo s) v H):=by
 refine Ji λF=>?_
 refine z_1 ?_;refine ja λb=>?_
 rw[show cl (.agg (eSt s wv tv mv thv ov pv).toArray) = eSt s wv tv mv thv ov pv from rfl];have t0:=h.b.t0;have t1:=h.b.t1;have wl:=h.b.wl;have wr:=h.b.wr;refine jla (l:=eSt s wv tv mv thv ov pv) (by exact z_n 13) rfl (jrp (Uv h) (jif (λh0=>?_) (λh0=>?_)))
 .have h0:EN s = false:=by simpa using h0
  refine Ao (RM.le.refl R) ⟨rfl,?_⟩;have:Eo s = none:=by unfold Eo;rw[if_neg (by rw[h0];decide)]
  rw[this];exact rfl
 have h0:EN s = true:=by simpa using h0
 have b6:Eo s = BI s:=by unfold Eo;rw[if_pos h0]
 rw[b6];refine Vj au λmb o0 c7=>(Ab (λvs H Q=>R.le H/\∃l o,BI s = some l/\MpT H o l/\Q = (mb,o) :: (b,C AW (eSt s wv tv mv thv ov pv)) :: F/\vs = [.map (some mb)]) (λK hK=>?_) ?_)
 rotate_left
 .rintro e R1 D1 ⟨hR,l,o,hl,hm,hD,he⟩;refine z_W ?_;refine BB (b:=mb) λR2 D hb=>(Ao (hR.trans D) ⟨rfl,?_⟩)
  rw[hl];exact⟨mb,o,hb,hm.le D,rfl⟩
 refine jcI hK λK2 b7=>?_
 refine jlp (λm vs H Q=>R.le H/\∃(i:Nat) (l:List AQ) (o:Obj),1<=i/\i<=s.AA.length + 1/\m = s.AA.length + 1 - i/\(match Ba s.AC i (s.AA.drop i) with | none=>none | some l2=>some (l ++ l2)) = BI s/\MpT H o l/\(∀t∈l,t.at_ < 16 * i)/\Q = (mb,o) :: (b,C AW (eSt s wv tv mv thv ov pv)) :: F/\vs = [Pt b,.map (some mb),I i])
  (n:=s.AA.length) ⟨RM.le.refl R,1,[],o0,Z,Z,Z,by unfold BI;rw[List.drop_one];cases Ba s.AC 1 s.AA.tail<;>rfl,⟨[],c7,rfl,λi h=>absurd h V⟩,(λt ht=>by cases ht),rfl,rfl⟩ ?_
 rintro m e R1 D1 K3 ⟨hR,i,l,o,d4,e2,e5,N,hm,a7,hD,he⟩ b8;refine z_W ?_;have h1:=h.le hR;refine jl rfl (Bo h1.c.t.sl (jlt (jif (λhc=>?_) (λhc=>?_))));rotate_left
 .have hc:=z_g hc;refine b7 _ _ _ ⟨hR,l,o,?_,hm,rfl,rfl⟩;rw[<- N,cT Z];simp[Ba]
 have hc:i < s.AA.length:=by have:=z_f hc;omega
 rw[cQ hc] at N;unfold Ba at N;refine Ab (λvs H Q=>R1.le H/\∃l1 o,BU s.AC i (s.AA[i]).top = some l1/\MpT H o (l ++ l1)/\Q = (mb,o) :: (b,C AW (eSt s wv tv mv thv ov pv)) :: F/\vs = [Pt b,.map (some mb),I i]) (λK4 b9=>?_) ?_;rotate_left
 .rintro e R2 D2 ⟨D,l1,o1,a6,a3,hD,he⟩;refine z_W ?_;refine jad (b8 (s.AA.length + 1 - (i + 1)) _ _ _ Z ⟨hR.trans D,i + 1,l ++ l1,o1,Z,Z,Z,?_,a3,λt ht=>?_,rfl,rfl⟩)
  .rw[<- N,a6];dsimp only;cases Ba s.AC (i + 1) (s.AA.drop (i + 1)) with
   | none=>rfl
   | some l2=>simp
  .rcases cm.1 ht with ht | ht
   .have:=a7 t ht;omega
   .have:=(P6 a6).2 t ht;omega
 refine jcI b9 λK5 c0=>?_
 refine jl rfl (jl rfl (jrg h1.c.t hc λb2 o2 ty cs hb ho b0=>(jfo (jlr hb (Bc b0 rfl) (jc (OO i (s.AA[i]).top h1.c.w Z wr) ?_)))));rintro _ R2 _ D ⟨rfl,hq⟩;cases O:BU s.AC i (s.AA[i]).top with
 | none=>
  rw[O] at hq N;subst hq;refine jex rfl (jex rfl (DM (Ao (hR.trans D) ⟨rfl,?_⟩)));rw[<- N];exact rfl
 | some l1=>
  rw[O] at hq;obtain⟨d2,b5,rfl⟩:=hq;refine Ov (jex rfl (jex rfl (CW (Bo b5.sl ?_))));obtain⟨a5,a1⟩:=P6 O;have e7:=Lp a5 (λx hx=>(a1 x hx).2.2.2.1);refine Ab (λvs H Q=>H = R2/\∃o,MpT H o (l ++ l1)/\Q = (mb,o) :: (b,C AW (eSt s wv tv mv thv ov pv)) :: F/\vs = [Pt b,.map (some mb),I i]) (λK6 c4=>?_) ?_;rotate_left
  .rintro e R3 D3 ⟨a2,o1,a3,hD,he⟩;subst a2;refine z_W ?_;exact c0 _ _ _ ⟨D,l1,o1,O,a3,rfl,rfl⟩
  refine jlp (λm vs H Q=>H = R2/\∃(j:Nat) (o:Obj),j<=l1.length/\m = l1.length - j/\MpT H o (l ++ l1.take j)/\Q = (mb,o) :: (b,C AW (eSt s wv tv mv thv ov pv)) :: F/\vs = [Pt b,.map (some mb),I i,d2,I l1.length,I j])
   ⟨rfl,0,o,Z,rfl,by rw[List.take_zero,dD];exact hm.le D,rfl,rfl⟩ ?_
  rintro m2 e R3 D3 K7 ⟨a2,j,o1,hj,e4,⟨ps,a8,T,W⟩,hD,he⟩ c5;subst a2;refine z_W ?_;refine jlt (jif (λy=>?_) (λy=>?_));rotate_left
  .have y:=z_g y;rw[cO Z] at T W;exact c4 _ _ _ ⟨rfl,o1,⟨ps,a8,T,W⟩,rfl,rfl⟩
  have y:j < l1.length:=by have:=z_f y;omega
  have e3:=SB O;refine jtg b5 y λb3 o3 e8 d3 rv nv b1 a9 c6 c9 a4=>?_
  obtain⟨ra,rc,rfl⟩:=b1.sl;obtain⟨na,nc,rfl⟩:=a9.sl;refine Do c6 c9 a4 (ja λb4=>(js rfl rfl (by exact z_n 6) rfl (jl rfl (jla (l:=eTh (l1[j]) (.slice ra (l1[j]).refs.length rc) (.slice na (l1[j]).nums.length nc)) (by exact z_n 6) rfl (@Xm _ _ _ 101 70 mb o1 _ ps _ _ _ ON a8 λo' a0=>?_)))));have c8:lk ps (l1[j]).at_ = none:=by
   rcases Si T W with ⟨_,e⟩ | ⟨t,v,e1,_,_⟩
   .exact e
   .exfalso;obtain⟨m1,m2⟩:=BE e1;rcases cm.1 m1 with m1 | m1
    .have g1:=a7 t m1;have g2:=(a1 _ (cK y)).1;omega
    .obtain⟨q,hq,rfl⟩:=d5 m1;rw[cV] at hq;rw[eh] at m2;have:=f7.1 a5 q j Z y Z;have:=(a1 _ (cK (show q < l1.length by omega))).2.2.2.1;omega
  have d1:up ps (l1[j]).at_ (.agg (eTh (l1[j]) (.slice ra (l1[j]).refs.length rc) (.slice na (l1[j]).nums.length nc)).toArray) = ps ++ [((l1[j]).at_,.agg (eTh (l1[j]) (.slice ra (l1[j]).refs.length rc) (.slice na (l1[j]).nums.length nc)).toArray)]:=by unfold up;rw[if_neg (by rw[c8];simp)]
  rw[d1] at a0;refine jad (Al [(mb,o')] (G:=(b,C AW (eSt s wv tv mv thv ov pv)) :: F) (c5 (l1.length - (j + 1)) _ _ _ Z ⟨rfl,j + 1,o',Z,rfl,⟨_,a0,?_,λq hq e6=>?_⟩,rfl,rfl⟩))
  .rw[cI y,<- cR,cJ,cJ,T];rfl
  .rw[cJ,cr] at hq;have e:l ++ l1.take (j + 1) = (l ++ l1.take j) ++ [l1[j]]:=by rw[cI y,cR]
   simp only[e];by_cases c:q < ps.length
   .rw[eU c,eU Z];exact W q c Z
   .rw[df Z,df Z];simp only[List.getElem_singleton];exact⟨trivial,_,_,rfl,b1,a9⟩
end st
theorem Zp {R:RM} {D:Chs} {k:Value->M} {b:Nat} {o:Obj} {l:List AQ} {x:Int} (a:Li R D b o) (A:MpT R o l)
  (H:∀(n:AQ) (nb:Bool) (rv nv:Value),nb = (B7 l x).isSome->(nb = true->B7 l x = some n)->B8 R rv n.refs->B8 R nv n.nums->J R D (k (.tuple #[.agg (eTh n rv nv).toArray,.bool nb]))):J R D (X P (Instr.lookup 101 (.map (some b)) (I x) true) k):=by
 refine @Pb R D k b o l x true a A (λh=>?_) (λt v h G=>?_)
 .exact H EZ false (SN) (SN) (by rw[h];rfl) (λh=>by cases h) (.inl ⟨rfl,rfl,rfl⟩) (.inl ⟨rfl,rfl,rfl⟩)
 .obtain⟨rv,nv,rfl,j,y⟩:=G;exact H t true rv nv (by rw[h];rfl) (λ_=>h) j y
section st
variable {R:RM} {s:Sm.Ah} {wv tv mv thv ov pv:Value}
theorem WV {o:Obj} {l:List AQ} {j:List (Int × Value)} (D:j.length = l.length) (x:∀i (h:i < j.length) (h' : i < l.length),(j[i]).1 = (l[i]).at_/\ThV R (j[i]).2 (l[i])) {p:Int × Value} (A:p∈j):∃t∈l,p.1 = t.at_/\ThV R p.2 t:=by
 obtain⟨i,y,rfl⟩:=d5 A;exact⟨l[i],cK Z,x i y Z⟩
theorem Ys {l:List AQ} {j:List (Int × Value)} (D:j.length = l.length) (x:∀i (h:i < j.length) (h' : i < l.length),(j[i]).1 = (l[i]).at_/\ThV R (j[i]).2 (l[i])) {t:AQ} (A:t∈l):∃p∈j,p.1 = t.at_:=by
 obtain⟨i,y,rfl⟩:=d5 A;exact⟨j[i]'(Z),cK Z,(x i Z y).1⟩
set_option maxHeartbeats 1000000 in
set_option maxRecDepth 4000 in
theorem QS (h:SF R s wv tv mv thv ov pv) {mb:Nat} {o:Obj} {l:List AQ} (hb:R mb = some o) (hm:MpT R o l) (tb:TB l) (nd:(l.map AQ.at_).Nodup):Ro Fg [.agg (eSt s wv tv mv thv ov pv).toArray,.map (some mb)] (.bool (CP s l)) R []:=by
 refine Ii λF=>?_
 refine z_2 ?_;refine ja λb=>?_
 rw[show cl (.agg (eSt s wv tv mv thv ov pv).toArray) = eSt s wv tv mv thv ov pv from rfl];obtain⟨W,hg,h2,h3⟩:=hm;refine @bO _ _ _ 101 70 mb o W (Li.fz hb) ON hg λD it a1=>?_
 refine jlp (λm vs R' D'=>R' = R/\∃(N A:List (Int × Value)) (it:Obj) (a0:Option (Int × Value)),m = N.length/\W.Perm (A ++ N)/\ItG mb o it N a0/\(∀p∈A,∀t∈l,p.1 = t.at_->CL s l t = true)/\D' = (D,it) :: (b,C AW (eSt s wv tv mv thv ov pv)) :: ([] ++ F)/\vs = [.map (some mb),Pt b,Pt D])
  ⟨rfl,W,[],it,none,rfl,dK _,a1,(λp hp=>by cases hp),rfl,rfl⟩ ?_
 rintro m e R1 D1 K ⟨hR,N,A,it,a0,b7,a2,a1,a8,hD,he⟩ hK;subst hR;refine z_W ?_;refine @ar _ _ _ mb D o it _ W N a0 _ (Li.fz hb) hg a1 (λh0=>?_) (λp j H a3 T=>?_)
 .subst h0;refine jex rfl (CW ?_);refine BN ?_;congr 1;rw[eq_comm];unfold CP;rw[ck];intro t ht;obtain⟨p,hp,a4⟩:=Ys h2 h3 ht;exact a8 p (by have:=a2.mem_iff.1 hp;simpa using this) t ht a4
 have b9:p∈W:=a2.mem_iff.2 (cm.2 (.inr (a3.mem_iff.2 (.head _))));obtain⟨t,ht,a4,rv,nv,c0,c4,b8⟩:=WV (o:=o) h2 h3 b9;obtain⟨ra,rc,rfl⟩:=c4.sl;obtain⟨na,nc,rfl⟩:=b8.sl;have b5:=tb t ht;have hlen:j.length < m:=by rw[b7,a3.length_eq,cS];omega
 have b3 : W.Perm ((A ++ [p]) ++ j):=a2.trans (by
  rw[cR]
  exact List.Perm.append_left A a3)
 have a5:∀t'∈l,p.1 = t'.at_->t' = t:=λt' O e=>by
  have e1:=E0 nd ht;have e2:=E0 nd O;rw[<- e,a4,e1] at e2;exact (da e2).symm
 refine jex rfl (DM ?_);refine Ab (λvs R' D'=>R' = R1/\CL s l t = true/\D' = (D,H) :: (b,C AW (eSt s wv tv mv thv ov pv)) :: ([] ++ F)/\vs = [.map (some mb),Pt b,Pt D]) (λK2 a7=>?_) ?_;rotate_left
 .rintro e R2 D2 ⟨hR,c5,hD,he⟩;subst hR;refine z_W ?_;refine hK j.length _ _ _ hlen ⟨rfl,j,A ++ [p],H,some p,rfl,b3,T,λq hq t' O e=>?_,rfl,rfl⟩;rcases cm.1 hq with hq | hq
  .exact a8 q hq t' O e
  .rw[cZ.1 hq] at e;rw[a5 t' O e];exact c5
 refine @aa _ _ _ mb D o H W j p _ (Li.fz hb) hg T ?_;rw[c0];refine jex rfl (ja λa6=>?_);refine js rfl rfl (by exact z_n 6) rfl ?_;refine jl rfl (jl rfl (jeq (jif (λhc=>?_) (λhc=>?_))))
 .refine Al [(D,H)] (G:=(b,C AW (eSt s wv tv mv thv ov pv)) :: ([] ++ F)) ?_;exact a7 _ _ _ ⟨rfl,by unfold CL;rw[hc,eL],rfl,rfl⟩
 refine jl rfl ?_;refine Zp (Li.fz hb) ⟨W,hg,h2,h3⟩ λn nb d2 c8 b0 a9 b4 b2=>?_
 obtain⟨c9,d1,rfl⟩:=b4.sl;obtain⟨c6,c7,rfl⟩:=b2.sl;refine jex rfl (jex rfl (ja λb6=>?_));refine js rfl rfl (by exact z_n 6) rfl ?_;have Q:CL s l t = !(!nb || !(n.sh == t.sh) || (n.moved != n.at_) || Dg s n.at_ || !Dg s t.at_):=by
  unfold CL;rw[hc,dU];cases nb with
  | false=>
   have:B7 l t.moved = none:=by
    cases h:B7 l t.moved with
    | none=>rfl
    | some x=>rw[h] at b0;cases b0
   rw[this];rfl
  | true=>
   rw[a9 rfl];dsimp only;unfold bne;cases n.sh == t.sh<;>cases n.moved == n.at_<;>cases Dg s n.at_<;>cases Dg s t.at_<;>rfl
 refine jor [.map (some mb),Pt b,Pt a6,Pt b6,Pt D] ((!nb) || (!(n.sh == t.sh))) (λK' y=>?_) (λe c u ho he=>?_)
 .refine jgO y λh1 hN=>jfo (jla (l:=[I n.sh.refs,I n.sh.nums]) (by exact (by decide:4<=6)) rfl (jfo (jla (cs:=eTh t (.slice ra t.refs.length rc) (.slice na t.nums.length nc)) (l:=[I t.sh.refs,I t.sh.nums]) (by exact (by decide:4<=6)) rfl (@bF n.sh t.sh _ _ _ _ _ hN))))
 refine z_V ?_;refine jor [.map (some mb),Pt b,Pt a6,Pt b6,Pt D] ((!nb || !(n.sh == t.sh)) || ((n.moved != n.at_))) (λK' y=>?_) (λe c u ho he=>?_)
 .rw[ho];refine jgO y λh1 hN=>jl (v:=I n.moved) rfl (jl (v:=I n.at_) rfl (jne hN))
 refine z_V ?_;refine jor [.map (some mb),Pt b,Pt a6,Pt D] (!nb || !(n.sh == t.sh) || (n.moved != n.at_) || Dg s n.at_) (λK' y=>?_) (λe c u ho he=>?_)
 .rw[ho];refine jgO y λh1 hN=>?_
  have b1 : nb = true:=by cases nb with | true=>rfl | false=>cases h1
  have hn:=tb n (BE (a9 b1)).1;exact jla (l:=eSt s wv tv mv thv ov pv) (by exact z_n 13) rfl (jl (v:=I n.at_) rfl (jrp (Mf h hn.1 hn.2.1) hN))
 refine z_V ?_;refine jor [.map (some mb),Pt b,Pt D] ((!nb || !(n.sh == t.sh) || (n.moved != n.at_) || Dg s n.at_) || (!Dg s t.at_)) (λK' y=>?_) (λe c u ho he=>?_)
 .rw[ho];refine jgO y λh1 hN=>jla (l:=eSt s wv tv mv thv ov pv) (by exact z_n 13) rfl (jl (v:=I t.at_) rfl (jrp (Mf h b5.1 b5.2.1) hN))
 refine z_V ?_;rw[ho];refine jif (λh0=>?_) (λh0=>?_)
 .refine BN ?_;congr 1;rw[eq_comm,eI];unfold CP;intro Bq;have:=ck.1 Bq t ht;rw[Q,h0] at this;cases this
 .refine Al [(D,H)] (G:=(b,C AW (eSt s wv tv mv thv ov pv)) :: ([] ++ F)) ?_;exact a7 _ _ _ ⟨rfl,by rw[Q,h0];rfl,rfl,rfl⟩
end st
section rules
variable {R:RM} {D:Chs} {k:Value->M}
theorem Hg {f:Nat} {x:Array Value} {j:List Value} (y:Us P f = true) (H:J R D (CA P f (j ++ x.toList) k)):J R D (CV P (.func (.func f) #[] x) j k):=λh A=>⟨y,H h A⟩
theorem jfd {o n:Nat} {cs:Array Value} {v:Value} (j:cs.toList[o]? = some v) (H:J R D (k v)):J R D (FD false o n (.agg cs) k):=by
 unfold FD;simp only[cond_false,j];exact H
end rules
def eHp (s:Sm.Ah) (wv tv mv thv ov pv:Value) (mb:Nat) (v:Value):List Value:=[wv,tv,mv,I s.Ae,.bool s.stop,.bool s.full,.bool s.Ap,I s.want,thv,ov,pv,I s.BC,I s.BJ,.map (some mb),v]
section st
variable {R:RM} {s:Sm.Ah} {wv tv mv thv ov pv:Value} {l:List AQ}
theorem Y3 {hb mb:Nat} {o:Obj} {v:Value} {a x:Int} {D:Chs} [at_:At D hb (C 103 (eHp s wv tv mv thv ov pv mb v))] (y:R mb = some o) (A:MpT R o l) (j:now l a = some x):Ro Gd [Pt hb,I a] (I x) R D:=by
 refine J2 λF=>?_
 refine z_2 ?_;unfold now at j;refine jeq (jif (λh=>?_) (λh=>?_))
 .rw[if_pos (by simpa using h)] at j;cases j;exact BN rfl
 have h:a≠0:=by simpa using h
 rw[if_neg h] at j;refine jl rfl (@Pb _ _ _ mb o l a false (Li.fz y) A (λe=>?_) (λt v e G=>?_))
 .rw[e] at j;cases j
 .rw[e] at j;obtain⟨rv,nv,rfl,_,_⟩:=G;cases j;exact jfd rfl (BN rfl)
theorem QY {x:Int} {r acc:List Int}:Aq l (x :: r) acc = (now l x).bind λy=>Aq l r (Bu acc y):=rfl
def aL (r:Option (List Int)) (s:Sm.Ah) (wv tv mv thv ov pv:Value) (mb b1 b3 hb sb:Nat) (v:Value) (A:Chs):Prop:=match r with
 | none=>v = .bool false/\A = []
 | some acc=>v = .bool true/\∃v2 so2 A2,SO acc v2 A2/\MpI so2 (·∈acc)/\A = (b1,C 98 [Pt hb]) :: (b3,C 160 [.map (some sb)]) :: (hb,C 103 (eHp s wv tv mv thv ov pv mb v2)) :: (sb,so2) :: A2
set_option maxHeartbeats 1000000 in
set_option maxRecDepth 4000 in
theorem PB {xs acc:List Int} {lv v:Value} {mb W b3 hb D:Nat} {o so:Obj} {A:Chs} (a9:R mb = some o) (hm:MpT R o l) (b7:∀t∈l,t.moved≠0) (b2:B8 R lv xs) (c9:xs.length < 1000000) (c7:acc.length + xs.length < 1000000) (c5:SO acc v A) (b6:MpI so (·∈acc)) :
  Fn P Fy [lv,Pt W,Pt b3] R ((W,C 98 [Pt hb]) :: (b3,C 160 [.map (some D)]) :: (hb,C 103 (eHp s wv tv mv thv ov pv mb v)) :: (D,so) :: A)
   (λr R' A'=>R' = R/\aL (Aq l xs acc) s wv tv mv thv ov pv mb W b3 hb D r A'):=by
 refine Jk λF=>?_
 refine z_3 ?_;refine Bo b2.sl ?_;refine jlp (λm vs R' D'=>R' = R/\∃(i:Nat) (H:List Int) (T:Value) (j:Obj) (Q:Chs),i<=xs.length/\m = xs.length - i/\Aq l (xs.drop i) H = Aq l xs acc/\H.length<=acc.length + i/\SO H T Q/\MpI j (·∈H)/\D' = (W,C 98 [Pt hb]) :: (b3,C 160 [.map (some D)]) :: (hb,C 103 (eHp s wv tv mv thv ov pv mb T)) :: (D,j) :: (Q ++ F)/\vs = [Pt W,Pt b3,lv,I xs.length,I i])
  ⟨rfl,0,acc,v,so,A,Z,rfl,rfl,Z,c5,b6,rfl,rfl⟩ ?_
 rintro m e R1 D1 K ⟨hR,i,H,T,j,Q,hi,c8,N,c6,a1,a0,hD,he⟩ hK;subst hR;refine z_W ?_;refine jlt (jif (λhc=>?_) (λhc=>?_));rotate_left
 .have hc:=z_g hc;rw[cT Z] at N;refine Ao (A:=(W,C 98 [Pt hb]) :: (b3,C 160 [.map (some D)]) :: (hb,C 103 (eHp s wv tv mv thv ov pv mb T)) :: (D,j) :: Q) (RM.le.refl _) ⟨rfl,?_⟩;rw[<- N];exact⟨rfl,T,j,Q,a1,a0,rfl⟩
 have hc:i < xs.length:=by have:=z_f hc;omega
 rw[cQ hc] at N;refine Ab (λvs R' D'=>R' = R1/\∃(O:List Int) (T:Value) (j:Obj) (Q:Chs),Aq l (xs.drop (i + 1)) O = Aq l xs acc/\O.length<=acc.length + (i + 1)/\SO O T Q/\MpI j (·∈O)/\D' = (W,C 98 [Pt hb]) :: (b3,C 160 [.map (some D)]) :: (hb,C 103 (eHp s wv tv mv thv ov pv mb T)) :: (D,j) :: (Q ++ F)/\vs = [Pt W,Pt b3,lv,I xs.length,I i]) (λK2 b4=>?_) ?_;rotate_left
 .rintro e R2 D2 ⟨hR,O,v3,a4,A3,b8,a8,a2,a7,hD,he⟩;subst hR;refine z_W ?_;refine jad (hK (xs.length - (i + 1)) _ _ _ Z ⟨rfl,i + 1,O,v3,a4,A3,Z,rfl,b8,a8,a2,a7,rfl,rfl⟩)
 refine jcI b4 λK3 a6=>?_
 rw[QY] at N;refine Bl b2 Z Z ?_;simp only[cG];refine jeq (jif (λh0=>?_) (λh0=>?_))
 .have h0:xs[i] = 0:=by simpa using h0
  refine a6 _ _ _ ⟨rfl,H,T,j,Q,?_,Z,a1,a0,rfl,rfl⟩;rw[<- N,h0];simp[now,Bu]
 have h0:xs[i]≠0:=by simpa using h0
 refine jl rfl (jl rfl (Zp (Li.fz a9) hm λn nb rv nv b0 b5 c4 c0=>?_));obtain⟨ra,rc,rfl⟩:=c4.sl;obtain⟨na,nc,rfl⟩:=c0.sl;refine jex rfl (jex rfl (ja λd1=>(js rfl rfl (by exact z_n 6) rfl (Bf ?_))));cases nb with
 | false=>
  have hf:B7 l xs[i] = none:=by
   cases h:B7 l xs[i] with
   | none=>rfl
   | some x=>rw[h] at b0;cases b0
  refine DM (Ao (A:=[]) (RM.le.refl _) ⟨rfl,?_⟩);rw[<- N];unfold now;rw[if_neg h0,hf];exact⟨rfl,rfl⟩
 | true=>
  have hf:=b5 rfl;have a5:now l xs[i] = some n.moved:=by unfold now;rw[if_neg h0,hf];rfl
  have b9:=b7 n (BE hf).1;rw[a5] at N;have N:Aq l (xs.drop (i + 1)) (Bu H n.moved) = Aq l xs acc:=N;unfold Bu at N;refine CW (jl rfl (Al [(hb,C 103 (eHp s wv tv mv thv ov pv mb T))] (G:=(W,C 98 [Pt hb]) :: (b3,C 160 [.map (some D)]) :: (D,j) :: (Q ++ F)) (bV (Y3 a9 hm a5) (Al [(W,C 98 [Pt hb]),(b3,C 160 [.map (some D)]),(hb,C 103 (eHp s wv tv mv thv ov pv mb T)),(D,j)] (G:=Q ++ F) (jl rfl (@jlk _ _ _ D j _ n.moved (decide (n.moved∈H)) _ a0 V (jif (λhd=>?_) (λhd=>?_))))))));rotate_left
  .have hd:n.moved∈H:=by simpa using hd
   rw[if_pos (.inr hd)] at N;exact a6 _ _ _ ⟨rfl,H,T,j,Q,N,Z,a1,a0,rfl,rfl⟩
  have hd:n.moved ∉ H:=by simpa using hd
  rw[if_neg (by rintro (h | h);exact b9 h;exact hd h)] at N;refine jl rfl (@jmu _ _ _ D j _ _ n.moved _ a0 λa4 a7=>(jl rfl (jl rfl (jl rfl (jbs rfl rfl λxb=>?_)))));refine Ak (jl rfl jev) (Ak (jl rfl jev) (Ak (jl rfl jev) (Gr a1 Z λv3 A3 a2=>(Ak (jl rfl jev) ?_))));obtain⟨a3,c3,rfl⟩:=a2.sln;refine jS (eHp s wv tv mv thv ov pv mb (.slice a3 (H ++ [n.moved]).length c3)) (Al [(W,C 98 [Pt hb]),(b3,C 160 [.map (some D)]),(hb,C 103 (eHp s wv tv mv thv ov pv mb (.slice a3 (H ++ [n.moved]).length c3))),(D,a4)] (G:=A3 ++ ([] ++ F)) (a6 _ _ _ ⟨rfl,H ++ [n.moved],_,a4,A3,N,by rw[cJ,cr];omega,a2,?_,rfl,rfl⟩));have e:(λy=>y∈H\/y = n.moved) = (·∈H ++ [n.moved]):=by funext y;simp
  rw[<- e];exact a7
end st
end Go.Lf
end
section
namespace Sm
open Go.Lf
theorem Bn {l:List AQ} {x:Int} {r acc:List Int}:Aq l (x :: r) acc = (now l x).bind λy=>Aq l r (Bu acc y):=rfl
theorem Cw {l:List AQ}:∀{xs ys acc:List Int},Aq l (xs ++ ys) acc = (Aq l xs acc).bind λo=>Aq l ys o
 | [],ys,acc=>rfl
 | x :: xs,ys,acc=>by
  rw[zc,Bn,Bn];cases now l x with
  | none=>rfl
  | some y=>exact Cw
theorem Jp {l:List AQ}:∀{x:List Th} {j:List Int},E8 l x j = Aq l (x.flatMap (·.AD)) j
 | [],j=>rfl
 | t :: x,j=>by
  rw[List.flatMap_cons,Cw];show (Aq l t.AD j).bind (λo=>E8 l x o) = _;congr 1;funext o;exact Jp
theorem Kx {s:Ah} {l:List AQ}:∀{x acc:List Int},x.all (Dt s l) = true->Aq l x acc = some (x.foldl Bu acc)
 | [],acc,_=>rfl
 | a :: x,acc,h=>by
  rw[List.all_cons,z_b] at h;have j:=h.1;unfold Dt at j;have:now l a = some a:=by
   unfold now;split
   .rename_i e;rw[e]
   .cases y:B7 l a with
    | none=>rw[y] at j;cases j
    | some t=>
     rw[y] at j;simp only[z_b,beq_iff_eq] at j;rw[eS,j.1]
  rw[Bn,this];exact Kx h.2
theorem DV {s:Ah} {l:List AQ} (h:s.AI.all (Dt s l) = true):Dd s l = (Aq l (Cs s) []).bind λout=>BH l (l.length + 2) 0 out:=by
 unfold Dd Cs;rw[Jp,Cw];cases Aq l (s.AB.flatMap (·.AD)) [] with
 | none=>rfl
 | some out=>rw[z_o,Kx h];rfl
structure Stl (l:List AQ):Prop where
 nd:(l.map AQ.at_).Nodup
 at16:∀t∈l,16<=t.at_
 mv:∀t∈l,∃t'∈l,t'.at_ = t.moved
theorem Stl.nz {l:List AQ} (S:Stl l):∀t∈l,t.moved≠0:=λt x e=>by
 obtain⟨y,j,A⟩:=S.mv t x;have:=S.at16 y j;omega
theorem T4 {s:Ah} {l:List AQ} (h:Eo s = some l) (D:CP s l = true):Stl l:=by
 unfold Eo at h;split at h;rotate_left
 .cases h
 unfold BI at h;obtain⟨G,y⟩:=FB h;refine⟨Lp G λx H=>(y x H).2.1,λt j=>by have:=(y t j).1;omega,λt j=>?_⟩;unfold CP at D;have:=ck.1 D t j;unfold CL at this;rw[d7] at this;rcases this with e | e
 .exact⟨t,j,(eq_of_beq e).symm⟩
 .cases A:B7 l t.moved with
  | none=>rw[A] at e;cases e
  | some n=>exact⟨n,BE A⟩
structure Dq (l:List AQ) (ac:List Int):Prop where
 nd:ac.Nodup
 th:∀a∈ac,∃t,B7 l a = some t
theorem Dq.put {l:List AQ} {y:List Int} (M:Dq l y) (S:Stl l) {x:Int} (h:x = 0\/∃t∈l,t.at_ = x):Dq l (Bu y x):=by
 unfold Bu;split
 .exact M
 .rename_i c;have A:x≠0:=λe=>c (.inl e)
  have c1:x ∉ y:=λe=>c (.inr e)
  refine⟨?_,λa j=>?_⟩
  .rw[List.nodup_append];refine⟨M.nd,V,λa j b hb e=>?_⟩;rw[cZ.1 hb] at e;exact c1 (e▸j)
  .rcases cm.1 j with j | j
   .exact M.th a j
   .rw[cZ.1 j];rcases h with h | ⟨t,D,G⟩
    .exact absurd h A
    .exact⟨t,by rw[<- G];exact E0 S.nd D⟩
theorem Dq.all {l:List AQ} (S:Stl l):∀{xs D j : List Int},Dq l D->Aq l xs D = some j->Dq l j
 | [],D,j,M,h=>by cases h;exact M
 | x :: xs,D,j,M,h=>by
  rw[Bn] at h;cases A:now l x with
  | none=>rw[A] at h;cases h
  | some y=>
   rw[A] at h;refine Dq.all S (M.put S ?_) h;unfold now at A;split at A
   .cases A;exact .inl rfl
   .obtain⟨t,G,rfl⟩:=eR.1 A;exact .inr (S.mv t (BE G).1)
theorem Dq.len {l:List AQ} {j:List Int} (M:Dq l j):j.length<=l.length:=by
 have:j.length<=(l.map AQ.at_).length:=Ek M.nd λx G=>by
  obtain⟨t,D⟩:=M.th x G;obtain⟨y,A⟩:=BE D;rw[<- A];exact dm y
 rwa [cM] at this
theorem Dq.nil {l:List AQ}:Dq l []:=⟨List.nodup_nil,λa h=>by cases h⟩
theorem C9 {l:List AQ} {n i:Nat} {out:List Int} {t:AQ} (j:i < out.length) (x:B7 l out[i] = some t):BH l (n + 1) i out = (Aq l t.refs out).bind λo=>BH l n (i + 1) o:=by
 conv=>lhs;unfold BH
 rw[cF j];dsimp only;rw[x];rfl
theorem CJ {l:List AQ} {n i:Nat} {out:List Int} (j:out.length<=i):BH l (n + 1) i out = some out:=by
 unfold BH;rw[dT j]
end Sm
end
section
namespace Go.Lf
open Go Sm
section rules
variable {R:RM} {D:Chs} {k:Value->M}
theorem Un {l:List Int} {v:Value} {A E:Chs} {i:Nat} (y:SO l v A) [s:Sp D A E] (j:i < l.length) (H:J R D (k (I l[i]))):J R D (IA 1 v (I (i:Int)) λx=>L1 x k):=by
 refine Az s.p ?_;have:=(y.rd (R:=R) (E:=E)).2 [] i j k;rw[dD] at this;exact this (Az s.p.symm H)
end rules
section st
variable {R:RM} {s:Sm.Ah} {wv tv mv thv ov pv:Value} {l:List AQ}
def Zm (r:Option (List Int)) (s:Sm.Ah) (wv tv mv thv ov pv:Value) (mb hb:Nat) (v:Value) (A:Chs):Prop:=match r with
 | none=>v = .bool false/\A = []
 | some met=>v = .bool true/\∃v2 A2,SO met v2 A2/\A = (hb,C 103 (eHp s wv tv mv thv ov pv mb v2)) :: A2
set_option maxHeartbeats 1000000 in
set_option maxRecDepth 4000 in
theorem V1 {mb hb:Nat} {o:Obj} (h:SF R s wv tv mv thv ov pv) (D:R mb = some o) (hm:MpT R o l) (S:Stl l) (c4:l.length < 10000) (tb:TB l) (hp:s.AI.all (Dt s l) = true) :
  Fn P HO [Pt hb] R [(hb,C 103 (eHp s wv tv mv thv ov pv mb (SN)))] (λr R' A'=>Zm (Dd s l) s wv tv mv thv ov pv mb hb r A'):=by
 refine Lj λF=>?_
 refine z_1 ?_;refine ja λb1=>Zn λQ b4 a9=>ja λb3=>(jS [.map (some Q)] ?_)
 refine jl rfl (jnc (jfo (jla (cN rfl) rfl ?_)));refine jc (UA h) ?_;rintro rv R1 A1 b8 ⟨hR,b5⟩;subst hR;have n1:=h.b.n1;have fl:=DZ s.AB h.b.rl;have b7:10 * s.AB.length<=30:=Z
 have pl:=h.b.pl;have rl:(Cs s).length<=38:=by unfold Cs;rw[cJ];omega
 refine Dw b5 λR2 y a7=>?_
 have h:=h.le y;have D:=y _ _ D;have hm:=hm.le y;rw[DV hp];refine Hg (by kernel_rfl) ?_;refine jc (A:=(b1,C 98 [Pt hb]) :: (b3,C 160 [.map (some Q)]) :: (hb,C 103 (eHp s wv tv mv thv ov pv mb (SN))) :: (Q,b4) :: []) (PB D hm S.nz a7 Z (by simp;omega) (.inl ⟨rfl,rfl,rfl⟩) (by simpa using a9)) ?_;rintro r R3 A3 _ ⟨hR,W⟩;subst hR;cases H:Aq l (Cs s) [] with
 | none=>
  rw[H] at W;obtain⟨rfl,rfl⟩:=W;exact DM (Ao y ⟨rfl,rfl⟩)
 | some out=>
  rw[H] at W;obtain⟨rfl,v2,T,A2,a1,a0,rfl⟩:=W;rw[z_o];have M0:Dq l out:=Dq.nil.all S H;refine CW ?_;refine jlp (λm vs R' D'=>R' = R3/\∃(i:Nat) (x:List Int) (v2:Value) (T:Obj) (A2:Chs),i<=x.length/\m = l.length + 2 - i/\BH l (l.length + 2 - i) i x = BH l (l.length + 2) 0 out/\Dq l x/\SO x v2 A2/\MpI T (·∈x)/\D' = (b1,C 98 [Pt hb]) :: (b3,C 160 [.map (some Q)]) :: (hb,C 103 (eHp s wv tv mv thv ov pv mb v2)) :: (Q,T) :: (A2 ++ F)/\vs = [Pt b1,.func (.func 166) #[] #[Pt b1,Pt b3],I i])
   (n:=l.length + 2) ⟨rfl,0,out,v2,T,A2,Z,Z,rfl,M0,a1,a0,rfl,rfl⟩ ?_
  clear a0 a1 M0 H;rintro m e R4 D4 K ⟨hR,i,x,v3,b6,A3,hi,c5,j,M,O,a5,hD,he⟩ hK;subst hR;refine z_W ?_;clear hD;have b9:=M.len;obtain⟨a3,c3,rfl⟩:=O.sln;refine jl rfl (jl (v:=.slice a3 x.length c3) rfl (jln (jlt (jif (λhc=>?_) (λhc=>?_)))));rotate_left
  .have hc:=z_g hc;obtain⟨q,W⟩:∃q,l.length + 2 - i = q + 1:=⟨l.length + 1 - i,Z⟩;rw[W,CJ Z] at j;refine Al [(hb,C 103 (eHp s wv tv mv thv ov pv mb (.slice a3 x.length c3)))] (G:=A3 ++ F) ?_;refine Ao (A:=(hb,C 103 (eHp s wv tv mv thv ov pv mb (.slice a3 x.length c3))) :: A3) y ?_;rw[<- j];exact⟨rfl,_,A3,O,rfl⟩
  have hc:i < x.length:=by have:=z_f hc;omega
  obtain⟨t,ht⟩:=M.th _ (cK hc);obtain⟨b2,c7⟩:=BE ht;obtain⟨q,W⟩:∃q,l.length + 2 - i = q + 1:=⟨l.length + 1 - i,Z⟩;rw[W,C9 hc ht] at j;refine jl rfl (jl rfl (jl rfl (jl rfl ?_)));refine Un O hc ?_;refine @Pb _ _ _ mb o l x[i] false (Li.fz D) hm (λe=>by rw[ht] at e;cases e) (λt2 v e hv=>?_);rw[ht] at e;cases e;obtain⟨rv,nv,rfl,a8,c6⟩:=hv;refine jfd rfl (Hg (by kernel_rfl) ?_);have c8:=tb t b2;refine jc (A:=(b1,C 98 [Pt hb]) :: (b3,C 160 [.map (some Q)]) :: (hb,C 103 (eHp s wv tv mv thv ov pv mb (.slice a3 x.length c3))) :: (Q,b6) :: A3) (PB D hm S.nz a8 Z Z O a5) ?_;rintro r R5 A5 _ ⟨hR,N⟩;subst hR;cases H:Aq l t.refs x with
  | none=>
   rw[H] at N j;obtain⟨rfl,rfl⟩:=N;refine DM (Ao (A:=[]) y ?_);rw[<- j];exact⟨rfl,rfl⟩
  | some a2=>
   rw[H] at N j;obtain⟨rfl,v4,a4,A4,b0,a6,rfl⟩:=N;have M2:=M.all S H;have c9:=M2.len;have c0:=ED H;refine CW (jad ?_);refine Al [(b1,C 98 [Pt hb]),(b3,C 160 [.map (some Q)]),(hb,C 103 (eHp s wv tv mv thv ov pv mb v4)),(Q,a4)] (G:=A4 ++ F) ?_;refine hK q _ _ _ Z ⟨rfl,i + 1,a2,v4,a4,A4,Z,Z,?_,M2,b0,a6,rfl,rfl⟩;rw[<- j,z_o];congr 1;omega
end st
def HpV (R:RM) (s:Sm.Ah) (wv tv mv thv ov pv:Value) (l:List AQ) (met:List Int) (hb mb:Nat) (v:Value):Prop:=∃o,R hb = some (C 103 (eHp s wv tv mv thv ov pv mb v))/\R mb = some o/\MpT R o l/\B8 R v met
def Yk (r:Option (List AQ × List Int)) (s:Sm.Ah) (wv tv mv thv ov pv:Value) (x:Value) (R:RM):Prop:=match r with
 | none=>x = .pointer none
 | some (l,met)=>∃hb mb v,x = Pt hb/\HpV R s wv tv mv thv ov pv l met hb mb v
section st
variable {R:RM} {s:Sm.Ah} {wv tv mv thv ov pv:Value}
theorem Mh {l:List AQ} (h:Eo s = some l) (j:C8 s l = false):CU s = none:=by
 unfold CU;rw[h];dsimp only;rw[if_neg (by rw[j];decide)]
set_option maxHeartbeats 2000000 in
set_option maxRecDepth 4000 in
theorem Lr (h:SF R s wv tv mv thv ov pv):Fn P Lx [.agg (eSt s wv tv mv thv ov pv).toArray] R [] (λr R' A=>A = []/\Yk (CU s) s wv tv mv thv ov pv r R'):=by
 refine SY λF=>?_
 refine z_1 ?_;refine ja λb=>?_
 rw[show cl (.agg (eSt s wv tv mv thv ov pv).toArray) = eSt s wv tv mv thv ov pv from rfl];refine jla (l:=eSt s wv tv mv thv ov pv) (by exact z_n 13) rfl ?_;refine jc (A:=[]) (Rp h) ?_;rintro _ R1 _ a0 ⟨rfl,hq⟩;refine Ov ?_;cases Q:Eo s with
 | none=>
  rw[Q] at hq;obtain rfl:_ = Value.tuple #[.map none,.bool false]:=hq;have hn:CU s = none:=by unfold CU;rw[Q]
  refine jex rfl (jex rfl ?_);refine jor [Pt b,.map none] true (λO j=>?_) (λe c u y he=>?_)
  .exact jtf (j _ _ _ DL rfl)
  refine z_V ?_;refine jor [Pt b,.map none] true (λO j=>?_) (λe c u y he=>?_)
  .rw[y];exact jtf (j _ _ _ DL rfl)
  refine z_V ?_;refine jor [Pt b,.map none] true (λO j=>?_) (λe c u y he=>?_)
  .rw[y];exact jtf (j _ _ _ DL rfl)
  refine z_V ?_;refine jor [Pt b,.map none] true (λO j=>?_) (λe c u y he=>?_)
  .rw[y];exact jtf (j _ _ _ DL rfl)
  refine z_V ?_;refine jor [Pt b,.map none] true (λO j=>?_) (λe c u y he=>?_)
  .rw[y];exact jtf (j _ _ _ DL rfl)
  refine z_V ?_;refine jor [Pt b,.map none] true (λO j=>?_) (λe c u y he=>?_)
  .rw[y];exact jtf (j _ _ _ DL rfl)
  refine z_V ?_;rw[y];refine DM (Ao (A:=[]) a0 ⟨rfl,?_⟩);rw[hn];exact rfl
 | some l=>
  rw[Q] at hq;obtain⟨mb,o,a4,hm,rfl⟩:=hq;have d3:=h;have h:=h.le a0;have bnd:TB l/\l.length<=192/\(l.map AQ.at_).Nodup:=by
   have H:=Q;unfold Eo at H;split at H;rotate_left
   .cases H
   unfold BI at H;have h2:=Ml (by have:=h.b.wl;have:=h.b.t1;omega) H;obtain⟨h3,h4⟩:=FB H;have:=h.b.t1;rw[eT] at h2;exact⟨h2.1,Z,Lp h3 λx hx=>(h4 x hx).2.1⟩
  obtain⟨tb,d2,nd⟩:=bnd;refine jex rfl (jex rfl ?_);refine jor [Pt b,.map (some mb)] (!CP s l) (λO j=>?_) (λe c u y he=>?_)
  .exact jff (jla (l:=eSt s wv tv mv thv ov pv) (by exact z_n 13) rfl (jrp (QS h a4 hm tb nd) (j _ _ _ CH rfl)))
  refine z_V ?_;refine jor [Pt b,.map (some mb)] ((!CP s l) || (decide (s.Ae < 0))) (λO j=>?_) (λe c u y he=>?_)
  .rw[y];refine jgO j λH N=>jl (v:=I s.Ae) rfl (jlt N)
  refine z_V ?_;refine jor [Pt b,.map (some mb)] ((!CP s l || decide (s.Ae < 0)) || (decide (s.Ae > 3))) (λO j=>?_) (λe c u y he=>?_)
  .rw[y];refine jgO j λH N=>jl (v:=I s.Ae) rfl (jgr N)
  refine z_V ?_;refine jor [Pt b,.map (some mb)] ((!CP s l || decide (s.Ae < 0) || decide (s.Ae > 3)) || (decide ((s.AB.length:Int) < 1))) (λO j=>?_) (λe c u y he=>?_)
  .rw[y];refine jgO j λH N=>jl (v:=thv) rfl (Bo h.c.th.sl (jlt N))
  refine z_V ?_;refine jor [Pt b,.map (some mb)] ((!CP s l || decide (s.Ae < 0) || decide (s.Ae > 3) || decide ((s.AB.length:Int) < 1)) || (decide ((s.AB.length:Int) > 3))) (λO j=>?_) (λe c u y he=>?_)
  .rw[y];refine jgO j λH N=>jl (v:=thv) rfl (Bo h.c.th.sl (jgr N))
  refine z_V ?_;refine jor [Pt b,.map (some mb)] ((!CP s l || decide (s.Ae < 0) || decide (s.Ae > 3) || decide ((s.AB.length:Int) < 1) || decide ((s.AB.length:Int) > 3)) || (decide ((s.AI.length:Int) > 8))) (λO j=>?_) (λe c u y he=>?_)
  .rw[y];refine jgO j λH N=>jl (v:=pv) rfl (Bo h.c.p.sl (jgr N))
  refine z_V ?_;rw[y];have a9:C8 s l = false->∀{D:Chs},[Sf D F]->J R1 D (Fb R F (λr R' A=>A = []/\Yk (CU s) s wv tv mv thv ov pv r R') (.pointer none)):=λT D _=>Ao (A:=[]) a0 ⟨rfl,by rw[Mh Q T];exact rfl⟩
  refine jif (λh0=>?_) (λh0=>?_)
  .refine a9 ?_;rw[eI];intro T;unfold C8 at T;simp only[z_b,z_d] at T;obtain⟨⟨⟨⟨⟨⟨⟨g1,g2⟩,g3⟩,g4⟩,g5⟩,g6⟩,g7⟩,g8⟩:=T;rw[g1] at h0;simp only[fW,dU,d7,z_d] at h0;omega
  simp only[ci,dL,decide_eq_false_iff_not] at h0;obtain⟨⟨⟨⟨⟨g1,g2⟩,g3⟩,g4⟩,g5⟩,g6⟩:=h0;have S:=T4 Q g1;have n1:=h.b.n1;clear y he;refine Ab (λvs R' D'=>R' = R1/\s.AB.all Fk = true/\D' = (b,C AW (eSt s wv tv mv thv ov pv)) :: F/\vs = [Pt b,.map (some mb)]) (λK hK=>?_) ?_
  .refine jl (v:=thv) rfl (Bo h.c.th.sl ?_);refine jcI hK λK2 a5=>?_
   refine jlp (λm vs R' D'=>R' = R1/\∃(i:Nat),i<=s.AB.length/\m = s.AB.length - i/\(s.AB.take i).all Fk = true/\D' = (b,C AW (eSt s wv tv mv thv ov pv)) :: F/\vs = [Pt b,.map (some mb),thv,I s.AB.length,I i]) (n:=s.AB.length) ⟨rfl,0,Z,rfl,rfl,rfl,rfl⟩ ?_;rintro m e R2 D2 K3 ⟨hR,i,hi,c5,a1,hD,he⟩ a6;subst hR;refine z_W ?_;clear hD;refine jlt (jif (λhc=>?_) (λhc=>?_));rotate_left
   .have hc:=z_g hc;rw[cO Z] at a1;exact a5 _ _ _ ⟨rfl,a1,rfl,rfl⟩
   have hc:i < s.AB.length:=by have:=z_f hc;omega
   refine jtr h.c.th hc λb2 o2 ty cs rv b0 b7 c7 b5=>?_
   refine Do (l:=[rv,I (s.AB[i]).next,.bool (s.AB[i]).busy,I (s.AB[i]).Am]) b7 c7 b5 (ja λb3=>?_);obtain⟨ra,rc,rfl⟩:=b0.sl;refine jS ([.slice ra (s.AB[i]).AD.length rc,I (s.AB[i]).next,.bool (s.AB[i]).busy,I (s.AB[i]).Am]) ?_;refine jor [Pt b,.map (some mb),Pt b3,thv,I s.AB.length,I (i:Int)] ((decide (((s.AB[i]).AD.length:Int) > 8)) || (decide ((s.AB[i]).Am < 0))) (λO j=>?_) (λe c u y he=>?_)
   .refine jl (v:=.slice ra (s.AB[i]).AD.length rc) rfl (jln (jgr (jgO j λH N=>jl (v:=I (s.AB[i]).Am) rfl (jlt N))))
   refine z_V ?_;refine jor [Pt b,.map (some mb),thv,I s.AB.length,I (i:Int)] ((decide (((s.AB[i]).AD.length:Int) > 8) || decide ((s.AB[i]).Am < 0)) || (decide ((s.AB[i]).Am > 2))) (λO j=>?_) (λe c u y he=>?_)
   .rw[y];refine jgO j λH N=>jl (v:=I (s.AB[i]).Am) rfl (jgr N)
   refine z_V ?_;rw[y];have b6:(decide (((s.AB[i]).AD.length:Int) > 8) || decide ((s.AB[i]).Am < 0) || decide ((s.AB[i]).Am > 2)) = !Fk s.AB[i]:=by
    unfold Fk;rw[dX];simp only[d7,cz,fH,z_d,decide_eq_false_iff_not];omega
   rw[b6];refine jif (λH=>?_) (λH=>?_)
   .refine a9 ?_;rw[eI];intro T;unfold C8 at T;simp only[z_b] at T;have:=ck.1 T.1.2 _ (cK hc);rw[this] at H;cases H
   .refine jad (Bf ?_);refine a6 (s.AB.length - (i + 1)) _ _ _ Z ⟨rfl,i + 1,Z,rfl,?_,rfl,rfl⟩;rw[cI hc,fS,a1];simpa using H
  rintro e R2 D2 ⟨hR,a1,hD,he⟩;subst hR;refine z_W ?_;clear hD;refine Ab (λvs R' D'=>R' = R2/\s.AI.all (Dt s l) = true/\D' = (b,C AW (eSt s wv tv mv thv ov pv)) :: F/\vs = [Pt b,.map (some mb)]) (λK hK=>?_) ?_
  .refine jl (v:=pv) rfl (Bo h.c.p.sl ?_);refine jcI hK λK2 a5=>?_
   refine jlp (λm vs R' D'=>R' = R2/\∃(i:Nat),i<=s.AI.length/\m = s.AI.length - i/\(s.AI.take i).all (Dt s l) = true/\D' = (b,C AW (eSt s wv tv mv thv ov pv)) :: F/\vs = [Pt b,.map (some mb),pv,I s.AI.length,I i]) (n:=s.AI.length) ⟨rfl,0,Z,rfl,rfl,rfl,rfl⟩ ?_;rintro m e R3 D3 K3 ⟨hR,i,hi,c5,W,hD,he⟩ a6;subst hR;refine z_W ?_;clear hD;refine jlt (jif (λhc=>?_) (λhc=>?_));rotate_left
   .have hc:=z_g hc;rw[cO Z] at W;exact a5 _ _ _ ⟨rfl,W,rfl,rfl⟩
   have hc:i < s.AI.length:=by have:=z_f hc;omega
   have c9:=h.b.pv _ (cK hc);refine Bl h.c.p Z Z ?_;simp only[cG];refine Zp (Li.fz a4) hm λn nb rv nv b1 b9 b0 c6=>?_
   obtain⟨ra,rc,rfl⟩:=b0.sl;obtain⟨na,nc,rfl⟩:=c6.sl;refine jex rfl (jex rfl (ja λb3=>?_));refine jS (eTh n (.slice ra n.refs.length rc) (.slice na n.nums.length nc)) ?_;refine jor [Pt b,.map (some mb),I (s.AI[i]),pv,I s.AI.length,I (i:Int)] ((!nb) || (n.moved != s.AI[i])) (λO j=>?_) (λe c u y he=>?_)
   .refine jgO j λH N=>jl (v:=I n.moved) rfl (jne N)
   refine z_V ?_;refine jor [Pt b,.map (some mb),pv,I s.AI.length,I (i:Int)] ((!nb || (n.moved != s.AI[i])) || (Dg s s.AI[i])) (λO j=>?_) (λe c u y he=>?_)
   .rw[y];refine jgO j λH N=>jla (l:=eSt s wv tv mv thv ov pv) (by exact z_n 13) rfl (jrp (Mf h c9.1 Z) N)
   refine z_V ?_;rw[y];have c8:(!nb || (n.moved != s.AI[i]) || Dg s s.AI[i]) = !Dt s l s.AI[i]:=by
    unfold Dt;cases nb with
    | false=>
     have:B7 l s.AI[i] = none:=by
      cases h:B7 l s.AI[i] with
      | none=>rfl
      | some x=>rw[h] at b1;cases b1
     rw[this];rfl
    | true=>
     rw[b9 rfl];dsimp only;unfold bne;cases n.moved == s.AI[i]<;>cases Dg s s.AI[i]<;>rfl
   rw[c8];refine jif (λH=>?_) (λH=>?_)
   .refine a9 ?_;rw[eI];intro T;unfold C8 at T;simp only[z_b] at T;have:=ck.1 T.2 _ (cK hc);rw[this] at H;cases H
   .refine jad (Bf ?_);refine a6 (s.AI.length - (i + 1)) _ _ _ Z ⟨rfl,i + 1,Z,rfl,?_,rfl,rfl⟩;rw[cI hc,fS,W];simpa using H
  rintro e R3 D3 ⟨hR,W,hD,he⟩;subst hR;refine z_W ?_;clear hD;have a8:C8 s l = true:=by
   unfold C8;simp only[z_b,z_d];exact⟨⟨⟨⟨⟨⟨⟨g1,Z⟩,Z⟩,Z⟩,Z⟩,Z⟩,a1⟩,W⟩
  have c0:CU s = (Dd s l).map λm=>(l,m):=by unfold CU;rw[Q];dsimp only;rw[if_pos a8]
  rw[c0];refine jla (l:=eSt s wv tv mv thv ov pv) (by exact z_n 13) rfl ?_;refine jbd (cs:=eHp s wv tv mv thv ov pv mb (SN)) rfl rfl (ja λhb=>?_);rw[show cl (.agg (eHp s wv tv mv thv ov pv mb (SN)).toArray) = eHp s wv tv mv thv ov pv mb (SN) from rfl];refine jc (A:=[(hb,C 103 (eHp s wv tv mv thv ov pv mb (SN)))]) (V1 h a4 hm S Z tb W) ?_;intro r R4 A4 a2 hq;cases b4:Dd s l with
  | none=>
   rw[b4] at hq;obtain⟨rfl,rfl⟩:=hq;exact DM (Ao (A:=[]) (a0.trans a2) ⟨rfl,rfl⟩)
  | some d4=>
   rw[b4] at hq;obtain⟨rfl,v2,A2,d1,rfl⟩:=hq;refine CW ?_;refine Al A2 (G:=[(hb,C 103 (eHp s wv tv mv thv ov pv mb v2))] ++ (b,C AW (eSt s wv tv mv thv ov pv)) :: F) ?_;refine Dw d1 λR5 a7 c4=>?_
   refine BB (b:=hb) λR6 a3 b8=>?_
   exact Ao (A:=[]) (a0.trans (a2.trans (a7.trans a3))) ⟨rfl,hb,mb,v2,rfl,o,b8,a3 _ _ (a7 _ _ (a2 _ _ a4)),hm.le (a2.trans (a7.trans a3)),c4.le a3⟩
end st
end Go.Lf
end
section
namespace Go.Proofs
def Tryz.lays189_ren:Go.Shelf.Ren:=⟨λ | 189=>137 | 125=>169 | 257=>168 | 128=>193 | 129=>194 | 294=>185 | 295=>186 | 296=>187 | 297=>188 | 298=>189 | 299=>190 | 216=>138 | 300=>191 | 301=>192 | 328=>221 | 329=>222 | 330=>223 | 331=>224 | 332=>225 | 215=>170 | 343=>235 | n=>n,λ | 28=>30 | 3=>3 | 46=>179 | 0=>0 | 51=>206 | 53=>208 | 4=>4 | 183=>201 | 182=>200 | 131=>120 | 5=>5 | 9=>9 | 218=>220 | 222=>224 | 228=>232 | 229=>63 | n=>n,λ | n=>n⟩
theorem Tryz.lays189:Go.Proofs.Lays.n189 Tryz.prog Tryz.lays189_ren:={
 mixed:=by kernel_rfl
 f125:=Tryz.func169.trans (congrArg some (by kernel_rfl))
 f128:=Tryz.func193.trans (congrArg some (by kernel_rfl))
 f129:=Tryz.func194.trans (congrArg some (by kernel_rfl))
 f189:=Tryz.func137.trans (congrArg some (by kernel_rfl))
 f215:=Tryz.func170.trans (congrArg some (by kernel_rfl))
 f216:=Tryz.func138.trans (congrArg some (by kernel_rfl))
 f257:=Tryz.func168.trans (congrArg some (by kernel_rfl))
 f294:=Tryz.func185.trans (congrArg some (by kernel_rfl))
 f295:=Tryz.func186.trans (congrArg some (by kernel_rfl))
 f296:=Tryz.func187.trans (congrArg some (by kernel_rfl))
 f297:=Tryz.func188.trans (congrArg some (by kernel_rfl))
 f298:=Tryz.func189.trans (congrArg some (by kernel_rfl))
 f299:=Tryz.func190.trans (congrArg some (by kernel_rfl))
 f300:=Tryz.func191.trans (congrArg some (by kernel_rfl))
 f301:=Tryz.func192.trans (congrArg some (by kernel_rfl))
 f328:=Tryz.func221.trans (congrArg some (by kernel_rfl))
 f329:=Tryz.func222.trans (congrArg some (by kernel_rfl))
 f330:=Tryz.func223.trans (congrArg some (by kernel_rfl))
 f331:=Tryz.func224.trans (congrArg some (by kernel_rfl))
 f332:=Tryz.func225.trans (congrArg some (by kernel_rfl))
 f343:=Tryz.func235.trans (congrArg some (by kernel_rfl))
 t0:=Tryz.underlying0
 a0:=Tryz.isAgg0
 z0:=Tryz.sizeOf0
 v0:=Tryz.zeroValue0
 t3:=Tryz.underlying3
 a3:=Tryz.isAgg3
 z3:=Tryz.sizeOf3
 v3:=Tryz.zeroValue3
 t4:=Tryz.underlying4
 a4:=Tryz.isAgg4
 z4:=Tryz.sizeOf4
 v4:=Tryz.zeroValue4
 t5:=Tryz.underlying5
 a5:=Tryz.isAgg5
 z5:=Tryz.sizeOf5
 v5:=Tryz.zeroValue5
 t9:=Tryz.underlying9
 a9:=Tryz.isAgg9
 z9:=Tryz.sizeOf9
 v9:=Tryz.zeroValue9
 t28:=Tryz.underlying30
 a28:=Tryz.isAgg30
 z28:=Tryz.sizeOf30
 v28:=Tryz.zeroValue30
 t46:=Tryz.underlying179
 a46:=Tryz.isAgg179
 z46:=Tryz.sizeOf179
 v46:=Tryz.zeroValue179
 t51:=Tryz.underlying206
 a51:=Tryz.isAgg206
 z51:=Tryz.sizeOf206
 v51:=Tryz.zeroValue206
 t53:=Tryz.underlying208
 a53:=Tryz.isAgg208
 z53:=Tryz.sizeOf208
 v53:=Tryz.zeroValue208
 t131:=Tryz.underlying120
 a131:=Tryz.isAgg120
 z131:=Tryz.sizeOf120
 v131:=Tryz.zeroValue120
 t182:=Tryz.underlying200
 a182:=Tryz.isAgg200
 z182:=Tryz.sizeOf200
 v182:=Tryz.zeroValue200
 t183:=Tryz.underlying201
 a183:=Tryz.isAgg201
 z183:=Tryz.sizeOf201
 v183:=Tryz.zeroValue201
 t218:=Tryz.underlying220
 a218:=Tryz.isAgg220
 z218:=Tryz.sizeOf220
 v218:=Tryz.zeroValue220
 t222:=Tryz.underlying224
 a222:=Tryz.isAgg224
 z222:=Tryz.sizeOf224
 v222:=Tryz.zeroValue224
 t228:=Tryz.underlying232
 a228:=Tryz.isAgg232
 z228:=Tryz.sizeOf232
 v228:=Tryz.zeroValue232
 t229:=Tryz.underlying63
 a229:=Tryz.isAgg63
 z229:=Tryz.sizeOf63
 v229:=Tryz.zeroValue63 }
end Go.Proofs
namespace Go.Lf
open Go Sm Go.Sort
theorem St.grow {h:DR} {R:RM} {D:Chs} (x:St h R D) (A:Array Obj):St (h ++ A) R D:=by
 have j:∀b o,h[b]? = some o->(h ++ A)[b]? = some o:=λb o hb=>by
  have:=(eM.1 hb).1;rw[Array.getElem?_append_left this];exact hb
 exact⟨λb o hb=>j b o (x.rd b o hb),λb o y=>⟨j b o (x.at_ b o y).1,(x.at_ b o y).2⟩,x.nd⟩
def Kr (l:List Int):List Int:=l.mergeSort λx y=>decide (x<=y)
theorem JI (l:List Int):(Kr l).length = l.length:=(List.mergeSort_perm l _).length_eq
theorem Z2 {R:RM} {l:List Int} {b c:Nat} {sp:List Value} (hl:l.length < 1000000) :
  Fn P Fs [S0 b l.length c] R [(b,C Aa (l.map I ++ sp))] (λv Q A=>Q = R/\v = U/\A = [(b,C Aa ((Kr l).map I ++ sp))]):=by
 intro F h O w hw;subst hw;have hb:=(O.at_ b (C Aa (l.map I ++ sp)) V).1;have G:b < w.heap.size:=(eM.1 hb).1;have W:Holds (Value.int .i64) w b 0 l.toArray:=λj hj=>by
  have D : j < l.length:=by simpa using hj
  refine⟨?_,by simp[World.frozen?,hb]⟩;rw[cg];show w.cell? ⟨b,j,none⟩ = _;rw[Tv];unfold hc;rw[hb];show ((l.map I ++ sp).toArray)[j]? = _;rw[List.getElem?_toArray,de (by simpa using D),dH,cF D];simp[D]
 refine (Go.Proofs.Any.slices_Sort_int Go.Proofs.Tryz.lays189 b 0 c l w W G Z).mono ?_;rintro e w' ⟨rfl,n,os,rfl⟩;refine⟨_,rfl,⟨rfl,rfl⟩,R,[(b,C Aa ((Kr l).map I ++ sp))],RM.le.refl R,?_,rfl,rfl,rfl⟩;have K:(w.heap.modify b (onCells (putCells (Value.int .i64) 0 (Kr l).toArray)))[b]? = some (C Aa ((Kr l).map I ++ sp)):=by
  rw[eX,if_pos rfl,hb];simp only[eS,onCells];congr 2;apply Array.toList_inj.1;apply List.ext_getElem?;intro k;unfold putCells;rw[dg,Array.getElem?_mapIdx,List.getElem?_toArray];by_cases H:k < l.length
  .have y:k < (Kr l).length:=by rw[JI];exact H
   rw[de (by simpa using H),de (by simpa using y),dH,dH,cF H,cF y];simp[y]
  .have y:¬ k < (Kr l).length:=by rw[JI];exact H
   rw[eO (by simpa using H),eO (by simpa using y),cM,cM,JI];cases sp[k - l.length]? with
   | none=>rfl
   | some x=>simp[y]
 have T:St (w.heap.modify b (onCells (putCells (Value.int .i64) 0 (Kr l).toArray))) R ([(b,C Aa ((Kr l).map I ++ sp))] ++ F):=
  O.turn (b:=b) (o:=C Aa (l.map I ++ sp)) K λb' N=>by rw[eX,if_neg (λe=>N e.symm)]
 exact T.grow os
theorem WS:∀{a b:List Int},a.Pairwise (· < ·)->b.Pairwise (· < ·)->(∀x,x∈a↔x∈b)->a = b
 | [],[],_,_,_=>rfl
 | [],y :: b,_,_,h=>absurd ((h y).2 (.head _)) V
 | x :: a,[],_,_,h=>absurd ((h x).1 (.head _)) V
 | x :: a,y :: b,ha,hb,h=>by
  rw[eJ] at ha hb;have G:x = y:=by
   rcases cU.1 ((h x).1 (.head _)) with e | e
   .exact e
   .rcases cU.1 ((h y).2 (.head _)) with A | A
    .exact A.symm
    .have:=hb.1 x e;have:=ha.1 y A;omega
  subst G;rw[WS ha.2 hb.2 λz=>?_];have D:=h z;simp only[cU] at D;constructor
  .intro j;rcases D.1 (.inr j) with e | e
   .subst e;have:=ha.1 z j;omega
   .exact e
  .intro j;rcases D.2 (.inr j) with e | e
   .subst e;have:=hb.1 z j;omega
   .exact e
theorem XS {l:List Int} (h:l.Nodup):Kr l = Ac l:=by
 obtain⟨j,A⟩:=Bk h;refine WS ?_ j λx=>?_
 .have p:=List.mergeSort_perm l (λx y=>decide (x<=y));have s:(Kr l).Pairwise λx y=>decide (x<=y) = true:=List.pairwise_mergeSort (λa b c j A=>by simp at *;omega) (λa b=>by simp;omega) l
  have nd:(Kr l).Nodup:=p.nodup_iff.2 h;exact (s.and nd).imp λ⟨a,b⟩=>by have:=z_f a;omega
 .rw[A];exact (List.mergeSort_perm l _).mem_iff
end Go.Lf
end
section
namespace Go.Lf
open Go Sm
section rules
variable {R:RM} {D:Chs} {k:Value->M}
theorem ZG {a b:Nat} {x y:Value} (j:∀w,(Go.convert a b x).run P w = .ok y w) (H:J R D (k y)):J R D (X P (Go.convert a b x) k):=by
 intro h A w G;rw[j];subst G;exact⟨BG.refl _,H _ A⟩
theorem jix {s:ByteArray} {i n:Int} {kd:IntKind} (h0:0<=i/\i.toNat < s.size) (j:((s[i.toNat]'h0.2).toNat:Int) = n) (H:J R D (k (.int .u8 n))):J R D (IX (.string s) (.int kd i) k):=λh x=>⟨h0,by rw[j];exact H h x⟩
end rules
set_option maxRecDepth 4000 in
theorem UM:Pu Ff [.int .u64 0] (I 0):=by
 intro R;refine J7 λF=>?_
 refine z_1 ?_;refine Bz [.int .u64 0,I 0] (λx j=>?_) (λe he=>?_)
 .exact j
 refine z_V ?_;refine Bz [.int .u64 0,I 0] (λx j=>?_) (λe he=>?_)
 .exact j
 refine z_V ?_;refine Bz [.int .u64 0,I 0] (λx j=>?_) (λe he=>?_)
 .exact j
 refine z_V ?_;refine @ZG _ _ _ 208 5 _ (.int .u8 0) (λw=>by kernel_rfl) (jix (n:=0) ⟨δ,δ⟩ δ (@ZG _ _ _ 5 3 _ (I 0) (λw=>by kernel_rfl) (Cz ⟨δ,δ⟩ (Ao (A:=[]) (RM.le.refl R) rfl))))
theorem Yd:Pu Gj [.int .u64 0] (I 0):=by
 intro R;refine Kl λF=>?_
 refine z_1 ?_;exact CW (jp UM (Ao (A:=[]) (RM.le.refl R) rfl))
theorem Xb:Pu DQ [SN,I 0,I 0] U:=by
 intro R;refine Ey λF=>?_
 refine z_3 ?_;refine Cz ⟨δ,δ⟩ (jlp (λm D x j=>x = R/\j = [] ++ F/\D = [SN,I 0,I 0,I 1]) (n:=0) ⟨rfl,rfl,rfl⟩ ?_);rintro m e H G K ⟨y,hD,he⟩ _;subst y;refine z_W ?_;exact jlt (CW (Ao (A:=[]) (RM.le.refl _) rfl))
theorem Ye:Pu EG [SN,I 0,I 0,I 0] U:=by
 intro R;refine GE λF=>?_
 refine z_4 ?_;refine jlp (λm G D j=>D = R/\j = [] ++ F/\∃x y,G = [SN,I 0,I 0,I 0,x,y]) (n:=0) ⟨rfl,rfl,_,_,rfl⟩ ?_;rintro m e T O K ⟨N,hD,x,y,he⟩ _;subst N;refine z_W ?_;refine Ab (λG D j=>False) (λQ H=>(RZ ⟨δ,δ⟩ (jle (DM (jp Xb (Ao (A:=[]) (RM.le.refl _) rfl)))))) (λe D j h=>h.elim)
theorem Vp:Pu Fs [SN] U:=by
 intro R;refine NM λF=>?_
 refine z_1 ?_;refine jln ?_;refine @ZG _ _ _ 3 179 _ (.int .u64 0) (λw=>by kernel_rfl) ?_;exact jp Yd (jp Ye (Ao (A:=[]) (RM.le.refl R) rfl))
end Go.Lf
end
section
namespace Sm
open Go.Lf
theorem Qu {l:List AQ} (S:Stl l):∀{n i:Nat} {out r:List Int},Dq l out->BH l n i out = some r->Dq l r
 | 0,i,out,r,M,h=>by cases h
 | n + 1,i,out,r,M,h=>by
  by_cases c:i < out.length
  .obtain⟨t,x⟩:=M.th _ (cK c);rw[C9 c x] at h;cases j:Aq l t.refs out with
   | none=>rw[j] at h;cases h
   | some o=>rw[j] at h;exact Qu S (M.all S j) h
  .rw[CJ Z] at h;cases h;exact M
structure HpF (s:Ah) (l:List AQ) (met:List Int):Prop where
 ths:Eo s = some l
 head:C8 s l = true
 re:Dd s l = some met
 S:Stl l
 M:Dq l met
 asc:l.Pairwise (λx y=>x.at_ + AG x.sh<=y.at_)
theorem EJ {s:Ah} {l:List AQ} {j:List Int} (h:CU s = some (l,j)):HpF s l j:=by
 unfold CU at h;cases y:Eo s with
 | none=>rw[y] at h;cases h
 | some K=>
  rw[y] at h;dsimp only at h;split at h;rotate_left
  .cases h
  rename_i H;obtain⟨m,x,e⟩:=eR.1 h;cases e;have D:=H;unfold C8 at D;simp only[z_b] at D;have S:=T4 y D.1.1.1.1.1.1.1;have M:Dq l j:=by
   rw[DV D.2] at x;cases G:Aq l (Cs s) [] with
   | none=>rw[G] at x;cases x
   | some out=>rw[G] at x;exact Qu S (Dq.nil.all S G) x
  refine⟨y,H,x,S,M,?_⟩;have A:=y;unfold Eo at A;split at A
  .exact (FB A).1
  .cases A
end Sm
namespace Go.Lf
open Go Sm
section st
variable {R:RM} {s:Sm.Ah} {wv tv mv thv ov pv:Value} {l:List AQ} {met:List Int}
theorem W5 {hb mb:Nat} {v:Value} (K:HpV R s wv tv mv thv ov pv l met hb mb v) (nd:met.Nodup) (hl:met.length < 1000000):Fn P Hl [Pt hb] R [] (λv D A=>D = R/\SO (Ac met) v A):=by
 refine N9 λF=>?_
 refine z_1 ?_;obtain⟨o,G,h2,h3,H⟩:=K;refine jnc (jfo (jlr G rfl (jc (Dk H hl) ?_)));rintro x T O _ ⟨j,N,_⟩;subst j;rcases N with ⟨rfl,rfl,rfl⟩ | ⟨b,c,sp,hc,hsp,rfl,rfl⟩
 .exact jp Vp (Ao (RM.le.refl _) ⟨rfl,.inl ⟨rfl,rfl,rfl⟩⟩)
 .refine jc (A:=[(b,C Aa (met.map I ++ sp))]) (Z2 hl) ?_;rintro v2 W Q _ ⟨j,rfl,rfl⟩;subst j;have e:=XS nd;have y:=JI met;rw[e] at y ⊢;refine Ao (RM.le.refl _) ⟨rfl,.inr ⟨b,c,sp,Z,Z,by rw[y],rfl⟩⟩
theorem W8 (w:World) (x y:Operand) (hb:Nat):(do eqGuard .eql 98 x y (Pt hb) (.pointer none);binOp .eql 98 (Pt hb) (.pointer none):Sem Value).run P w = .ok (.bool false) w:=by kernel_rfl
theorem VI (w:World) (x y:Operand):(do eqGuard .eql 98 x y (.pointer none) (.pointer none);binOp .eql 98 (.pointer none) (.pointer none):Sem Value).run P w = .ok (.bool true) w:=by kernel_rfl
theorem jxr {R:RM} {D:Chs} {k:Value->M} {s:Sem Value} {y:Value} (j:∀w,s.run P w = .ok y w) (H:J R D (k y)):J R D (X P s k):=by
 intro h x w A;rw[j];subst A;exact⟨BG.refl _,H _ x⟩
end st
end Go.Lf
end
section
namespace Go.Lf
open Go Sm
section rules
variable {R:RM} {D:Chs} {k:Value->M}
theorem Ui {v:Value} {l:List AQ} {i:Nat} (h:Tgs R v l) (x:i < l.length) (H:J R D (k (I (l[i]).at_))):J R D (IA 6 v (I (i:Int)) λp=>FO 0 p λq=>L1 q k):=
 jtg h x λ_ _ _ _ _ _ _ _ hb _ j=>jfo (jlr hb (Bc j rfl) H)
theorem Y2 {v:Value} {l:List AQ} {i:Nat} (h:Tgs R v l) (x:i < l.length) (H:J R D (k (I (l[i]).moved))):J R D (IA 6 v (I (i:Int)) λp=>FO 1 p λq=>L1 q k):=
 jtg h x λ_ _ _ _ _ _ _ _ hb _ j=>jfo (jlr hb (Bc j rfl) H)
theorem Yw {v:Value} {l:List AQ} {i:Nat} (h:Tgs R v l) (x:i < l.length) (H:J R D (k (.agg #[I (l[i]).sh.refs,I (l[i]).sh.nums]))):J R D (IA 6 v (I (i:Int)) λp=>FO 2 p λq=>LA 2 q k):=
 jtg h x λ_ _ _ y _ _ _ _ hb A j=>jfo (Do hb Z (by
  have e:=congrArg (λz=>(z.drop 2).take 2) j
  simp only[fI,fP,fO] at e
  exact e) H)
theorem jrk {v:Value} {t:List Rg} {r:Nat} (h:RgZ R v t) (j:r < t.length) (H:J R D (k (I (t[r]).kind))):J R D (IA 5 v (I (r:Int)) λp=>FO 0 p λq=>L1 q k):=by
 obtain⟨b,c,sp,rfl,hb,_⟩:=h;exact C0 j (jfo (jlr hb (by rw[cg];exact C6 j rfl) H))
theorem HY {l:List AQ} {a:Int} (h:B7 l a = none):Ol l a = -1:=by
 unfold Ol;have:l.findIdx? (λt=>t.at_ == a) = none:=by
  rw[List.findIdx?_eq_none_iff];unfold B7 at h;rw[List.find?_eq_none] at h;intro x j;simpa using h x j
 rw[this]
theorem OZ {G:List Nat} {B:(List Value->M)->M} {K:Env->M} (pre:List Value) (p:Prop) (H:∀j : List Value->M,(p->J R D (j pre))->J R D (B j)) (N:∀e,p->G.map e = pre->J R D (K e)):J R D (CUT G B K):=
 Ab (λW A y=>p/\A = R/\y = D/\W = pre) (λj h=>H j λx=>h _ _ _ ⟨x,rfl,rfl,rfl⟩) λe A y ⟨x,O,Q,T⟩=>by
  subst O Q;exact N e x T
theorem Qg {x:List Nat} {B:(List Value->M)->Env->M} (pre:List Value) (n:Nat) (p:Nat->Prop) (h0:p 0)
  (H:∀(i:Nat) K e,i<=n->p i->(i < n->p (i + 1)->J R D (K (pre ++ [I ((i:Int) + 1)])))->x.map e = pre ++ [I i]->J R D (B K e)):J R D (LP x B (pre ++ [I 0])):=by
 refine jlp (λm T A y=>A = R/\y = D/\∃i:Nat,i<=n/\m = n - i/\p i/\T = pre ++ [I i]) (n:=n) ⟨rfl,rfl,0,Z,Z,h0,rfl⟩ ?_;rintro m e R1 W K ⟨N,hD,i,O,hm,Q,he⟩ G;subst N hD;exact H i K e O Q (λh j=>G (n - (i + 1)) _ _ _ Z ⟨rfl,rfl,i + 1,Z,rfl,j,rfl⟩) he
end rules
end Go.Lf
end
section
namespace Sm
open Go.Lf
theorem N6 {s:Ah} {l:List AQ} {t:AQ} (j:t∈l) (h:B7 l t.moved = none) (nd:(l.map AQ.at_).Nodup):CL s l t = false:=by
 unfold CL;rw[h,Bool.or_false,beq_eq_false_iff_ne];intro e;rw[e,E0 nd j] at h;cases h
theorem NI {s:Ah} {l:List AQ} {t n:AQ} (j:t∈l) (h:B7 l t.moved = some n) (nd:(l.map AQ.at_).Nodup):CL s l t = (!(n.moved != n.at_) && (n.sh == t.sh) && (t.moved == t.at_ || (!Dg s n.at_ && Dg s t.at_))):=by
 unfold CL;by_cases c:t.moved = t.at_
 .have:n = t:=by rw[c,E0 nd j] at h;exact (da h).symm
  subst this;rw[c];simp
 .rw[h];dsimp only;unfold bne;rw[beq_eq_false_iff_ne.2 c];cases n.sh == t.sh<;>cases n.moved == n.at_<;>cases Dg s n.at_<;>cases Dg s t.at_<;>rfl
end Sm
namespace Sm
open Go.Lf
theorem Yg (had:List Int) (a:Int):(Bu had a).length<=had.length + 1:=by
 unfold Bu;split
 .omega
 .simp
theorem FG {l:List AQ}:∀{xs acc r:List Int},Aq l xs acc = some r->r.length<=acc.length + xs.length
 | [],acc,r,h=>by cases h;simp
 | x :: xs,acc,r,h=>by
  rw[Bn] at h;cases j:now l x with
  | none=>rw[j] at h;cases h
  | some y=>
   rw[j] at h;have A:=FG (xs:=xs) h;have D:=Yg acc y;rw[cS];omega
theorem V7 {s:Ah} {l:List AQ} (h:Eo s = some l) (y:Aq l (Cs s) [] = none):(CU s).isSome = false:=by
 unfold CU;rw[h];dsimp only;split
 .rename_i x;have j:=x;unfold C8 at j;simp only[z_b] at j;rw[DV j.2,y];rfl
 .rfl
end Sm
namespace Go.Lf
open Go Sm
section st
variable {R:RM} {s:Sm.Ah} {wv tv mv thv ov pv:Value}
theorem Jb {l:List AQ} (h:BI s = some l) {t:AQ} (y:t∈l) (O:s.AA.length<=12):∃r:Nat,AN t.at_ = r/\∃Q:r < s.AA.length,Dg s t.at_ = ((s.AA[r]).kind == 4):=by
 unfold BI at h;obtain⟨_,j⟩:=FB h;obtain⟨A,D,G,k,x,H,K,N⟩:=j t y;rw[eT] at x;have e:AN t.at_ = (1 + k:Nat):=by unfold AN;rw[if_neg Z];omega
 refine⟨1 + k,e,Z,?_⟩;unfold Dg;rw[e,Ea (by omega:1 + k < s.AA.length)];rw[decide_eq_true (by omega:(0:Int)<=(1 + k:Nat)),decide_eq_true (by omega:((1 + k:Nat):Int) < s.AA.length)];rfl
set_option maxHeartbeats 4000000 in
set_option maxRecDepth 4000 in
theorem Ty (h:SF R s wv tv mv thv ov pv):Ro Jo [.agg (eSt s wv tv mv thv ov pv).toArray] (.bool (CU s).isSome) R []:=by
 refine Pm λF=>?_
 refine z_1 ?_;refine ja λb=>?_
 rw[show cl (.agg (eSt s wv tv mv thv ov pv).toArray) = eSt s wv tv mv thv ov pv from rfl];obtain⟨tb,tc,sp,rfl,hb,k4⟩:=h.z;obtain⟨wa,wc,rfl⟩:=h.c.w.sl;obtain⟨ma,mc,rfl⟩:=h.c.m.sl;have t0:=h.b.t0;have t1:=h.b.t1;have wl:=h.b.wl;have n1:=h.b.n1;have a0:∀{R' : RM} {D:Chs} {x:Bool},R.le R'->(CU s).isSome = x->[Sf D F]->J R' D (Fb R F (λv' _ A=>v' = .bool (CU s).isSome/\A = []) (.bool x)):=λhR hx _=>by
  rw[<- hx];exact Ao (A:=[]) hR ⟨rfl,rfl⟩
 refine jor [Pt b] ((!BL s.AC.length) || (!BT s.AA)) (λW H=>?_) (λe c u ho he=>?_)
 .refine jl (v:=.slice wa s.AC.length wc) rfl (jp (JV wa s.AC.length wc Z) (jgO H λh1 hN=>jl (v:=S0 tb s.AA.length tc) rfl (bC hb (λR' _=>FC (t:=s.AA) (sp:=sp) Z) hN)))
 refine z_V ?_;refine jor [Pt b] ((!BL s.AC.length || !BT s.AA) || ((s.AA.length:Int) * 16 != (s.AC.length:Int))) (λW H=>?_) (λe c u ho he=>?_)
 .rw[ho];refine jgO H λh1 hN=>jl (v:=S0 tb s.AA.length tc) rfl (jln (HL ⟨Z,Z⟩ (jl (v:=.slice wa s.AC.length wc) rfl (jln (jne hN)))))
 refine z_V ?_;refine jor [Pt b] ((!BL s.AC.length || !BT s.AA || ((s.AA.length:Int) * 16 != (s.AC.length:Int))) || ((s.AM.length:Int) != (s.AC.length:Int))) (λW H=>?_) (λe c u ho he=>?_)
 .rw[ho];refine jgO H λh1 hN=>jl (v:=.slice ma s.AM.length mc) rfl (jln (jl (v:=.slice wa s.AC.length wc) rfl (jln (jne hN))))
 refine z_V ?_;rw[ho];have g3:(!BL s.AC.length || !BT s.AA || ((s.AA.length:Int) * 16 != (s.AC.length:Int)) || ((s.AM.length:Int) != (s.AC.length:Int))) = !EN s:=by
  have e1:((s.AA.length:Int) * 16 != (s.AC.length:Int)) = !(s.AA.length == s.AC.length / 16):=by
   rw[dX,cz,bne_iff_ne,beq_eq_false_iff_ne];omega
  have e2:((s.AM.length:Int) != (s.AC.length:Int)) = !(s.AM.length == s.AC.length):=by
   rw[dX,cz,bne_iff_ne,beq_eq_false_iff_ne];omega
  rw[e1,e2];unfold EN;cases BL s.AC.length<;>cases BT s.AA<;>cases s.AA.length == s.AC.length / 16<;>cases s.AM.length == s.AC.length<;>rfl
 rw[g3];refine jif (λh0=>?_) (λh0=>?_)
 .have h0:EN s = false:=by simpa using h0
  refine a0 (RM.le.refl R) ?_;unfold CU Eo;rw[if_neg (by rw[h0];decide)];rfl
 have i7:EN s = true:=by simpa using h0
 have a8:Eo s = BI s:=by unfold Eo;rw[if_pos i7]
 clear g3 h0 ho he;refine jor [Pt b] ((decide (s.Ae < 0)) || (decide (s.Ae > 3))) (λW H=>?_) (λe c u ho he=>?_)
 .refine jl (v:=I s.Ae) rfl (jlt (jgO H λh1 hN=>jl (v:=I s.Ae) rfl (jgr hN)))
 refine z_V ?_;refine jor [Pt b] ((decide (s.Ae < 0) || decide (s.Ae > 3)) || (decide ((s.AB.length:Int) < 1))) (λW H=>?_) (λe c u ho he=>?_)
 .rw[ho];refine jgO H λh1 hN=>jl (v:=thv) rfl (Bo h.c.th.sl (jlt hN))
 refine z_V ?_;refine jor [Pt b] ((decide (s.Ae < 0) || decide (s.Ae > 3) || decide ((s.AB.length:Int) < 1)) || (decide ((s.AB.length:Int) > 3))) (λW H=>?_) (λe c u ho he=>?_)
 .rw[ho];refine jgO H λh1 hN=>jl (v:=thv) rfl (Bo h.c.th.sl (jgr hN))
 refine z_V ?_;rw[ho];have a6:∀l,BI s = some l->C8 s l = false->(CU s).isSome = false:=λl hl hh=>by
  rw[Mh (a8.trans hl) hh];rfl
 refine jif (λh0=>?_) (λh0=>?_)
 .refine a0 (RM.le.refl R) ?_;cases hs:BI s with
  | none=>unfold CU;rw[a8,hs];rfl
  | some l=>
   refine a6 l hs ?_;rw[eI];intro hh;unfold C8 at hh;simp only[z_b,z_d] at hh;simp only[d7,z_d] at h0;omega
 simp only[ci,decide_eq_false_iff_not] at h0;obtain⟨⟨⟨p0,p1⟩,p2⟩,p3⟩:=h0;clear ho he;refine jla (l:=eSt s (.slice wa s.AC.length wc) (S0 tb s.AA.length tc) (.slice ma s.AM.length mc) thv ov pv) (by exact z_n 13) rfl ?_;refine jc (A:=[]) (I5 h.c Z Z) ?_;rintro _ R1 _ a4 ⟨rfl,hq⟩;refine Ov ?_;cases hs:BI s with
 | none=>
  rw[hs] at hq;obtain rfl:_ = Value.tuple #[SN,.bool false]:=hq;refine jex rfl (jex rfl (DM (a0 a4 ?_)));unfold CU;rw[a8,hs];rfl
 | some l=>
  rw[hs] at hq;obtain⟨lv,T,rfl⟩:=hq;refine jex rfl (jex rfl (CW ?_));have h:=h.le a4;have a6:=a6 l hs;have hu:=hs;unfold BI at hu;obtain⟨h8,h9⟩:=FB hu;have nd:=Lp h8 λx hx=>(h9 x hx).2.1
  have h7:=Ml Z hu;rw[eT] at h7;obtain⟨j5,j9⟩:=h7;obtain⟨N,O,rfl⟩:=T.sl;refine OZ [Pt b,.slice N l.length O] (CP s l = true) (λK1 h1=>?_) (λe Ef he=>?_)
  .refine OZ [Pt b,.slice N l.length O] (CP s l = true) (λK2 h2=>?_) (λe j2 he=>?_)
   .refine Qg [Pt b,.slice N l.length O] l.length (λi=>(l.take i).all (CL s l) = true) rfl (λi K e hi hp hK he=>?_);refine z_V ?_;refine jln (jlt (jif (λhc=>?_) (λhc=>?_)));rotate_left
    .have hc:=z_g hc;rw[cO Z] at hp;exact h2 hp
    have hc:i < l.length:=by have:=z_f hc;omega
    have b1:=cK hc;have b6:CL s l l[i] = false->C8 s l = false:=λhh=>by
     rw[eI];intro g;unfold C8 CP at g;simp only[z_b] at g;have:=ck.1 g.1.1.1.1.1.1.1 _ b1;rw[hh] at this;cases this
    have d3:CL s l l[i] = true->(l.take (i + 1)).all (CL s l) = true:=λhh=>by
     rw[cI hc,fS,hp];simpa using hh
    refine Y2 T hc (jrp (Di (l[i]).moved T Z) ?_);cases hf:B7 l (l[i]).moved with
    | none=>
     rw[HY hf];refine Bz [Pt b,.slice N l.length O,I i,I (-1),.bool true] (λW H=>?_) (λe he=>?_)
     .refine Bz [Pt b,.slice N l.length O,I i,I (-1),.bool true,U] (λW H=>?_) (λe he=>?_)
      .exact jlt (jtf H)
      refine z_V ?_;refine Bz [Pt b,.slice N l.length O,I i,I (-1),.bool true,U,U] (λW H=>?_) (λe he=>?_)
      .exact jtf H
      refine z_V ?_;exact jtf H
     refine z_V ?_;exact DM (a0 a4 (a6 (b6 (N6 b1 hf nd))))
    | some n=>
     obtain⟨k,hk,c6,hn⟩:=Eb hf;subst hn;rw[c6];have hT:=NI (s:=s) b1 hf nd;cases c1:((l[k]).moved != (l[k]).at_) with
     | true=>
      refine Bz [Pt b,.slice N l.length O,I i,I k,.bool true] (λW H=>?_) (λe he=>?_)
      .refine Bz [Pt b,.slice N l.length O,I i,I k,.bool false,.bool true] (λW H=>?_) (λe he=>?_)
       .refine jlt ?_;rw[show decide ((k:Int) < 0) = false from decide_eq_false Z];refine jff (Y2 T hk (Ui T hk (jne ?_)));rw[c1];exact H
       refine z_V ?_;refine Bz [Pt b,.slice N l.length O,I i,I k,.bool true,U,U] (λW H=>?_) (λe he=>?_)
       .exact jtf H
       refine z_V ?_;exact jtf H
      refine z_V ?_;exact DM (a0 a4 (a6 (b6 (by rw[hT,c1];rfl))))
     | false=>
      refine Bz [Pt b,.slice N l.length O,I i,I k,.bool (!((l[k]).sh == (l[i]).sh))] (λW H=>?_) (λe he=>?_)
      .refine Bz [Pt b,.slice N l.length O,I i,I k,.bool false,.bool false] (λW H=>?_) (λe he=>?_)
       .refine jlt ?_;rw[show decide ((k:Int) < 0) = false from decide_eq_false Z];refine jff (Y2 T hk (Ui T hk (jne ?_)));rw[c1];exact H
       refine z_V ?_;refine Bz [Pt b,.slice N l.length O,I i,I k,.bool false,.agg #[I (l[k]).sh.refs,I (l[k]).sh.nums],.agg #[I (l[i]).sh.refs,I (l[i]).sh.nums]] (λW H=>?_) (λe he=>?_)
       .exact jff (Yw T hk (Yw T hc H))
       refine z_V ?_;exact jff (@bF (l[k]).sh (l[i]).sh _ _ _ _ _ H)
      refine z_V ?_;cases c2:((l[k]).sh == (l[i]).sh) with
      | false=>exact DM (a0 a4 (a6 (b6 (by rw[hT,c1,c2];rfl))))
      | true=>
       refine CW ?_;rw[c1,c2] at hT;have g5:k = i↔(l[i]).moved = (l[i]).at_:=by
        have e9:=(BE hf).2;constructor
        .rintro rfl;exact e9.symm
        .intro e;rw[e,E0 nd b1] at hf;have hf:=da hf;have a1:(l.map AQ.at_)[k]? = some (l[k]).at_:=by rw[dH,cF hk];rfl
         have a2:(l.map AQ.at_)[i]? = some (l[k]).at_:=by rw[dH,cF hc,<- hf];rfl
         exact (List.getElem?_inj (by simpa using hk) nd).1 (a1.trans a2.symm)
       by_cases c3:k = i
       .have e6:((k:Int) != (i:Int)) = false:=by rw[c3];simp
        have i5:CL s l l[i] = true:=by rw[hT,beq_iff_eq.2 (g5.1 c3)];rfl
        refine Bz [Pt b,.slice N l.length O,I i,.bool false] (λW H=>?_) (λe he=>?_)
        .refine Bz [Pt b,.slice N l.length O,I i,I k,.bool false,U,U,U] (λW H=>?_) (λe he=>?_)
         .refine jne ?_;rw[e6];exact jft H
         refine z_V ?_;refine jft ?_;refine Bz [Pt b,.slice N l.length O,I i,.bool false,U,U,U,U,U,U] (λW H=>?_) (λe he=>?_)
         .exact jft H
         refine z_V ?_;refine Ak (jft jev) (jgu ?_);refine Bz [Pt b,.slice N l.length O,I i,.bool false,U,U,U,U] (λW H=>?_) (λe he=>?_)
         .exact jgu H
         refine z_V ?_;refine Bz [Pt b,.slice N l.length O,I i,.bool false,U,U,U,U] (λW H=>?_) (λe he=>?_)
         .exact jft H
         refine z_V ?_;exact Ak (jgu jev) H
        refine z_V ?_;exact CW (jad (hK hc (d3 i5)))
       .have e6:((k:Int) != (i:Int)) = true:=by simp;omega
        have i9:((l[i]).moved == (l[i]).at_) = false:=beq_eq_false_iff_ne.2 λe=>c3 (g5.2 e)
        rw[i9] at hT;obtain⟨r1,e1,g8,f1⟩:=Jb hs b1 Z;obtain⟨r2,e2,f4,f2⟩:=Jb hs (cK hk) Z;refine Bz [Pt b,.slice N l.length O,I i,.bool (!CL s l l[i])] (λW H=>?_) (λe he=>?_)
        .refine Bz [Pt b,.slice N l.length O,I i,I k,.bool true,.pointer (some ⟨b,0 + 1,none⟩),S0 tb s.AA.length tc,I (l[i]).at_] (λW H=>?_) (λe he=>?_)
         .refine jne ?_;rw[e6];exact jtt (jfo (jl (v:=S0 tb s.AA.length tc) rfl (Ui T hc H)))
         refine z_V ?_;refine jtt (jp (Cf _ Z) ?_);rw[e1];cases c4:((s.AA[r1]).kind == 4) with
         | false=>
          refine Bz [Pt b,.slice N l.length O,I i,.bool true,.pointer (some ⟨b,0 + 1,none⟩),S0 tb s.AA.length tc,.bool true,U,U,U] (λW H=>?_) (λe he=>?_)
          .refine jtt (jrk h.z g8 (jne ?_));rw[show ((s.AA[r1]).kind != 4) = true by unfold bne;rw[c4];rfl];exact jtf H
          refine z_V ?_;refine Ak (jtt (jl (v:=S0 tb s.AA.length tc) rfl jev)) (jtf ?_);refine Bz [Pt b,.slice N l.length O,I i,.bool true,.bool true,U,U,U] (λW H=>?_) (λe he=>?_)
          .exact jtf H
          refine z_V ?_;refine Bz [Pt b,.slice N l.length O,I i,.bool true,.bool true,U,U,.bool true] (λW H=>?_) (λe he=>?_)
          .exact jtt H
          refine z_V ?_;refine Ak (jtf jev) ?_;rw[hT,f1,c4,Bool.and_false] at H;exact H
         | true=>
          refine Bz [Pt b,.slice N l.length O,I i,.bool true,.pointer (some ⟨b,0 + 1,none⟩),S0 tb s.AA.length tc,.bool false,.pointer (some ⟨b,0 + 1,none⟩),S0 tb s.AA.length tc,I (l[k]).at_] (λW H=>?_) (λe he=>?_)
          .refine jtt (jrk h.z g8 (jne ?_));rw[show ((s.AA[r1]).kind != 4) = false by unfold bne;rw[c4];rfl];exact jff (jfo (jl (v:=S0 tb s.AA.length tc) rfl (Ui T hk H)))
          refine z_V ?_;refine Ak (jtt (jl (v:=S0 tb s.AA.length tc) rfl jev)) (jff (jp (Cf _ Z) ?_));rw[e2];refine Bz [Pt b,.slice N l.length O,I i,.bool true,.bool false,.pointer (some ⟨b,0 + 1,none⟩),S0 tb s.AA.length tc,.bool ((s.AA[r2]).kind == 4)] (λW H=>?_) (λe he=>?_)
          .exact jff (jrk h.z f4 (jeq H))
          refine z_V ?_;refine Bz [Pt b,.slice N l.length O,I i,.bool true,.bool false,.pointer (some ⟨b,0 + 1,none⟩),S0 tb s.AA.length tc,.bool ((s.AA[r2]).kind == 4)] (λW H=>?_) (λe he=>?_)
          .exact jtt H
          refine z_V ?_;refine Ak (jff (jl (v:=S0 tb s.AA.length tc) rfl jev)) ?_;rw[hT,f1,c4,f2] at H;cases c5:((s.AA[r2]).kind == 4)<;>(rw[c5] at H;exact H)
        refine z_V ?_;refine jif (λg=>?_) (λg=>?_)
        .exact a0 a4 (a6 (b6 (by simpa using g)))
        .exact jad (hK hc (d3 (by simpa using g)))
   .refine z_V ?_;exact h1 j2
  refine z_V ?_;have S:=T4 (a8.trans hs) Ef;have e5:Aq l (Cs s) [] = none->(CU s).isSome = false:=λhn=>V7 (a8.trans hs) hn
  rw[show ((b,C 50 (cl (.agg (eSt s (.slice wa s.AC.length wc) (S0 tb s.AA.length tc) (.slice ma s.AM.length mc) thv ov pv).toArray))) :: ([] ++ F):Chs) = (b,C 50 (eSt s (.slice wa s.AC.length wc) (S0 tb s.AA.length tc) (.slice ma s.AM.length mc) thv ov pv)) :: ([] ++ F) from rfl];generalize e7:eSt s (.slice wa s.AC.length wc) (S0 tb s.AA.length tc) (.slice ma s.AM.length mc) thv ov pv = cs;have c8:cs[8]? = some thv:=by rw[<- e7];rfl
  have d2:cs[10]? = some pv:=by rw[<- e7];rfl
  have c1:cs[1]? = some (S0 tb s.AA.length tc):=by rw[<- e7];rfl
  have rl:=h.b.rl;clear he ho;refine Ab (λvs R' D'=>R' = R1/\∃ac v A,Aq l (s.AB.flatMap (·.AD)) [] = some ac/\s.AB.all Fk = true/\SO ac v A/\D' = A ++ ((b,C 50 cs) :: ([] ++ F))/\vs = [Pt b,.slice N l.length O,v]) (λK1 h1=>?_) ?_
  .refine jcI h1 λK2 h2=>?_
   refine jlp (λm vs R' D'=>R' = R1/\∃(i:Nat) (ac:List Int) (v:Value) (A:Chs),i<=s.AB.length/\m = s.AB.length - i/\Aq l ((s.AB.take i).flatMap (·.AD)) [] = some ac/\(s.AB.take i).all Fk = true/\SO ac v A/\D' = A ++ ((b,C 50 cs) :: ([] ++ F))/\vs = [Pt b,.slice N l.length O,v,I i]) (n:=s.AB.length) ⟨rfl,0,[],_,[],Z,rfl,rfl,rfl,.inl ⟨rfl,rfl,rfl⟩,rfl,rfl⟩ ?_;rintro m e R2 D2 K ⟨hR,i,ac,v,A,hi,c0,a9,c9,so,hD,he⟩ hK;subst hR;refine z_W ?_;clear hD;refine jl (v:=thv) c8 (Bo h.c.th.sl (jlt (jif (λhc=>?_) (λhc=>?_))));rotate_left
   .have hc:=z_g hc;rw[cO Z] at a9 c9;exact h2 _ _ _ ⟨rfl,ac,v,A,a9,c9,so,rfl,rfl⟩
   have hc:i < s.AB.length:=by have:=z_f hc;omega
   have b5:=rl _ (cK hc);have b8:=FG a9;have i6:=DZ (s.AB.take i) (λt ht=>rl t (dJ ht));have f8:9 * (s.AB.take i).length<=27:=by rw[cV];omega
   rw[dc] at b8;refine Ab (λvs R' D'=>R' = R2/\∃ac v A,Aq l ((s.AB.take (i + 1)).flatMap (·.AD)) [] = some ac/\(s.AB.take (i + 1)).all Fk = true/\SO ac v A/\D' = A ++ ((b,C 50 cs) :: ([] ++ F))/\vs = [Pt b,.slice N l.length O,v,I i]) (λK3 h3=>?_) ?_;rotate_left
   .rintro e R3 D3 ⟨hR,ac,v,A,g1,g2,so,hD,he⟩;subst hR;refine z_W ?_;clear hD;exact jad (hK (s.AB.length - (i + 1)) _ _ _ Z ⟨rfl,i + 1,ac,v,A,Z,rfl,g1,g2,so,rfl,rfl⟩)
   refine jcI h3 λK4 h4=>?_
   refine jl (v:=thv) c8 (jtr h.c.th hc λb2 o2 ty i4 rv a7 e4 f3 b9=>?_);refine Do (l:=[rv,I (s.AB[i]).next,.bool (s.AB[i]).busy,I (s.AB[i]).Am]) e4 f3 b9 (ja λb3=>?_);obtain⟨ra,rc,rfl⟩:=a7.sl;refine jS ([.slice ra (s.AB[i]).AD.length rc,I (s.AB[i]).next,.bool (s.AB[i]).busy,I (s.AB[i]).Am]) ?_;refine jor [Pt b,.slice N l.length O,v,I i,Pt b3] ((decide (((s.AB[i]).AD.length:Int) > 8)) || (decide ((s.AB[i]).Am < 0))) (λW H=>?_) (λe c u ho he=>?_)
   .refine jl (v:=.slice ra (s.AB[i]).AD.length rc) rfl (jln (jgr (jgO H λh1 hN=>jl (v:=I (s.AB[i]).Am) rfl (jlt hN))))
   refine z_V ?_;refine jor [Pt b,.slice N l.length O,v,I i,Pt b3] ((decide (((s.AB[i]).AD.length:Int) > 8) || decide ((s.AB[i]).Am < 0)) || (decide ((s.AB[i]).Am > 2))) (λW H=>?_) (λe c u ho he=>?_)
   .rw[ho];refine jgO H λh1 hN=>jl (v:=I (s.AB[i]).Am) rfl (jgr hN)
   refine z_V ?_;rw[ho];have g9:(decide (((s.AB[i]).AD.length:Int) > 8) || decide ((s.AB[i]).Am < 0) || decide ((s.AB[i]).Am > 2)) = !Fk s.AB[i]:=by
    unfold Fk;rw[dX];simp only[d7,cz,fH,z_d,decide_eq_false_iff_not];omega
   rw[g9];refine jif (λg=>?_) (λg=>?_)
   .refine a0 a4 (a6 ?_);rw[eI];intro hh;unfold C8 at hh;simp only[z_b] at hh;have:=ck.1 hh.1.2 _ (cK hc);rw[this] at g;cases g
   have h6:(s.AB.take (i + 1)).all Fk = true:=by
    rw[cI hc,fS,c9];simpa using g
   have f6:(s.AB.take (i + 1)).flatMap (·.AD) = (s.AB.take i).flatMap (·.AD) ++ (s.AB[i]).AD:=by
    rw[cI hc,List.flatMap_append];simp
   have f5:∃e3,Cs s = (s.AB.take i).flatMap (·.AD) ++ ((s.AB[i]).AD ++ e3):=by
    refine⟨(s.AB.drop (i + 1)).flatMap (·.AD) ++ s.AI,?_⟩;unfold Cs
    conv=>lhs;rw[<- eV (i + 1) s.AB]
    rw[List.flatMap_append,f6];simp
   obtain⟨e3,f5⟩:=f5;refine Al A (G:=((b3,C 117 [.slice ra (s.AB[i]).AD.length rc,I (s.AB[i]).next,.bool (s.AB[i]).busy,I (s.AB[i]).Am]) :: (b,C 50 cs) :: ([] ++ F))) ?_;refine Ab (λvs R' D'=>R' = R2/\∃Q v A,Aq l (s.AB[i]).AD ac = some Q/\SO Q v A/\D' = A ++ ((b,C 50 cs) :: ([] ++ F))/\vs = [Pt b,.slice N l.length O,v,I i]) (λK5 h5=>?_) ?_;rotate_left
   .rintro e R3 D3 ⟨hR,Q,v2,A2,g1,b0,hD,he⟩;subst hR;refine z_W ?_;clear hD;refine h4 _ _ _ ⟨rfl,Q,v2,A2,?_,h6,b0,rfl,rfl⟩;rw[f6,Cw,a9];exact g1
   refine jlp (λm vs R' D'=>R' = R2/\∃(j:Nat) (Q:List Int) (v:Value) (A:Chs),j<=(s.AB[i]).AD.length/\m = (s.AB[i]).AD.length - j/\Aq l ((s.AB[i]).AD.take j) ac = some Q/\SO Q v A/\D' = A ++ ((b3,C 117 [.slice ra (s.AB[i]).AD.length rc,I (s.AB[i]).next,.bool (s.AB[i]).busy,I (s.AB[i]).Am]) :: (b,C 50 cs) :: ([] ++ F))/\vs = [Pt b,.slice N l.length O,v,I i,Pt b3,I j]) (n:=(s.AB[i]).AD.length) ⟨rfl,0,ac,v,A,Z,rfl,rfl,so,rfl,rfl⟩ ?_;clear so ho he c0 hK;rintro m e R3 D3 K ⟨hR,j,Q,v2,A2,hj,c0,a3,b0,hD,he⟩ hK;subst hR;refine z_W ?_;clear hD;refine jl (v:=.slice ra (s.AB[i]).AD.length rc) rfl (jln (jlt (jif (λa5=>?_) (λa5=>?_))));rotate_left
   .have a5:=z_g a5;rw[cO Z] at a3;refine Al A2 (G:=((b,C 50 cs) :: ([] ++ F))) ?_;exact h5 _ _ _ ⟨rfl,Q,v2,A2,a3,b0,rfl,rfl⟩
   have a5:j < (s.AB[i]).AD.length:=by have:=z_f a5;omega
   have b7:=FG a3;rw[cV] at b7;have c7:Aq l ((s.AB[i]).AD.take (j + 1)) ac = (now l (s.AB[i]).AD[j]).bind λy=>some (Bu Q y):=by
    rw[cI a5,Cw,a3];rfl
   refine jan [Pt b,.slice N l.length O,v2,I i,Pt b3,I j] (((s.AB[i]).AD[j] != 0) && decide (Ol l (s.AB[i]).AD[j] < 0)) (λW H=>?_) (λe c u ho he=>?_)
   .refine jl (v:=.slice ra (s.AB[i]).AD.length rc) rfl (Bl a7 Z Z ?_);simp only[cG];refine jne (jgA H λg hN=>?_);refine jl (v:=.slice ra (s.AB[i]).AD.length rc) rfl (Bl a7 Z Z ?_);simp only[cG];exact jrp (Di _ T Z) (jlt hN)
   refine z_V ?_;rw[ho];refine jif (λg=>?_) (λg=>?_)
   .refine a0 a4 (e5 ?_);simp only[z_b,bne_iff_ne,z_d] at g;have f0:now l (s.AB[i]).AD[j] = none:=by
     unfold now;rw[if_neg g.1];cases hf:B7 l (s.AB[i]).AD[j] with
     | none=>rfl
     | some t=>obtain⟨q,_,e,_⟩:=Eb hf;omega
    rw[f5,Cw,a9,z_o,Cw]
    conv=>lhs;rw[<- eV (j + 1) (s.AB[i]).AD,Cw,c7,f0]
    rfl
   obtain⟨x,hx⟩:∃x,now l (s.AB[i]).AD[j] = some x:=by
    unfold now;by_cases g0:(s.AB[i]).AD[j] = 0
    .exact⟨0,by rw[if_pos g0]⟩
    .rw[if_neg g0];cases hf:B7 l (s.AB[i]).AD[j] with
     | none=>rw[HY hf] at g;simp[g0] at g
     | some t=>exact⟨_,rfl⟩
   refine jl (v:=.slice ra (s.AB[i]).AD.length rc) rfl (Bl a7 Z Z ?_);simp only[cG];refine jrp (Fh T Z hx) ?_;refine jc (A:=A2) (Kv x b0 Z) ?_;rintro v3 R4 A3 _ ⟨hR,d1⟩;subst hR;refine jad ?_;refine hK ((s.AB[i]).AD.length - (j + 1)) _ _ _ Z ⟨rfl,j + 1,_,v3,A3,Z,rfl,?_,d1,rfl,rfl⟩;rw[c7,hx];rfl
  rintro e R2 D2 ⟨hR,ac,v,A,a9,c9,so,hD,he⟩;subst hR;refine z_W ?_;clear hD;have b8:=FG a9;have i6:=DZ s.AB rl;have f8:9 * s.AB.length<=27:=Z
  rw[dc] at b8;obtain⟨pa,pc,rfl⟩:=h.c.p.sl;refine jl (v:=.slice pa s.AI.length pc) d2 (jln (jgr (jif (λg=>?_) (λg=>?_))))
  .refine a0 a4 (a6 ?_);rw[eI];intro hh;unfold C8 at hh;simp only[z_b,z_d] at hh;have:=z_f g;omega
  have k2:s.AI.length<=8:=by have:=z_g g;omega
  refine Ab (λvs R' D'=>R' = R2/\∃out v A,Aq l (Cs s) [] = some out/\s.AI.all (Dt s l) = true/\SO out v A/\D' = A ++ ((b,C 50 cs) :: ([] ++ F))/\vs = [.slice N l.length O,v]) (λK1 h1=>?_) ?_
  .refine jcI h1 λK2 h2=>?_
   refine jlp (λm vs R' D'=>R' = R2/\∃(i:Nat) (v:Value) (A:Chs),i<=s.AI.length/\m = s.AI.length - i/\(s.AI.take i).all (Dt s l) = true/\SO ((s.AI.take i).foldl Bu ac) v A/\D' = A ++ ((b,C 50 cs) :: ([] ++ F))/\vs = [Pt b,.slice N l.length O,v,I i]) (n:=s.AI.length) ⟨rfl,0,v,A,Z,rfl,rfl,so,rfl,rfl⟩ ?_;clear so;rintro m e R3 D3 K ⟨hR,i,v,A,hi,c0,b4,so,hD,he⟩ hK;subst hR;refine z_W ?_;clear hD;refine jl (v:=.slice pa s.AI.length pc) d2 (jln (jlt (jif (λhc=>?_) (λhc=>?_))));rotate_left
   .have hc:=z_g hc;rw[cO Z] at b4 so;refine h2 _ _ _ ⟨rfl,_,v,A,?_,b4,so,rfl,rfl⟩;unfold Cs;rw[Cw,a9];exact Kx b4
   have hc:i < s.AI.length:=by have:=z_f hc;omega
   have b6:Dt s l s.AI[i] = false->C8 s l = false:=λhh=>by
    rw[eI];intro g;unfold C8 at g;simp only[z_b] at g;have:=ck.1 g.2 _ (cK hc);rw[hh] at this;cases this
   have j1:((s.AI.take i).foldl Bu ac).length < 1000000:=by
    have:=FG (Kx (acc:=ac) b4);rw[cV] at this;omega
   refine jl (v:=.slice pa s.AI.length pc) d2 (Bl h.c.p Z Z ?_);simp only[cG];refine jrp (Di _ T Z) ?_;cases hf:B7 l s.AI[i] with
   | none=>
    rw[HY hf];refine Bz [Pt b,.slice N l.length O,v,I i,.bool true] (λW H=>?_) (λe he=>?_)
    .refine Bz [Pt b,.slice N l.length O,v,I i,I (-1),.bool true,U] (λW H=>?_) (λe he=>?_)
     .exact jlt (jtf H)
     refine z_V ?_;refine Bz [Pt b,.slice N l.length O,v,I i,.bool true,U,U,U] (λW H=>?_) (λe he=>?_)
     .exact jtf H
     refine z_V ?_;exact jtf (Ak jev H)
    refine z_V ?_;exact DM (a0 a4 (a6 (b6 (by unfold Dt;rw[hf]))))
   | some n=>
    obtain⟨k,hk,c6,hn⟩:=Eb hf;subst hn;rw[c6];obtain⟨i8,e9⟩:=BE hf;have g7:Dt s l s.AI[i] = (!((l[k]).moved != (l[k]).at_) && !Dg s (l[k]).at_):=by
     unfold Dt;rw[hf];dsimp only;rw[e9];unfold bne;cases (l[k]).moved == s.AI[i]<;>rfl
    obtain⟨r2,e2,f4,f2⟩:=Jb hs i8 Z;refine Bz [Pt b,.slice N l.length O,v,I i,.bool (!Dt s l s.AI[i])] (λW H=>?_) (λe he=>?_)
    .refine Bz [Pt b,.slice N l.length O,v,I i,I k,.bool false,.bool ((l[k]).moved != (l[k]).at_)] (λW H=>?_) (λe he=>?_)
     .refine jlt ?_;rw[show decide ((k:Int) < 0) = false from decide_eq_false Z];exact jff (Y2 T hk (Ui T hk (jne H)))
     refine z_V ?_;cases c4:((l[k]).moved != (l[k]).at_) with
     | true=>
      refine Bz [Pt b,.slice N l.length O,v,I i,.bool true,U,U,U] (λW H=>?_) (λe he=>?_)
      .exact jtf H
      refine z_V ?_;rw[g7,c4] at H;exact jtf (Ak jev H)
     | false=>
      refine Bz [Pt b,.slice N l.length O,v,I i,.bool false,.pointer (some ⟨b,0 + 1,none⟩),S0 tb s.AA.length tc,I (l[k]).at_] (λW H=>?_) (λe he=>?_)
      .exact jff (jfo (jl (v:=S0 tb s.AA.length tc) (by rw[cg];exact c1) (Ui T hk H)))
      refine z_V ?_;refine jff (jp (Cf _ Z) ?_);rw[e2];refine jrk h.z f4 (jeq ?_);rw[g7,c4,f2] at H;refine Ak (jl (v:=S0 tb s.AA.length tc) (by rw[cg];exact c1) jev) ?_;cases c5:((s.AA[r2]).kind == 4)<;>(rw[c5] at H;exact H)
    refine z_V ?_;refine jif (λg=>?_) (λg=>?_)
    .exact a0 a4 (a6 (b6 (by simpa using g)))
    have j0:Dt s l s.AI[i] = true:=by simpa using g
    refine jl (v:=.slice pa s.AI.length pc) d2 (Bl h.c.p Z Z ?_);simp only[cG];refine jc (A:=A) (Kv s.AI[i] so j1) ?_;rintro v3 R4 A3 _ ⟨hR,d1⟩;subst hR;refine jad ?_;refine hK (s.AI.length - (i + 1)) _ _ _ Z ⟨rfl,i + 1,v3,A3,Z,rfl,?_,?_,rfl,rfl⟩
    .rw[cI hc,fS,b4];simpa using j0
    .rw[cI hc,fU];exact d1
  rintro e R3 D3 ⟨hR,out,v,A,d4,b4,so,hD,he⟩;subst hR;refine z_W ?_;clear hD;have M0:Dq l out:=Dq.nil.all S d4;have e8:C8 s l = true:=by
   unfold C8;simp only[z_b,z_d];exact⟨⟨⟨⟨⟨⟨⟨Ef,Z⟩,Z⟩,Z⟩,Z⟩,Z⟩,c9⟩,b4⟩
  have g4:CU s = (BH l (l.length + 2) 0 out).map λm=>(l,m):=by
   unfold CU;rw[a8,hs];dsimp only;rw[if_pos e8,DV b4,d4];rfl
  refine jlp (λm vs R' D'=>R' = R3/\∃(i:Nat) (ac:List Int) (v:Value) (A:Chs),i<=ac.length/\m = l.length + 2 - i/\BH l (l.length + 2 - i) i ac = BH l (l.length + 2) 0 out/\Dq l ac/\SO ac v A/\D' = A ++ ((b,C 50 cs) :: ([] ++ F))/\vs = [.slice N l.length O,v,I i]) (n:=l.length + 2) ⟨rfl,0,out,v,A,Z,Z,rfl,M0,so,rfl,rfl⟩ ?_;clear so a9 b8;rintro m e R4 D4 K ⟨hR,i,ac,v,A,hi,c0,b5,M,so,hD,he⟩ hK;subst hR;refine z_W ?_;clear hD;have j7:=M.len;obtain⟨va,vc,j4⟩:=so.sln;refine Bo ⟨va,vc,j4⟩ (jlt (jif (λhc=>?_) (λhc=>?_)));rotate_left
  .have hc:=z_g hc;obtain⟨q,hq⟩:∃q,l.length + 2 - i = q + 1:=⟨l.length + 1 - i,Z⟩;rw[hq,CJ Z] at b5;refine a0 a4 ?_;rw[g4,<- b5];rfl
  have hc:i < ac.length:=by have:=z_f hc;omega
  obtain⟨t,ht⟩:=M.th _ (cK hc);obtain⟨j3,j6⟩:=BE ht;obtain⟨q,hq⟩:∃q,l.length + 2 - i = q + 1:=⟨l.length + 1 - i,Z⟩;rw[hq,C9 hc ht] at b5;have k3:=j5 t j3;refine Ab (λvs R' D'=>R' = R4/\∃Q v A,Aq l t.refs ac = some Q/\SO Q v A/\D' = A ++ ((b,C 50 cs) :: ([] ++ F))/\vs = [.slice N l.length O,v,I i]) (λK3 h3=>?_) ?_;rotate_left
  .rintro e R5 D5 ⟨hR,Q,v2,A2,hn,b0,hD,he⟩;subst hR;refine z_W ?_;clear hD;rw[hn,z_o] at b5;have M2:=M.all S hn;have:=M2.len;have j8:=ED hn;exact jad (hK q _ _ _ Z ⟨rfl,i + 1,Q,v2,A2,Z,Z,by rw[<- b5];congr 1;omega,M2,b0,rfl,rfl⟩)
  refine jcI h3 λK4 h4=>?_
  refine Un so hc (jrp (Di _ T Z) ?_);obtain⟨k,hk,c6,hn⟩:=Eb ht;rw[c6];refine jtg T hk λb2 o2 ty i4 rv nv a7 g6 e4 f3 b9=>?_
  rw[hn] at a7 g6 b9;obtain⟨ra,rc,rfl⟩:=a7.sl;obtain⟨na,nc,rfl⟩:=g6.sl;refine Do (l:=eTh t (.slice ra t.refs.length rc) (.slice na t.nums.length nc)) e4 f3 b9 (ja λb3=>?_);refine jS (eTh t (.slice ra t.refs.length rc) (.slice na t.nums.length nc)) ?_;refine Al A (G:=((b3,C 70 (eTh t (.slice ra t.refs.length rc) (.slice na t.nums.length nc))) :: (b,C 50 cs) :: ([] ++ F))) ?_;refine jcI h4 λK5 h5=>?_
  refine jlp (λm vs R' D'=>R' = R4/\∃(j:Nat) (Q:List Int) (v:Value) (A:Chs),j<=t.refs.length/\m = t.refs.length - j/\Aq l (t.refs.take j) ac = some Q/\SO Q v A/\D' = A ++ ((b3,C 70 (eTh t (.slice ra t.refs.length rc) (.slice na t.nums.length nc))) :: (b,C 50 cs) :: ([] ++ F))/\vs = [.slice N l.length O,v,I i,Pt b3,I j]) (n:=t.refs.length) ⟨rfl,0,ac,v,A,Z,rfl,rfl,so,rfl,rfl⟩ ?_;clear so c0 hK he;rintro m e R5 D5 K ⟨hR,j,Q,v2,A2,hj,c0,a3,b0,hD,he⟩ hK;subst hR;refine z_W ?_;clear hD;refine jl (v:=.slice ra t.refs.length rc) rfl (jln (jlt (jif (λa5=>?_) (λa5=>?_))));rotate_left
  .have a5:=z_g a5;rw[cO Z] at a3;refine Al A2 (G:=((b,C 50 cs) :: ([] ++ F))) ?_;exact h5 _ _ _ ⟨rfl,Q,v2,A2,a3,b0,rfl,rfl⟩
  have a5:j < t.refs.length:=by have:=z_f a5;omega
  have b7:=FG a3;rw[cV] at b7;have c7:Aq l (t.refs.take (j + 1)) ac = (now l t.refs[j]).bind λy=>some (Bu Q y):=by
   rw[cI a5,Cw,a3];rfl
  refine jan [.slice N l.length O,v2,I i,Pt b3,I j] ((t.refs[j] != 0) && decide (Ol l t.refs[j] < 0)) (λW H=>?_) (λe c u ho he=>?_)
  .refine jl (v:=.slice ra t.refs.length rc) rfl (Bl a7 Z Z ?_);simp only[cG];refine jne (jgA H λg hN=>?_);refine jl (v:=.slice ra t.refs.length rc) rfl (Bl a7 Z Z ?_);simp only[cG];exact jrp (Di _ T Z) (jlt hN)
  refine z_V ?_;rw[ho];refine jif (λg=>?_) (λg=>?_)
  .refine a0 a4 ?_;simp only[z_b,bne_iff_ne,z_d] at g;have f0:now l t.refs[j] = none:=by
    unfold now;rw[if_neg g.1];cases hf:B7 l t.refs[j] with
    | none=>rfl
    | some t=>obtain⟨q,_,e,_⟩:=Eb hf;omega
   have:Aq l t.refs ac = none:=by
    conv=>lhs;rw[<- eV (j + 1) t.refs,Cw,c7,f0]
    rfl
   rw[this] at b5;rw[g4,<- b5];rfl
  obtain⟨x,hx⟩:∃x,now l t.refs[j] = some x:=by
   unfold now;by_cases g0:t.refs[j] = 0
   .exact⟨0,by rw[if_pos g0]⟩
   .rw[if_neg g0];cases hf:B7 l t.refs[j] with
    | none=>rw[HY hf] at g;simp[g0] at g
    | some t=>exact⟨_,rfl⟩
  refine jl (v:=.slice ra t.refs.length rc) rfl (Bl a7 Z Z ?_);simp only[cG];refine jrp (Fh T Z hx) ?_;refine jc (A:=A2) (Kv x b0 Z) ?_;rintro v3 R6 A3 _ ⟨hR,d1⟩;subst hR;refine jad ?_;refine hK (t.refs.length - (j + 1)) _ _ _ Z ⟨rfl,j + 1,_,v3,A3,Z,rfl,?_,d1,rfl,rfl⟩;rw[c7,hx];rfl
end st
end Go.Lf
end
section
namespace Go.Lf
open Go Sm
def mkB (n:Nat) (xs:List Int):List Bool:=(List.range n).map λ(i:Nat)=>decide ((i:Int)∈xs)
theorem O5 (n:Nat) (xs:List Int):(mkB n xs).length = n:=by simp[mkB]
theorem Y5 (n:Nat):mkB n [] = List.replicate n false:=by
 apply eN<;>simp[mkB]
theorem YL {n k:Nat} {xs:List Int} (h:k < n):(mkB n xs).set k true = mkB n (xs ++ [(k:Int)]):=by
 apply List.ext_getElem?;intro i;rw[eY];unfold mkB;simp only[cM,List.length_range,dH,List.getElem?_range',cm,cZ];by_cases e:k = i
 .subst e;rw[if_pos rfl,if_pos h,fE h];simp
 .rw[if_neg e];by_cases j:i < n
  .rw[fE j];have:¬ ((i:Int) = k):=Z
   simp[this]
  .rw[dT (by simpa using j)];rfl
section st
variable {R:RM} {s:Sm.Ah} {wv tv mv thv ov pv:Value}
theorem Ky {l:List AQ} (h:SF R s wv tv mv thv ov pv) (hl:Eo s = some l):l.length<=192/\TB l:=by
 have j:=hl;unfold Eo at j;split at j;rotate_left
 .cases j
 unfold BI at j;have x:=Ml (by have:=h.b.wl;have:=h.b.t1;omega) j;have:=h.b.t1;rw[eT] at x;exact⟨Z,x.1⟩
theorem bR {D:Chs} {b n k:Nat} {xs:List Int} {m:M} {D' : Chs} (j:k < n) [a:At D b (C Ax ((mkB n xs).map Value.bool))] [u:Up D b (C Ax ((mkB n xs).map Value.bool)) (C Ax ((mkB n (xs ++ [(k:Int)])).map Value.bool)) D']
  (H:J R D' m):J R D (IA 1 (S0 b n n) (I (k:Int)) λp=>ST 1 p (.bool true) m):=by
 refine C0 j (js (cs':=(mkB n (xs ++ [(k:Int)])).map Value.bool) rfl rfl (by rw[cM,O5];show 0 + k * 1 + 1<=n;omega) ?_ H);rw[dx,cg];show lay _ k [.bool true] = _;rw[GS (by rw[cM,O5];exact j),<- List.map_set,YL j]
end st
section rules
variable {R:RM} {D:Chs} {k:Value->M}
end rules
def DSF (x:Value) (R:RM):Prop:=∃(s:Sm.Ah) (wv tv mv thv ov pv:Value),x = .agg (eSt s wv tv mv thv ov pv).toArray/\s.BJ<=90000/\SF R s wv tv mv thv ov pv
theorem DSF.cut {x:Value} {R:RM} (h:DSF x R):∃(s:Sm.Ah) (H:Option Addr) (wc tb tc:Nat) (y:Option Addr) (mc:Nat) (O:Option Addr) (j:Nat) (A:Option Addr) (D:Nat) (G:Option Addr) (pc:Nat),x = .agg (eSt s (.slice H s.AC.length wc) (S0 tb s.AA.length tc) (.slice y s.AM.length mc) (.slice O s.AB.length j) (.slice A s.old.length D) (.slice G s.AI.length pc)).toArray/\s.BJ<=90000/\SF R s (.slice H s.AC.length wc) (S0 tb s.AA.length tc) (.slice y s.AM.length mc) (.slice O s.AB.length j) (.slice A s.old.length D) (.slice G s.AI.length pc):=by
 obtain⟨s,wv,tv,mv,thv,ov,pv,rfl,K,h⟩:=h;obtain⟨tb,tc,sp,rfl,hb,Q⟩:=h.z;obtain⟨H,wc,rfl⟩:=h.c.w.sl;obtain⟨y,mc,rfl⟩:=h.c.m.sl;obtain⟨N,j,rfl⟩:=h.c.th.sl;obtain⟨A,D,rfl⟩:=h.c.o.sl;obtain⟨G,pc,rfl⟩:=h.c.p.sl;exact⟨s,H,wc,tb,tc,y,mc,N,j,A,D,G,pc,rfl,K,h⟩
theorem ZT {x:Value} {R:RM} {F:Chs} {b:Nat} {k:Value->M} (h:DSF x R) (H:J R F (k x)):J R ((b,C 50 (cl z50)) :: F) (ST 13 (Pt b) x (LA 13 (Pt b) k)):=by
 obtain⟨s,O,wc,tb,tc,D,mc,j,y,G,K,N,pc,rfl,A,h⟩:=h.cut;refine js rfl rfl (by exact z_n 13) rfl (jla (l:=eSt s (.slice O s.AC.length wc) (S0 tb s.AA.length tc) (.slice D s.AM.length mc) (.slice j s.AB.length y) (.slice G s.old.length K) (.slice N s.AI.length pc)) (by exact z_n 13) rfl (Bf H))
end Go.Lf
end
section
namespace Sm
open Go.Lf
end Sm
namespace Go.Lf
open Go Sm
section st
variable {R:RM} {s:Sm.Ah} {wv tv mv thv ov pv:Value}
theorem Yh {l:List AQ} {x:List Int} (y:HpF s l x):BI s = some l:=by
 have j:=y.ths;unfold Eo at j;split at j
 .exact j
 .cases j
theorem Kf {l:List AQ} {j:List Int} (y:HpF s l j) {a:Int} (H:a∈j):∃t,B7 l a = some t/\As s.AC a = (t,true):=by
 obtain⟨t,A⟩:=y.M.th a H;obtain⟨D,G⟩:=BE A;have x:=Yh y;unfold BI at x;have:=((FB x).2 t D).2.2.1;rw[G] at this;exact⟨t,A,this⟩
end st
end Go.Lf
end
section
namespace Go.Lf
open Go Sm
theorem bI {x:Value} {R:RM} {F:Chs} {k:Value->M} (h:DSF x R) (H:∀(b:Nat) (s:Sm.Ah) (wv tv mv thv ov pv:Value),x = .agg (eSt s wv tv mv thv ov pv).toArray->s.BJ<=90000->SF R s wv tv mv thv ov pv->J R ((b,C 50 (eSt s wv tv mv thv ov pv)) :: F) (k (Pt b))) :
  J R F (AL 50 z50 λp=>ST 13 p x (k p)):=by
 obtain⟨s,Q,wc,tb,tc,G,mc,y,A,K,N,O,pc,rfl,j,D⟩:=h.cut;refine ja λb=>?_
 refine jS (eSt s (.slice Q s.AC.length wc) (S0 tb s.AA.length tc) (.slice G s.AM.length mc) (.slice y s.AB.length A) (.slice K s.old.length N) (.slice O s.AI.length pc)) ?_;exact H b s _ _ _ _ _ _ rfl j D
theorem ZA {R:RM} {v:Value} (hc:Cod R v):∃n:Nat,∃a c,v = .slice a n c:=by
 obtain⟨n,j⟩:=hc;exact⟨n,j.sl⟩
section rules
variable {R:RM} {D:Chs} {k:Value->M}
theorem be {x y:Int} {kd:IntKind} (h:0<=y) (H:J R D (k (.int kd (x.fdiv (2 ^ min y.toNat kd.bits))))):J R D (BO .shr (.int kd x) (.int kd y) k):=by
 unfold BO;simp only[if_true];exact λj A=>⟨h,H j A⟩
theorem aH (x:Int) (w:World):(Go.convert 3 179 (I x):Sem Value).run P w = .ok (.int .u64 (IntKind.u64.wrap x)) w:=by kernel_rfl
theorem aN (x:Int) (w:World):(Go.convert 179 3 (.int .u64 x):Sem Value).run P w = .ok (I (IntKind.i64.wrap x)) w:=by kernel_rfl
theorem Wn {n:Int} (h0:0<=n) (j:n < 9223372036854775808):IntKind.u64.wrap n = n:=by
 unfold IntKind.wrap;simp only[IntKind.bits,IntKind.signed];simp;omega
end rules
theorem ZV (x:Int):Pu Kb [I x] (.bool false):=by
 intro R;refine Pq λF=>?_
 refine z_1 ?_;refine jne (Ao (A:=[]) (RM.le.refl R) ?_);simp
theorem ZH (x:Int):Pu H6 [I x] (.bool false):=by
 intro R;refine Lo λF=>?_
 refine z_1 ?_;refine jne (Ao (A:=[]) (RM.le.refl R) ?_);simp
theorem ZK (x y:Int):Pu MK [I x,I y] (.bool (decide (x < y))):=by
 intro R;refine RU λF=>?_
 refine z_2 ?_;refine jan [I x,I y] false (λG j=>?_) (λe c u D he=>?_)
 .exact jp (ZV x) (jft (j _ _ _ CB rfl))
 refine z_V ?_;refine jor [] (decide (x < y)) (λG j=>?_) (λe c u D he=>?_)
 .rw[D];exact jff (jlt (j _ _ _ CH rfl))
 refine z_V ?_;rw[D];exact Ao (A:=[]) (RM.le.refl R) rfl
def lbI (l:List Int) (x:Int):Nat:=(l.filter λy=>decide (y < x)).length
theorem WI {l:List Int} {x:Int} {i:Nat} (N:i<=l.length) (H:∀k (h:k < l.length),k < i->l[k] < x) (K:∀k (h:k < l.length),i<=k->x<=l[k]):lbI l x = i:=by
 unfold lbI
 conv=>lhs;rw[<- eV i l]
 rw[List.filter_append,cJ];have D:(l.take i).filter (λy=>decide (y < x)) = l.take i:=by
  rw[List.filter_eq_self];intro y A;obtain⟨k,j,rfl⟩:=d5 A;rw[cV] at j;rw[eh];exact decide_eq_true (H k Z Z)
 have G:(l.drop i).filter (λy=>decide (y < x)) = []:=by
  rw[List.filter_eq_nil_iff];intro y A;obtain⟨k,j,rfl⟩:=d5 A;rw[dN] at j;rw[eH];have:=K (i + k) Z Z;simpa using this
 rw[D,G,cV];simp;omega
theorem Jj {l:List Int} {x:Int} (D:l.Pairwise (· < ·)) (h:x∈l):(lbI l x:Int) = BP l x:=by
 unfold BP;rw[if_pos h];have j:l.idxOf x < l.length:=List.idxOf_lt_length_iff.2 h;have H:l[l.idxOf x] = x:=V
 rw[f7] at D;congr 1;refine WI Z (λk A y=>?_) (λk A G=>?_)
 .have:=D k _ A j y;omega
 .by_cases c:k = l.idxOf x
  .subst c;omega
  .have:=D _ k j A Z;omega
set_option maxRecDepth 4000 in
theorem Lb {R:RM} {v:Value} {l:List Int} (x:Int) (h:B8 R v l) (hl:l.length < 1000000) (hs:l.Pairwise (· < ·)):Ro Ed [v,I x] (.tuple #[I (lbI l x),.bool (decide (x∈l))]) R []:=by
 refine Gu λF=>?_
 refine z_2 ?_;obtain⟨va,vc,rfl⟩:=h.sl;refine jln ?_;have a7:=f7.1 hs;refine Bz [.slice va l.length vc,I x,I l.length,I (lbI l x)] (λK1 Q=>?_) (λe he=>?_)
 .refine Bz [.slice va l.length vc,I x,I l.length,I (lbI l x)] (λK2 h2=>?_) (λe he=>?_)
  .refine jlp (λm vs N H=>N = R/\H = [] ++ F/\∃i j:Nat,i<=j/\j<=l.length/\m = j - i/\(∀k (h:k < l.length),k < i->l[k] < x)/\(∀k (h:k < l.length),j<=k->x<=l[k])/\vs = [.slice va l.length vc,I x,I l.length,I i,I j]) (n:=l.length) ⟨rfl,rfl,0,l.length,Z,Z,Z,λk _ h=>Z,λk h h'=>Z,rfl⟩ ?_;rintro m e R1 D1 K ⟨T,hD,i,j,a9,hj,hm,a0,W,he⟩ hK;subst T;refine z_W ?_;refine jlt (jif (λhc=>?_) (λhc=>?_));rotate_left
   .have hc:=z_g hc;have:i = j:=Z
    subst this;rw[WI hj a0 W] at h2;exact h2
   have hc:i < j:=by have:=z_f hc;omega
   refine Ab (λvs N H=>N = R1/\H = [] ++ F/\∃G D : Nat,G<=D/\D<=l.length/\D - G < m/\(∀k (h:k < l.length),k < G->l[k] < x)/\(∀k (h:k < l.length),D<=k->x<=l[k])/\vs = [.slice va l.length vc,I x,I l.length,I G,I D]) (λK3 h3=>?_) ?_
   .refine jad (@jxr _ _ _ _ (.int .u64 ((i:Int) + j)) (λw=>by rw[aH,Wn Z Z]) (be δ ?_));have e1:((i:Int) + j).fdiv (2 ^ min (1:Int).toNat IntKind.u64.bits) = (((i + j) / 2:Nat):Int):=by
     show ((i:Int) + j).fdiv 2 = _;rw[Int.fdiv_eq_ediv_of_nonneg _ δ];omega
    rw[e1];refine @jxr _ _ _ _ (I (((i + j) / 2:Nat):Int)) (λw=>by rw[aN,FV ⟨Z,Z⟩]) ?_;have A:(i + j) / 2 < l.length:=Z
    refine Bl h Z Z ?_;simp only[cG];refine jp (ZK _ x) (jif (λg=>?_) (λg=>?_))
    .have g:=z_f g;refine jad (h3 _ _ _ ⟨rfl,rfl,(i + j) / 2 + 1,j,Z,hj,Z,λk hk y=>?_,W,rfl⟩);by_cases c:k = (i + j) / 2
     .subst c;exact g
     .have:=a7 k _ hk A Z;omega
    .have g:=z_g g;refine h3 _ _ _ ⟨rfl,rfl,i,(i + j) / 2,Z,Z,Z,a0,λk hk b1=>?_,rfl⟩;by_cases c:k = (i + j) / 2
     .subst c;omega
     .have:=a7 _ k A hk Z;omega
   rintro e R2 D2 ⟨T,hD,G,D,a1,a2,a3,a4,a5,he⟩;subst T;refine z_W ?_;exact hK (D - G) _ _ _ Z ⟨rfl,rfl,G,D,a1,a2,rfl,a4,a5,rfl⟩
  .refine z_V ?_;exact Q
 refine z_V ?_;have b0:lbI l x<=l.length:=List.length_filter_le _ _;have a8:∀(y:lbI l x < l.length),(l[lbI l x] == x) = decide (x∈l):=by
  intro y;by_cases c:x∈l
  .have hp:=Jj hs c;unfold BP at hp;rw[if_pos c] at hp;have:lbI l x = l.idxOf x:=Z
   simp only[this];simp[c]
  .rw[decide_eq_false c,beq_eq_false_iff_ne];intro e;exact c (e▸cK y)
 have a6:¬ lbI l x < l.length->x ∉ l:=λy c=>by
  have hp:=Jj hs c;unfold BP at hp;rw[if_pos c] at hp;have:=List.idxOf_lt_length_iff.2 c;omega
 refine Ab (λvs N H=>N = R/\H = [] ++ F/\∃c u,vs = [I (lbI l x),c,u]/\GM c u (decide (x∈l))) (λK1 Q=>?_) ?_
 .refine jlt (Dv (λg=>?_) (λg=>?_))
  .have y:lbI l x < l.length:=by have:=z_f g;omega
   rw[g];refine Bl h Z Z ?_;simp only[cG];refine jeq ?_;rw[a8 y];refine F0 (λO=>?_) (λO=>?_)
   .refine Bl h Z Z ?_;simp only[cG];rw[O];exact jp (ZH _) (jft (Q _ _ _ ⟨rfl,rfl,_,_,rfl,by rw[O];exact Bx⟩))
   .rw[O];exact Q _ _ _ ⟨rfl,rfl,_,_,rfl,by rw[O];exact Bx⟩
  .have y:¬ lbI l x < l.length:=by have:=z_g g;omega
   rw[g];exact Q _ _ _ ⟨rfl,rfl,_,_,rfl,by rw[decide_eq_false (a6 y)];exact CB⟩
 rintro e R2 D2 ⟨T,hD,c,u,he,ho⟩;subst T;refine z_W ?_;rw[ho];exact BN rfl
end Go.Lf
end
section
namespace Sm
open Go.Lf
theorem Ww {had:List Int} {a x:Int}:x∈had->x∈Bu had a:=λh=>by
 unfold Bu;split
 .exact h
 .exact dC _ h
theorem U0 {had:List Int} {a:Int}:a = 0\/a∈Bu had a:=by
 unfold Bu;split
 .rename_i h;rcases h with h | h
  .exact .inl h
  .exact .inr h
 .exact .inr V
theorem Fm {l:List AQ}:∀{xs acc r:List Int},Aq l xs acc = some r->∀x∈acc,x∈r
 | [],acc,r,h,x,hx=>by cases h;exact hx
 | a :: xs,acc,r,h,x,hx=>by
  rw[Bn] at h;cases j:now l a with
  | none=>rw[j] at h;cases h
  | some y=>rw[j] at h;exact Fm (xs:=xs) h x (Ww hx)
theorem Fv {l:List AQ}:∀{xs acc r:List Int},Aq l xs acc = some r->∀a∈xs,∃x,now l a = some x/\(x = 0\/x∈r)
 | [],acc,r,h,a,j=>by cases j
 | b :: xs,acc,r,h,a,j=>by
  rw[Bn] at h;cases A:now l b with
  | none=>rw[A] at h;cases h
  | some y=>
   rw[A] at h;have h:Aq l xs (Bu acc y) = some r:=h;rcases cU.1 j with rfl | j
   .refine⟨y,A,?_⟩;rcases U0 (had:=acc) (a:=y) with e | e
    .exact .inl e
    .exact .inr (Fm h _ e)
   .exact Fv (xs:=xs) h a j
theorem KT {l:List AQ}:∀{n i:Nat} {out r:List Int},BH l n i out = some r->(∀j (h:j < out.length),j < i->∀t,B7 l out[j] = some t->∀a∈t.refs,∃x,now l a = some x/\(x = 0\/x∈r))->
  (∀x∈out,x∈r)/\∀b∈r,∀t,B7 l b = some t->∀a∈t.refs,∃x,now l a = some x/\(x = 0\/x∈r)
 | 0,i,out,r,h,_=>by cases h
 | n + 1,i,out,r,h,hj=>by
  by_cases c:i < out.length
  .cases H:B7 l out[i] with
   | none=>
    unfold BH at h;rw[cF c] at h;dsimp only at h;rw[H] at h;cases h
   | some t=>
    rw[C9 c H] at h;cases A:Aq l t.refs out with
    | none=>rw[A] at h;cases h
    | some o=>
     rw[A,z_o] at h;have O:∀{R D r:List Int},Aq l R D = some r->∃e,r = D ++ e:=by
      intro R;induction R with
      | nil=>intro D r h;cases h;exact⟨[],V⟩
      | cons a R W=>
       intro D r h;rw[Bn] at h;cases A:now l a with
       | none=>rw[A] at h;cases h
       | some y=>
        rw[A] at h;obtain⟨e,he⟩:=W h;unfold Bu at he;split at he
        .exact⟨e,he⟩
        .exact⟨[y] ++ e,by rw[he,cR]⟩
     obtain⟨e,he⟩:=O A;have mono:∀{n i:Nat} {out r:List Int},BH l n i out = some r->∀x∈out,x∈r:=by
      intro n;induction n with
      | zero=>intro i out r h;cases h
      | succ n W=>
       intro i out r h x K;by_cases c:i < out.length
       .cases H:B7 l out[i] with
        | none=>
         unfold BH at h;rw[cF c] at h;dsimp only at h;rw[H] at h;cases h
        | some t=>
         rw[C9 c H] at h;cases A:Aq l t.refs out with
         | none=>rw[A] at h;cases h
         | some o=>rw[A] at h;exact W h x (Fm A x K)
       .rw[CJ Z] at h;cases h;exact K
     have hm:=mono h;have:=KT h λj a1 a0 t' G a Q=>?_
     .exact⟨λx K=>this.1 x (Fm A x K),this.2⟩
     .have N:j < out.length:=Z
      have e1:o[j] = out[j]:=by subst he;rw[eU N]
      rw[e1] at G;by_cases cj:j = i
      .subst cj;rw[H] at G;cases G;obtain⟨x,h1,h2⟩:=Fv A a Q;exact⟨x,h1,h2.elim .inl λh=>.inr (hm x h)⟩
      .exact hj j N Z t' G a Q
  .rw[CJ Z] at h;cases h;refine⟨λx K=>K,λb hb t H a Q=>?_⟩;obtain⟨j,T,rfl⟩:=d5 hb;exact hj j T Z t H a Q
theorem HpF.closed {s:Ah} {l:List AQ} {y:List Int} (H:HpF s l y):(∀a∈Cs s,∃x,now l a = some x/\(x = 0\/x∈y))/\∀b∈y,∀t,B7 l b = some t->∀a∈t.refs,∃x,now l a = some x/\(x = 0\/x∈y):=by
 have D:=H.head;unfold C8 at D;simp only[z_b] at D;have A:=H.re;rw[DV D.2] at A;cases G:Aq l (Cs s) [] with
 | none=>rw[G] at A;cases A
 | some out=>
  rw[G,z_o] at A;obtain⟨O,Q⟩:=KT A λj h T=>absurd T Z
  refine⟨λa R=>?_,Q⟩;obtain⟨x,K,N⟩:=Fv G a R;exact⟨x,K,N.elim .inl λh=>.inr (O x h)⟩
end Sm
end
section
namespace Go.Lf
open Go Sm
def nmA (l:List AQ) (AJ:List Int) (a:Int):Int:=if a = 0 then -1 else BP AJ ((now l a).getD 0)
section st
variable {R:RM} {s:Sm.Ah} {wv tv mv thv ov pv:Value} {l:List AQ} {met:List Int}
theorem Tq {hb mb:Nat} {v:Value} {a x:Int} (y:HpV R s wv tv mv thv ov pv l met hb mb v) (j:now l a = some x):Ro Gd [Pt hb,I a] (I x) R []:=by
 refine J2 λF=>?_
 refine z_2 ?_;obtain⟨o,A,D,G,H⟩:=y;unfold now at j;refine jeq (jif (λh=>?_) (λh=>?_))
 .rw[if_pos (by simpa using h)] at j;cases j;exact BN rfl
 have h:a≠0:=by simpa using h
 rw[if_neg h] at j;refine jnc (jfo (jlr A rfl (@Pb _ _ _ mb o l a false (Li.fz D) G (λe=>?_) (λt v e y=>?_))))
 .rw[e] at j;cases j
 .rw[e] at j;obtain⟨rv,nv,rfl,_,_⟩:=y;cases j;exact jfd rfl (BN rfl)
set_option maxRecDepth 4000 in
theorem Ix {hb mb H N:Nat} {v W xv:Value} {AJ xs:List Int} (hv:HpV R s wv tv mv thv ov pv l met hb mb v) (a7:B8 R W AJ) (a6:AJ.length < 1000000) (a0:AJ.Pairwise (· < ·)) (hm:∀x,x∈AJ↔x∈met) (b5:B8 R xv xs) (b3:xs.length < 1000000)
  (hc:∀a∈xs,∃x,now l a = some x/\(x = 0\/x∈met)) (a8:∀t∈l,t.moved≠0) :
  Fn P CD [xv,Pt H,Pt N] R [(H,C 30 [W]),(N,C 98 [Pt hb])]
   (λv R' A=>R' = R/\∃A2,SO (xs.map (nmA l AJ)) v A2/\A = (H,C 30 [W]) :: (N,C 98 [Pt hb]) :: A2):=by
 refine JQ λF=>?_
 refine z_3 ?_;refine jc (Dk b5 b3) ?_;rintro Q R1 A1 _ ⟨hR,D,_⟩;subst hR;obtain⟨ca,cc,a4⟩:=D.sln;refine Ab (λvs R' D'=>R' = R1/\∃A,SO (xs.map (nmA l AJ)) Q A/\D' = (H,C 30 [W]) :: (N,C 98 [Pt hb]) :: (A ++ F)/\vs = [Q]) (λK1 h1=>?_) ?_
 .refine Bo ⟨ca,cc,a4⟩ (Ab (λvs R' D'=>R' = R1/\∃A,SO (xs.map (nmA l AJ)) Q A/\D' = (H,C 30 [W]) :: (N,C 98 [Pt hb]) :: (A ++ F)/\vs = [Q]) (λK2 h2=>?_) ?_);rotate_left
  .rintro e R2 D2 ⟨hR,A,D,hD,he⟩;subst hR;refine z_W ?_;clear hD;exact h1 _ _ _ ⟨rfl,A,D,rfl,rfl⟩
  refine Al [(H,C 30 [W]),(N,C 98 [Pt hb])] (G:=A1 ++ ([] ++ F)) (jlp (λm vs R' D'=>R' = R1/\∃(i:Nat) (A:Chs),i<=xs.length/\m = xs.length - i/\SO ((xs.take i).map (nmA l AJ) ++ xs.drop i) Q A/\D' = (H,C 30 [W]) :: (N,C 98 [Pt hb]) :: (A ++ F)/\vs = [Pt H,Pt N,Q,Q,I xs.length,I i]) ⟨rfl,0,A1,Z,rfl,by simpa using D,rfl,rfl⟩ ?_);clear D;rintro m e R2 D2 K ⟨hR,i,A,hi,b7,D,hD,he⟩ hK;subst hR;refine z_W ?_;clear hD;refine jlt (jif (λj=>?_) (λj=>?_));rotate_left
  .have j:=z_g j;rw[cO Z,cT Z,dD] at D;exact h2 _ _ _ ⟨rfl,A,D,rfl,rfl⟩
  have j:i < xs.length:=by have:=z_f j;omega
  have a2:=cK j;obtain⟨x,hx,b4⟩:=hc _ a2;have hlen:((xs.take i).map (nmA l AJ) ++ xs.drop i).length = xs.length:=by simp;omega
  have a5:((xs.take i).map (nmA l AJ) ++ xs.drop i)[i]'(Z) = xs[i]:=by
   rw[df (by simp;omega)];simp only[cM,cV,eH];congr 1;omega
  have a9:∀y,((xs.take i).map (nmA l AJ) ++ xs.drop i).set i y = (xs.take i).map (nmA l AJ) ++ y :: xs.drop (i + 1):=λy=>by
   rw[dl _ _ (by simp;omega),cQ j];simp only[cM,cV];rw[show i - min i xs.length = 0 from Z];rfl
  have T:∀(y:Int) (A3:Chs),y = nmA l AJ xs[i]->SO ((xs.take i).map (nmA l AJ) ++ y :: xs.drop (i + 1)) Q A3->SO ((xs.take (i + 1)).map (nmA l AJ) ++ xs.drop (i + 1)) Q A3:=λy A3 hy D=>by
   rw[cI j,dE,cR];subst hy;exact D
  refine Ab (λvs R' D'=>R' = R2/\∃A,SO ((xs.take (i + 1)).map (nmA l AJ) ++ xs.drop (i + 1)) Q A/\D' = (H,C 30 [W]) :: (N,C 98 [Pt hb]) :: (A ++ F)/\vs = [Pt H,Pt N,Q,Q,I xs.length,I i]) (λK3 h3=>?_) ?_;rotate_left
  .rintro e R3 D3 ⟨hR,A3,O,hD,he⟩;subst hR;refine z_W ?_;clear hD;exact jad (hK (xs.length - (i + 1)) _ _ _ Z ⟨rfl,i + 1,A3,Z,rfl,O,rfl,rfl⟩)
  refine jcI h3 λK4 h4=>?_
  refine Un D Z ?_;rw[a5];refine jl rfl (jl rfl (jrp (Tq hv hx) (Ak (jl rfl jev) (jrp (Lb x a7 a6 a0) (jex rfl (jex rfl (Al A (G:=(H,C 30 [W]) :: (N,C 98 [Pt hb]) :: F) (Wq D Z λA2 a1=>?_))))))));rw[a9] at a1;refine jeq (jif (λg=>?_) (λg=>?_))
  .have g:xs[i] = 0:=by simpa using g
   have b6:((xs.take i).map (nmA l AJ) ++ (lbI AJ x:Int) :: xs.drop (i + 1)).length = xs.length:=by simp;omega
   refine Wq a1 Z λA3 O=>?_
   rw[dl _ _ (by simp;omega)] at O;simp only[cM,cV] at O;rw[show i - min i xs.length = 0 from Z] at O;refine Al [(H,C 30 [W]),(N,C 98 [Pt hb])] (G:=A3 ++ F) (h4 _ _ _ ⟨rfl,A3,T (-1) A3 (by unfold nmA;rw[if_pos g]) O,rfl,rfl⟩)
  .have g:xs[i]≠0:=by simpa using g
   have b0:x≠0:=λe=>by
    subst e;unfold now at hx;rw[if_neg g] at hx;obtain⟨t,ht,e⟩:=eR.1 hx;exact a8 t (BE ht).1 e
   have a3:x∈AJ:=(hm x).2 (b4.resolve_left b0);refine Al [(H,C 30 [W]),(N,C 98 [Pt hb])] (G:=A2 ++ F) (h4 _ _ _ ⟨rfl,A2,T _ A2 (by unfold nmA;rw[if_neg g,hx];exact Jj a0 a3) a1,rfl,rfl⟩)
 rintro e R2 D2 ⟨hR,A,D,hD,he⟩;subst hR;refine z_W ?_;clear hD;exact Ao (RM.le.refl _) ⟨rfl,A,D,rfl⟩
end st
end Go.Lf
end
section
namespace Sm
structure PG where
 nodes:List (List Int × List Int)
 AD:List (List Int)
 pinned:List Int
end Sm
namespace Go.Lf
open Go Sm
section rules
variable {R:RM} {D:Chs}
theorem jci {ι:Type} {G:List Nat} {B:(List Value->M)->M} {K:Env->M} (W:ι->List Value) (E:ι->Chs) (p:RM->ι->Prop)
  (H:∀x : List Value->M,(∀j i,p j i->J j (E i) (x (W i)))->J R D (B x)) (N:∀e j i,p j i->G.map e = W i->J j (E i) (K e)):J R D (CUT G B K):=
 Ab (λT j A=>∃i,p j i/\A = E i/\T = W i) (λx h=>H x λ_ i y=>h _ _ _ ⟨i,y,rfl,rfl⟩) λe j A ⟨i,y,O,Q⟩=>by
  rw[O];exact N e j i y Q
theorem jiI {ι:Type} {x:List Nat} {B:(List Value->M)->M} {A:List Value->M} {K:ι->List Value} {E:ι->Chs} {p:RM->ι->Prop} (G:∀j i,p j i->J j (E i) (A (K i)))
  (H:∀y : List Value->M,(∀j i,p j i->J j (E i) (y (K i)))->J R D (B y)):J R D (CUT x B (λe=>A (x.map e))):=jci K E p H λe j i h he=>by rw[he];exact G j i h
theorem jli {ι:Type} {N:List Nat} {B:(List Value->M)->Env->M} {A:List Value} (n:ι->Nat) (a0:ι->List Value) (E:ι->Chs) (p:RM->ι->Prop) (i:ι) (h0:p R i) (hv:A = a0 i) (hD:D = E i)
  (H:∀K e y i,p y i->N.map e = a0 i->(∀j x,n x < n i->p j x->J j (E x) (K (a0 x)))->J y (E i) (B K e)):J R D (LP N B A):=by
 subst hv;refine jlp (λm A y O=>∃i,p y i/\O = E i/\A = a0 i/\m = n i) (n:=n i) ⟨i,h0,hD,rfl,rfl⟩ ?_;rintro m e Q D1 K ⟨i,hp,T,W,h4⟩ hK;rw[T];exact H K e Q i hp W λj x hn G=>hK (n x) _ _ _ Z ⟨x,G,rfl,rfl,rfl⟩
end rules
def NdC (R:RM) (row:List Value) (n:List Int × List Int):Prop:=∃rv nv,row = [rv,nv]/\B8 R rv n.1/\B8 R nv n.2
theorem NdC.le {R j : RM} {row:List Value} {n:List Int × List Int} (h:R.le j) (H:NdC R row n):NdC j row n:=by
 obtain⟨a,b,x,y,A⟩:=H;exact⟨a,b,x,y.le h,A.le h⟩
theorem NdC.len {R:RM} {row:List Value} {n:List Int × List Int} (H:NdC R row n):row.length = 2:=by obtain⟨a,b,rfl,_⟩:=H;rfl
def RwC (R:RM) (row:List Value) (l:List Int):Prop:=∃v,row = [v]/\B8 R v l
theorem RwC.le {R j : RM} {row:List Value} {l:List Int} (h:R.le j) (H:RwC R row l):RwC j row l:=by
 obtain⟨a,x,y⟩:=H;exact⟨a,x,y.le h⟩
theorem RwC.len {R:RM} {row:List Value} {l:List Int} (H:RwC R row l):row.length = 1:=by obtain⟨a,rfl,_⟩:=H;rfl
def GrF (R:RM) (v:Value) (g:PG):Prop:=∃r1 r2 nv rv pv,v = .agg #[nv,rv,pv]/\Rw (NdC R) r1 g.nodes/\Fz R nv 2 r1.length r1.flatten/\Rw (RwC R) r2 g.AD/\Fz R rv 1 r2.length r2.flatten/\B8 R pv g.pinned
theorem GrF.le {R j : RM} {v:Value} {g:PG} (h:R.le j) (H:GrF R v g):GrF j v g:=by
 obtain⟨r1,N,nv,rv,pv,x,y,A,D,G,K⟩:=H;exact⟨r1,N,nv,rv,pv,x,y.mono λ_ _=>NdC.le h,A.le h,D.mono λ_ _=>RwC.le h,G.le h,K.le h⟩
def ndP (l:List AQ) (AJ:List Int) (a:Int):List Int × List Int:=match B7 l a with
 | some t=>(t.refs.map (nmA l AJ),t.nums)
 | none=>([],[])
def Hf (s:Sm.Ah) (l:List AQ) (AJ:List Int):PG:=⟨AJ.map (ndP l AJ),s.AB.map λt=>t.AD.map (nmA l AJ),s.AI.map (nmA l AJ)⟩
def Z4 (r:Option (List AQ × List Int)) (s:Sm.Ah) (v:Value) (R:RM):Prop:=match r with
 | none=>v = .tuple #[.agg #[SN,SN,SN],.bool false]
 | some (l,met)=>∃gv,GrF R gv (Hf s l (Ac met))/\v = .tuple #[gv,.bool true]
section st
variable {R:RM} {s:Sm.Ah} {wv tv mv thv ov pv:Value} {l:List AQ} {met:List Int}
theorem HpV.le {R j : RM} {hb mb:Nat} {v:Value} (h:R.le j) (H:HpV R s wv tv mv thv ov pv l met hb mb v):HpV j s wv tv mv thv ov pv l met hb mb v:=by
 obtain⟨o,x,y,A,D⟩:=H;exact⟨o,h _ _ x,h _ _ y,A.le h,D.le h⟩
theorem W4 {D:Chs} {k:Value->M} {hb mb:Nat} {v:Value} {a:Int} {t:AQ} (j:HpV R s wv tv mv thv ov pv l met hb mb v) (O:B7 l a = some t) (H:∀A G x y,B8 R (.slice A t.refs.length G) t.refs->B8 R (.slice x t.nums.length y) t.nums->J R D (k (.agg (eTh t (.slice A t.refs.length G) (.slice x t.nums.length y)).toArray))):J R D (X P (Instr.lookup 101 (.map (some mb)) (I a) false) k):=by
 obtain⟨o,W,Q,T,h4⟩:=j;refine @Pb _ _ _ mb o l a false (Li.fz Q) T (λe=>?_) (λt' v e j=>?_)
 .rw[O] at e;cases e
 .rw[O] at e;cases e;obtain⟨rv,nv,rfl,K,N⟩:=j;obtain⟨A,G,rfl⟩:=K.sl;obtain⟨x,y,rfl⟩:=N.sl;exact H _ _ _ _ K N
theorem SZ {j:List Int} (h:j.Nodup):(Ac j).Pairwise (· < ·):=(Bk h).1
theorem SO.frz {l:List Int} {v:Value} {A:Chs} (j:SO l v A):∃a c,v = .slice a l.length c:=by
 obtain⟨a,c,h⟩:=j.sln;exact⟨a,c,h⟩
set_option maxHeartbeats 2000000 in
set_option maxRecDepth 8000 in
theorem MQ (h:SF R s wv tv mv thv ov pv):Fn P HP [.agg (eSt s wv tv mv thv ov pv).toArray] R [] (λv T A=>A = []/\Z4 (CU s) s v T):=by
 refine M1 λF=>?_
 refine z_1 ?_;refine ja λsb=>BB (b:=sb) λR0 c5 b1=>ja λQ=>Do b1 (by exact z_n 13) rfl ?_
 have h:=h.le c5;refine jc (A:=[]) (Lr h) ?_;rintro x R1 _ b0 ⟨rfl,hq⟩;have h:=h.le b0;have b1:=b0 _ _ b1;have b0:=c5.trans b0;clear c5;cases hh:CU s with
 | none=>
  rw[hh] at hq;obtain rfl:x = _:=hq;refine ja λj=>jS [.pointer none] (jl (v:=.pointer none) rfl (jxr (λw=>VI w _ _) (DM ?_)))
  refine jbd (cs:=[SN,SN,SN]) rfl rfl (jS [SN,SN,SN] (jla (l:=[SN,SN,SN]) (cN rfl) rfl ?_));exact Ao (A:=[]) b0 ⟨rfl,rfl⟩
 | some q=>
  obtain⟨l,met⟩:=q;rw[hh] at hq;obtain⟨hb,mb,v,rfl,hv⟩:=hq;have hf:=EJ hh;have h4:=hf.M.len;have h3:=(Ky h hf.ths).1;obtain⟨d3,f6⟩:=hf.closed;have b6:=hf.S.nz;have a6:=SZ hf.M.nd;have a2:∀x,x∈Ac met↔x∈met:=λx=>(Bk hf.M.nd).2 x
  have i5:(Ac met).length = met.length:=by have:=FK met [];simpa [Ac] using this
  refine ja λj=>jS [Pt hb] (jl (v:=Pt hb) rfl (jxr (λw=>W8 w _ _ hb) (CW (jl (v:=Pt hb) rfl ?_))))
  refine jc (A:=[]) (W5 hv hf.M.nd Z) ?_;rintro sv R2 A2 _ ⟨f4,so⟩;subst f4;refine Dw so λR3 b3 hi=>?_
  have h:=h.le b3;have hv:=hv.le b3;have b1:=b3 _ _ b1;have b3:=b0.trans b3;clear b0;obtain⟨sa,sc,rfl⟩:=hi.sl;refine ja λlb=>jS [.slice sa (Ac met).length sc] (ja λD=>?_)
  generalize f8:Value.slice sa (Ac met).length sc = N at hi ⊢;have g3:∀(T : RM),R3.le T->∃o,T hb = some (C 103 (eHp s wv tv mv thv ov pv mb v))/\T mb = some o/\MpT T o l/\B8 T v met:=λT f3=>hv.le f3
  refine jci (λ_:Value × Chs × List (List Value)=>[Pt sb,Pt Q,.func (.func CD) #[] #[Pt lb,Pt j],Pt D])
   (λi=>(D,C 40 [i.1,SN,SN]) :: (lb,C 30 [N]) :: (j,C 98 [Pt hb]) :: (i.2.1 ++ ((Q,C 40 (cl z40)) :: ([] ++ F))))
   (λT i=>R3.le T/\Rw (NdC T) i.2.2 ((Ac met).map (ndP l (Ac met)))/\SW 60 2 i.2.2 i.1 i.2.1) (λK1 h1=>?_) ?_
  .refine jl (v:=N) rfl (Bo ⟨sa,sc,f8.symm⟩ ?_);refine jiI h1 λK2 h2=>?_
   refine jli (λi:Nat × Value × Chs × List (List Value)=>(Ac met).length - i.1)
    (λi=>[Pt sb,Pt Q,Pt j,.func (.func CD) #[] #[Pt lb,Pt j],Pt D,N,I (Ac met).length,I i.1])
    (λi=>(D,C 40 [i.2.1,SN,SN]) :: (lb,C 30 [N]) :: (j,C 98 [Pt hb]) :: (i.2.2.1 ++ ((Q,C 40 (cl z40)) :: ([] ++ F))))
    (λT i=>R3.le T/\i.1<=(Ac met).length/\Rw (NdC T) i.2.2.2 (((Ac met).take i.1).map (ndP l (Ac met)))/\SW 60 2 i.2.2.2 i.2.1 i.2.2.1)
    (0,SN,[],[]) ⟨RM.le.refl _,V,Rw.nil,.inl ⟨rfl,rfl,rfl⟩⟩ rfl rfl ?_
   rintro K e R4 ⟨k,nv,A1,rows⟩ ⟨a5,c7,O,so⟩ he hK;dsimp only at c7 O so he hK ⊢;refine z_V ?_;have b9:=hi.le a5;have a9:=hv.le a5;obtain⟨o,g1,-,-,-⟩:=g3 R4 a5;refine jlt (jif (λc=>?_) (λc=>?_));rotate_left
   .have c:=z_g c;rw[cO Z] at O;exact h2 R4 (nv,A1,rows) ⟨a5,O,so⟩
   have c:k < (Ac met).length:=by have:=z_f c;omega
   refine jci (λ_:Value × Chs × List (List Value)=>[Pt sb,Pt Q,Pt j,.func (.func CD) #[] #[Pt lb,Pt j],Pt D,N,I (Ac met).length,I k])
    (λi=>(D,C 40 [i.1,SN,SN]) :: (lb,C 30 [N]) :: (j,C 98 [Pt hb]) :: (i.2.1 ++ ((Q,C 40 (cl z40)) :: ([] ++ F))))
    (λT i=>R3.le T/\Rw (NdC T) i.2.2 (((Ac met).take (k + 1)).map (ndP l (Ac met)))/\SW 60 2 i.2.2 i.1 i.2.1) (λK7 h7=>?_) ?_
   rotate_left
   .rintro e T i ⟨p1,p2,p3⟩ he;refine z_V ?_;exact jad (hK T (k + 1,i) (by dsimp only;omega) ⟨p1,c,p2,p3⟩)
   refine jiI h7 λK9 h9=>?_
   clear h7 hK h2 h1;have d2:(Ac met)[k]∈met:=(a2 _).1 (cK c);obtain⟨t,ht⟩:=hf.M.th _ d2;have i6:=(Ky h hf.ths).2 t (BE ht).1;have c4:∀(xv cv:Value) (A6 A7:Chs),SO (t.refs.map (nmA l (Ac met))) xv A6->SO t.nums cv A7->
     J R4 ((D,C 40 [nv,SN,SN]) :: (lb,C 30 [N]) :: (j,C 98 [Pt hb]) :: (A7 ++ (A6 ++ (A1 ++ ((Q,C 40 (cl z40)) :: ([] ++ F))))))
      (BD (cl z60) [(0,1,xv),(1,1,cv)] λg6=>AND (L1 (Pt D) λx=>EV x nv)<|BS 60 1 (ZR 1 z60) [(0,2,g6)] λg7=>AND (L1 (Pt D) λx=>EV x nv)<|AP 60 2 48 (cl z60) nv g7 λg8=>FO 0 (Pt D) λg9=>ST 1 g9 g8<|K9 [Pt sb,Pt Q,Pt j,.func (.func CD) #[] #[Pt lb,Pt j],Pt D,N,I (Ac met).length,I k]):=by
    intro xv cv A6 A7 a1 b2;refine Al A7 (G:=(D,C 40 [nv,SN,SN]) :: (lb,C 30 [N]) :: (j,C 98 [Pt hb]) :: (A6 ++ (A1 ++ ((Q,C 40 (cl z40)) :: ([] ++ F))))) (Dw b2 λR5 y e2=>Al A6 (G:=(D,C 40 [nv,SN,SN]) :: (lb,C 30 [N]) :: (j,C 98 [Pt hb]) :: (A1 ++ ((Q,C 40 (cl z40)) :: ([] ++ F)))) (Dw a1 λR6 a3 e1=>?_));obtain⟨xa,xc,rfl⟩:=e1.sl;obtain⟨ca,cc,rfl⟩:=e2.sl;refine jbd (cs:=[.slice xa (t.refs.map (nmA l (Ac met))).length xc,.slice ca t.nums.length cc]) rfl rfl (Ak (jl (v:=nv) rfl jev) (jbs (cs:=[.slice xa (t.refs.map (nmA l (Ac met))).length xc,.slice ca t.nums.length cc]) rfl rfl λbb=>Ak (jl (v:=nv) rfl jev) ?_));have c8:=O.1;rw[cM,cV] at c8;refine Q4 [[.slice xa (t.refs.map (nmA l (Ac met))).length xc,.slice ca t.nums.length cc]] so rfl (O.all λ_ _=>NdC.len) (by intro r hr;rw[cZ.1 hr];rfl) rfl rfl rfl δ (by simp only[cS,dc];omega) λv' A' b7=>?_
    obtain⟨va,vc,c9⟩:=b7.sl;subst c9;refine jfo (jS ([.slice va (rows ++ [[Value.slice xa (t.refs.map (nmA l (Ac met))).length xc,.slice ca t.nums.length cc]]).length vc,SN,SN]) ?_);refine Al [(D,C 40 [.slice va (rows ++ [[Value.slice xa (t.refs.map (nmA l (Ac met))).length xc,.slice ca t.nums.length cc]]).length vc,SN,SN]),(lb,C 30 [N]),(j,C 98 [Pt hb])] (G:=A' ++ ((Q,C 40 (cl z40)) :: ([] ++ F))) ?_;refine h9 R6 (_,A',rows ++ [[Value.slice xa (t.refs.map (nmA l (Ac met))).length xc,.slice ca t.nums.length cc]]) ⟨a5.trans (y.trans a3),?_,b7⟩;rw[cI c,dE];refine (O.mono λ_ _=>NdC.le (y.trans a3)).app (Rw.one ⟨_,_,rfl,?_,?_⟩)
    .unfold ndP;rw[ht];exact e1
    .unfold ndP;rw[ht];exact e2.le a3
   have c6:=f6 _ d2 t ht;refine Bl b9 Z Z ?_;simp only[cG];refine jfo (jl (v:=nv) rfl (jl (v:=Pt hb) rfl (jnc (jfo (jlr (v:=.map (some mb)) g1 rfl (jl (v:=Pt hb) rfl (jnc (jfo (jlr (v:=.map (some mb)) g1 rfl ?_)))))))));refine F5 ?_ (E3 ?_)
   .refine W4 a9 ht λra rc na nc hr hn=>jfd (v:=.slice ra t.refs.length rc) rfl (Ak (jl (v:=nv) rfl jev) (Ak (jl (v:=Pt hb) rfl jev) (Ak (jlr (v:=.map (some mb)) g1 rfl jev) (F5 ?_ (E3 ?_)))))
    .refine Hg (by kernel_rfl) ?_;refine jc (A:=[(lb,C 30 [N]),(j,C 98 [Pt hb])]) (Ix a9 b9 Z a6 a2 hr Z c6 b6) ?_;rintro xv R5 A5 _ ⟨y,A6,a1,hA⟩;subst y hA;refine Ak (jl (v:=nv) rfl jev) (Ak (jl (v:=Pt hb) rfl jev) (Ak (jlr (v:=.map (some mb)) g1 rfl jev) ?_));refine W4 a9 ht λra rc na nc hr hn=>jfd (v:=.slice na t.nums.length nc) rfl (Ak (jl (v:=nv) rfl jev) ?_)
     refine jc (A:=[]) (Dk hn Z) ?_;rintro cv R7 A7 _ ⟨H,b2,_⟩;subst H;refine Al [(D,C 40 [nv,SN,SN]),(lb,C 30 [N]),(j,C 98 [Pt hb])] (G:=A7 ++ (A6 ++ (A1 ++ ((Q,C 40 (cl z40)) :: ([] ++ F))))) ?_;exact c4 xv cv A6 A7 a1 b2
    .refine W4 a9 ht λf1 f2 e9 f0 e6 e5=>jfd (v:=.slice e9 t.nums.length f0) rfl (Ak (jl (v:=nv) rfl jev) ?_)
     refine Hg (by kernel_rfl) ?_;refine jc (A:=[(lb,C 30 [N]),(j,C 98 [Pt hb])]) (Ix a9 b9 Z a6 a2 hr Z c6 b6) ?_;rintro xv R5 A5 _ ⟨y,A6,a1,hA⟩;subst y hA;refine Ak (jl (v:=nv) rfl jev) ?_;refine jc (A:=[]) (Dk e5 Z) ?_;rintro cv R7 A7 _ ⟨H,b2,_⟩;subst H;refine Al [(D,C 40 [nv,SN,SN]),(lb,C 30 [N]),(j,C 98 [Pt hb])] (G:=A7 ++ (A6 ++ (A1 ++ ((Q,C 40 (cl z40)) :: ([] ++ F))))) ?_;exact c4 xv cv A6 A7 a1 b2
   .refine W4 a9 ht λra rc na nc hr hn=>jfd (v:=.slice na t.nums.length nc) rfl (Ak (jl (v:=nv) rfl jev) (Ak (jl (v:=Pt hb) rfl jev) (Ak (jlr (v:=.map (some mb)) g1 rfl jev) ?_)))
    refine W4 a9 ht λf1 f2 e9 f0 e6 e5=>jfd (v:=.slice f1 t.refs.length f2) rfl (Ak (jl (v:=nv) rfl jev) ?_)
    refine Hg (by kernel_rfl) ?_;refine jc (A:=[(lb,C 30 [N]),(j,C 98 [Pt hb])]) (Ix a9 b9 Z a6 a2 e6 Z c6 b6) ?_;rintro xv R5 A5 _ ⟨y,A6,a1,hA⟩;subst y hA;refine Ak (jl (v:=nv) rfl jev) ?_;refine jc (A:=[]) (Dk hn Z) ?_;rintro cv R7 A7 _ ⟨H,b2,_⟩;subst H;refine Al [(D,C 40 [nv,SN,SN]),(lb,C 30 [N]),(j,C 98 [Pt hb])] (G:=A7 ++ (A6 ++ (A1 ++ ((Q,C 40 (cl z40)) :: ([] ++ F))))) ?_;exact c4 xv cv A6 A7 a1 b2
  rintro e R4 ⟨nv,A1,W⟩ ⟨a5,a7,c0⟩ he;dsimp only at a7 c0 ⊢;refine z_V ?_;obtain⟨na,nc,g2⟩:=c0.sl;refine Al A1 (G:=(D,C 40 [nv,SN,SN]) :: (lb,C 30 [N]) :: (j,C 98 [Pt hb]) :: (Q,C 40 (cl z40)) :: ([] ++ F)) ?_;refine jfw c0 (a7.all λ_ _=>NdC.len) λR5 y hfz=>?_
  have a7:=a7.mono λ_ _=>NdC.le y
  have y:=a5.trans y;clear a5 c0;refine jci (λ_:Value × Chs × List (List Value)=>[Pt sb,Pt Q,.func (.func CD) #[] #[Pt lb,Pt j],Pt D])
   (λi=>(D,C 40 [nv,i.1,SN]) :: (lb,C 30 [N]) :: (j,C 98 [Pt hb]) :: (i.2.1 ++ ((Q,C 40 (cl z40)) :: ([] ++ F))))
   (λT i=>R5.le T/\Rw (RwC T) i.2.2 (s.AB.map λt=>t.AD.map (nmA l (Ac met)))/\SW 30 1 i.2.2 i.1 i.2.1) (λK1 h1=>?_) ?_
  .have h5:=h.le y;obtain⟨ta,tc,g5⟩:=h5.c.th.sl;refine jfo (jlr (v:=thv) (y _ _ b1) rfl (Bo ⟨ta,tc,g5⟩ ?_));refine jiI h1 λK2 h2=>?_
   refine jli (λi:Nat × Value × Chs × List (List Value)=>s.AB.length - i.1)
    (λi=>[Pt sb,Pt Q,.func (.func CD) #[] #[Pt lb,Pt j],Pt D,thv,I s.AB.length,I i.1])
    (λi=>(D,C 40 [nv,i.2.1,SN]) :: (lb,C 30 [N]) :: (j,C 98 [Pt hb]) :: (i.2.2.1 ++ ((Q,C 40 (cl z40)) :: ([] ++ F))))
    (λT i=>R5.le T/\i.1<=s.AB.length/\Rw (RwC T) i.2.2.2 ((s.AB.take i.1).map λt=>t.AD.map (nmA l (Ac met)))/\SW 30 1 i.2.2.2 i.2.1 i.2.2.1)
    (0,SN,[],[]) ⟨RM.le.refl _,V,Rw.nil,.inl ⟨rfl,rfl,rfl⟩⟩ rfl rfl ?_
   rintro K e R6 ⟨k,rv,A2,rows⟩ ⟨a3,c7,O,so⟩ he hK;dsimp only at c7 O so he hK ⊢;refine z_V ?_;have b4:=y.trans a3;have h6:=h.le b4;refine jlt (jif (λc=>?_) (λc=>?_));rotate_left
   .have c:=z_g c;rw[cO Z] at O;exact h2 R6 (rv,A2,rows) ⟨a3,O,so⟩
   have c:k < s.AB.length:=by have:=z_f c;omega
   have i7:=h.b.rl _ (cK c);have h8:=h.b.n1;refine jtr h6.c.th c λb o ty cs i8 e8 f5 ho e7=>Do f5 ho e7 (ja λjb=>?_)
   obtain⟨ra,rc,rfl⟩:=e8.sl;refine jS ([.slice ra (s.AB[k]).AD.length rc,I (s.AB[k]).next,.bool (s.AB[k]).busy,I (s.AB[k]).Am]) ?_;refine jfo (jl (v:=rv) rfl (jfo (jl (v:=.slice ra (s.AB[k]).AD.length rc) rfl ?_)));refine Hg (by kernel_rfl) ?_;refine jc (A:=[(lb,C 30 [N]),(j,C 98 [Pt hb])]) (Ix (hv.le b4) (hi.le b4) Z a6 a2 e8 Z (λa ha=>d3 a (dC _ (eu.2 ⟨_,cK c,ha⟩))) b6) ?_;rintro xv R7 A5 _ ⟨H,A6,a1,hA⟩;subst H hA;refine Al [(jb,C 117 [.slice ra (s.AB[k]).AD.length rc,I (s.AB[k]).next,.bool (s.AB[k]).busy,I (s.AB[k]).Am]),(D,C 40 [nv,rv,SN]),(lb,C 30 [N]),(j,C 98 [Pt hb])] (G:=A6 ++ (A2 ++ ((Q,C 40 (cl z40)) :: ([] ++ F)))) (Bf (Az (D':=(D,C 40 [nv,rv,SN]) :: (lb,C 30 [N]) :: (j,C 98 [Pt hb]) :: (A6 ++ (A2 ++ ((Q,C 40 (cl z40)) :: ([] ++ F))))) (dK _) ?_));refine Al A6 (G:=(D,C 40 [nv,rv,SN]) :: (lb,C 30 [N]) :: (j,C 98 [Pt hb]) :: (A2 ++ ((Q,C 40 (cl z40)) :: ([] ++ F)))) ?_;refine Dw a1 λR8 b8 e3=>?_
   obtain⟨xa,xc,rfl⟩:=e3.sl;refine Ak (jl (v:=rv) rfl jev) (jbs (cs:=[.slice xa ((s.AB[k]).AD.map (nmA l (Ac met))).length xc]) rfl rfl λbb=>Ak (jl (v:=rv) rfl jev) ?_);have c8:=O.1;rw[cM,cV] at c8;refine Q4 [[.slice xa ((s.AB[k]).AD.map (nmA l (Ac met))).length xc]] so rfl (O.all λ_ _=>RwC.len) (by intro r hr;rw[cZ.1 hr];rfl) rfl rfl rfl δ (by simp only[cS,dc];omega) λv' A' b7=>?_
   obtain⟨va,vc,c9⟩:=b7.sl;subst c9;refine jfo (jS ([nv,.slice va (rows ++ [[Value.slice xa ((s.AB[k]).AD.map (nmA l (Ac met))).length xc]]).length vc,SN]) (jad ?_));refine Al [(D,C 40 [nv,.slice va (rows ++ [[Value.slice xa ((s.AB[k]).AD.map (nmA l (Ac met))).length xc]]).length vc,SN]),(lb,C 30 [N]),(j,C 98 [Pt hb])] (G:=A' ++ ((Q,C 40 (cl z40)) :: ([] ++ F))) ?_;refine hK R8 (k + 1,_,A',rows ++ [[Value.slice xa ((s.AB[k]).AD.map (nmA l (Ac met))).length xc]]) (by dsimp only;omega) ⟨a3.trans b8,c,?_,b7⟩;rw[cI c,dE];exact (O.mono λ_ _=>RwC.le b8).app (Rw.one ⟨_,rfl,e3⟩)
  rintro e R6 ⟨rv,A2,a0⟩ ⟨a3,a8,d1⟩ he;dsimp only at a8 d1 ⊢;refine z_V ?_;obtain⟨ra,rc,g4⟩:=d1.sl;refine Al A2 (G:=(D,C 40 [nv,rv,SN]) :: (lb,C 30 [N]) :: (j,C 98 [Pt hb]) :: (Q,C 40 (cl z40)) :: ([] ++ F)) ?_;refine jfw d1 (a8.all λ_ _=>RwC.len) λR7 H d4=>?_
  have a8:=a8.mono λ_ _=>RwC.le H
  have H:=a3.trans H;have a4:=y.trans H;have h7:=h.le a4;have i4:=h.b.pl;obtain⟨pa,pc,rfl⟩:=h7.c.p.sl;refine jfo (jlr (v:=.slice pa s.AI.length pc) (a4 _ _ b1) rfl ?_);refine Hg (by kernel_rfl) ?_;refine jc (A:=[(lb,C 30 [N]),(j,C 98 [Pt hb])]) (Ix (hv.le a4) (hi.le a4) Z a6 a2 h7.c.p Z (λa ha=>d3 a (dM _ ha)) b6) ?_;rintro xv R8 A5 _ ⟨b8,A6,a1,hA⟩;subst b8 hA;refine Al [(D,C 40 [nv,rv,SN]),(Q,C 40 (cl z40)),(lb,C 30 [N]),(j,C 98 [Pt hb])] (G:=A6 ++ ([] ++ F)) ?_;refine Al A6 (G:=[(D,C 40 [nv,rv,SN]),(Q,C 40 (cl z40)),(lb,C 30 [N]),(j,C 98 [Pt hb])] ++ ([] ++ F)) ?_;refine Dw a1 λR9 b5 e4=>?_
  obtain⟨xa,xc,rfl⟩:=e4.sl;subst g2 g4;refine jfo (jS [.slice na W.length nc,.slice ra a0.length rc,.slice xa (s.AI.map (nmA l (Ac met))).length xc] ?_);refine jla (l:=[.slice na W.length nc,.slice ra a0.length rc,.slice xa (s.AI.map (nmA l (Ac met))).length xc]) (cN rfl) rfl ?_;refine jS [.slice na W.length nc,.slice ra a0.length rc,.slice xa (s.AI.map (nmA l (Ac met))).length xc] ?_;refine jla (l:=[.slice na W.length nc,.slice ra a0.length rc,.slice xa (s.AI.map (nmA l (Ac met))).length xc]) (cN rfl) rfl ?_;refine Ao (A:=[]) (b3.trans (a4.trans b5)) ⟨rfl,_,⟨W,a0,_,_,_,rfl,a7.mono λ_ _=>NdC.le (H.trans b5),hfz.le (H.trans b5),a8.mono λ_ _=>RwC.le b5,d4.le b5,e4⟩,rfl⟩
end st
end Go.Lf
end
section
namespace Sm
open Go.Lf
theorem HI {l:List AQ} {q:Int->Prop} (D:∀x y,now l x = some y->y = 0\/q y):∀{xs acc r:List Int},(∀a∈acc,q a)->Aq l xs acc = some r->∀a∈r,q a
 | [],acc,r,h0,h=>by cases h;exact h0
 | b :: xs,acc,r,h0,h=>by
  rw[Bn] at h;cases A:now l b with
  | none=>rw[A] at h;cases h
  | some y=>
   rw[A] at h;refine HI D (λa j=>?_) h;unfold Bu at j;split at j
   .exact h0 a j
   .rename_i c;rcases cm.1 j with j | j
    .exact h0 a j
    .rw[cZ.1 j];exact (D _ _ A).resolve_left λe=>c (.inl e)
theorem Nk {l:List AQ} {q:Int->Prop} (A:∀x y,now l x = some y->y = 0\/q y):∀{n i:Nat} {out r:List Int},(∀a∈out,q a)->BH l n i out = some r->∀a∈r,q a
 | 0,i,out,r,h0,h=>by cases h
 | n + 1,i,out,r,h0,h=>by
  by_cases c:i < out.length
  .cases D:B7 l out[i] with
   | none=>
    unfold BH at h;rw[cF c] at h;dsimp only at h;rw[D] at h;cases h
   | some t=>
    rw[C9 c D] at h;cases j:Aq l t.refs out with
    | none=>rw[j] at h;cases h
    | some o=>rw[j] at h;exact Nk A (HI A h0 j) h
  .rw[CJ Z] at h;cases h;exact h0
theorem HpF.nw {s:Ah} {l:List AQ} {D:List Int} (H:HpF s l D):∀a∈D,∀t,B7 l a = some t->t.moved = a:=by
 have G:=H.head;unfold C8 at G;simp only[z_b] at G;have Ef:=G.1.1.1.1.1.1.1;unfold CP at Ef;rw[ck] at Ef;have Q:∀x y,now l x = some y->y = 0\/∀t,B7 l y = some t->t.moved = y:=λx y h=>by
  unfold now at h;split at h
  .cases h;exact .inl rfl
  .obtain⟨t,R,rfl⟩:=eR.1 h;refine .inr λn j=>?_
   obtain⟨O,_⟩:=BE R;have:=Ef t O;unfold CL at this;rw[j] at this;simp only[d7,z_b,beq_iff_eq] at this;have K:=(BE j).2;rcases this with e | e
   .have N:=E0 H.S.nd O;rw[<- e,j] at N;cases N;rfl
   .rw[e.1.1.2,K]
 have A:=H.re;rw[DV G.2] at A;cases j:Aq l (Cs s) [] with
 | none=>rw[j] at A;cases A
 | some out=>
  rw[j,z_o] at A;exact Nk Q (HI Q (λa h=>by cases h) j) A
theorem HpF.tp {s:Ah} {l:List AQ} {x:List Int} (A:HpF s l x):∀t∈l,∃k:Nat,∃h:k < s.AA.length,AN t.at_ = k/\t.at_ + AG t.sh<=(s.AA[k]).top:=by
 intro t G;have j:=A.ths;unfold Eo at j;split at j;rotate_left
 .cases j
 unfold BI at j;obtain⟨H,K,N,k,D,O,y,Q⟩:=(FB j).2 t G;rw[eT] at D;refine⟨k + 1,Z,?_,?_⟩
 .unfold AN;rw[if_neg Z];omega
 .rw[List.getElem_tail] at y;exact y
end Sm
namespace Go.Lf
open Go Sm
end Go.Lf
end
