/- A part of the proof of the given row. Conditions: none. -/
import Derived.Test.YthifcapakfcfnaaGreatAL
set_option linter.unusedVariables false
set_option linter.unusedSimpArgs false
set_option maxRecDepth 100000
section
namespace Sm
open Go.Lf
theorem HV {w:List Int}:∀{n:Nat} {a top:Int} {l:List AV},Ag w n a top = some l→a≤top→(a = top∨∃y∈l,y.at_ = a)∧∀x∈l,x.at_ + AC x.sh = top∨∃y∈l,y.at_ = x.at_ + AC x.sh
 | 0,a,top,l,h,hle=>by
  unfold Ag at h;split at h
  ·cases h
  ·cases h;exact⟨.inl ω,λt ht=>by cases ht⟩
 | n + 1,a,top,l,h,hle=>by
  unfold Ag at h;split at h;rotate_left
  ·cases h;exact⟨.inl ω,λt ht=>by cases ht⟩
  dsimp only at h;split at h;rotate_left
  ·cases h
  rename_i h1 h2;simp only[z_b,z_d] at h2;have ha:(Am w a).1.at_ = a:=by
   have:=h2.1;unfold Am at this ⊢;split at this
   ·rename_i c1;rw[if_pos c1];dsimp only at this ⊢;split at this
    ·rename_i c2;rw[if_pos c2]
    ·cases this
   ·cases this
  cases ht:Ag w n (a + AC (Am w a).1.sh) top with
  | none=>rw[ht] at h;cases h
  | some l2=>
   rw[ht] at h;cases h;obtain⟨i1,i2⟩:=HV ht h2.2;refine⟨.inr ⟨_,Us,ha⟩,λx hx=>?_⟩;rcases Tv.1 hx with rfl | hx
   ·rw[ha];exact i1.imp id λ⟨y,h1,h2⟩=>⟨y,UN _ h1,h2⟩
   ·exact (i2 x hx).imp id λ⟨y,h1,h2⟩=>⟨y,UN _ h1,h2⟩
theorem J9 {w:List Int}:∀{t:List Rg} {r:Nat} {l:List AV},BI w r t = some l→(∀x∈l,(∃k:Nat,∃h:k < t.length,x.at_ / 16 = r + k∧x.at_ + AC x.sh = (t[k]).top)∨∃y∈l,y.at_ = x.at_ + AC x.sh)∧∀(k:Nat) (h:k < t.length),(t[k]).top = 16 * (r + k)∨∃y∈l,y.at_ = 16 * (r + k)
 | [],r,l,h=>by cases h;exact⟨λt ht=>(by cases ht),λk h=>absurd h σ⟩
 | x :: t,r,l,h=>by
  unfold BI at h;cases h1:BR w r x.top with
  | none=>rw[h1] at h;cases h
  | some a=>
   rw[h1] at h;dsimp only at h;cases h2:BI w (r + 1) t with
   | none=>rw[h2] at h;cases h
   | some b=>
    rw[h2] at h;cases h;obtain⟨j1,j2⟩:=J9 h2;have h3:=Q7 h1;unfold BR at h1;split at h1;rotate_left
    ·cases h1
    rename_i c;simp only[z_b,z_d] at c;obtain⟨⟨⟨⟨c1,c2⟩,c3⟩,c4⟩,c5⟩:=c;have:(r:Int) < 12:=by
     unfold BW at c1;simp only[z_b,z_d] at c1;omega
    have hb:=CT ω this;rw[hb] at h1 c4 c5;obtain⟨i1,i2⟩:=HV h1 c4;refine⟨λy hy=>?_,λk hk=>?_⟩
    ·rcases U7.1 hy with hy | hy
     ·rcases i2 y hy with e | ⟨z,z1,z2⟩
      ·have:=h3.2 y hy;exact .inl ⟨0,σ,ω,by simpa using e⟩
      ·exact .inr ⟨z,UH _ z1,z2⟩
     ·rcases j1 y hy with ⟨k,hk,e1,e2⟩ | ⟨z,z1,z2⟩
      ·exact .inl ⟨k + 1,by simp;omega,ω,by simpa using e2⟩
      ·exact .inr ⟨z,UQ _ z1,z2⟩
    ·cases k with
     | zero=>
      rcases i1 with e | ⟨z,z1,z2⟩
      ·exact .inl (by simp only[List.getElem_cons_zero];omega)
      ·exact .inr ⟨z,UH _ z1,ω⟩
     | succ k=>
      rcases j2 k (by simpa using hk) with e | ⟨z,z1,z2⟩
      ·exact .inl (by simp only[List.getElem_cons_succ];omega)
      ·exact .inr ⟨z,UQ _ z1,ω⟩
theorem LK {w:List Int} {x:AV} (h:Am w x.at_ = (x,true)):AC x.sh = sz w x.at_∧(AN (wv w (x.at_ + 1))).2 = true∧x = thg w x.at_:=by
 have h0:16≤x.at_:=by
  unfold Am at h;split at h
  ·rename_i c;exact (F2 c).1
  ·cases h
 have e:wv w (x.at_ + 1) = w.getD (x.at_.toNat + 1) 0:=by
  unfold wv gv;rw[show (x.at_ + 1).toNat = x.at_.toNat + 1 from ω]
 unfold Am at h;split at h;rotate_left
 ·cases h
 dsimp only at h;split at h;rotate_left
 ·cases h
 rename_i c1 c2;rw[z_b] at c2;have h1:=congrArg Prod.fst h;dsimp only at h1;have hs:x.sh = shp w x.at_:=by rw[← h1];unfold shp;rw[e]
 refine⟨by unfold sz;rw[hs],by rw[e];exact c2.1,?_⟩;rw[← h1];unfold thg shp;simp only[e];rfl
def bgs (l:List AV) (a:Int):Prop:=∃t∈l,t.at_ = a
theorem PE {s:Ah} {l:List AV} (h:OL s = some l):Geo s.A5 s.A0 (bgs l)∧Thn s.A5 (bgs l) l∧BP s = some l:=by
 unfold OL at h;split at h;rotate_left
 ·cases h
 rename_i hf;unfold Ms at hf;simp only[z_b,beq_iff_eq] at hf;obtain⟨⟨⟨f1,f2⟩,f3⟩,f4⟩:=hf;have T:=BL.1 f2;have hth:=h;unfold BP at h;obtain⟨a1,a2⟩:=HH h;obtain⟨c1,c2⟩:=J9 h;have n0:=T.n0;unfold BW at f1;simp only[z_b,z_d,beq_iff_eq] at f1;have hrv:∀(k:Nat) (hk:k < s.A0.tail.length),rv s.A0 (1 + (k:Int)) = s.A0.tail[k]:=λk hk=>by
  have:=G6 hk;rw[this];congr 1
 have hnd:=Rp a1 λx hx=>(a2 x hx).2.1
 refine⟨⟨ω,T,?_,?_,?_,?_⟩,⟨λx hx=>⟨⟨x,hx,rfl⟩,(LK (a2 x hx).2.2.1).2.2⟩,?_⟩,hth⟩
 ·rintro a ⟨x,hx,rfl⟩;obtain⟨g1,g2,g3,k,hk,g4,g5,g6⟩:=a2 x hx;obtain⟨e1,e2,_⟩:=LK g3;refine⟨ω,?_,e2⟩;rw[← e1,g4,show ((1:Nat):Int) + k = 1 + (k:Int) from rfl,hrv k hk];exact g5
 ·rintro a ⟨x,hx,rfl⟩;obtain⟨e1,_,_⟩:=LK (a2 x hx).2.2.1;rw[← e1];rcases c1 x hx with ⟨k,hk,g4,g5⟩ | ⟨y,y1,y2⟩
  ·left;rw[g4,show ((1:Nat):Int) + k = 1 + (k:Int) from rfl,hrv k hk];exact g5
  ·exact .inr ⟨y,y1,y2⟩
 ·intro r r0 r1;obtain⟨k,rfl⟩:∃k:Nat,r = 1 + (k:Int):=⟨(r - 1).toNat,ω⟩;have hk:k < s.A0.tail.length:=by rw[V7];omega
  rw[hrv k hk];rcases c2 k hk with e | ⟨y,y1,y2⟩
  ·exact .inl ω
  ·exact .inr ⟨y,y1,ω⟩
 ·rintro a b ⟨x,hx,rfl⟩ ⟨y,hy,rfl⟩ hlt;obtain⟨e1,_,_⟩:=LK (a2 x hx).2.2.1;rw[← e1];obtain⟨i,hi,rfl⟩:=UE hx;obtain⟨j,hj,rfl⟩:=UE hy;rw[List.pairwise_iff_getElem] at a1;by_cases c:i < j
  ·exact a1 i j hi hj c
  ·by_cases c' : i = j
   ·subst c';omega
   ·have:=a1 j i hj hi ω;have:=(a2 _ (U6 hj)).2.1;omega
 ·rintro a ⟨x,hx,rfl⟩;rw[← (LK (a2 x hx).2.2.1).2.2];exact hx
end Sm
end
section
namespace Go.Lf
open Go Sm
section
variable {R:RM} {D:Chs}
end
section st
variable {R:RM} {s:Sm.Ah} {wv tv mv thv ov pv:Value}
end st
end Go.Lf
end
section
namespace Sm
open Go.Lf
def nxt (AI tops:List Int) (n:Int):Nat→Nat→Nat
 | 0,r=>r
 | f + 1,r=>if r < tops.length∧(BE AI r = true∨AG r + 16 < tops.getD r 0 + n) then nxt AI tops n f (r + 1) else r
def JN (l:List AV) (a:Int):Int:=match CD l a with | some t=>AC t.sh | none=>2
def Q9 (AI:List Int) (l:List AV):List Int→List Int→Nat→Option (List Int × List Int)
 | [],tops,_=>some ([],tops)
 | a :: rest,tops,r=>if BE AI (AQ a) = true then (Q9 AI l rest tops r).map λq=>(a :: q.1,q.2) else
  if nxt AI tops (JN l a) (tops.length + 1) r = tops.length then none else
  (Q9 AI l rest (tops.set (nxt AI tops (JN l a) (tops.length + 1) r) (tops.getD (nxt AI tops (JN l a) (tops.length + 1) r) 0 + JN l a)) (nxt AI tops (JN l a) (tops.length + 1) r)).map λq=>(tops.getD (nxt AI tops (JN l a) (tops.length + 1) r) 0 :: q.1,q.2)
def Rel (tops:List Int) (t:List Rg):Prop:=tops.length = t.length∧∀q:Nat,1≤q→q < t.length→tops.getD q 0 = (rv t q).top
def TU (AI:List Int) (r:Int) (top:Int):Rg:=if AG r < top∨BE AI r = true then ⟨3,-1,top,top,0⟩ else DJ r
def S9:List Int→Int→List Int→List Int
 | w,_,[]=>w
 | w,a,v :: c=>S9 (AM w a v) (a + 1) c
def plc (l:List AV) (AH to:List Int) (v:Int):Int:=match now l v with
 | some u=>if u∈AH then to.getD (AH.idxOf u) 0 else 0
 | none=>0
def Lq (w:List Int) (bl:List (Int × List Int)):List Int:=bl.foldl (λw b=>S9 w b.1 b.2) w
def inB (b:Int × List Int) (x:Int):Prop:=b.1≤x∧x < b.1 + b.2.length
def RN (l:List AV) (AH to:List Int) (a d:Int):Int × List Int:=(d,match CD l a with
 | some t=>d :: Ab t.sh :: (t.refs.map (plc l AH to) ++ t.nums)
 | none=>[])
def Rr (x:AV):Int × List Int:=(x.at_,x.at_ :: Ab x.sh :: (List.replicate x.refs.length 0 ++ x.nums))
def Sq (s:Ah):List Int:=(List.range s.A0.length).map λ(r:Nat)=>if BE s.AI r = true then (rv s.A0 r).top else AG r
structure TO (s s' : Ah) (l:List AV) (AH to tops:List Int):Prop where
 ld:Q9 s.AI l AH (Sq s) 1 = some (to,tops)
 wd:s'.A5 = Lq (Lq (List.replicate s.A5.length 0) ((l.filter λx=>BE s.AI (AQ x.at_)).map Rr)) ((AH.zip to).map λp=>RN l AH to p.1 p.2)
 tl:Rel tops s'.A0
 tn:s'.A0.length = s.A0.length
 e0:rv s'.A0 0 = DY
 rw_:∀q:Int,1≤q→q < s.A0.length→rv s'.A0 q = TU s.AI q (rv s'.A0 q).top
 th:CY l AH to s.AB = some s'.AB
 eq:s' = ⟨s'.A5,s'.A0,List.replicate s.A5.length false,0,false,false,s.Ai,0,s'.AB,[],s.AI,s.B8,s.Be + 1⟩
 hlen:to.length = AH.length
 hd:((AH.zip to).map λp=>RN l AH to p.1 p.2).Pairwise (λb c=>∀x,¬ (inB b x∧inB c x))
 dd:((l.filter λx=>BE s.AI (AQ x.at_)).map Rr).Pairwise (λb c=>∀x,¬ (inB b x∧inB c x))
 rg:∀p∈AH.zip to,(BE s.AI (p.1 / 16) = true∧p.2 = p.1)∨(BE s.AI (p.1 / 16) = false∧BE s.AI (p.2 / 16) = false)
 rn:∀p∈AH.zip to,16≤p.2∧∀t,CD l p.1 = some t→p.2 + (2 + t.refs.length + t.nums.length:Nat)≤s.A5.length∧p.2 + (2 + t.refs.length + t.nums.length:Nat)≤16 * (p.2 / 16) + 16
 gs:∃f B',Iz f s'.A0 B'∧(∀b,(bgs l b∧BE s.AI (b / 16) = true)→B' b∧f b = shp s.A5 b)∧(∀b,B' b→(bgs l b∧BE s.AI (b / 16) = true)∨(b∈to∧BE s.AI (b / 16) = false))∧∀p∈AH.zip to,B' p.2∧f p.2 = shp s.A5 p.1∧(BE s.AI (p.1 / 16) = true→p.2 = p.1)
structure Od (met AH:List Int):Prop where
 nd:AH.Nodup
 m:∀a,a∈AH↔a∈met
end Sm
end
section
namespace Go.Lf
open Go Sm
def QFd (r:Option Sm.Ah) (v:Value) (R:RM):Prop:=match r with
 | none=>v = .tuple #[z34,.bool false]
 | some s'=>∃wv tv mv thv ov pv,StC R s' wv tv mv thv ov pv∧RgZ R tv s'.A0∧v = .tuple #[.agg (eSt s' wv tv mv thv ov pv).toArray,.bool true]
section st
variable {R:RM} {s:Sm.Ah} {wv tv mv thv ov pv:Value}
end st
end Go.Lf
end
section
namespace Sm
open Go.Lf
end Sm
namespace Go.Lf
open Go Sm
section st
variable {R:RM} {s:Sm.Ah} {wv tv mv thv ov pv:Value} {l:List AV} {met:List Int}
end st
end Go.Lf
end
section
namespace Go.Lf
open Go Sm
section rules
variable {R:RM} {D:Chs} {k:Value→M}
end rules
section st
variable {R:RM}
end st
section rules
variable {R:RM} {D:Chs}
end rules
def Jj:List Th→List (List Value)→Chs→Prop
 | [],rows,A=>rows = []∧A = []
 | t :: ts,rows,A=>∃rv rest A1 A2,rows = [rv,I t.next,.bool t.busy,I t.BB] :: rest∧SO t.AA rv A1∧Jj ts rest A2∧A = A1 ++ A2
theorem Jj.app:∀{ts:List Th} {rows:List (List Value)} {A:Chs},Jj ts rows A→∀{t:Th} {rv:Value} {A1:Chs},SO t.AA rv A1→Jj (ts ++ [t]) (rows ++ [[rv,I t.next,.bool t.busy,I t.BB]]) (A ++ A1)
 | [],rows,A,h,t,rv,A1,so=>by
  obtain⟨rfl,rfl⟩:=h;exact⟨rv,[],A1,[],rfl,so,⟨rfl,rfl⟩,σ⟩
 | u :: ts,rows,A,h,t,rv,A1,so=>by
  obtain⟨rv0,rest,B1,B2,rfl,h1,h2,rfl⟩:=h;exact⟨rv0,_,B1,B2 ++ A1,rfl,h1,h2.app so,by rw[Tu]⟩
theorem Jj.len:∀{ts:List Th} {rows:List (List Value)} {A:Chs},Jj ts rows A→rows.length = ts.length∧∀r∈rows,r.length = 4
 | [],rows,A,h=>by obtain⟨rfl,_⟩:=h;exact⟨rfl,λr hr=>by cases hr⟩
 | t :: ts,rows,A,h=>by
  obtain⟨rv0,rest,B1,B2,rfl,h1,h2,rfl⟩:=h;obtain⟨g1,g2⟩:=h2.len;exact⟨by simp[g1],λr hr=>by
   rcases Tv.1 hr with rfl | hr
   ·rfl
   ·exact g2 r hr⟩
section st
variable {R:RM} {s:Sm.Ah} {wv tv mv thv ov pv:Value}
end st
end Go.Lf
end
section
namespace Sm
open Go.Lf
end Sm
namespace Go.Lf
open Go Sm
section rules
variable {R:RM} {D:Chs} {k:Value→M}
end rules
section st
variable {R:RM} {s:Sm.Ah} {wv tv mv thv ov pv:Value} {l:List AV} {met:List Int}
end st
end Go.Lf
end
section
namespace Sm
open Go.Lf
end Sm
namespace Go.Lf
open Go Sm
section rules
variable {R:RM} {D:Chs} {k:Value→M}
theorem Jj.split:∀{ts:List Th} {rows:List (List Value)} {A:Chs} {i:Nat},Jj ts rows A→(h:i < ts.length)→∃rv A1 A2 A3,A = A1 ++ (A2 ++ A3)∧SO (ts[i]).AA rv A2∧rows[i]? = some [rv,I (ts[i]).next,.bool (ts[i]).busy,I (ts[i]).BB]∧∀(t' : Th) (A2' : Chs),SO t'.AA rv A2'→Jj (ts.set i t') (rows.set i [rv,I t'.next,.bool t'.busy,I t'.BB]) (A1 ++ (A2' ++ A3))
 | [],rows,A,i,h,hi=>absurd hi σ
 | t :: ts,rows,A,0,h,hi=>by
  obtain⟨rv,rest,A1,A2,rfl,so,h2,rfl⟩:=h;exact⟨rv,[],A1,A2,rfl,so,rfl,λt' A2' so'=>⟨rv,rest,A2',A2,rfl,so',h2,rfl⟩⟩
 | t :: ts,rows,A,i + 1,h,hi=>by
  obtain⟨rv,rest,B1,B2,rfl,so,h2,rfl⟩:=h;obtain⟨rv2,A1,A2,A3,rfl,so2,hr,hn⟩:=h2.split (by simpa using hi);exact⟨rv2,B1 ++ A1,A2,A3,σ,so2,hr,λt' A2' so'=>⟨rv,_,B1,_,rfl,so,hn t' A2' so',σ⟩⟩
end rules
end Go.Lf
end
section
namespace Go.Lf
open Go Sm
section st
variable {R:RM} {s:Sm.Ah} {wv tv mv thv ov pv:Value} {l:List AV} {met:List Int}
end st
end Go.Lf
end
section
namespace Sm
open Go.Lf

end Sm
end
section
namespace Go.Lf
open Go Sm

end Go.Lf
end
section
namespace Sm
open Go.Lf

end Sm
end
section
namespace Go.Lf
open Go Sm
section
variable {R:RM} {D:Chs} {s:Sm.Ah} {wv tv mv thv ov pv wv' tv' mv' thv' ov' pv' : Value}
end
section st
variable {R:RM} {s:Sm.Ah} {wv tv mv thv ov pv:Value}
end st
def st0:Sm.Ah:=⟨[],[],[],0,false,false,false,0,[],[],[],0,0⟩
theorem QFd.u {r:Option Sm.Ah} {v:Value} {R:RM} (h:QFd r v R):∃wa ta ma ha oa pa,StC R (r.getD st0) wa ta ma ha oa pa∧(r.isSome = true→RgZ R ta (r.getD st0).A0)∧v = .tuple #[.agg (eSt (r.getD st0) wa ta ma ha oa pa).toArray,.bool r.isSome]:=by
 cases r with
 | none=>
  obtain rfl:v = _:=h;exact⟨SN,SN,SN,SN,SN,SN,⟨.inl ⟨rfl,rfl,rfl⟩,.inl ⟨rfl,rfl,rfl⟩,.inl ⟨rfl,rfl,rfl⟩,⟨[],Rw.nil,.inl ⟨rfl,rfl,rfl⟩⟩,.inl ⟨rfl,rfl,rfl⟩,.inl ⟨rfl,rfl,rfl⟩⟩,(λh=>by cases h),rfl⟩
 | some s=>
  obtain⟨wv,tv,mv,thv,ov,pv,h,hz,rfl⟩:=h;exact⟨wv,tv,mv,thv,ov,pv,h,λ_=>hz,rfl⟩
section
variable {R:RM} {D:Chs} {w:List Int} {wv:Value} {t:AV} {a:Int} {k:Value→Value→M}
end
theorem NG {s s' : Sm.Ah} {l:List AV} {met AH to tops:List Int} (hf:HpF s l met) (O:Od met AH) (F1:TO s s' l AH to tops) (hw:∀x∈s.A5,Rn x) (hl:s.A5.length≤192):∀x∈s'.A5,Rn x:=by
 have hc:∀(bl:List (Int × List Int)) (w:List Int),(∀x∈w,Rn x)→(∀b∈bl,∀x∈b.2,Rn x)→∀x∈Lq w bl,Rn x:=by
  intro bl;induction bl with
  | nil=>intro w h _ x hx;exact h x hx
  | cons b bl ih=>
   intro w h hb;refine ih _ ?_ λb' hb'=>hb b' (UN _ hb')
   have hs:∀(c w:List Int) (a:Int),(∀x∈w,Rn x)→(∀x∈c,Rn x)→∀x∈S9 w a c,Rn x:=by
    intro c;induction c with
    | nil=>intro w a h _ x hx;exact h x hx
    | cons v c ih2=>
     intro w a h hv;refine ih2 _ _ (λx hx=>?_) λx hx=>hv x (UN _ hx)
     unfold AM at hx;rcases Uc hx with hx | rfl
     ·exact h x hx
     ·exact hv _ σ
   exact hs _ _ _ h (hb b σ)
 have seg_rn:∀(a n:Int) (x:Int),x∈seg s.A5 a n→Rn x:=λa n x hx=>hw x (Uu (UO hx))
 have nums:∀t∈l,∀x∈t.nums,Rn x:=λt ht x hx=>by
  obtain⟨G,T,-⟩:=PE hf.ths;have h1:=(T.all t ht).2;rw[h1] at hx;exact seg_rn _ _ x hx
 have z:Rn 0:=⟨δ,δ⟩;have small:∀x:Int,0≤x→x≤1000000→Rn x:=λx h0 h1=>⟨ω,ω⟩
 obtain⟨G,T,-⟩:=PE hf.ths;rw[F1.wd];refine hc _ _ (hc _ _ (λx hx=>by rw[(Ue.1 hx).2];exact z) λb hb x hx=>?_) λb hb x hx=>?_
 ·obtain⟨t,ht,rfl⟩:=UK.1 hb;have ht:=(V3.1 ht).1;have i:=G.inn (T.all t ht).1;unfold Rr at hx;simp only[Tv,U7,Ue] at hx;rcases hx with rfl | rfl | ⟨_,rfl⟩ | hx
  ·exact small _ ω ω
  ·exact Rn.shape
  ·exact z
  ·exact nums t ht x hx
 ·obtain⟨p,hp,rfl⟩:=UK.1 hb;obtain⟨h1,h2⟩:=F1.rn p hp;unfold RN at hx;cases ht:CD l p.1 with
  | none=>rw[ht] at hx;cases hx
  | some t=>
   rw[ht] at hx;have h3:=(h2 t ht).1;simp only[Tv,U7,UK] at hx;rcases hx with rfl | rfl | ⟨y,_,rfl⟩ | hx
   ·exact small _ ω ω
   ·exact Rn.shape
   ·unfold plc;split
    ·split
     ·rename_i u _ hu;have hi:AH.idxOf u < to.length:=by rw[F1.hlen];exact List.idxOf_lt_length_of_mem hu
      rw[Ty,Tl hi,Uj];have hiz:AH.idxOf u < (AH.zip to).length:=by rw[List.length_zip,F1.hlen] at *;omega
      have hz:=U6 hiz;rw[List.getElem_zip] at hz;obtain⟨g1,g2⟩:=F1.rn _ hz;obtain⟨t',ht',_⟩:=TP hf ((O.m _).1 (List.of_mem_zip hz).1);have:=(g2 t' ht').1;dsimp only at this g1;exact small _ ω ω
     ·exact z
    ·exact z
   ·exact nums t (Ez ht).1 x hx
end Go.Lf
end
section
namespace Sm
end Sm
namespace Go.Lf
open Go Sm
section
variable {R:RM} {D:Chs} {k:Value→M}
end
section
variable {R:RM} {v:Value} {g:PG}
end
end Go.Lf
end
section
namespace Sm
def RB (acc:List Int) (n:Int):List Int:=if 0≤n∧n ∉ acc then acc ++ [n] else acc
structure MOk (N:Nat) (acc:List Int):Prop where
 nd:acc.Nodup
 rg:∀x∈acc,0≤x∧x < N
theorem MOk.len {N:Nat} {acc:List Int} (h:MOk N acc):acc.length≤N:=by
 have:acc.length≤((List.range N).map λ(i:Nat)=>(i:Int)).length:=Dn h.nd λx hx=>by
  obtain⟨h1,h2⟩:=h.rg x hx;exact UK.2 ⟨x.toNat,UZ.2 ω,ω⟩
 simpa using this
theorem MOk.step {N:Nat} {acc:List Int} (h:MOk N acc) {n:Int} (hn:n < N):MOk N (RB acc n):=by
 unfold RB;split
 ·rename_i c;refine⟨?_,λx hx=>?_⟩
  ·rw[List.nodup_append];exact⟨h.nd,σ,λa ha b hb e=>c.2 (by rw[U2.1 hb] at e;rw[← e];exact ha)⟩
  ·rcases U7.1 hx with hx | hx
   ·exact h.rg x hx
   ·rw[U2.1 hx];exact⟨c.1,hn⟩
 ·exact h
theorem MOk.nil {N:Nat}:MOk N []:=⟨List.nodup_nil,λx hx=>by cases hx⟩
end Sm
namespace Go.Lf
open Go Sm
section
variable {R:RM}
def MtD (N sb ob mb:Nat) (acc:List Int) (ov:Value) (A:Chs):Chs:=(sb,C 31 [S0 mb N N]) :: (ob,C 26 [ov]) :: (mb,C Au ((mkB N acc).map Value.bool)) :: A
end
end Go.Lf
end
section
namespace Go.Lf
open Go Sm
instance MtD.sp (N sb ob mb:Nat) (acc:List Int) (ov:Value) (A F:Chs):Sp (MtD N sb ob mb acc ov (A ++ F)) (MtD N sb ob mb acc ov A) F:=⟨UV _⟩
section
variable {R:RM} {v:Value} {g:PG}
end
end Go.Lf
end
section
namespace Sm
end Sm
namespace Go.Lf
open Go Sm
section
variable {R:RM}
end
end Go.Lf
end
section
namespace Go.Lf
open Go Sm
section
variable {R:RM} {v:Value} {g:PG}
end
end Go.Lf
end
section
namespace Sm
end Sm
namespace Go.Lf
open Go Sm
section
variable {R:RM} {D:Chs}
end
end Go.Lf
end
section
namespace Sm
open Go.Lf
def s0 (r t:Nat):Ah:=⟨(C0 (List.replicate (r * 16) 0) 16 Bf).1,AM (AO r) 1 ⟨3,-1,24,24,0⟩,List.replicate (r * 16) false,0,false,false,false,0,List.replicate t ⟨[16],0,false,0⟩,[],[],0,0⟩
end Sm
namespace Go.Lf
open Go Sm
theorem Jr (cf:Cfg):Pu GD [.agg #[I cf.A6,I cf.AB,I cf.AF]] (.bool (Az cf)):=by
 intro R;refine JT λF=>?_
 refine z_1 ?_;refine ja λb=>?_
 rw[show cl (.agg #[I cf.A6,I cf.AB,I cf.AF]) = [I cf.A6,I cf.AB,I cf.AF] from rfl];refine jan [Pt b] ((decide (cf.A6≥3)) && (decide (cf.A6≤12))) (λK' hK'=>?_) (λe c u ho he=>?_)
 ·refine jfo (jl (v:=I cf.A6) rfl (jge (jgA hK' λh1 hN=>jfo (jl (v:=I cf.A6) rfl (jle hN)))))
 refine z_V ?_;refine jan [Pt b] ((decide (cf.A6≥3) && decide (cf.A6≤12)) && (decide (cf.AB≥1))) (λK' hK'=>?_) (λe c u ho he=>?_)
 ·rw[ho];refine jgA hK' λh1 hN=>jfo (jl (v:=I cf.AB) rfl (jge hN))
 refine z_V ?_;refine jan [Pt b] ((decide (cf.A6≥3) && decide (cf.A6≤12) && decide (cf.AB≥1)) && (decide (cf.AB≤3))) (λK' hK'=>?_) (λe c u ho he=>?_)
 ·rw[ho];refine jgA hK' λh1 hN=>jfo (jl (v:=I cf.AB) rfl (jle hN))
 refine z_V ?_;refine jan [Pt b] ((decide (cf.A6≥3) && decide (cf.A6≤12) && decide (cf.AB≥1) && decide (cf.AB≤3)) && (decide (cf.AF≥0))) (λK' hK'=>?_) (λe c u ho he=>?_)
 ·rw[ho];refine jgA hK' λh1 hN=>jfo (jl (v:=I cf.AF) rfl (jge hN))
 refine z_V ?_;refine jan [] ((decide (cf.A6≥3) && decide (cf.A6≤12) && decide (cf.AB≥1) && decide (cf.AB≤3) && decide (cf.AF≥0)) && (decide (cf.AF≤100))) (λK' hK'=>?_) (λe c u ho he=>?_)
 ·rw[ho];refine jgA hK' λh1 hN=>jfo (jl (v:=I cf.AF) rfl (jle hN))
 refine z_V ?_;rw[ho];exact BC (A:=[]) (RM.le.refl R) rfl
end Go.Lf
end
section
namespace Sm
end Sm
namespace Go.Lf
open Go Sm
section
variable {R:RM}
end
end Go.Lf
end
section
namespace Sm
end Sm
namespace Go.Lf
open Go Sm
section
variable {R:RM} {s:Sm.Ah} {wv tv mv thv ov pv:Value}
end
end Go.Lf
end
section
namespace Go.Lf
open Go Sm
def EF:Nat→List (List Sm.Op)→Int
 | _,[]=>-1
 | i,x :: r=>if (x.length:Int) > 40 then i else EF (i + 1) r
theorem LC {i:Nat} {x:List Sm.Op} {r:List (List Sm.Op)}:EF i (x :: r) = if (x.length:Int) > 40 then (i:Int) else EF (i + 1) r:=rfl
theorem Ib:∀(l:List (List Sm.Op)) (i:Nat),decide (EF i l≥0) = l.any λx=>decide ((x.length:Int) > 40)
 | [],i=>by simp[EF]
 | x :: l,i=>by
  unfold EF;by_cases h:(x.length:Int) > 40
  ·simp[h]
  ·rw[if_neg h,List.any_cons,decide_eq_false h,Uh];exact Ib l (i + 1)
section
variable {R:RM} {D:Chs}
theorem SC {v:Value} {l:List Sm.Op} (h:Ops R v l):Ro Cx [v] (.bool (decide ((l.length:Int) > 40))) R D:=by
 refine Il λF=>?_
 refine z_1 ?_;exact Ep h (jgr (Bi rfl))
theorem jpv {v:Value} {l:List (List Sm.Op)} {i:Nat} {m:Value→M} (h:Cy R v l) (hi:i < l.length) (H:∀x,Ops R x (l[i])→J R D (m x)):J R D (IA 1 v (I (i:Int)) λx=>L1 x m):=by
 obtain⟨vs,hf,hv,ho⟩:=h;obtain⟨x,hx,hox⟩:=ho i hi;rcases hf with ⟨_,h2,_⟩ | ⟨b,o,cap,t,cs,rfl,h2,h3,h4,h5⟩
 ·omega
 refine Bk hi (jlr h2 (v:=x) ?_ (H x hox));have:=congrArg (λl=>l[i]?) h4;simp only[Ub,UX] at this;rw[if_pos ω] at this;rw[UY,this,hx]
theorem QT {pv:Value} {l:List (List Sm.Op)} (h:Cy R pv l) (hl:l.length < 1000000):Ro D0 [pv,.func (.func Cx) #[] #[]] (.bool (l.any λx=>decide ((x.length:Int) > 40))) R D:=by
 refine Do λF=>?_
 refine z_2 ?_;have hi:Ro DN [pv,.func (.func Cx) #[] #[]] (I (EF 0 l)) R (D ++ F):=by
  refine EY λF=>?_
  refine z_2 ?_;obtain⟨vs,hf,-,-⟩:=id h;refine Cq hf.sl ?_;refine Td [pv,.func (.func Cx) #[] #[],I l.length] l.length (λi=>EF 0 l = EF i (l.drop i)) rfl λi K e hi hp hK he=>?_
  refine z_V ?_;refine jlt (jif (λc=>?_) (λc=>?_));rotate_left
  ·have c:=z_g c;rw[Tx ω] at hp;exact Bi (by rw[hp];rfl)
  have c:i < l.length:=by have:=z_f c;omega
  rw[Ts c] at hp;rw[LC] at hp;refine jpv h c λx hx=>(Tf (by kernel_rfl) (jro (SC hx) (jif (λh1=>?_) (λh1=>?_))))
  ·have h1:=z_f h1;rw[if_pos h1] at hp;exact Bi (by rw[hp])
  ·have h1:=z_g h1;rw[if_neg h1] at hp;exact jad (hK c hp)
 refine jro hi (jge (Bi ?_));rw[Ib]
theorem LR {c:Cfg} {pv:Value} {AE:List (List Sm.Op)} (hp:Cy R pv AE) (hl:AE.length < 1000000):Ro H0 [.agg #[I c.A6,I c.AB,I c.AF],pv] (.bool (BH c AE [])) R D:=by
 refine Km λF=>?_
 refine z_2 ?_;obtain⟨vs,hf,-,-⟩:=id hp;refine ja λb=>?_
 refine jan [pv] (Az c && decide ((AE.length:Int) = c.AB)) (λK' hK'=>?_) (λe c' u ho he=>?_)
 ·refine jla (l:=[I c.A6,I c.AB,I c.AF]) (UD rfl) rfl (jp (Jr c) (jgA hK' λh1 hk=>(Cq hf.sl (jl (v:=I c.AB) rfl (jeq ?_)))));rw[show ((AE.length:Int) == c.AB) = decide ((AE.length:Int) = c.AB) from rfl];exact hk
 refine z_V ?_;refine jan [] (BH c AE []) (λK' hK'=>?_) (λe c' u ho2 he=>?_)
 ·rw[ho];have e0:BH c AE [] = ((Az c && decide ((AE.length:Int) = c.AB)) && !(AE.any λx=>decide ((x.length:Int) > 40))):=by
   unfold BH;rw[show decide (([]:List Int).length≤4000) = true from rfl,Bool.and_true];congr 1;rw[List.not_any_eq_all_not];congr 1;funext x;rw[Ul];simp;omega
  exact jgA (λc' u w h1 h2=>hK' c' u w h1 (h2.trans e0.symm)) λh1 hk=>(jro (QT hp hl) hk)
 refine z_V ?_;rw[ho2];exact CN (Bi rfl)
end
section
variable {R:RM} {D:Chs} {k:Value→M}
theorem jrb {b i n c t:Nat} {l:List Bool} {sp:List Value} (hi:i < l.length) (hn:n = l.length) [a:At D b (C t (l.map Value.bool ++ sp))] (H:J R D (k (.bool (l.getD i false)))):J R D (IA 1 (S0 b n c) (I (i:Int)) λx=>L1 x k):=by
 refine Bk ω (jl ?_ H);rw[Tw,UY,Um (by rw[Tr];exact hi),Uv,Tl hi,Sm.C7 hi];rfl
theorem jwb {b i n c t:Nat} {x:Bool} {l:List Bool} {sp:List Value} {D' : Chs} {m:M} (hi:i < l.length) (hn:n = l.length) [a:At D b (C t (l.map Value.bool ++ sp))] [u:Up D b (C t (l.map Value.bool ++ sp)) (C t ((l.set i x).map Value.bool ++ sp)) D'] (H:J R D' m):J R D (IA 1 (S0 b n c) (I (i:Int)) λp=>ST 1 p (.bool x) m):=by
 refine Bk ω ?_;rw[Tw,UY];refine js (cs':=(l.set i x).map Value.bool ++ sp) rfl rfl (by simp;omega) ?_ H;rw[show cl (Value.bool x) = [Value.bool x] from rfl,EK (by simp;omega),List.set_append_left _ _ (by simpa using hi),VD]
end
theorem Md {b:List Int} {k:Nat} {x:Int}:Ci (b.set k x) = (Ci b).set k (if x < 0 then -1 else x - 1):=by
 unfold Ci;rw[VD]
theorem H4 {b:List Int} {k:Nat} {x:Int}:CL (b.set k x) = (CL b).set k (decide (x < 0)):=by
 unfold CL;rw[VD]
theorem Pc {l:List Bool} {k:Nat} (h:k < l.length):l.set k (l.getD k false) = l:=by
 rw[Sm.C7 h,List.set_getElem_self]
theorem FQ {R:RM} {r N:Nat} {rs:Int} {pv cv:Value} {AE:List (List Sm.Op)} {l:List Cl} (hp:Cy R pv AE) (hc:Cls R cv l) (hok:BH ⟨r,N,rs⟩ AE [] = true) (hr:Jz l) (hl:l.length≤1000000) :
  Fn P Hc [.agg #[I r,I N,I rs],pv,cv] R [] (λv R' A=>R' = R∧A = []∧v = .bool (EI N AE l)):=by
 refine ME λF=>?_
 refine z_3 ?_;have hN:N≤3∧AE.length = N:=by
  have h:=hok;unfold BH Az at h;simp only[z_b,z_d] at h;omega
 have hp40:∀j,(AE.getD j []).length≤40:=by
  intro j;have h:=hok;unfold BH at h;simp only[z_b,UB,z_d] at h;rw[Ty];cases hq:AE[j]? with
  | none=>exact VG _
  | some y=>exact h.2 y (List.mem_of_getElem? hq)
 refine ja λb1=>(jla (l:=[I r,I N,I rs]) (UD rfl) rfl (jro (LR (c:=⟨r,N,rs⟩) hp ω) ?_))
 rw[hok];refine DM (jl (v:=I N) rfl (jms ω ω ω λnb=>(jl (v:=I N) rfl (jms ω ω ω λlb=>?_))));rw[Tj,show (List.replicate N (cl z3)).flatten = (List.replicate N (0:Int)).map I ++ [] from by rw[show cl z3 = [I 0] from rfl];simp[US]];refine AY (λvs R' D'=>R = R'∧D' = (lb,C AZ ((Ci (List.replicate N 0)).map I ++ [])) :: (nb,C AZ ((List.replicate N 0).map I ++ [])) :: (b1,C 24 [I r,I N,I rs]) :: F∧vs = [pv,cv,Pt b1,S0 nb N N,S0 lb N N]) (λK hK=>?_) ?_
 ·refine jln (jcI hK λK2 hK2=>(jli (λj=>N - j) (λj:Nat=>[pv,cv,Pt b1,S0 nb N N,S0 lb N N,I N,I j]) (λj=>(lb,C AZ ((List.replicate j (-1) ++ List.replicate (N - j) 0).map I ++ [])) :: (nb,C AZ ((List.replicate N 0).map I ++ [])) :: (b1,C 24 [I r,I N,I rs]) :: F) (λR' j=>R = R'∧j≤N) 0 ⟨rfl,ω⟩ rfl rfl ?_));rintro K3 e _ j ⟨rfl,hj⟩ he hK3;refine z_V ?_;refine jlt (jif (λhc=>?_) (λhc=>?_))
  ·have hc:=z_f hc;refine Bk ω (jsi (k:=j) (by simp;omega) (jad ?_));rw[N5 N j ω];exact hK3 _ (j + 1) ω ⟨rfl,ω⟩
  ·have hc:=z_g hc;have:j = N:=ω
   subst this;refine hK2 _ _ _ ⟨rfl,?_,rfl⟩;simp[Ci]
 rintro e _ _ ⟨rfl,rfl,he⟩;refine z_V ?_;refine jl (v:=I N) rfl (jms ω ω ω λeb=>?_);rw[Tj,show (List.replicate N (cl z4)).flatten = (CL (List.replicate N (0:Int))).map Value.bool ++ [] from by rw[show cl z4 = [.bool false] from rfl];simp[US,CL]];refine Ep hc ?_;refine jli (λx:Nat × List Int × List Int=>l.length - x.1) (λx=>[pv,cv,Pt b1,S0 nb N N,S0 lb N N,S0 eb N N,cv,I l.length,I x.1])
  (λx=>(eb,C Au ((CL x.2.2).map Value.bool ++ [])) :: (lb,C AZ ((Ci x.2.2).map I ++ [])) :: (nb,C AZ (x.2.1.map I ++ [])) :: (b1,C 24 [I r,I N,I rs]) :: F)
  (λR' x=>R = R'∧x.1≤l.length∧x.2.1.length = N∧x.2.2.length = N∧DH N AE (l.drop x.1) x.2.1 x.2.2 (if h:0 < x.1∧x.1≤l.length then some (l[x.1 - 1]'(ω)).from_ else none) = EI N AE l)
  (0,List.replicate N 0,List.replicate N 0) ⟨rfl,VG _,σ,σ,by rw[dif_neg σ];rfl⟩ rfl rfl ?_
 rintro K e _ ⟨i,next,busy⟩ ⟨rfl,hi,hn,hb,hh⟩ he hK;dsimp only at hi hn hb hh he ⊢;refine z_V ?_;refine jlt (jif (λh=>?_) (λh=>?_));rotate_left
 ·have h:=z_g h;rw[Tx ω] at hh;exact BC (RM.le.refl R) ⟨rfl,rfl,by rw[← hh];rfl⟩
 have h:i < l.length:=by have:=z_f h;omega
 rw[Ts h] at hh;unfold DH at hh;rw[Ls hb] at hh;generalize hpf:(if h:0 < i∧i≤l.length then some (l[i - 1]'(ω)).from_ else none:Option Int) = pf at hh;have hx:=hr _ (U6 h);generalize hxe:l[i] = x at hh hx;obtain⟨th,nx,fr,tto,an,co⟩:=x;dsimp only at hh hx;have hla:(Ci busy).length = N:=by unfold Ci;rw[Tr,hb]
 have hen:(CL busy).length = N:=by unfold CL;rw[Tr,hb]
 refine jcl hc h λb o t cs hcb hco hcs=>(KL hcb hco (by rw[hcs,hxe]) (ja λxb=>jS [I th,I nx,I fr,I tto,I an,I co] (jl (v:=I th) rfl ?_)))
 refine jor [pv,cv,Pt b1,S0 nb N N,S0 lb N N,S0 eb N N,I i,Pt xb,I th,cv,I l.length,I i] (decide (th < 0) || decide (th≥N)) (λK' hK'=>(jlt (jgO hK' λh1 hk=>(jl (v:=I N) rfl (jge hk))))) (λe c u ho he=>?_);refine z_V ?_;obtain⟨B1,hB1⟩:∃B1,B1 = (decide (th < 0) || decide (th≥N)):=⟨_,rfl⟩;rw[← hB1] at ho;have kk:B1 = false→∃k:Nat,th = k∧k < N:=by
  intro h1;rw[h1] at hB1;have:=hB1.symm;simp only[Tp,decide_eq_false_iff_not] at this;exact⟨th.toNat,ω,ω⟩
 refine jor [pv,cv,Pt b1,S0 nb N N,S0 lb N N,S0 eb N N,I i,Pt xb,I th,cv,I l.length,I i] (B1 || decide (fr < 0)) (λK' hK'=>?_) (λe c u ho2 he=>?_)
 ·rw[ho];exact jgO hK' λh1 hk=>(jl (v:=I fr) rfl (jlt hk))
 refine z_V ?_;obtain⟨B2,hB2⟩:∃B2,B2 = (B1 || decide (fr < 0)):=⟨_,rfl⟩;rw[← hB2] at ho2;have k2:B2 = false→B1 = false:=λh=>by rw[hB2,Tp] at h;exact h.1
 refine jor [pv,cv,Pt b1,S0 nb N N,S0 lb N N,S0 eb N N,Pt xb,I th,cv,I l.length,I i] (B2 || hP pf ⟨th,nx,fr,tto,an,co⟩) (λK' hK'=>?_) (λe c u ho3 he=>?_)
 ·rw[ho2];refine jgO hK' λh1 hk=>(jgr ?_)
  by_cases hi0:i = 0
  ·rw[show decide ((i:Int) > 0) = false from decide_eq_false ω];have:pf = none:=by rw[← hpf,dif_neg ω]
   rw[this] at hk;exact hk
  ·rw[show decide ((i:Int) > 0) = true from decide_eq_true ω];have:pf = some (l[i - 1]'(ω)).from_:=by rw[← hpf,dif_pos ⟨ω,ω⟩]
   rw[this] at hk;refine jgt (λ_=>?_) (λh=>by cases h);refine Iw (x:=i) (y:=1) ⟨ω,ω⟩ ?_;rw[show (i:Int) - 1 = ((i - 1:Nat):Int) from ω];exact jcl hc (i:=i - 1) ω λb o t cs hcb hco hcs=>(jlr hcb (Bo hcs rfl) (jl (v:=I fr) rfl (jge hk)))
 refine z_V ?_;obtain⟨B3,hB3⟩:∃B3,B3 = (B2 || hP pf ⟨th,nx,fr,tto,an,co⟩):=⟨_,rfl⟩;rw[← hB3] at ho3;have k3:B3 = false→B2 = false:=λh=>by rw[hB3,Tp] at h;exact h.1
 refine jor [pv,cv,Pt b1,S0 nb N N,S0 lb N N,S0 eb N N,Pt xb,I th,cv,I l.length,I i] (B3 || (nx != next.getD th.toNat 0)) (λK' hK'=>?_) (λe c u ho4 he=>?_)
 ·rw[ho3];refine jgO hK' λh1 hk=>?_
  obtain⟨k,rfl,hkN⟩:=kk (k2 (k3 h1));exact jl (v:=I nx) rfl (jri ω ω (jne hk))
 refine z_V ?_;obtain⟨B4,hB4⟩:∃B4,B4 = (B3 || (nx != next.getD th.toNat 0)):=⟨_,rfl⟩;rw[← hB4] at ho4;have k4:B4 = false→B3 = false:=λh=>by rw[hB4,Tp] at h;exact h.1
 refine jor [pv,cv,Pt b1,S0 nb N N,S0 lb N N,S0 eb N N,Pt xb,I th,cv,I l.length,I i] (B4 || decide (nx≥((AE.getD th.toNat []).length:Int))) (λK' hK'=>?_) (λe c u ho5 he=>?_)
 ·rw[ho4];refine jgO hK' λh1 hk=>?_
  obtain⟨k,rfl,hkN⟩:=kk (k2 (k3 (k4 h1)));rw[Tj,Sm.C7 (l:=AE) (k:=k) ω] at hk;exact jl (v:=I nx) rfl (jpl hp ω (jge hk))
 refine z_V ?_;obtain⟨B5,hB5⟩:∃B5,B5 = (B4 || decide (nx≥((AE.getD th.toNat []).length:Int))):=⟨_,rfl⟩;rw[← hB5] at ho5;have k5:B5 = false→B4 = false:=λh=>by rw[hB5,Tp] at h;exact h.1
 refine jor [pv,cv,Pt b1,S0 nb N N,S0 lb N N,S0 eb N N,Pt xb,I th,cv,I l.length,I i] (B5 || (CL busy).getD th.toNat false) (λK' hK'=>?_) (λe c u ho6 he=>?_)
 ·rw[ho5];refine jgO hK' λh1 hk=>?_
  obtain⟨k,rfl,hkN⟩:=kk (k2 (k3 (k4 (k5 h1))));exact jrb ω ω hk
 refine z_V ?_;obtain⟨B6,hB6⟩:∃B6,B6 = (B5 || (CL busy).getD th.toNat false):=⟨_,rfl⟩;rw[← hB6] at ho6;have k6:B6 = false→B5 = false∧(CL busy).getD th.toNat false = false:=λh=>by rw[hB6,Tp] at h;exact h
 refine jor [pv,cv,Pt b1,S0 nb N N,S0 lb N N,S0 eb N N,Pt xb,I th,cv,I l.length,I i] (B6 || decide (fr≤(Ci busy).getD th.toNat 0)) (λK' hK'=>?_) (λe c u ho7 he=>?_)
 ·rw[ho6];refine jgO hK' λh1 hk=>?_
  obtain⟨k,rfl,hkN⟩:=kk (k2 (k3 (k4 (k5 (k6 h1).1))));exact jl (v:=I fr) rfl (jri ω ω (jle hk))
 refine z_V ?_;rw[ho7];have eA:gA N AE next (Ci busy) (CL busy) pf ⟨th,nx,fr,tto,an,co⟩ = (B6 || decide (fr≤(Ci busy).getD th.toNat 0)):=by rw[hB6,hB5,hB4,hB3,hB2,hB1];rfl
 rw[eA] at hh;refine jif (λh1=>?_) (λh1=>?_)
 ·rw[h1] at hh;exact BC (RM.le.refl R) ⟨rfl,rfl,by rw[← hh];rfl⟩
 rw[h1,Uh] at hh;rw[Tp] at h1;have c6:=k6 h1.1;have c4:=k5 c6.1;have hnx:nx≤1000000:=by
  have c5:=c6.1;rw[hB5,Tp] at c5;have:=z_g c5.2;have:=hp40 th.toNat;omega
 have e4:next.getD th.toNat 0 = nx:=by
  rw[hB4,Tp] at c4;have:=c4.2;simp only[bne_eq_false_iff_eq] at this;exact this.symm
 have e2:¬ fr < 0:=by
  have c2:=k3 (k4 c4);rw[hB2,Tp] at c2;exact z_g c2.2
 obtain⟨k,rfl,hkN⟩:=kk (k2 (k3 (k4 c4)));have e6:=c6.2;rw[Tj] at e4 e6;clear eA ho ho2 ho3 ho4 ho5 ho6 ho7 k2 k3 k4 k5 k6 kk hB1 hB2 hB3 hB4 hB5 hB6 h1 c6 c4;obtain⟨bz,hbz⟩:∃bz,bz = busy.set k (if tto≥0 then tto + 1 else tto):=⟨_,rfl⟩;have elast:tto≥-1→(Ci busy).set k tto = Ci bz:=by
  intro h1;rw[hbz,Md];congr 1;split<;>split<;>omega
 refine AY (λvs R' D'=>(R = R'∧tto≥-1∧DH N AE (l.drop (i + 1)) (next.set k (nx + 1)) bz (some fr) = EI N AE l)∧D' = (xb,C DX [I k,I nx,I fr,I tto,I an,I co]) :: (eb,C Au ((CL bz).map Value.bool ++ [])) :: (lb,C AZ ((Ci busy).map I ++ [])) :: (nb,C AZ (next.map I ++ [])) :: (b1,C 24 [I r,I N,I rs]) :: F∧vs = [pv,cv,Pt b1,S0 nb N N,S0 lb N N,S0 eb N N,Pt xb,I k,cv,I l.length,I i]) (λK7 hK7=>?_) ?_;rotate_left
 ·rintro e _ _ ⟨⟨rfl,ht,hh2⟩,rfl,he⟩;refine z_V ?_;refine jri ω ω ?_;rw[e4];refine jad (jwi ω ω (jl (v:=I tto) rfl (jwi ω ω (jad (CN ?_)))));rw[elast ht];refine hK _ (i + 1,next.set k (nx + 1),bz) (by dsimp only;omega) ⟨rfl,by dsimp only;omega,by rw[U3];exact hn,by rw[hbz,U3];exact hb,?_⟩;dsimp only;rw[dif_pos ⟨ω,ω⟩,← hh2];simp only[Uz,hxe]
 rw[Tj,← hbz] at hh;refine jl (v:=I tto) rfl (jeq (jif (λh1=>?_) (λh1=>?_)))
 ·have h1:=eq_of_beq h1;have eg:gB ⟨k,nx,fr,tto,an,co⟩ = (an != 0 || co != 0):=by unfold gB;rw[if_pos h1]
  rw[eg] at hh;refine jor [pv,cv,Pt b1,S0 nb N N,S0 lb N N,S0 eb N N,Pt xb,I k,cv,I l.length,I i] (an != 0 || co != 0) (λK' hK'=>(jl (v:=I an) rfl (jne (jgO hK' λh1 hk=>(jl (v:=I co) rfl (jne hk)))))) (λe c u ho he=>?_);refine z_V ?_;rw[ho];refine jif (λh2=>?_) (λh2=>?_)
  ·rw[h2] at hh;exact BC (RM.le.refl R) ⟨rfl,rfl,by rw[← hh];rfl⟩
  rw[h2,VF,UT] at hh;refine jwb ω ω (hK7 _ _ _ ⟨⟨rfl,ω,hh⟩,?_,rfl⟩);rw[hbz,H4,if_neg ω,show decide (tto < 0) = true from decide_eq_true ω]
 ·have h1:=ne_of_beq_false h1;have eg:gB ⟨k,nx,fr,tto,an,co⟩ = decide (tto < fr):=by unfold gB;rw[if_neg h1]
  rw[eg] at hh;refine jl (v:=I tto) rfl (jl (v:=I fr) rfl (jlt (jif (λh2=>?_) (λh2=>?_))))
  ·rw[h2] at hh;exact BC (RM.le.refl R) ⟨rfl,rfl,by rw[← hh];rfl⟩
  rw[h2,VF,UT] at hh;have h2:=z_g h2;refine hK7 _ _ _ ⟨⟨rfl,ω,hh⟩,?_,rfl⟩;rw[hbz,H4,if_pos ω,show decide (tto + 1 < 0) = false from decide_eq_false ω,← e6,Pc ω]
def Kh (f b w:Int):List Sm.Op:=[⟨1,0,0,0,0,0,⟨1,1⟩⟩,⟨3,0,b,0,f,0,⟨0,0⟩⟩,⟨2,0,0,0,f,0,⟨0,0⟩⟩,⟨4,0,0,0,f,w,⟨0,0⟩⟩,⟨5,0,0,0,f,0,⟨0,0⟩⟩,⟨7,0,1,0,f,0,⟨0,0⟩⟩,⟨6,0,1,0,0,0,⟨0,0⟩⟩,⟨10,0,0,0,0,0,⟨0,0⟩⟩]
theorem RQ {f b w:Int} (hw:Rn w):Vs (Kh f b w):=by
 have h0:Rn 0:=by unfold Rn;omega
 intro o ho;unfold Kh at ho;simp only[Tv,List.not_mem_nil,or_false] at ho;rcases ho with rfl | rfl | rfl | rfl | rfl | rfl | rfl | rfl<;>first | exact h0 | exact hw
section draws
variable {R:RM} {rb:Nat} {v:Value} {m:Int}
set_option maxHeartbeats 1000000 in
theorem MU (hb:Byt R v) (hm:0≤m∧m < 150000000):Dr Fu [Pt rb] R rb v m 1000000 SH:=by
 refine Jm λF=>?_
 refine z_1 ?_;refine ja λb1=>jpk hb ⟨ω,ω⟩ λy1 _ _=>jad (jpk hb ⟨ω,ω⟩ λy2 _ _=>jad ?_)
 obtain⟨c,hcf⟩:∃c:Cfg,c = ⟨4 + y1,1 + y2,32⟩:=⟨_,rfl⟩;have hc:Az c = true:=by
  rw[hcf];simp only[Az,z_b,z_d];omega
 refine jbd (cs:=eCf c) rfl (by rw[hcf];rfl) (ja λb=>js rfl rfl (by exact z_n 3) rfl ?_);obtain⟨n,hn⟩:∃n:Nat,c.AB = n:=⟨c.AB.toNat,by rw[hcf];show 1 + y2 = ((1 + y2).toNat:Int);omega⟩;have hcc:=hc;simp only[Az,z_b,z_d] at hcc;refine jk3 (F:=F) rb b b1 (AY (λvs R' D'=>R.le R'∧∃(l:List (List Sm.Op)) (rows:List (List Value)) (ov:Value) (A:Chs) (m' : Int),l.length = n∧(∀p∈l,p.length≤40∧Vs p)∧PrW R' rows l∧SW 55 1 rows ov A∧m≤m'∧m'≤m + 10000∧D' = A ++ (rb,rdO v m') :: (b,C 24 (eCf c)) :: (b1,C 24 (cl z24)) :: F∧vs = [Pt rb,Pt b1,Pt b,ov]) (λK hK=>?_) ?_)
 ·refine jcI hK λK2 hK2=>?_
  refine jlp (λmm vs R' D'=>R.le R'∧∃(i:Nat) (l:List (List Sm.Op)) (rows:List (List Value)) (ov:Value) (A:Chs) (m' : Int),i≤n∧l.length = i∧(∀p∈l,p.length≤40∧Vs p)∧PrW R' rows l∧SW 55 1 rows ov A∧m≤m'∧m'≤m + 10 + 1100 * i∧D' = A ++ (rb,rdO v m') :: (b,C 24 (eCf c)) :: (b1,C 24 (cl z24)) :: F∧vs = [Pt rb,Pt b1,Pt b,ov,I i]∧mm = n - i)
   (n:=n) ⟨RM.le.refl R,0,[],[],SN,[],m + 1 + 1,ω,rfl,(λp hp=>by cases hp),Rw.nil,.inl ⟨rfl,rfl,rfl⟩,ω,ω,rfl,rfl,ω⟩ ?_
  rintro mm e R1 D1 K3 ⟨hR,i,l,rows,ov,A,m',hi,hl,hp,hrw,so,h1,h2,hD,he,hmm⟩ hK3;refine z_W ?_;refine jl rfl (jlt (jif (λh=>?_) (λh=>?_)));rotate_left
  ·have h:=z_g h;exact hK2 _ _ _ ⟨hR,l,rows,ov,A,m',ω,hp,hrw,so,h1,ω,rfl,rfl⟩
  have h:=z_f h;have hb1:=hb.le hR;refine jpk hb1 ⟨ω,ω⟩ λz _ _=>jad ?_
  obtain⟨k,hk⟩:∃k:Nat,1 + z = k:=⟨(1 + z).toNat,ω⟩;rw[hk];refine AY (λvs R' D'=>R1 = R'∧∃(q:List Sm.Op) (qv:Value) (A2:Chs) (m2:Int),(q.length≤40∧Vs q)∧SW 54 8 (q.map eOp) qv A2∧m'≤m2∧m2≤m' + 100∧D' = A2 ++ ((rb,rdO v m2) :: (A ++ (b,C 24 (eCf c)) :: (b1,C 24 (cl z24)) :: F))∧vs = [Pt rb,Pt b1,Pt b,ov,I i,qv]) (λK4 hK4=>?_) ?_
  ·refine jcI hK4 λK5 hK5=>(jli (λx:Nat × List Sm.Op × Value × Chs × Int=>k - x.1) (λx=>[Pt rb,Pt b1,Pt b,ov,I i,x.2.2.1,I k,I x.1]) (λx=>x.2.2.2.1 ++ ((rb,rdO v x.2.2.2.2) :: (A ++ (b,C 24 (eCf c)) :: (b1,C 24 (cl z24)) :: F)))
    (λR' x=>R1 = R'∧x.1≤k∧x.2.1.length = x.1∧Vs x.2.1∧SW 54 8 (x.2.1.map eOp) x.2.2.1 x.2.2.2.1∧m'≤x.2.2.2.2∧x.2.2.2.2≤m' + 1 + 4 * x.1) (0,[],SN,[],m' + 1) ⟨rfl,VG _,rfl,Vs.nil,.inl ⟨rfl,rfl,rfl⟩,by dsimp only;omega,by dsimp only;omega⟩ rfl rfl ?_)
   rintro K6 e _ ⟨j,q,qv,A2,m2⟩ ⟨rfl,hj,hq,hqv,so2,g1,g2⟩ he hK6;dsimp only at hj hq hqv so2 g1 g2 he ⊢;refine z_V ?_;refine jlt (jif (λh5=>?_) (λh5=>?_));rotate_left
   ·have h5:=z_g h5;exact hK5 _ _ _ ⟨rfl,q,qv,A2,m2,⟨ω,hqv⟩,so2,ω,ω,rfl,rfl⟩
   have h5:=z_f h5;refine jpk hb1 ⟨ω,ω⟩ λf _ _=>jbd (cs:=[I 1,I 1]) rfl rfl (jbd (cs:=eOp ⟨1,0,0,0,0,0,⟨1,1⟩⟩) rfl rfl (jpk hb1 ⟨ω,ω⟩ λb2 _ _=>?_))
   refine jbd (cs:=eOp ⟨3,0,b2,0,f,0,⟨0,0⟩⟩) rfl rfl (jbd (cs:=eOp ⟨2,0,0,0,f,0,⟨0,0⟩⟩) rfl rfl (jpk hb1 ⟨ω,ω⟩ λw w0 w1=>?_));refine jbd (cs:=eOp ⟨4,0,0,0,f,w,⟨0,0⟩⟩) rfl rfl (jbd (cs:=eOp ⟨5,0,0,0,f,0,⟨0,0⟩⟩) rfl rfl (jbd (cs:=eOp ⟨7,0,1,0,f,0,⟨0,0⟩⟩) rfl rfl (jbd (cs:=eOp ⟨6,0,1,0,0,0,⟨0,0⟩⟩) rfl rfl (jbd (cs:=eOp ⟨10,0,0,0,0,0,⟨0,0⟩⟩) rfl rfl ?_))));refine jbs (cs:=((Kh f b2 w).map eOp).flatten ++ []) rfl (by kernel_rfl) λlb=>jpk hb1 ⟨ω,ω⟩ λy y0 y1'=>?_
   obtain⟨u,rfl⟩:∃u:Nat,y = u:=⟨y.toNat,ω⟩;have hu:u < (Kh f b2 w).length:=by show u < 8;omega
   refine Bk (by show u < 8;omega) (jla (l:=eOp ((Kh f b2 w)[u])) ?_ ?_ (jbs (cs:=eOp ((Kh f b2 w)[u])) rfl rfl λlb2=>(S6 [eOp ((Kh f b2 w)[u])] so2 σ Jd (λr hr=>by rw[U2.1 hr];rfl) rfl rfl rfl δ (by rw[Tr,U0];omega) λv' A' so'=>(jad ?_))))
   ·rw[UP,BT Jd,Tr];show 0 + u * 8 + 8≤8 * 8;omega
   ·rw[Tw,Er u (by rw[Tr];exact hu) Jd,V0]
   refine Aj (((Uq _ _ _).append_left _).trans U9) (CN ?_);refine (hK6 _ (j + 1,q ++ [(Kh f b2 w)[u]],v',A',m2 + 1 + 1 + 1 + 1) (by dsimp only;omega) ⟨rfl,by dsimp only;omega,by dsimp only;rw[Tn,hq];rfl,hqv.app (Vs.one (RQ (by unfold Rn;omega) _ (U6 hu))),by rw[Uk];exact so',by dsimp only;omega,by dsimp only;omega⟩)
  rintro e _ _ ⟨rfl,q,qv,A2,m2,⟨hq,hqv⟩,so2,h5,h6,rfl,he⟩;refine z_V ?_;refine TS so2 λR2 hR2 hops=>?_
  obtain⟨xa,xc,hx⟩:=Fz.sl hops;subst hx;refine jbs rfl rfl λbs=>?_
  have hrl:=hrw.1;refine S6 [[.slice xa q.length xc]] so rfl hrw.len (λr hr=>by rw[U2.1 hr];rfl) rfl rfl rfl δ (by rw[U0];omega) λv' A' so'=>(jad (hK3 (n - (i + 1)) _ _ _ ω ⟨hR.trans hR2,i + 1,l ++ [q],_,v',A',m2,ω,by rw[Tn,hl];rfl,λp hp'=>?_,(hrw.le hR2).app (Rw.one ⟨_,rfl,hops⟩),so',ω,ω,rfl,rfl,rfl⟩))
  rcases U7.1 hp' with hp' | hp'
  ·exact hp p hp'
  ·rw[U2.1 hp'];exact⟨hq,hqv⟩
 rintro e R1 D1 ⟨hR,l,rows,ov,A,m',hl,hp,hrw,so,h1,h2,hD,he⟩;refine z_W ?_;refine RL so hrw λR2 hR2 ho=>?_
 have hb2:=hb.le (hR.trans hR2);refine jla (by exact z_n 3) rfl (jla (by exact z_n 3) rfl (jpk hb2 ⟨ω,ω⟩ λz _ _=>jad (Aq (jla (by exact z_n 3) rfl jev) (Aq (jla (by exact z_n 3) rfl jev) ?_))));obtain⟨k,hk⟩:∃k:Nat,10 + z = k:=⟨(10 + z).toNat,ω⟩;rw[hk];refine jdr (MH hc ω hb2 ⟨ω,ω⟩) ?_;rintro x R3 m3 hR3 ⟨q,hq,hs,hi⟩ h5 h6;refine Aq (jla (by exact z_n 3) rfl jev) (js rfl rfl (by exact z_n 3) rfl (jla (by exact z_n 3) rfl (MG m3 ((hR.trans hR2).trans hR3) ⟨c,l,q,ov,x,rfl,⟨Ka hc ω (λp h=>(hp p h).1) ω,λp h=>(hp p h).2⟩,hs,ho.le hR3,hi⟩ ω ω)))
end draws
theorem Ir {R:RM} {r N:Nat} {rs:Int} {pv cv:Value} {AE:List (List Sm.Op)} {l:List Cl} (hp:Cy R pv AE) (hc:Cls R cv l) (hok:BH ⟨r,N,rs⟩ AE [] = true) (hr:Jz l) (hl:l.length≤1000000) (hf:EI N AE l = false) :
  Fn P G7 [.agg #[I r,I N,I rs],pv,cv] R [] (λv R' A=>R' = R∧A = []∧v = .tuple #[SN,.bool false]):=by
 refine KA λF=>?_
 refine z_3 ?_;obtain⟨pa,pc,rfl⟩:=hp.sl;obtain⟨ca,cc,rfl⟩:=Fz.sl hc;refine ja λb1=>ja λb2=>ja λb3=>?_
 refine AY (λvs R' D'=>R = R'∧D' = (b3,C 42 [.slice ca l.length cc]) :: (b2,C 25 [.slice pa AE.length pc]) :: (b1,C 24 [I r,I N,I rs]) :: F∧∃u,vs = [Pt b1,Pt b2,Pt b3,.bool true,u]) (λK hK=>?_) ?_
 ·refine jla (l:=[I r,I N,I rs]) (UD rfl) rfl (jl (v:=.slice pa AE.length pc) rfl (jl (v:=.slice ca l.length cc) rfl (jc (A:=[]) (FQ hp hc hok hr hl) ?_)));rintro _ R1 _ hR1 ⟨rfl,rfl,rfl⟩;rw[hf];exact jgt (λh=>by cases h) (λ_=>hK _ _ _ ⟨rfl,rfl,_,rfl⟩)
 rintro e _ _ ⟨rfl,rfl,u,he⟩;refine z_V ?_;exact EH (BC (RM.le.refl R) ⟨rfl,rfl,rfl⟩)
end Go.Lf
end
section
namespace Sm
def CR (x:Cl):Prop:=0≤x.next∧-1≤x.to_∧x.to_≤4000
theorem Qz {S S' : Sim} {i k:Nat} {out:List Cl} {op:List Int} (h:∀x∈out,CR x) (hn:0≤(FX S k).next):∀x∈(C6 S S' i k out op).1,CR x:=by
 unfold C6;split
 ·intro x hx;rcases U7.1 hx with hx | hx
  ·exact h x hx
  ·rw[U2.1 hx];exact⟨hn,by dsimp only;omega,by dsimp only;omega⟩
 ·exact h
theorem SQ {S S' : Sim} {i k:Nat} {q:List Cl × List Int} (h:∀x∈q.1,CR x) (hi:i≤4000):∀x∈(DF S S' i k q).1,CR x:=by
 unfold DF;split
 ·intro x hx;rcases Uc hx with hx | rfl
  ·exact h x hx
  ·refine⟨?_,by dsimp only;omega,by dsimp only;omega⟩;dsimp only;rw[Ty];cases hq:q.1[(q.2.getD k 0).toNat]? with
   | none=>exact UI 0
   | some y=>exact (h y (List.mem_of_getElem? hq)).1
 ·exact h
theorem HS {P:List (List Op)}:∀(ps:List Int) (i c:Nat) (S:Sim) (g:Gh) (out:List Cl) (op:List Int),c + 5 * ps.length < 900000→i + ps.length≤4000→IG P S g→Bd c S→HI S.th.length i out op→(∀x∈out,CR x)→∃out',Ee ps i S out op = some out'∧out'.length≤4000∧∀x∈out',CR x
 | [],i,c,S,g,out,op,hc,hi,I,B,H,h=>⟨out,rfl,by have:=H.le;rw[Ug] at hi;omega,h⟩
 | p :: ps,i,c,S,g,out,op,hc,hi,I,B,H,h=>by
  rw[U4] at hc hi;obtain⟨S',g',e,I',B'⟩:=NH (p:=p) ω I B;have hth:S'.th.length = S.th.length:=by rw[← I'.pl,← I.pl,I'.pg,I.pg]
  unfold Ee;rw[e];show ∃out',Ee ps (i + 1) S' (Cj S S' i p out op).1 (Cj S S' i p out op).2 = some out'∧_;have hs:HI S.th.length (i + 1) (Cj S S' i p out op).1 (Cj S S' i p out op).2∧∀x∈(Cj S S' i p out op).1,CR x:=by
   unfold Cj;split
   ·rename_i hp;obtain⟨h1,-⟩:=H.opn (S:=S) (S':=S') (k:=p.toNat) ω;refine⟨h1.fin,SQ (Qz h ?_) ω⟩;have hk:p.toNat < S.th.length:=ω
    rw[FX,C7 hk];exact (I.ti (p.toNat:Int) _ (by unfold idx;rw[if_pos ω,Tj,Tl hk])).nx
   ·exact⟨⟨H.ol,by have:=H.le;dsimp only;omega,H.op_⟩,h⟩
  exact HS ps (i + 1) (c + 5) S' g' _ _ ω ω I' B' (hth▸hs.1) hs.2
end Sm
end
section
namespace Go.Lf
open Go Sm
theorem QG {r N:Nat} {rs:Int} {AE:List (List Sm.Op)} {picks:List Int} (hok:BH ⟨r,N,rs⟩ AE picks = true) (ha:∀a∈picks,inR a) :
  ∃out:List Cl,out.length≤4000∧(∀x∈out,CR x)∧∀R pv kv,Cy R pv AE→B9 R kv picks→Fn P EE [.agg #[I r,I N,I rs],pv,kv] R [] (λv _ A=>SW DX 6 (out.map eCl) v A):=by
 obtain⟨h1,h2,h3,h4⟩:=Gv hok;obtain⟨g0,I0,B0⟩:=Oz h1 h2 h4;have hth:(Sm.start ⟨r,N,rs⟩ AE).th.length = N:=by
  show (List.replicate (N:Int).toNat _).length = N;rw[Tz,Tj]
 obtain⟨out,e,hl,hcr⟩:=HS picks 0 0 _ g0 [] (List.replicate N (-1)) ω ω I0 B0 ⟨by rw[Tz,hth],σ,λk h=>σ⟩ (λx hx=>by cases hx);refine⟨out,hl,hcr,λR pv kv hp hk=>M7 hp hk hok ha e λi S hS=>?_⟩;obtain⟨gh1,I1⟩:=Lp picks i 0 _ g0 ω I0 B0 S hS;refine⟨?_,λp R g S1 ok hpz=>QI ok (RF I1).1 (RF I1).2 hpz⟩;rw[← I1.pl,I1.pg,← hth,← I0.pl,I0.pg]
def Pv (x:Value) (R:RM):Prop:=∃(r N:Nat) (rs:Int) (AE:List (List Sm.Op)) (l:List Cl) (pv cv:Value),x = .tuple #[.agg #[I r,I N,I rs],pv,cv]∧BH ⟨r,N,rs⟩ AE [] = true∧Cy R pv AE∧Cls R cv l∧Jz l∧l.length≤4000
theorem S7 {l:List Cl} (h:∀x∈l,CR x):Jz l:=λx hx=>by
 obtain⟨h1,h2,h3⟩:=h x hx;exact⟨ω,ω,ω⟩
theorem PF {l:List Cl} {j:Nat} {y:Cl} (h:Jz l) (hy:-1000000≤y.next∧-1000000≤y.to_∧y.to_≤1000000):Jz (l.set j y):=λx hx=>by
 rcases Uc hx with hx | rfl
 ·exact h x hx
 ·exact hy
section draws
variable {R:RM} {rb:Nat} {v:Value} {m:Int}
theorem MQ (hb:Byt R v) (hm:0≤m∧m < 100000000):Dr Fx [Pt rb] R rb v m 2000000 Pv:=by
 refine KJ λF=>?_
 refine z_1 ?_;refine ja λb1=>jdr (MU hb ⟨ω,ω⟩) ?_
 rintro _ R1 m1 hR1 ⟨c,AE,picks,pv,kv,rfl,⟨hok,-⟩,hs,hp,hk⟩ g1 g2;obtain⟨h1,h2,h3,h4⟩:=Gv hok;have hcc:=h1;simp only[Az,z_b,z_d] at hcc;obtain⟨cr,ct,cs⟩:=c;dsimp only at hcc h2;obtain⟨r,rfl⟩:∃r:Nat,cr = r:=⟨cr.toNat,ω⟩;obtain⟨N,rfl⟩:∃N:Nat,ct = N:=⟨ct.toNat,ω⟩;have hok0:BH ⟨r,N,cs⟩ AE [] = true:=Ka h1 h2 h4 σ;obtain⟨l,hl,hcr,hmk⟩:=QG hok (λa ha=>by have:=hs a ha;exact⟨ω,ω⟩);obtain⟨pa,pc,rfl⟩:=hp.sl;refine jex rfl (jex rfl (jex rfl (ja λb6=>?_)));refine jS [I r,I N,I cs] ?_;refine jla (l:=[I r,I N,I cs]) (by exact z_n 3) rfl ?_;refine jc (A:=[]) (hmk R1 _ _ hp hk) ?_;rintro cv R2 A hR2 so;have hbb:=hb.le (hR1.trans hR2);refine AY (λvs R' D'=>R2 = R'∧∃(l2:List Cl) (A2:Chs) (m2:Int),l2.length = l.length∧Jz l2∧SW DX 6 (l2.map eCl) cv A2∧m1≤m2∧m2≤m1 + 10∧D' = (rb,rdO v m2) :: (A2 ++ ((b6,C 24 [I r,I N,I cs]) :: (b1,C 24 (cl z24)) :: F))∧vs = [Pt b1,Pt b6,.slice pa AE.length pc,cv]) (λK hK=>?_) ?_;rotate_left
 ·rintro e _ _ ⟨rfl,l2,A2,m2,hl2,hc2,so2,h5,h6,rfl,he⟩;refine z_V ?_;refine Aj U9.symm (jfw so2 DS λR3 hR3 hfz=>?_);rw[Tr] at hfz;refine jla (l:=[I r,I N,I cs]) (by exact z_n 3) rfl ?_;refine jS [I r,I N,I cs] ?_;refine jla (l:=[I r,I N,I cs]) (by exact z_n 3) rfl ?_;exact MG m2 ((hR1.trans hR2).trans hR3) ⟨r,N,cs,AE,l2,_,cv,rfl,hok0,hp.le (hR2.trans hR3),hfz,hc2,ω⟩ ω ω
 refine AY (λvs R' D'=>R2 = R'∧(∃w c u,GJ c u w∧(w = true→0 < l.length)∧vs = [Pt rb,Pt b1,Pt b6,.slice pa AE.length pc,cv,c,u])∧D' = (rb,rdO v (m1 + 1)) :: (A ++ ((b6,C 24 [I r,I N,I cs]) :: (b1,C 24 (cl z24)) :: F))) (λK2 hK2=>?_) ?_
 ·refine jpk hbb ⟨ω,ω⟩ λy _ _=>jeq (jgt (λh=>Cq so.sl (jgr ?_)) (λh=>?_))
  ·rw[h];refine hK2 _ _ _ ⟨rfl,⟨_,_,_,Cw,λhw=>?_,rfl⟩,rfl⟩;have:=z_f hw;rw[Tr] at this;omega
  ·rw[h];exact hK2 _ _ _ ⟨rfl,⟨false,_,_,DL,(λhw=>absurd hw δ),rfl⟩,rfl⟩
 rintro e _ _ ⟨rfl,⟨w,c,u,ho,hw,he⟩,rfl⟩;refine z_V ?_;rw[ho];refine jif (λh=>?_) (λh=>hK _ _ _ ⟨rfl,l,A,_,rfl,S7 hcr,so,ω,ω,rfl,rfl⟩);have hl0:=hw h;refine Cq so.sl (jpk hbb ⟨ω,ω⟩ λy y0 y1=>?_);rw[Tr] at y1;obtain⟨j,rfl⟩:∃j:Nat,y = j:=⟨y.toNat,ω⟩;have hj:j < l.length:=ω
 rcases so with ⟨h,_,_⟩ | ⟨cb,cc,sp,hcc2,hsp,rfl,rfl⟩
 ·exact absurd (congrArg List.length h) (by rw[Tr,Ug];omega)
 have hmm:j < (l.map eCl).length:=by rw[Tr];exact hj
 have hrow:0 + j * 6 + 6≤((l.map eCl).flatten ++ sp).length:=by
  rw[Tn,BT DS,Tr];omega
 have hjr:=S7 hcr _ (U6 hj);have hjt:=(hcr _ (U6 hj)).2;refine Bk hmm (jla (l:=eCl (l[j])) hrow (by rw[Tw,Er j hmm DS,V0]) (ja λxb=>jS (eCl (l[j])) ?_));generalize hx:l[j] = x at hjr hjt;obtain⟨th,nx,fr,tto,an,co⟩:=x;dsimp only at hjr hjt;refine AY (λvs R' D'=>R2 = R'∧∃(y:Cl) (m2:Int),(-1000000≤y.next∧-1000000≤y.to_∧y.to_≤1000000)∧m1≤m2∧m2≤m1 + 6∧D' = (rb,rdO v m2) :: (xb,C DX (eCl y)) :: ([(cb,C DX ((l.map eCl).flatten ++ sp))] ++ ((b6,C 24 [I r,I N,I cs]) :: (b1,C 24 (cl z24)) :: F))∧vs = [Pt b1,Pt b6,.slice pa AE.length pc,S0 cb (l.map eCl).length cc,I j,Pt xb]) (λK3 hK3=>?_) ?_;rotate_left
 ·rintro e _ _ ⟨rfl,y,m2,hy,h5,h6,rfl,he⟩;refine z_V ?_;refine jla (l:=eCl y) (UD rfl) rfl (Bk hmm (js (cs':=((l.set j y).map eCl).flatten ++ sp) rfl rfl hrow (by rw[Tw,VD];exact Fe (w:=6) rfl j hmm DS) (Aj (Uq _ _ _) (CN (hK _ _ _ ⟨rfl,l.set j y,[(cb,C DX (((l.set j y).map eCl).flatten ++ sp))],m2,by rw[U3],PF (S7 hcr) hy,.inr ⟨cb,cc,sp,?_,?_,?_,rfl⟩,ω,ω,rfl,rfl⟩)))))
  ·rw[Tr] at hcc2;rw[Tr,U3];exact hcc2
  ·rw[Tr] at hsp;rw[Tr,U3];exact hsp
  ·rw[Tr,Tr,U3]
 refine jpk hbb ⟨ω,ω⟩ λz _ _=>jcI hK3 λK4 hK4=>?_
 refine jeq (jif (λ_=>jl (v:=I an) rfl ?_) (λ_=>jeq (jif (λ_=>jl (v:=I fr) rfl ?_) (λ_=>jeq (jif (λ_=>jl (v:=I tto) rfl ?_) (λ_=>jeq (jif (λ_=>?_) (λ_=>jeq (jif (λ_=>?_) (λ_=>jeq (jif (λ_=>?_) (λ_=>?_))))))))))))
 ·exact js (x:=I (IntKind.i64.wrap (an + 1))) (cs':=eCl ⟨th,nx,fr,tto,IntKind.i64.wrap (an + 1),co⟩) rfl rfl (UD rfl) rfl (hK4 _ _ _ ⟨rfl,⟨th,nx,fr,tto,IntKind.i64.wrap (an + 1),co⟩,_,hjr,ω,ω,rfl,rfl⟩)
 ·refine jpk hbb ⟨ω,ω⟩ λq q0 q1=>?_
  exact Aq (jl rfl jev) (js (x:=I (IntKind.i64.wrap (IntKind.i64.wrap (fr + q) - 2))) (cs':=eCl ⟨th,nx,IntKind.i64.wrap (IntKind.i64.wrap (fr + q) - 2),tto,an,co⟩) rfl rfl (UD rfl) rfl (hK4 _ _ _ ⟨rfl,⟨th,nx,IntKind.i64.wrap (IntKind.i64.wrap (fr + q) - 2),tto,an,co⟩,_,⟨by dsimp only;omega,by dsimp only;omega,by dsimp only;omega⟩,ω,ω,rfl,rfl⟩))
 ·refine jpk hbb ⟨ω,ω⟩ λq q0 q1=>(CF (x:=tto) (y:=q) ⟨ω,ω⟩ (Iw (x:=tto + q) (y:=4) ⟨ω,ω⟩ ?_))
  exact Aq (jl rfl jev) (js (x:=I (tto + q - 4)) (cs':=eCl ⟨th,nx,fr,tto + q - 4,an,co⟩) rfl rfl (UD rfl) rfl (hK4 _ _ _ ⟨rfl,⟨th,nx,fr,tto + q - 4,an,co⟩,_,⟨by dsimp only;omega,by dsimp only;omega,by dsimp only;omega⟩,ω,ω,rfl,rfl⟩))
 ·refine jpk hbb ⟨ω,ω⟩ λq q0 q1=>?_
  exact js (x:=I (q)) (cs':=eCl ⟨th,q,fr,tto,an,co⟩) rfl rfl (UD rfl) rfl (hK4 _ _ _ ⟨rfl,⟨th,q,fr,tto,an,co⟩,_,⟨by dsimp only;omega,by dsimp only;omega,by dsimp only;omega⟩,ω,ω,rfl,rfl⟩)
 ·refine jpk hbb ⟨ω,ω⟩ λq q0 q1=>?_
  exact js (x:=I (q)) (cs':=eCl ⟨th,nx,fr,tto,an,q⟩) rfl rfl (UD rfl) rfl (hK4 _ _ _ ⟨rfl,⟨th,nx,fr,tto,an,q⟩,_,⟨by dsimp only;omega,by dsimp only;omega,by dsimp only;omega⟩,ω,ω,rfl,rfl⟩)
 ·refine jpk hbb ⟨ω,ω⟩ λq q0 q1=>(Iw (x:=q) (y:=1) ⟨ω,ω⟩ ?_)
  exact js (x:=I (q - 1)) (cs':=eCl ⟨q - 1,nx,fr,tto,an,co⟩) rfl rfl (UD rfl) rfl (hK4 _ _ _ ⟨rfl,⟨q - 1,nx,fr,tto,an,co⟩,_,⟨by dsimp only;omega,by dsimp only;omega,by dsimp only;omega⟩,ω,ω,rfl,rfl⟩)
 ·exact hK4 _ _ _ ⟨rfl,⟨th,nx,fr,tto,an,co⟩,_,hjr,ω,ω,rfl,rfl⟩
end draws
theorem JW {R:RM} {v:Value} (hc:Cod R v):Fn P Ef [v] R [] (λx R' A=>A = []∧Pv x R'):=by
 refine IM λF=>?_
 refine z_1 ?_;obtain⟨n,hf⟩:=hc;refine ja λb=>?_
 refine jc (A:=[]) (Om hf) ?_;rintro _ R1 _ _ ⟨hR,rb,v',rfl,rfl,hb⟩;subst hR;refine jdr (MQ hb δ) ?_;rintro _ R2 m2 hR2 ⟨r,N,rs,AE,l,pv,cv,rfl,h1,h2,h3,h4,h5⟩ - -;refine jex rfl (jex rfl (jex rfl ?_));refine jS [I r,I N,I rs] ?_;refine jla (l:=[I r,I N,I rs]) (by exact z_n 3) rfl ?_;exact BC hR2 ⟨rfl,r,N,rs,AE,l,pv,cv,rfl,h1,h2,h3,h4,h5⟩
section
variable {R:RM}
end
end Go.Lf
end
section
namespace Sm
end Sm
namespace Go.Lf
open Go Sm
section
variable {R:RM} {D:Chs} {k:Value→M}
theorem Tc {a:Option Addr} {len cap n:Nat} {u:Int} (h0:0≤u) (h1:u≤cap) (H:J R D (k (.slice a u.toNat cap))):J R D (SL n (.slice a len cap) none (some (I u)) k):=λh hs=>⟨⟨h0,h1⟩,H h hs⟩
end
end Go.Lf
end
section
namespace Go.Lf
open Go Sm
theorem Fz.take {R:RM} {v:Value} {w n k:Nat} {cells:List Value} (h:Fz R v w n cells) (hk:k≤n):∃a c,v = .slice a n c∧k≤c∧Fz R (.slice a k c) w k (cells.take (k * w)):=by
 rcases h with ⟨rfl,rfl,rfl⟩ | ⟨b,o,cap,t,cs,rfl,h2,h3,h4,h5⟩
 ·obtain rfl:k = 0:=ω
  exact⟨_,_,rfl,z_n _,.inl ⟨rfl,rfl,σ⟩⟩
 ·have hm:k * w≤n * w:=Ut w hk;refine⟨_,_,rfl,ω,.inr ⟨b,o,cap,t,cs,rfl,h2,ω,?_,ω⟩⟩;rw[← h4,List.take_take,Nat.min_eq_left hm]
theorem Cls.take {R:RM} {v:Value} {l:List Cl} {k:Nat} (h:Cls R v l) (hk:k≤l.length):∃a c,v = .slice a l.length c∧k≤c∧Cls R (.slice a k c) (l.take k):=by
 obtain⟨a,c,h1,h2,h3⟩:=Fz.take h hk;refine⟨a,c,h1,h2,?_⟩;have hl:(l.take k).length = k:=by rw[UA];omega
 unfold Cls;rw[hl];have e:(l.map eCl).flatten.take (k * 6) = ((l.take k).map eCl).flatten:=by
  have e1:(l.map eCl).flatten = ((l.take k).map eCl).flatten ++ ((l.drop k).map eCl).flatten:=by
   rw[← List.flatten_append,← Uk,V9]
  rw[e1];refine List.take_left' ?_;rw[BT DS,Tr,hl]
 rw[← e];exact h3
theorem JQ {R:RM} {v u:Value} (hc:Cod R v) (hu:Cod R u):Fn P Dw [v,u] R [] (λx _ A=>x = .bool true∧A = []):=by
 refine GN λF=>?_
 refine z_2 ?_;obtain⟨cn,hsl⟩:=Oj hc;obtain⟨un,hul⟩:=Oj hu;refine jor [v,u] ((decide ((cn:Int) > 1048576)) || (decide ((un:Int) > 1048576))) (λK' hK'=>?_) (λe c u ho he=>?_)
 ·refine Cq hsl (jgr (OF (λh1=>?_) (λh1=>?_)))
  ·refine Cq hul (jgr (hK' _ _ _ (h1▸KX) (by rw[h1,Uh])))
  ·exact hK' _ _ _ (h1▸Kr) (by rw[h1,VH])
 refine z_V ?_;rw[ho];refine jif (λ_=>BC (A:=[]) (RM.le.refl R) ⟨rfl,rfl⟩) (λ_=>?_);refine jc (A:=[]) (JW hc) ?_;rintro x0 R1 _ hR1 ⟨rfl,r,N,rs,AE,l,pv,cv,rfl,hok,hp,hcl,hcr,hl⟩;refine jex rfl (jex rfl (jex rfl (ja λb1=>jS [I r,I N,I rs] (jla (l:=[I r,I N,I rs]) (by exact z_n 3) rfl ?_))));refine jc (A:=[]) (FQ hp hcl hok hcr ω) ?_;rintro _ R2 _ - ⟨rfl,rfl,rfl⟩;refine jla (l:=[I r,I N,I rs]) (by exact z_n 3) rfl (jc (A:=[]) (Pa hp hcl hok hcr ω) ?_);rintro _ R3 _ - ⟨rfl,rfl,rfl⟩;refine @jxb _ _ _ _ _ _ _ ?_;rw[bne_self_eq_false];refine DM ?_;cases hb:EI N AE l with
 | false=>
  refine EH (jla (l:=[I r,I N,I rs]) (by exact z_n 3) rfl (jc (A:=[]) (Ir hp hcl hok hcr ω hb) ?_));rintro _ R4 _ - ⟨rfl,rfl,rfl⟩;exact jex rfl (jex rfl (BC (A:=[]) hR1 ⟨rfl,rfl⟩))
 | true=>
  have hk0:(un:Int).tmod (l.length + 1) = ((un % (l.length + 1):Nat):Int):=by
   rw[Int.tmod_eq_emod_of_nonneg ω];rfl
  have hkl:un % (l.length + 1)≤l.length:=Nat.le_of_lt_succ (Nat.mod_lt _ ω);obtain⟨a,c,rfl,hkc,ht⟩:=hcl.take hkl;refine DM (Cq hul (jln (jad (NW ω ?_))));rw[hk0];refine jla (l:=[I r,I N,I rs]) (by exact z_n 3) rfl (Tc ω ω ?_);rw[Tj];have hr2:Jz (l.take (un % (l.length + 1))):=λx hx=>hcr x (UO hx)
  have htl:(l.take (un % (l.length + 1))).length≤1000000:=by rw[UA];omega
  have e:(l.take (un % (l.length + 1))).length = un % (l.length + 1):=by rw[UA];omega
  refine jc (A:=[]) (FQ hp ht hok hr2 htl) ?_;rintro _ R4 _ - ⟨rfl,rfl,rfl⟩;refine BC (A:=[]) hR1 ⟨?_,rfl⟩;unfold EI at hb ⊢;rw[G5 _ hb]
end Go.Lf
end
