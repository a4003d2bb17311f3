/- A part of the proof of the given row: the walk of the law and of all that it calls. Conditions: none. -/
import Derived.MapKept
import Derived.ChangeMaps4
import Derived.Test.YteefnapldidgcaaGreatUN
set_option linter.unusedVariables false
set_option linter.unusedSimpArgs false
section
namespace Go.Lf
open Go Sm
theorem Progs.le {R R' : RM} {v:Value} {l:List (List Sm.Op)} (h:R.le R') (H:Progs R v l):Progs R' v l:=by
 obtain⟨vs,h1,h2,h3⟩:=H
 exact⟨vs,h1.le h,h2,λi hi=>by obtain⟨x,hx,ho⟩:=h3 i hi;exact⟨x,hx,ho.le h⟩⟩
def PrW (R:RM) (rows:List (List Value)) (l:List (List Sm.Op)):Prop:=Rw (λrow p=>∃x,row = [x]∧Ops R x p) rows l
theorem PrW.len {R:RM} {rows:List (List Value)} {l:List (List Sm.Op)} (h:PrW R rows l):∀r∈rows,r.length = 1:=h.all λ_ _ ⟨_,hx,_⟩=>by rw[hx];rfl
theorem PrW.le {R R' : RM} {rows:List (List Value)} {l:List (List Sm.Op)} (hr:R.le R') (h:PrW R rows l):PrW R' rows l:=h.mono λ_ _ ⟨x,h1,h2⟩=>⟨x,h1,h2.le hr⟩
theorem flat1:∀{rows:List (List Value)} (_:∀r∈rows,r.length = 1) (i:Nat) (h:i < rows.length),rows.flatten[i]? = (rows[i])[0]?
 | [],_,i,h=>absurd h (by simp)
 | a :: r,hw,i,h=>by
  have ha:a.length = 1:=hw a (by simp)
  rw[List.flatten_cons]
  cases i with
  | zero=>rw[List.getElem?_append_left (by omega)];rfl
  | succ i=>rw[List.getElem?_append_right (by omega),ha,Nat.add_sub_cancel,flat1 (λx hx=>hw x (by simp[hx])) i (by simpa using h)];rfl
theorem jprogs {R:RM} {A E:Chs} {t:Nat} {rows:List (List Value)} {l:List (List Sm.Op)} {v:Value} {m:M} (so:SW t 1 rows v A) (hp:PrW R rows l) (H:∀R',R.le R'→Progs R' v l→J R' E m):J R (A ++ E) m:=by
 refine jfw so hp.len λR' hR hfz=>H R' hR ⟨rows.flatten,?_,?_,λi hi=>?_⟩
 ·rw[← hp.1];exact hfz
 ·rw[flat_len hp.len,hp.1];omega
 ·have hi' : i < rows.length:=by rw[hp.1];exact hi
  obtain⟨x,h1,h2⟩:=hp.2 i hi' hi
  exact⟨x,by rw[flat1 hp.len i hi',h1];rfl,h2.le hR⟩
theorem ops_take:∀(q:List Sm.Op) (u:Nat),(rowsE eOp q).take (u * 8) = rowsE eOp (q.take u)
 | [],u=>by simp[rowsE]
 | x :: r,0=>by simp[rowsE]
 | x :: r,u + 1=>by
  have:=ops_take r u
  unfold rowsE at this ⊢
  rw[List.take_succ_cons,List.map_cons,List.map_cons,List.flatten_cons,List.flatten_cons,List.take_append,List.take_of_length_le (by show 8≤_;omega),← this]
  congr 2
  show (u + 1) * 8 - 8 = _;omega
section draws
variable {R:RM} {rb:Nat} {v:Value} {m:Int}
theorem d_l20Churn {n:Nat} (hn:n≤39) (hb:Byt R v) (hm:0≤m∧m < 300000000):Dr F_s_l20Churn [.pointer (some ⟨rb,0,none⟩),I n] R rb v m 1000 (λx R'=>∃l:List Sm.Op,(l.length≤40∧Vs l)∧Ops R' x l):=by
 refine s_s_l20Churn λF=>?_
 unfold c_s_l20Churn
 have fin:∀(l:List Sm.Op) (ov:Value) (A:Chs) (m' : Int),l.length≤40∧Vs l→SW 122 8 (l.map eOp) ov A→m≤m'→m'≤m + 1000→J R (A ++ (rb,rdO v m') :: F) (POST R F (λx R' A=>R.le R'∧(∃l:List Sm.Op,(l.length≤40∧Vs l)∧Ops R' x l)∧∃m',m≤m'∧m'≤m + 1000∧A = [(rb,rdO v m')]) ov):=λl ov A m' hl so h1 h2=>
  jops so λR2 hR2 ho=>dr_ret m' hR2 ⟨l,hl,ho⟩ h1 h2
 refine jcutq (λvs R' D'=>R' = R∧∃(l:List Sm.Op) (ov:Value) (A:Chs) (m' : Int),(l.length≤40∧Vs l)∧SW 122 8 (l.map eOp) ov A∧m≤m'∧m'≤m + 1000∧D' = A ++ (rb,rdO v m') :: F∧vs = [ov]) (λK hK=>?_) ?_
 rotate_left
 ·rintro e R1 D1 ⟨hR,l,ov,A,m',hl,so,h1,h2,hD,he⟩
  subst hR
  rw[hD];clear hD
  simp only[List.map,lc,ln,lj,and_true] at he
  simp only[he]
  exact fin l ov A m' hl so h1 h2
 refine jcutq (λvs R' D'=>R' = R∧∃(l:List Sm.Op) (ov:Value) (A:Chs) (m' : Int),(l.length≤40∧Vs l)∧SW 122 8 (l.map eOp) ov A∧m≤m'∧m'≤m + 1000∧D' = A ++ (rb,rdO v m') :: F∧vs = [ov]) (λK2 hK2=>?_) ?_
 rotate_left
 ·rintro e R1 D1 ⟨hR,l,ov,A,m',hl,so,h1,h2,hD,he⟩
  simp only[List.map,lc,ln,lj,and_true] at he
  simp only[he]
  exact hK _ _ _ ⟨hR,l,ov,A,m',hl,so,h1,h2,hD,rfl⟩
 refine jlp (λmm vs R' D'=>R' = R∧∃(l:List Sm.Op) (ov:Value) (A:Chs) (m' : Int),(l.length≤40∧Vs l)∧SW 122 8 (l.map eOp) ov A∧m≤m'∧m'≤m + 10 * l.length∧D' = A ++ (rb,rdO v m') :: F∧vs = [.pointer (some ⟨rb,0,none⟩),I n,ov]∧mm = 40 - l.length)
  (n:=40) ⟨rfl,[],.slice none 0 0,[],m,⟨by decide,Vs.nil⟩,.inl ⟨rfl,rfl,rfl⟩,by omega,by simp,rfl,rfl,rfl⟩ ?_
 rintro mm e R1 D1 K3 ⟨hR,l,ov,A,m',⟨hl,hv⟩,so,h1,h2,hD,he,hmm⟩ hK3
 subst hR
 rw[hD];clear hD
 simp only[List.map,lc,ln,lj,and_true] at he
 simp only[he]
 have hsl:=so.sl
 rw[List.length_map] at hsl
 refine jln_ hsl (jadd ⟨by omega,by omega⟩ (jlt (jif (λhc=>?_) (λhc=>?_))))
 rotate_left
 ·exact hK2 _ _ _ ⟨rfl,l,ov,A,m',⟨hl,hv⟩,so,h1,by omega,rfl,rfl⟩
 have hc:=of_decide_eq_true hc
 have hl32:l.length≤32:=by omega
 refine jpk hb ⟨by omega,by omega⟩ λy1 _ _=>jadd ⟨by omega,by omega⟩ (jpk hb ⟨by omega,by omega⟩ λy2 _ _=>?_)
 refine jbd (cs:=[I (1 + y1),I y2]) rfl rfl (jbd (cs:=[I 1,I 0,I 0,I 0,I 0,I 0,I (1 + y1),I y2]) rfl rfl ?_)
 refine jbs (cs:=[I 1,I 0,I 0,I 0,I 0,I 0,I (1 + y1),I y2]) rfl rfl λbs=>?_
 have app:∀{D:Chs} {b cx:Nat} {cs:List Value} {l1:List Sm.Op} {ov1:Value} {A1 E D1:Chs} {k:Value→M} (l2:List Sm.Op),SW 122 8 (l1.map eOp) ov1 A1→Tk D b (C 122 cs) D1→Sp D1 A1 E→cs = (l2.map eOp).flatten→l1.length + l2.length≤40→
   (∀ov2 A2,SW 122 8 ((l1 ++ l2).map eOp) ov2 A2→J R1 (A2 ++ E) (k ov2))→J R1 D (AP 122 8 64 (cl z122) ov1 (.slice (some ⟨b,0,none⟩) l2.length cx) k):=λ{D b cx cs l1 ov1 A1 E D1 k} l2 so1 tk sp hcs hlen H=>by
  refine jawn (tk:=tk) (sp:=sp) (l2.map eOp) so1 hcs op_len op_len rfl (flat_all λr hr=>?_) (by rw[List.length_map]) (by decide) (by rw[List.length_map,List.length_map];omega) λv' A' so'=>H v' A' (by rw[List.map_append];exact so')
  obtain⟨x,_,rfl⟩:=List.mem_map.1 hr;rfl
 refine app [⟨1,0,0,0,0,0,⟨1 + y1,y2⟩⟩] so inferInstance inferInstance rfl (by rw[List.length_singleton];omega) λov1 A1 so1=>?_
 generalize hl1:l ++ [(⟨1,0,0,0,0,0,⟨1 + y1,y2⟩⟩:Sm.Op)] = l1 at so1
 have hv1:Vs l1:=hl1▸hv.app (Vs.one (by exact Rn.zero))
 have hl1l:l1.length = l.length + 1:=by rw[← hl1];simp
 have hsl1:=so1.sl
 rw[List.length_map] at hsl1
 refine jcutq (λvs R' D'=>R' = R1∧∃(l2:List Sm.Op) (ov:Value) (A:Chs) (m2:Int),l.length < l2.length∧l2.length≤l.length + 7∧(l2.length≤39∧Vs l2)∧SW 122 8 (l2.map eOp) ov A∧m'≤m2∧m2≤m' + 6∧D' = A ++ (rb,rdO v m2) :: F∧vs = [.pointer (some ⟨rb,0,none⟩),I n,ov]) (λK4 hK4=>?_) ?_
 ·refine jpk hb ⟨by omega,by omega⟩ λy3 _ _=>?_
  refine jcutq (λvs R' D'=>R' = R1∧∃(l2:List Sm.Op) (ov:Value) (A:Chs) (m2:Int),l.length < l2.length∧l2.length≤l.length + 7∧(l2.length≤39∧Vs l2)∧SW 122 8 (l2.map eOp) ov A∧m'≤m2∧m2≤m' + 6∧D' = A ++ (rb,rdO v m2) :: F∧vs = [.pointer (some ⟨rb,0,none⟩),I n,ov]) (λK5 hK5=>?_) ?_
  rotate_left
  ·rintro e Rx Dx ⟨hR,l2,ov,A,m2,q1,q2,q3,so2,q4,q5,hD,he⟩
   simp only[List.map,lc,ln,lj,and_true] at he
   simp only[he]
   exact hK4 _ _ _ ⟨hR,l2,ov,A,m2,q1,q2,q3,so2,q4,q5,hD,rfl⟩
  refine jeq (jif (λ_=>?_) (λ_=>jeq (jif (λ_=>?_) (λ_=>jeq (jif (λ_=>?_) (λ_=>jeq (jif (λ_=>?_) (λ_=>jeq (jif (λ_=>?_) (λ_=>?_))))))))))
  ·refine jbd (cs:=[I 10,I 1,I 0,I 0,I 0,I 0,I 0,I 0]) rfl rfl (jbd (cs:=[I 3,I 1,I 0,I 0,I 0,I 0,I 0,I 0]) rfl rfl (jbd (cs:=[I 5,I 1,I 0,I 0,I 0,I 0,I 0,I 0]) rfl rfl (jbd (cs:=[I 11,I 1,I 0,I 0,I 0,I 0,I 0,I 0]) rfl rfl ?_)))
   refine jbs (cs:=(([⟨10,1,0,0,0,0,⟨0,0⟩⟩,⟨3,1,0,0,0,0,⟨0,0⟩⟩,⟨5,1,0,0,0,0,⟨0,0⟩⟩,⟨11,1,0,0,0,0,⟨0,0⟩⟩]:List Sm.Op).map eOp).flatten) rfl rfl λbt=>?_
   refine app [⟨10,1,0,0,0,0,⟨0,0⟩⟩,⟨3,1,0,0,0,0,⟨0,0⟩⟩,⟨5,1,0,0,0,0,⟨0,0⟩⟩,⟨11,1,0,0,0,0,⟨0,0⟩⟩] so1 inferInstance inferInstance rfl (by simp;omega) λov2 A2 so2=>?_
   exact hK5 _ _ _ ⟨rfl,_,ov2,A2,_,by simp;omega,by simp;omega,⟨by simp;omega,hv1.app (by simp[Vs,Rn]<;>omega)⟩,so2,by omega,by omega,rfl,rfl⟩
  ·refine jpk hb ⟨by omega,by omega⟩ λz1 _ _=>jbd (cs:=[I 3,I 0,I 1,I 0,I z1,I 0,I 0,I 0]) rfl rfl ?_
   refine jbs (cs:=[I 3,I 0,I 1,I 0,I z1,I 0,I 0,I 0]) rfl rfl λbt=>?_
   refine app [⟨3,0,1,0,z1,0,⟨0,0⟩⟩] so1 inferInstance inferInstance rfl (by simp;omega) λov2 A2 so2=>?_
   exact hK5 _ _ _ ⟨rfl,_,ov2,A2,_,by simp;omega,by simp;omega,⟨by simp;omega,hv1.app (by simp[Vs,Rn]<;>omega)⟩,so2,by omega,by omega,rfl,rfl⟩
  ·refine jpk hb ⟨by omega,by omega⟩ λz1 _ _=>jbd (cs:=[I 2,I 0,I 0,I 0,I z1,I 0,I 0,I 0]) rfl rfl (jbd (cs:=[I 3,I 1,I 2,I 0,I 0,I 0,I 0,I 0]) rfl rfl (jpk hb ⟨by omega,by omega⟩ λz2 _ _=>jbd (cs:=[I 3,I 0,I 1,I 0,I z2,I 0,I 0,I 0]) rfl rfl (jbd (cs:=[I 8,I 0,I 0,I 0,I 0,I 0,I 0,I 0]) rfl rfl ?_)))
   refine jbs (cs:=(([⟨2,0,0,0,z1,0,⟨0,0⟩⟩,⟨3,1,2,0,0,0,⟨0,0⟩⟩,⟨3,0,1,0,z2,0,⟨0,0⟩⟩,⟨8,0,0,0,0,0,⟨0,0⟩⟩]:List Sm.Op).map eOp).flatten) rfl rfl λbt=>?_
   refine app [⟨2,0,0,0,z1,0,⟨0,0⟩⟩,⟨3,1,2,0,0,0,⟨0,0⟩⟩,⟨3,0,1,0,z2,0,⟨0,0⟩⟩,⟨8,0,0,0,0,0,⟨0,0⟩⟩] so1 inferInstance inferInstance rfl (by simp;omega) λov2 A2 so2=>?_
   exact hK5 _ _ _ ⟨rfl,_,ov2,A2,_,by simp;omega,by simp;omega,⟨by simp;omega,hv1.app (by simp[Vs,Rn]<;>omega)⟩,so2,by omega,by omega,rfl,rfl⟩
  ·refine jpk hb ⟨by omega,by omega⟩ λz1 _ _=>jbd (cs:=[I 2,I 0,I 0,I 0,I z1,I 0,I 0,I 0]) rfl rfl (jbd (cs:=[I 7,I 0,I 2,I 1,I z1,I 0,I 0,I 0]) rfl rfl (jbd (cs:=[I 6,I 1,I 2,I 0,I 0,I 0,I 0,I 0]) rfl rfl (jbd (cs:=[I 8,I 0,I 0,I 0,I 0,I 0,I 0,I 0]) rfl rfl ?_)))
   refine jbs (cs:=(([⟨2,0,0,0,z1,0,⟨0,0⟩⟩,⟨7,0,2,1,z1,0,⟨0,0⟩⟩,⟨6,1,2,0,0,0,⟨0,0⟩⟩,⟨8,0,0,0,0,0,⟨0,0⟩⟩]:List Sm.Op).map eOp).flatten) rfl rfl λbt=>?_
   refine app [⟨2,0,0,0,z1,0,⟨0,0⟩⟩,⟨7,0,2,1,z1,0,⟨0,0⟩⟩,⟨6,1,2,0,0,0,⟨0,0⟩⟩,⟨8,0,0,0,0,0,⟨0,0⟩⟩] so1 inferInstance inferInstance rfl (by simp;omega) λov2 A2 so2=>?_
   exact hK5 _ _ _ ⟨rfl,_,ov2,A2,_,by simp;omega,by simp;omega,⟨by simp;omega,hv1.app (by simp[Vs,Rn]<;>omega)⟩,so2,by omega,by omega,rfl,rfl⟩
  ·refine jpk hb ⟨by omega,by omega⟩ λz1 _ _=>jbd (cs:=[I 2,I 0,I 0,I 0,I z1,I 0,I 0,I 0]) rfl rfl (jpk hb ⟨by omega,by omega⟩ λz2 _ _=>jbd (cs:=[I 4,I 2,I 0,I 0,I 0,I z2,I 0,I 0]) rfl rfl (jbd (cs:=[I 5,I 2,I 0,I 0,I 0,I 0,I 0,I 0]) rfl rfl (jbd (cs:=[I 2,I 2,I 0,I 0,I 0,I 0,I 0,I 0]) rfl rfl (jbd (cs:=[I 8,I 0,I 0,I 0,I 0,I 0,I 0,I 0]) rfl rfl (jbd (cs:=[I 8,I 0,I 0,I 0,I 0,I 0,I 0,I 0]) rfl rfl ?_)))))
   refine jbs (cs:=(([⟨2,0,0,0,z1,0,⟨0,0⟩⟩,⟨4,2,0,0,0,z2,⟨0,0⟩⟩,⟨5,2,0,0,0,0,⟨0,0⟩⟩,⟨2,2,0,0,0,0,⟨0,0⟩⟩,⟨8,0,0,0,0,0,⟨0,0⟩⟩,⟨8,0,0,0,0,0,⟨0,0⟩⟩]:List Sm.Op).map eOp).flatten) rfl rfl λbt=>?_
   refine app [⟨2,0,0,0,z1,0,⟨0,0⟩⟩,⟨4,2,0,0,0,z2,⟨0,0⟩⟩,⟨5,2,0,0,0,0,⟨0,0⟩⟩,⟨2,2,0,0,0,0,⟨0,0⟩⟩,⟨8,0,0,0,0,0,⟨0,0⟩⟩,⟨8,0,0,0,0,0,⟨0,0⟩⟩] so1 inferInstance inferInstance rfl (by simp;omega) λov2 A2 so2=>?_
   obtain⟨l3,hl3,so3⟩:∃l3:List Sm.Op,(l3.length = l1.length + 6∧Vs l3)∧SW 122 8 (l3.map eOp) ov2 A2:=⟨_,⟨by simp,hv1.app (by simp[Vs,Rn]<;>omega)⟩,so2⟩
   obtain⟨hl3,hv3⟩:=hl3
   have hsl2:=so3.sl
   rw[List.length_map] at hsl2
   refine jln_ hsl2 (jgr (jif (λhg=>?_) (λhg=>?_)))
   ·have hg:=of_decide_eq_true hg
    refine jops so3 λR2 hR2 ho=>jslf ho (by decide) (by omega) λv' hv'=>dr_ret _ hR2 ⟨l3.take 38,⟨by rw[List.length_take];omega,λo ho=>hv3 o (List.mem_of_mem_take ho)⟩,?_⟩ (by omega) (by omega)
    unfold Ops
    rw[List.length_take,Nat.min_eq_left (by omega),← ops_take]
    exact hv'
   ·have hg:=of_decide_eq_false hg
    exact hK5 _ _ _ ⟨rfl,l3,ov2,A2,_,by omega,by omega,⟨by omega,hv3⟩,so3,by omega,by omega,rfl,rfl⟩
  ·refine jpart A1 (G:=(rb,rdO v (m' + 1 + 1 + 1)) :: F) ?_
   exact hK5 _ _ _ ⟨rfl,l1,ov1,A1,_,by omega,by omega,⟨by omega,hv1⟩,so1,by omega,by omega,rfl,rfl⟩
 rintro e Rx Dx ⟨hR,l2,ov,A,m2,q1,q2,⟨q3,hv2⟩,so2,q4,q5,hD,he⟩
 subst hR
 rw[hD];clear hD
 simp only[List.map,lc,ln,lj,and_true] at he
 simp only[he]
 refine jbd (cs:=[I 8,I 0,I 0,I 0,I 0,I 0,I 0,I 0]) rfl rfl (jbs (cs:=[I 8,I 0,I 0,I 0,I 0,I 0,I 0,I 0]) rfl rfl λbt=>?_)
 refine app [⟨8,0,0,0,0,0,⟨0,0⟩⟩] so2 inferInstance inferInstance rfl (by simp;omega) λov2 A2 so3=>?_
 exact hK3 (40 - (l2.length + 1)) _ _ _ (by omega) ⟨rfl,_,ov2,A2,_,⟨by simp;omega,hv2.app (Vs.one (by exact Rn.zero))⟩,so3,by omega,by simp;omega,rfl,rfl,by simp⟩
end draws
end Go.Lf
end
section
namespace Go.Lf
open Go Sm
@[reducible] def eCf (c:Cfg):List Value:=[I c.regions,I c.threads,I c.reserve]
theorem SO.sln {l:List Int} {v:Value} {A:Chs} (h:SO l v A):∃a c,v = .slice a l.length c:=by
 rcases h with ⟨rfl,rfl,_⟩ | ⟨b,c,sp,_,_,rfl,_⟩<;>exact⟨_,_,rfl⟩
section draws
variable {R:RM} {rb:Nat} {v:Value} {m:Int}
theorem d_l20Progs {c:Cfg} (hc:configOk c = true) (hb:Byt R v) (hm:0≤m∧m < 200000000):Dr F_s_l20Progs [.pointer (some ⟨rb,0,none⟩),.agg #[I c.regions,I c.threads,I c.reserve]] R rb v m 10000 (λx R'=>∃l:List (List Sm.Op),(l.length:Int) = c.threads∧(∀p∈l,p.length≤40∧Vs p)∧Progs R' x l):=by
 refine s_s_l20Progs λF=>?_
 unfold c_s_l20Progs
 simp only[configOk,Bool.and_eq_true,decide_eq_true_eq] at hc
 obtain⟨n,hn⟩:∃n:Nat,c.threads = n:=⟨c.threads.toNat,by omega⟩
 refine ja λb=>jperm (D':=(rb,rdO v m) :: (b,C 92 (eCf c)) :: F) (List.Perm.swap _ _ _) ?_
 refine jcutq (λvs R' D'=>R.le R'∧∃(l:List (List Sm.Op)) (rows:List (List Value)) (ov:Value) (A:Chs) (m' : Int),l.length = n∧(∀p∈l,p.length≤40∧Vs p)∧PrW R' rows l∧SW 107 1 rows ov A∧m≤m'∧m'≤m + 10000∧D' = A ++ (rb,rdO v m') :: (b,C 92 (eCf c)) :: F∧vs = [ov]) (λK hK=>?_) ?_
 rotate_left
 ·rintro e R1 D1 ⟨hR,l,rows,ov,A,m',hl,hp,hrw,so,h1,h2,hD,he⟩
  rw[hD];clear hD
  simp only[List.map,lc,ln,lj,and_true] at he
  simp only[he]
  exact jprogs so hrw λR2 hR2 ho=>dr_ret m' (hR.trans hR2) ⟨l,by omega,hp,ho⟩ h1 h2
 refine jcutq (λvs R' D'=>R.le R'∧∃(l:List (List Sm.Op)) (rows:List (List Value)) (ov:Value) (A:Chs) (m' : Int),l.length = n∧(∀p∈l,p.length≤40∧Vs p)∧PrW R' rows l∧SW 107 1 rows ov A∧m≤m'∧m'≤m + 10000∧D' = A ++ (rb,rdO v m') :: (b,C 92 (eCf c)) :: F∧vs = [ov]) (λK2 hK2=>?_) ?_
 rotate_left
 ·rintro e R1 D1 ⟨hR,l,rows,ov,A,m',hl,hp,hrw,so,h1,h2,hD,he⟩
  simp only[List.map,lc,ln,lj,and_true] at he
  simp only[he]
  exact hK _ _ _ ⟨hR,l,rows,ov,A,m',hl,hp,hrw,so,h1,h2,hD,rfl⟩
 refine jlp (λmm vs R' D'=>R.le R'∧∃(i:Nat) (l:List (List Sm.Op)) (rows:List (List Value)) (ov:Value) (A:Chs) (m' : Int),i≤n∧l.length = i∧(∀p∈l,p.length≤40∧Vs p)∧PrW R' rows l∧SW 107 1 rows ov A∧m≤m'∧m'≤m + 3000 * i∧D' = A ++ (rb,rdO v m') :: (b,C 92 (eCf c)) :: F∧vs = [.pointer (some ⟨rb,0,none⟩),.pointer (some ⟨b,0,none⟩),ov,I i]∧mm = n - i)
  (n:=n) ⟨RM.le.refl R,0,[],[],.slice none 0 0,[],m,by omega,rfl,(λp hp=>by cases hp),Rw.nil,.inl ⟨rfl,rfl,rfl⟩,by omega,by omega,rfl,rfl,by omega⟩ ?_
 rintro mm e R1 D1 K3 ⟨hR,i,l,rows,ov,A,m',hi,hl,hp,hrw,so,h1,h2,hD,he,hmm⟩ hK3
 rw[hD];clear hD
 simp only[List.map,lc,ln,lj,and_true] at he
 simp only[he]
 refine jl (v:=I c.threads) rfl (jlt (jif (λh=>?_) (λh=>?_)))
 rotate_left
 ·have h:=of_decide_eq_false h
  exact hK2 _ _ _ ⟨hR,l,rows,ov,A,m',by omega,hp,hrw,so,h1,by omega,rfl,rfl⟩
 have h:=of_decide_eq_true h
 refine jpk (hb.le hR) ⟨by omega,by omega⟩ λy _ _=>jadd ⟨by omega,by omega⟩ ?_
 obtain⟨k,hk⟩:∃k:Nat,4 + y = k:=⟨(4 + y).toNat,by omega⟩
 rw[hk]
 refine jdr (d_l20Prog (n:=k) (by omega) (hb.le hR) ⟨by omega,by omega⟩) ?_
 rintro x R2 m2 hR2 ⟨q,⟨hq,hqv⟩,hops⟩ h3 h4
 obtain⟨xa,xc,hx⟩:=Fz.sl hops
 subst hx
 refine jbs (cs:=[.slice xa q.length xc]) rfl rfl λbs=>?_
 have hrl:=hrw.1
 refine jawn [[.slice xa q.length xc]] so rfl hrw.len (λr hr=>by rw[List.mem_singleton.1 hr];rfl) rfl rfl rfl (by decide) (by rw[List.length_singleton];omega) λv' A' so'=>?_
 refine jadd ⟨by omega,by omega⟩ ?_
 refine hK3 (n - (i + 1)) _ _ _ (by omega) ⟨hR.trans hR2,i + 1,l ++ [q],_,v',A',m2,by omega,by rw[List.length_append,hl];rfl,λp hp'=>?_,(hrw.le hR2).app (Rw.one ⟨_,rfl,hops⟩),so',by omega,by omega,rfl,rfl,rfl⟩
 rcases List.mem_append.1 hp' with hp' | hp'
 ·exact hp p hp'
 ·rw[List.mem_singleton.1 hp'];exact⟨by omega,hqv⟩
def Sml (l:List Int):Prop:=∀a∈l,0≤a∧a≤9
theorem Sml.snoc {l:List Int} {x:Int} (h:Sml l) (h0:0≤x) (h1:x≤9):Sml (l ++ [x]):=λa ha=>by
 rcases List.mem_append.1 ha with ha | ha
 ·exact h a ha
 ·rw[List.mem_singleton.1 ha];exact⟨h0,h1⟩
theorem d_l20Picks {c:Cfg} {n:Nat} (hc:configOk c = true) (hn:n≤4000) (hb:Byt R v) (hm:0≤m∧m < 200000000):Dr F_s_l20Picks [.pointer (some ⟨rb,0,none⟩),.agg #[I c.regions,I c.threads,I c.reserve],I n] R rb v m 500000 (λx R'=>∃l:List Int,l.length = n∧Sml l∧Ints R' x l):=by
 refine s_s_l20Picks λF=>?_
 unfold c_s_l20Picks
 simp only[configOk,Bool.and_eq_true,decide_eq_true_eq] at hc
 refine ja λb=>jperm (D':=(rb,rdO v m) :: (b,C 92 (eCf c)) :: F) (List.Perm.swap _ _ _) ?_
 refine jcutq (λvs R' D'=>R' = R∧∃(l:List Int) (ov:Value) (A:Chs) (m' : Int),n≤l.length∧Sml l∧SO l ov A∧m≤m'∧m'≤m + 500000∧D' = A ++ (rb,rdO v m') :: (b,C 92 (eCf c)) :: F∧vs = [I n,ov]) (λK hK=>?_) ?_
 rotate_left
 ·rintro e R1 D1 ⟨hR,l,ov,A,m',hl,hp,so,h1,h2,hD,he⟩
  subst hR
  rw[hD];clear hD
  simp only[List.map,lc,ln,lj,and_true] at he
  simp only[he]
  refine jfso so λR2 hR2 hi=>jslh hi (by omega) (by omega) λv' hv'=>dr_ret m' hR2 ⟨l.take n,by rw[List.length_take];omega,λa ha=>hp a (List.mem_of_mem_take ha),by rw[Int.toNat_natCast] at hv';exact hv'⟩ h1 h2
 refine jcutq (λvs R' D'=>R' = R∧∃(l:List Int) (ov:Value) (A:Chs) (m' : Int),n≤l.length∧Sml l∧SO l ov A∧m≤m'∧m'≤m + 500000∧D' = A ++ (rb,rdO v m') :: (b,C 92 (eCf c)) :: F∧vs = [I n,ov]) (λK2 hK2=>?_) ?_
 rotate_left
 ·rintro e R1 D1 ⟨hR,l,ov,A,m',hl,hp,so,h1,h2,hD,he⟩
  simp only[List.map,lc,ln,lj,and_true] at he
  simp only[he]
  exact hK _ _ _ ⟨hR,l,ov,A,m',hl,hp,so,h1,h2,hD,rfl⟩
 refine jlp (λmm vs R' D'=>R' = R∧∃(l:List Int) (ov:Value) (A:Chs) (m' : Int),l.length≤4100∧Sml l∧SO l ov A∧m≤m'∧m'≤m + 100 * l.length∧D' = A ++ (rb,rdO v m') :: (b,C 92 (eCf c)) :: F∧vs = [.pointer (some ⟨rb,0,none⟩),I n,.pointer (some ⟨b,0,none⟩),ov]∧mm = 4100 - l.length)
  (n:=4100) ⟨rfl,[],.slice none 0 0,[],m,by decide,(λp hp=>by cases hp),.inl ⟨rfl,rfl,rfl⟩,by omega,by simp,rfl,rfl,rfl⟩ ?_
 rintro mm e R1 D1 K3 ⟨hR,l,ov,A,m',hl,hp,so,h1,h2,hD,he,hmm⟩ hK3
 subst hR
 rw[hD];clear hD
 simp only[List.map,lc,ln,lj,and_true] at he
 simp only[he]
 refine jln_ so.sln (jlt (jif (λh=>?_) (λh=>?_)))
 rotate_left
 ·have h:=of_decide_eq_false h
  exact hK2 _ _ _ ⟨rfl,l,ov,A,m',by omega,hp,so,h1,by omega,rfl,rfl⟩
 have h:=of_decide_eq_true h
 refine jcutq (λvs R' D'=>R' = R1∧∃(l2:List Int) (ov:Value) (A:Chs) (m2:Int),l.length < l2.length∧l2.length≤l.length + 80∧Sml l2∧SO l2 ov A∧m'≤m2∧m2≤m' + 80∧D' = A ++ (rb,rdO v m2) :: (b,C 92 (eCf c)) :: F∧vs = [.pointer (some ⟨rb,0,none⟩),I n,.pointer (some ⟨b,0,none⟩),ov]) (λK4 hK4=>?_) ?_
 rotate_left
 ·rintro e Rx Dx ⟨hR,l2,ov,A,m2,q1,q2,hp2,so2,q3,q4,hD,he⟩
  subst hR
  rw[hD];clear hD
  simp only[List.map,lc,ln,lj,and_true] at he
  simp only[he]
  exact hK3 (4100 - l2.length) _ _ _ (by omega) ⟨rfl,l2,ov,A,m2,by omega,hp2,so2,by omega,by omega,rfl,rfl,rfl⟩
 refine jpk hb ⟨by omega,by omega⟩ λk _ _=>jadd ⟨by omega,by omega⟩ (jl (v:=I c.threads) rfl (jadd ⟨by omega,by omega⟩ (jpk hb ⟨by omega,by omega⟩ λp _ _=>?_)))
 refine jcutq (λvs R' D'=>R' = R1∧∃k p m2:Int,1≤k∧k≤36∧0≤p∧p≤9∧m'≤m2∧m2≤m' + 3∧D' = A ++ (rb,rdO v m2) :: (b,C 92 (eCf c)) :: F∧vs = [.pointer (some ⟨rb,0,none⟩),I n,.pointer (some ⟨b,0,none⟩),ov,I k,I p]) (λK5 hK5=>?_) ?_
 ·refine jpk hb ⟨by omega,by omega⟩ λz _ _=>jeq (jif (λ_=>jl (v:=I c.threads) rfl (jmul ⟨by omega,by omega⟩ ?_)) (λ_=>?_))<;>refine jpart A (G:=(rb,rdO v (m' + 1 + 1 + 1)) :: (b,C 92 (eCf c)) :: F) ?_
  ·exact hK5 _ _ _ ⟨rfl,_,_,_,by omega,by omega,by omega,by omega,by omega,by omega,rfl,rfl⟩
  ·exact hK5 _ _ _ ⟨rfl,_,_,_,by omega,by omega,by omega,by omega,by omega,by omega,rfl,rfl⟩
 rintro e Rx Dx ⟨hR,k,p,m2,k0,k1,p0,p1,q1,q2,hD,he⟩
 subst hR
 rw[hD];clear hD
 simp only[List.map,lc,ln,lj,and_true] at he
 simp only[he]
 refine jcutq (λvs R' D'=>R' = Rx∧∃(l2:List Int) (ov:Value) (A:Chs) (m3:Int),l.length≤l2.length∧l2.length≤l.length + 1∧Sml l2∧SO l2 ov A∧m'≤m3∧m3≤m' + 4∧D' = A ++ (rb,rdO v m3) :: (b,C 92 (eCf c)) :: F∧vs = [.pointer (some ⟨rb,0,none⟩),I n,.pointer (some ⟨b,0,none⟩),ov,I k,I p]) (λK5 hK5=>?_) ?_
 ·refine jpk hb ⟨by omega,by omega⟩ λz _ _=>jeq (jif (λ_=>?_) (λ_=>?_))
  ·refine jl (v:=I c.threads) rfl (jadd ⟨by omega,by omega⟩ (jbs (cs:=[I (c.threads + 1)]) rfl rfl λbs=>jas1 so (by omega) λv' A' so'=>?_))
   exact hK5 _ _ _ ⟨rfl,_,v',A',_,by simp,by simp,hp.snoc (by omega) (by omega),so',by omega,by omega,rfl,rfl⟩
  ·refine jpart A (G:=(rb,rdO v (m2 + 1)) :: (b,C 92 (eCf c)) :: F) ?_
   exact hK5 _ _ _ ⟨rfl,l,ov,A,_,by omega,by omega,hp,so,by omega,by omega,rfl,rfl⟩
 clear so
 rintro e Ry Dy ⟨hR,l2,ov,A,m3,q3,q4,hp2,so,q5,q6,hD,he⟩
 subst hR
 rw[hD];clear hD
 simp only[List.map,lc,ln,lj,and_true] at he
 simp only[he]
 refine jpk hb ⟨by omega,by omega⟩ λz _ _=>jeq (jif (λ_=>?_) (λ_=>?_))<;>refine jpart A (G:=(rb,rdO v (m3 + 1)) :: (b,C 92 (eCf c)) :: F) ?_
 ·refine jcutq (λvs R' D'=>R' = Ry∧∃(l2:List Int) (ov:Value) (A:Chs) (m2:Int),l.length < l2.length∧l2.length≤l.length + 80∧Sml l2∧SO l2 ov A∧m'≤m2∧m2≤m' + 80∧D' = A ++ (rb,rdO v m2) :: (b,C 92 (eCf c)) :: F∧vs = [.pointer (some ⟨rb,0,none⟩),I n,.pointer (some ⟨b,0,none⟩),ov]) (λK6 hK6=>?_) ?_
  rotate_left
  ·rintro e Rz Dz ⟨hR,l2,ov,A,m2,a1,a2,a3,a4,a5,a6,hD,he⟩
   simp only[List.map,lc,ln,lj,and_true] at he
   simp only[he]
   exact hK4 _ _ _ ⟨hR,l2,ov,A,m2,a1,a2,a3,a4,a5,a6,hD,rfl⟩
  refine jcutq (λvs R' D'=>R' = Ry∧∃(l2:List Int) (ov:Value) (A:Chs) (m2:Int),l.length < l2.length∧l2.length≤l.length + 80∧Sml l2∧SO l2 ov A∧m'≤m2∧m2≤m' + 80∧D' = A ++ (rb,rdO v m2) :: (b,C 92 (eCf c)) :: F∧vs = [.pointer (some ⟨rb,0,none⟩),I n,.pointer (some ⟨b,0,none⟩),ov]) (λK7 hK7=>?_) ?_
  rotate_left
  ·rintro e Rz Dz ⟨hR,l2,ov,A,m2,a1,a2,a3,a4,a5,a6,hD,he⟩
   simp only[List.map,lc,ln,lj,and_true] at he
   simp only[he]
   exact hK6 _ _ _ ⟨hR,l2,ov,A,m2,a1,a2,a3,a4,a5,a6,hD,rfl⟩
  refine jlp (λmm vs R' D'=>R' = Ry∧∃(i:Nat) (l3:List Int) (ov:Value) (A:Chs),(i:Int)≤2 * k∧l3.length = l2.length + i∧Sml l3∧SO l3 ov A∧D' = A ++ (rb,rdO v (m3 + 1 + i)) :: (b,C 92 (eCf c)) :: F∧vs = [.pointer (some ⟨rb,0,none⟩),I n,.pointer (some ⟨b,0,none⟩),ov,I k,I i]∧mm = 72 - i)
   (n:=72) ⟨rfl,0,l2,ov,A,by omega,by omega,hp2,so,by rw[show m3 + 1 + ((0:Nat):Int) = m3 + 1 from by omega],rfl,rfl⟩ ?_
  clear so
  rintro mm e Rz Dz K8 ⟨hR,i,l3,ov,A,i0,i1,hp3,so,hD,he,hmm⟩ hK8
  subst hR
  rw[hD];clear hD
  simp only[List.map,lc,ln,lj,and_true] at he
  simp only[he]
  refine jmul ⟨by omega,by omega⟩ (jlt (jif (λh=>?_) (λh=>?_)))
  ·have h:=of_decide_eq_true h
   refine jl (v:=I c.threads) rfl (jadd ⟨by omega,by omega⟩ (jpk hb ⟨by omega,by omega⟩ λy _ _=>jbs (cs:=[I y]) rfl rfl λbs=>jas1 so (by omega) λv' A' so'=>jadd ⟨by omega,by omega⟩ ?_))
   refine hK8 (72 - (i + 1)) _ _ _ (by omega) ⟨rfl,i + 1,_,v',A',by omega,by simp;omega,hp3.snoc (by omega) (by omega),so',by rw[show m3 + 1 + ((i + 1:Nat):Int) = m3 + 1 + i + 1 from by omega],rfl,rfl⟩
  ·have h:=of_decide_eq_false h
   exact hK7 _ _ _ ⟨rfl,l3,ov,A,_,by omega,by omega,hp3,so,by omega,by omega,rfl,rfl⟩
 ·refine jcutq (λvs R' D'=>R' = Ry∧∃(l2:List Int) (ov:Value) (A:Chs) (m2:Int),l.length < l2.length∧l2.length≤l.length + 80∧Sml l2∧SO l2 ov A∧m'≤m2∧m2≤m' + 80∧D' = A ++ (rb,rdO v m2) :: (b,C 92 (eCf c)) :: F∧vs = [.pointer (some ⟨rb,0,none⟩),I n,.pointer (some ⟨b,0,none⟩),ov]) (λK7 hK7=>?_) ?_
  rotate_left
  ·rintro e Rz Dz ⟨hR,l2,ov,A,m2,a1,a2,a3,a4,a5,a6,hD,he⟩
   simp only[List.map,lc,ln,lj,and_true] at he
   simp only[he]
   exact hK4 _ _ _ ⟨hR,l2,ov,A,m2,a1,a2,a3,a4,a5,a6,hD,rfl⟩
  refine jlp (λmm vs R' D'=>R' = Ry∧∃(i:Nat) (l3:List Int) (ov:Value) (A:Chs),(i:Int)≤k∧l3.length = l2.length + i∧Sml l3∧SO l3 ov A∧D' = A ++ (rb,rdO v (m3 + 1)) :: (b,C 92 (eCf c)) :: F∧vs = [.pointer (some ⟨rb,0,none⟩),I n,.pointer (some ⟨b,0,none⟩),ov,I k,I p,I i]∧mm = 72 - i)
   (n:=72) ⟨rfl,0,l2,ov,A,by omega,by omega,hp2,so,rfl,rfl,rfl⟩ ?_
  clear so
  rintro mm e Rz Dz K8 ⟨hR,i,l3,ov,A,i0,i1,hp3,so,hD,he,hmm⟩ hK8
  subst hR
  rw[hD];clear hD
  simp only[List.map,lc,ln,lj,and_true] at he
  simp only[he]
  refine jlt (jif (λh=>?_) (λh=>?_))
  ·have h:=of_decide_eq_true h
   refine jbs (cs:=[I p]) rfl rfl λbs=>jas1 so (by omega) λv' A' so'=>jadd ⟨by omega,by omega⟩ ?_
   refine hK8 (72 - (i + 1)) _ _ _ (by omega) ⟨rfl,i + 1,_,v',A',by omega,by simp;omega,hp3.snoc (by omega) (by omega),so',rfl,rfl,rfl⟩
  ·have h:=of_decide_eq_false h
   exact hK7 _ _ _ ⟨rfl,l3,ov,A,_,by omega,by omega,hp3,so,by omega,by omega,rfl,rfl⟩
end draws
end Go.Lf
end
section
namespace Go.Lf
open Go Sm
@[reducible] def FoD (rb b p:Nat) (v:Value) (m:Int) (A F:Chs) (S:Sim) (g:Img) (c:Cfg):Chs:=(rb,rdO v m) :: (A ++ (simD p S g ++ (b,C 92 (eCf c)) :: F))
def FoC (rb b p:Nat) (v ov:Value) (m' q k:Int) (n:Nat) (A F:Chs) (S:Sim) (g:Img) (c:Cfg) (R:RM) (vs:List Value) (R' : RM) (D' : Chs):Prop:=
 R' = R∧(∃m2,m'≤m2∧m2≤m' + 2∧D' = FoD rb b p v m2 A F S g c)∧∃x u w,And2 x u w∧vs = [.pointer (some ⟨rb,0,none⟩),I n,.pointer (some ⟨b,0,none⟩),ov,.pointer (some ⟨p,0,none⟩),I q,I k,x,u]
def FoQ (rb b p:Nat) (v ov:Value) (m' : Int) (n:Nat) (A F:Chs) (S:Sim) (g:Img) (c:Cfg) (R:RM) (vs:List Value) (R' : RM) (D' : Chs):Prop:=
 R' = R∧∃q k m2:Int,0≤q∧q≤9∧1≤k∧k≤9∧m'≤m2∧m2≤m' + 15∧D' = FoD rb b p v m2 A F S g c∧vs = [.pointer (some ⟨rb,0,none⟩),I n,.pointer (some ⟨b,0,none⟩),ov,.pointer (some ⟨p,0,none⟩),I q,I k]
section draws
variable {R:RM} {rb:Nat} {v:Value} {m:Int}
theorem d_l20Focus {c:Cfg} {n:Nat} {pv:Value} {progs:List (List Sm.Op)} (hc:configOk c = true) (hpl:(progs.length:Int) = c.threads) (hp40:∀p∈progs,p.length≤40) (hp:Progs R pv progs) (hn:n≤2000) (hb:Byt R v) (hm:0≤m∧m < 200000000) :
  Dr F_s_l20Focus [.pointer (some ⟨rb,0,none⟩),.agg #[I c.regions,I c.threads,I c.reserve],pv,I n] R rb v m 500000 (λx R'=>∃l:List Int,l.length = n∧Sml l∧Ints R' x l):=by
 refine s_s_l20Focus λF=>?_
 unfold c_s_l20Focus
 have hst:storyOk c progs [] = true:=by
  unfold storyOk
  simp only[Bool.and_eq_true,decide_eq_true_eq,List.all_eq_true]
  exact⟨⟨⟨hc,hpl⟩,by simp⟩,hp40⟩
 obtain⟨g0,i0,B0⟩:=start_ok hc hpl hp40
 have hcc:=hc
 simp only[configOk,Bool.and_eq_true,decide_eq_true_eq] at hc
 refine ja λb=>jla (l:=eCf c) (by exact Nat.le_refl 3) rfl (jro (r_StoryOk hp (picks:=[]) (.inl ⟨rfl,rfl,rfl⟩)) ?_)
 rw[hst]
 refine jiff (jla (l:=eCf c) (by exact Nat.le_refl 3) rfl ?_)
 refine jc (A:=[]) (t_l8Start hcc hp) ?_
 rintro _ R1 _ hR1 ⟨p,g,rfl,rfl,ok⟩
 refine jperm (D':=FoD rb b p v m [] F (Sm.start c progs) g c) (by
  show (simD p (Sm.start c progs) g ++ ((b,C 92 (eCf c)) :: (rb,rdO v m) :: F)).Perm ((rb,rdO v m) :: (simD p (Sm.start c progs) g ++ (b,C 92 (eCf c)) :: F))
  exact ((List.Perm.swap _ _ _).append_left _).trans List.perm_middle) ?_
 refine jcutq (λvs R' D'=>R.le R'∧∃(S:Sim) (g:Img) (l:List Int) (ov:Value) (A:Chs) (m' : Int),n≤l.length∧Sml l∧SO l ov A∧m≤m'∧m'≤m + 500000∧D' = FoD rb b p v m' A F S g c∧vs = [I n,ov]) (λK hK=>?_) ?_
 rotate_left
 ·rintro e R1 D1 ⟨hR,S,g,l,ov,A,m',hl,hp,so,h1,h2,hD,he⟩
  rw[hD];clear hD
  simp only[List.map,lc,ln,lj,and_true] at he
  simp only[he]
  refine jperm List.perm_middle.symm (jfso so λR2 hR2 hi=>jslh hi (by omega) (by omega) λv' hv'=>dr_ret m' (hR.trans hR2) ⟨l.take n,by rw[List.length_take];omega,λa ha=>hp a (List.mem_of_mem_take ha),by rw[Int.toNat_natCast] at hv';exact hv'⟩ h1 h2)
 refine jcutq (λvs R' D'=>R.le R'∧∃(S:Sim) (g:Img) (l:List Int) (ov:Value) (A:Chs) (m' : Int),n≤l.length∧Sml l∧SO l ov A∧m≤m'∧m'≤m + 500000∧D' = FoD rb b p v m' A F S g c∧vs = [I n,ov]) (λK2 hK2=>?_) ?_
 rotate_left
 ·rintro e R1 D1 ⟨hR,S,g,l,ov,A,m',hl,hp,so,h1,h2,hD,he⟩
  simp only[List.map,lc,ln,lj,and_true] at he
  simp only[he]
  exact hK _ _ _ ⟨hR,S,g,l,ov,A,m',hl,hp,so,h1,h2,hD,rfl⟩
 refine jlp (λmm vs R' D'=>R.le R'∧∃(S:Sim) (g:Img) (gh:Gh) (l:List Int) (ov:Value) (A:Chs) (m' : Int),IG progs S gh∧Bd (5 * l.length) S∧Ok R' S g∧l.length≤2100∧Sml l∧SO l ov A∧m≤m'∧m'≤m + 20 * l.length∧D' = FoD rb b p v m' A F S g c∧vs = [.pointer (some ⟨rb,0,none⟩),I n,.pointer (some ⟨b,0,none⟩),ov,.pointer (some ⟨p,0,none⟩)]∧mm = 2100 - l.length)
  (n:=2100) ⟨hR1,Sm.start c progs,g,g0,[],.slice none 0 0,[],m,i0,B0,ok,by decide,(λp hp=>by cases hp),.inl ⟨rfl,rfl,rfl⟩,by omega,by simp,rfl,rfl,rfl⟩ ?_
 clear i0 B0 ok
 rintro mm e R2 D1 K3 ⟨hR,S,g,gh,l,ov,A,m',i0,B0,ok,hl,hs,so,h1,h2,hD,he,hmm⟩ hK3
 rw[hD];clear hD
 simp only[List.map,lc,ln,lj,and_true] at he
 simp only[he]
 have hb2:=hb.le hR
 refine jln_ so.sln (jlt (jif (λh=>?_) (λh=>?_)))
 rotate_left
 ·have h:=of_decide_eq_false h
  exact hK2 _ _ _ ⟨hR,S,g,l,ov,A,m',by omega,hs,so,h1,by omega,rfl,rfl⟩
 have h:=of_decide_eq_true h
 refine jcutq (λvs R' D'=>R2.le R'∧∃(S:Sim) (g:Img) (gh:Gh) (l2:List Int) (ov:Value) (A:Chs) (m2:Int),IG progs S gh∧Bd (5 * l2.length) S∧Ok R' S g∧l.length < l2.length∧l2.length≤l.length + 9∧Sml l2∧SO l2 ov A∧m'≤m2∧m2≤m' + 15∧D' = FoD rb b p v m2 A F S g c∧vs = [.pointer (some ⟨rb,0,none⟩),I n,.pointer (some ⟨b,0,none⟩),ov,.pointer (some ⟨p,0,none⟩)]) (λK4 hK4=>?_) ?_
 rotate_left
 ·rintro e Rx Dx ⟨hRx,S,g,gh,l2,ov,A,m2,i0,B0,ok,q1,q2,hs2,so2,q3,q4,hD,he⟩
  rw[hD];clear hD
  simp only[List.map,lc,ln,lj,and_true] at he
  simp only[he]
  exact hK3 (2100 - l2.length) _ _ _ (by omega) ⟨hR.trans hRx,S,g,gh,l2,ov,A,m2,i0,B0,ok,by omega,hs2,so2,by omega,by omega,rfl,rfl,rfl⟩
 refine jl (v:=I c.threads) rfl (jadd ⟨by omega,by omega⟩ (jpk hb2 ⟨by omega,by omega⟩ λq0 _ _=>?_))
 refine jcutq (FoQ rb b p v ov m' n A F S g c R2) (λK5 hK5=>?_) ?_
 ·refine jcutq (FoQ rb b p v ov m' n A F S g c R2) (λK6 hK6=>?_) ?_
  rotate_left
  ·rintro e Rx Dx ⟨hRx,q,k,m2,q1,q2,q3,q4,q5,q6,hD,he⟩
   simp only[List.map,lc,ln,lj,and_true] at he
   simp only[he]
   exact hK5 _ _ _ ⟨hRx,q,k,m2,q1,q2,q3,q4,q5,q6,hD,rfl⟩
  have fin:∀q k m2:Int,0≤q→q≤9→1≤k→k≤9→m'≤m2→m2≤m' + 15→J R2 (FoD rb b p v m2 A F S g c) (K6 [.pointer (some ⟨rb,0,none⟩),I n,.pointer (some ⟨b,0,none⟩),ov,.pointer (some ⟨p,0,none⟩),I q,I k]):=λq k m2 a1 a2 a3 a4 a5 a6=>hK6 _ _ _ ⟨rfl,q,k,m2,a1,a2,a3,a4,a5,a6,rfl,rfl⟩
  clear hK3 hK4 hK5 hK6
  have cnd:∀(m0:Int) (K:List Value→M),(∀vs R' D',FoC rb b p v ov m0 q0 1 n A F S g c R2 vs R' D'→J R' D' (K vs))→∀m2,m0≤m2→m2≤m0 + 2→∀x u w,And2 x u w→J R2 (FoD rb b p v m2 A F S g c) (K [.pointer (some ⟨rb,0,none⟩),I n,.pointer (some ⟨b,0,none⟩),ov,.pointer (some ⟨p,0,none⟩),I q0,I 1,x,u]):=λm0 K hK m2 a1 a2 x u w ha=>hK _ _ _ ⟨rfl,⟨m2,a1,a2,rfl⟩,x,u,w,ha,rfl⟩
  refine jcutq (FoC rb b p v ov (m' + 1) q0 1 n A F S g c R2) (λK7 hK7=>?_) ?_
  ·refine jl (v:=I S.phase) rfl (jeq (jgtt (λh=>jl (v:=.bool S.stop) rfl ?_) (λh=>?_)))
   ·exact cnd _ _ hK7 _ (by omega) (by omega) _ _ _ (h▸and2_t)
   ·exact cnd _ _ hK7 _ (by omega) (by omega) _ _ _ (h▸and2_f)
  rintro e Rx Dx ⟨hRx,⟨m2,a1,a2,hD⟩,x,u,w,ha,he⟩
  subst hRx
  rw[hD];clear hD
  simp only[List.map,lc,ln,lj,and_true] at he
  simp only[he]
  refine jcutq (FoC rb b p v ov m2 q0 1 n A F S g c Rx) (λK7 hK7=>?_) ?_
  ·rw[ha]
   refine jgtt (λh=>jl (v:=.bool S.col.asked) rfl ?_) (λh=>?_)
   ·exact cnd _ _ hK7 _ (by omega) (by omega) _ _ _ (h▸and2_t)
   ·exact cnd _ _ hK7 _ (by omega) (by omega) _ _ _ (h▸and2_f)
  clear ha
  rintro e Ry Dx ⟨hRx,⟨m3,a3,a4,hD⟩,x,u,w,ha,he⟩
  subst hRx
  rw[hD];clear hD
  simp only[List.map,lc,ln,lj,and_true] at he
  simp only[he]
  refine jcutq (FoC rb b p v ov m3 q0 1 n A F S g c Ry) (λK7 hK7=>?_) ?_
  ·rw[ha]
   refine jgtt (λh=>jpk hb2 ⟨by omega,by omega⟩ λy _ _=>jeq ?_) (λh=>?_)
   ·exact cnd _ _ hK7 _ (by omega) (by omega) _ _ _ (h▸and2_t)
   ·exact cnd _ _ hK7 _ (by omega) (by omega) _ _ _ (h▸and2_f)
  clear ha
  rintro e Rx Dx ⟨hRx,⟨m4,a5,a6,hD⟩,x,u,w,ha,he⟩
  subst hRx
  rw[hD];clear hD
  simp only[List.map,lc,ln,lj,and_true] at he
  simp only[he]
  rw[ha]
  refine jif (λh=>jl (v:=I c.threads) rfl (jadd ⟨by omega,by omega⟩ ?_)) (λh=>?_)
  ·exact fin _ _ _ (by omega) (by omega) (by omega) (by omega) (by omega) (by omega)
  clear ha
  refine jcutq (FoC rb b p v ov m4 q0 1 n A F S g c Rx) (λK7 hK7=>?_) ?_
  ·refine jl (v:=I S.phase) rfl (jeq (jgtt (λh=>jl (v:=.bool S.stop) rfl ?_) (λh=>?_)))
   ·exact cnd _ _ hK7 _ (by omega) (by omega) _ _ _ (h▸and2_t)
   ·exact cnd _ _ hK7 _ (by omega) (by omega) _ _ _ (h▸and2_f)
  rintro e Ry Dx ⟨hRx,⟨m5,a7,a8,hD⟩,x,u,w,ha,he⟩
  subst hRx
  rw[hD];clear hD
  simp only[List.map,lc,ln,lj,and_true] at he
  simp only[he]
  rw[ha]
  refine jif (λh=>jpk hb2 ⟨by omega,by omega⟩ λy _ _=>jadd ⟨by omega,by omega⟩ ?_) (λh=>?_)
  ·exact fin _ _ _ (by omega) (by omega) (by omega) (by omega) (by omega) (by omega)
  clear ha
  refine jcutq (FoC rb b p v ov m5 q0 1 n A F S g c Ry) (λK7 hK7=>?_) ?_
  ·refine jl (v:=I S.phase) rfl (jeq (jgtt (λh=>jpk hb2 ⟨by omega,by omega⟩ λy _ _=>jgr ?_) (λh=>?_)))
   ·exact cnd _ _ hK7 _ (by omega) (by omega) _ _ _ (h▸and2_t)
   ·exact cnd _ _ hK7 _ (by omega) (by omega) _ _ _ (h▸and2_f)
  rintro e Rx Dx ⟨hRx,⟨m6,a9,a10,hD⟩,x,u,w,ha,he⟩
  subst hRx
  rw[hD];clear hD
  simp only[List.map,lc,ln,lj,and_true] at he
  simp only[he]
  rw[ha]
  refine jif (λh=>jl (v:=I c.threads) rfl (jpk hb2 ⟨by omega,by omega⟩ λy _ _=>jadd ⟨by omega,by omega⟩ ?_)) (λh=>?_)
  ·exact fin _ _ _ (by omega) (by omega) (by omega) (by omega) (by omega) (by omega)
  clear ha
  refine jcutq (FoC rb b p v ov m6 q0 1 n A F S g c Rx) (λK7 hK7=>?_) ?_
  ·refine jl (v:=.bool S.stop) rfl (jgtt (λh=>jpk hb2 ⟨by omega,by omega⟩ λy _ _=>jeq ?_) (λh=>?_))
   ·exact cnd _ _ hK7 _ (by omega) (by omega) _ _ _ (h▸and2_t)
   ·exact cnd _ _ hK7 _ (by omega) (by omega) _ _ _ (h▸and2_f)
  rintro e Ry Dx ⟨hRx,⟨m7,a11,a12,hD⟩,x,u,w,ha,he⟩
  subst hRx
  rw[hD];clear hD
  simp only[List.map,lc,ln,lj,and_true] at he
  simp only[he]
  rw[ha]
  refine jif (λh=>jl (v:=I c.threads) rfl ?_) (λh=>?_)
  ·exact fin _ _ _ (by omega) (by omega) (by omega) (by omega) (by omega) (by omega)
  ·exact fin _ _ _ (by omega) (by omega) (by omega) (by omega) (by omega) (by omega)
 rintro e Rx Dx ⟨hRx,q,k,m2,q1,q2,q3,q4,q5,q6,hD,he⟩
 subst hRx
 rw[hD];clear hD
 simp only[List.map,lc,ln,lj,and_true] at he
 simp only[he]
 refine jcutq (λvs R' D'=>Rx.le R'∧∃(S:Sim) (g:Img) (gh:Gh) (l2:List Int) (ov:Value) (A:Chs) (m2:Int),IG progs S gh∧Bd (5 * l2.length) S∧Ok R' S g∧l.length < l2.length∧l2.length≤l.length + 9∧Sml l2∧SO l2 ov A∧m'≤m2∧m2≤m' + 15∧D' = FoD rb b p v m2 A F S g c∧vs = [.pointer (some ⟨rb,0,none⟩),I n,.pointer (some ⟨b,0,none⟩),ov,.pointer (some ⟨p,0,none⟩)]) (λK7 hK7=>?_) ?_
 rotate_left
 ·rintro e Rz Dx hx
  obtain⟨hRz,S,g,gh,l2,ov,A,m2,i0,B0,ok,q1,q2,hs2,so2,q3,q4,hD,he⟩:=hx
  simp only[List.map,lc,ln,lj,and_true] at he
  simp only[he]
  exact hK4 _ _ _ ⟨hRz,S,g,gh,l2,ov,A,m2,i0,B0,ok,q1,q2,hs2,so2,q3,q4,hD,rfl⟩
 refine jlp (λmm vs R' D'=>Rx.le R'∧∃(i:Nat) (S:Sim) (g:Img) (gh:Gh) (l2:List Int) (ov:Value) (A:Chs),(i:Int)≤k∧IG progs S gh∧Bd (5 * l2.length) S∧Ok R' S g∧l2.length = l.length + i∧Sml l2∧SO l2 ov A∧D' = FoD rb b p v m2 A F S g c∧vs = [.pointer (some ⟨rb,0,none⟩),I n,.pointer (some ⟨b,0,none⟩),ov,.pointer (some ⟨p,0,none⟩),I q,I k,I i]∧mm = 9 - i)
  (n:=9) ⟨RM.le.refl _,0,S,g,gh,l,ov,A,by omega,i0,B0,ok,by omega,hs,so,rfl,rfl,rfl⟩ ?_
 clear i0 B0 ok so hs
 rintro mm e Ry Dy K8 ⟨hRy,i,S,g,gh,l2,ov,A,hi,i0,B0,ok,hl2,hs,so,hD,he,hmm⟩ hK8
 rw[hD];clear hD
 simp only[List.map,lc,ln,lj,and_true] at he
 simp only[he]
 refine jlt (jif (λh=>?_) (λh=>?_))
 rotate_left
 ·have h:=of_decide_eq_false h
  exact hK7 _ _ _ ⟨hRy,S,g,gh,l2,ov,A,m2,i0,B0,ok,by omega,by omega,hs,so,by omega,by omega,rfl,rfl⟩
 have h:=of_decide_eq_true h
 obtain⟨S2,gh2,i2,B2,-,ht⟩:=t_pickI (p:=p) (a:=q) i0 B0 (by omega) ⟨by omega,by omega⟩
 refine jcS (p:=p) (by exact ht _ _ ok) λ_ R3 g3 hR3 _ ok3=>?_
 refine jperm (D':=FoD rb b p v m2 A F S2 g3 c) (List.perm_middle.trans ((List.perm_append_comm_assoc _ _ _).cons _)) ?_
 refine jbs (cs:=[I q]) rfl rfl λbs=>jas1 so (by omega) λv' A' so'=>jadd ⟨by omega,by omega⟩ (jperm List.perm_middle ?_)
 refine hK8 (9 - (i + 1)) _ _ _ (by omega) ⟨hRy.trans hR3,i + 1,S2,g3,gh2,_,v',A',by omega,i2,?_,ok3,by simp;omega,hs.snoc (by omega) (by omega),so',rfl,rfl,rfl⟩
 rw[List.length_append,List.length_singleton,Nat.mul_add]
 exact B2
end draws
end Go.Lf
end
section
namespace Go.Lf
open Go Sm
section draws
variable {R:RM} {rb:Nat} {v:Value} {m:Int}
def QStory (x:Value) (R:RM):Prop:=∃(c:Cfg) (progs:List (List Sm.Op)) (picks:List Int) (pv kv:Value),x = .tuple #[.agg #[I c.regions,I c.threads,I c.reserve],pv,kv]∧(storyOk c progs picks = true∧∀p∈progs,Vs p)∧Sml picks∧Progs R pv progs∧Ints R kv picks
theorem story_ok {c:Cfg} {progs:List (List Sm.Op)} {picks:List Int} (hc:configOk c = true) (hl:(progs.length:Int) = c.threads) (hp:∀p∈progs,p.length≤40) (hk:picks.length≤4000):storyOk c progs picks = true:=by
 unfold storyOk
 simp only[Bool.and_eq_true,decide_eq_true_eq,List.all_eq_true]
 exact⟨⟨⟨hc,hl⟩,hk⟩,hp⟩
theorem Progs.sl {v:Value} {l:List (List Sm.Op)} (H:Progs R v l):∃a c,v = .slice a l.length c:=by
 obtain⟨vs,h,_⟩:=H
 exact h.sl
theorem d_l20Busy (hb:Byt R v) (hm:0≤m∧m < 150000000):Dr F_s_l20Busy [.pointer (some ⟨rb,0,none⟩)] R rb v m 1000000 QStory:=by
 refine s_s_l20Busy λF=>?_
 unfold c_s_l20Busy
 refine ja λb1=>jpk hb ⟨by omega,by omega⟩ λy1 _ _=>jadd ⟨by omega,by omega⟩ (jpk hb ⟨by omega,by omega⟩ λy2 _ _=>jadd ⟨by omega,by omega⟩ ?_)
 refine jbs (cs:=[I 32,I 48,I 100,I 16]) rfl rfl λb6=>jpk hb ⟨by omega,by omega⟩ λy3 _ _=>jia (by omega) (by omega) ?_
 have h3:=sel_in (l:=[32,48,100,16]) (x:=y3) (by omega) (by show _ < (4:Int);omega)
 refine jl (sel_get [32,48,100,16] (by omega) (by show _ < (4:Int);omega)) ?_
 generalize sel [32,48,100,16] y3 = y at h3
 simp only[List.mem_cons,List.not_mem_nil,or_false] at h3
 obtain⟨c,hcf⟩:∃c:Cfg,c = ⟨5 + y1,1 + y2,y⟩:=⟨_,rfl⟩
 have hc:configOk c = true:=by
  rw[hcf]
  simp only[configOk,Bool.and_eq_true,decide_eq_true_eq];omega
 refine jbd (cs:=eCf c) rfl (by rw[hcf];rfl) (ja λb=>js (cs':=eCf c) rfl rfl (by exact Nat.le_refl 3) rfl ?_)
 obtain⟨n,hn⟩:∃n:Nat,c.threads = n:=⟨c.threads.toNat,by rw[hcf];show 1 + y2 = ((1 + y2).toNat:Int);omega⟩
 have hcc:=hc
 simp only[configOk,Bool.and_eq_true,decide_eq_true_eq] at hcc
 refine jk3 (F:=F) rb b b1 ?_
 refine jcutq (λvs R' D'=>R.le R'∧∃(l:List (List Sm.Op)) (rows:List (List Value)) (ov:Value) (A:Chs) (m' : Int),l.length = n∧(∀p∈l,p.length≤40∧Vs p)∧PrW R' rows l∧SW 107 1 rows ov A∧m≤m'∧m'≤m + 10000∧D' = A ++ (rb,rdO v m') :: (b,C 92 (eCf c)) :: (b1,C 92 (cl z92)) :: F∧vs = [.pointer (some ⟨rb,0,none⟩),.pointer (some ⟨b1,0,none⟩),.pointer (some ⟨b,0,none⟩),ov]) (λK hK=>?_) ?_
 ·refine jcutq (λvs R' D'=>R.le R'∧∃(l:List (List Sm.Op)) (rows:List (List Value)) (ov:Value) (A:Chs) (m' : Int),l.length = n∧(∀p∈l,p.length≤40∧Vs p)∧PrW R' rows l∧SW 107 1 rows ov A∧m≤m'∧m'≤m + 10000∧D' = A ++ (rb,rdO v m') :: (b,C 92 (eCf c)) :: (b1,C 92 (cl z92)) :: F∧vs = [.pointer (some ⟨rb,0,none⟩),.pointer (some ⟨b1,0,none⟩),.pointer (some ⟨b,0,none⟩),ov]) (λK2 hK2=>?_) ?_
  rotate_left
  ·rintro e R1 D1 ⟨hR,l,rows,ov,A,m',hl,hp,hrw,so,h1,h2,hD,he⟩
   simp only[List.map,lc,ln,lj,and_true] at he
   simp only[he]
   exact hK _ _ _ ⟨hR,l,rows,ov,A,m',hl,hp,hrw,so,h1,h2,hD,rfl⟩
  refine jlp (λmm vs R' D'=>R.le R'∧∃(i:Nat) (l:List (List Sm.Op)) (rows:List (List Value)) (ov:Value) (A:Chs) (m' : Int),i≤n∧l.length = i∧(∀p∈l,p.length≤40∧Vs p)∧PrW R' rows l∧SW 107 1 rows ov A∧m≤m'∧m'≤m + 10 + 1100 * i∧D' = A ++ (rb,rdO v m') :: (b,C 92 (eCf c)) :: (b1,C 92 (cl z92)) :: F∧vs = [.pointer (some ⟨rb,0,none⟩),.pointer (some ⟨b1,0,none⟩),.pointer (some ⟨b,0,none⟩),ov,I i]∧mm = n - i)
   (n:=n) ⟨RM.le.refl R,0,[],[],.slice none 0 0,[],m + 1 + 1 + 1,by omega,rfl,(λp hp=>by cases hp),Rw.nil,.inl ⟨rfl,rfl,rfl⟩,by omega,by omega,rfl,rfl,by omega⟩ ?_
  rintro mm e R1 D1 K3 ⟨hR,i,l,rows,ov,A,m',hi,hl,hp,hrw,so,h1,h2,hD,he,hmm⟩ hK3
  rw[hD];clear hD
  simp only[List.map,lc,ln,lj,and_true] at he
  simp only[he]
  refine jl (v:=I c.threads) rfl (jlt (jif (λh=>?_) (λh=>?_)))
  rotate_left
  ·have h:=of_decide_eq_false h
   exact hK2 _ _ _ ⟨hR,l,rows,ov,A,m',by omega,hp,hrw,so,h1,by omega,rfl,rfl⟩
  have h:=of_decide_eq_true h
  refine jpk (hb.le hR) ⟨by omega,by omega⟩ λz _ _=>jadd ⟨by omega,by omega⟩ ?_
  obtain⟨k,hk⟩:∃k:Nat,20 + z = k:=⟨(20 + z).toNat,by omega⟩
  rw[hk]
  refine jdr (d_l20Churn (n:=k) (by omega) (hb.le hR) ⟨by omega,by omega⟩) ?_
  rintro x R2 m2 hR2 ⟨q,⟨hq,hqv⟩,hops⟩ h5 h6
  obtain⟨xa,xc,hx⟩:=Fz.sl hops
  subst hx
  refine jbs (cs:=[.slice xa q.length xc]) rfl rfl λbs=>?_
  have hrl:=hrw.1
  refine jawn [[.slice xa q.length xc]] so rfl hrw.len (λr hr=>by rw[List.mem_singleton.1 hr];rfl) rfl rfl rfl (by decide) (by rw[List.length_singleton];omega) λv' A' so'=>?_
  refine jadd ⟨by omega,by omega⟩ ?_
  refine hK3 (n - (i + 1)) _ _ _ (by omega) ⟨hR.trans hR2,i + 1,l ++ [q],_,v',A',m2,by omega,by rw[List.length_append,hl];rfl,λp hp'=>?_,(hrw.le hR2).app (Rw.one ⟨_,rfl,hops⟩),so',by omega,by omega,rfl,rfl,rfl⟩
  rcases List.mem_append.1 hp' with hp' | hp'
  ·exact hp p hp'
  ·rw[List.mem_singleton.1 hp'];exact⟨hq,hqv⟩
 rintro e R1 D1 ⟨hR,l,rows,ov,A,m',hl,hp,hrw,so,h1,h2,hD,he⟩
 rw[hD];clear hD
 simp only[List.map,lc,ln,lj,and_true] at he
 simp only[he]
 refine jprogs so hrw λR2 hR2 ho=>?_
 have hb2:=hb.le (hR.trans hR2)
 refine jla (l:=eCf c) (by exact Nat.le_refl 3) rfl (jla (l:=eCf c) (by exact Nat.le_refl 3) rfl (jpk hb2 ⟨by omega,by omega⟩ λz _ _=>jadd ⟨by omega,by omega⟩ ?_))
 refine jand (jla (l:=eCf c) (by exact Nat.le_refl 3) rfl jev) (jand (jla (l:=eCf c) (by exact Nat.le_refl 3) rfl jev) ?_)
 obtain⟨k,hk⟩:∃k:Nat,150 + z = k:=⟨(150 + z).toNat,by omega⟩
 rw[hk]
 refine jdr (d_l20Focus (n:=k) hc (by omega) (λp h=>(hp p h).1) ho (by omega) hb2 ⟨by omega,by omega⟩) ?_
 rintro x R3 m3 hR3 ⟨q,hq,hs,hi⟩ h5 h6
 refine jand (jla (l:=eCf c) (by exact Nat.le_refl 3) rfl jev) ?_
 refine js (cs':=eCf c) rfl rfl (by exact Nat.le_refl 3) rfl (jla (l:=eCf c) (by exact Nat.le_refl 3) rfl ?_)
 exact dr_ret m3 ((hR.trans hR2).trans hR3) ⟨c,l,q,ov,x,rfl,⟨story_ok hc (by omega) (λp h=>(hp p h).1) (by omega),λp h=>(hp p h).2⟩,hs,ho.le hR3,hi⟩ (by omega) (by omega)
end draws
end Go.Lf
end
section
namespace Go.Lf
open Go Sm
structure StB (r:Nat) (s:Sm.State):Prop where
 wr:∀x∈s.words,Rn x
 wl:s.words.length = 16 * s.table.length
 t0:2≤s.table.length
 t1:s.table.length≤12
 tp:∀x∈s.table,-100 * (r:Int)≤x.top∧x.top≤100 * r
 n0:1≤s.threads.length
 n1:s.threads.length≤3
 rl:∀t∈s.threads,t.roots.length≤r
 pl:s.pins.length≤8
 pv:∀a∈s.pins,0≤a∧a≤1000
 ol:s.old.length≤100000
 ml:s.marks.length = s.words.length
 cy:0≤s.cycles∧s.cycles≤100000
 fu:0≤s.fulls∧s.fulls≤100000
theorem play_rn {c0:Cfg} {progs:List (List Sm.Op)} {picks:List Int} {S' : Sim} (hok:storyOk c0 progs picks = true) (hv:∀p∈progs,Vs p) (h:Sim.picks picks (Sm.start c0 progs) = some S'):RS S':=by
 obtain⟨h1,h2,h3,h4⟩:=storyOk_iff hok
 obtain⟨g0,I0,B0⟩:=start_ok h1 h2 h4
 exact picks_rn picks 0 _ S' g0 (by omega) I0 B0 (start_rn hv) h
theorem view_b {P0:List (List Sm.Op)} {S:Sim} {gh:Gh} (i0:IG P0 S gh) (B:Bd 20000 S) (hr:RS S):StB 8 S.view:=by
 have T:=i0.sh.g.ok
 have n0:=T.n0
 have n1:=T.n1
 have hl:=i0.sh.g.len
 have hl:(S.words.length:Int) = 16 * S.table.length:=hl
 have wl:=i0.wl
 refine⟨hr.w,by show S.words.length = 16 * S.table.length;omega,n0,n1,λx hx=>?_,by show 1≤(S.th.map _).length;rw[List.length_map];exact i0.n0,by show (S.th.map _).length≤3;rw[List.length_map];exact i0.n1,λt ht=>?_,B.pn,λa ha=>?_,by have:=B.old;show S.old.length≤_;omega,i0.sh.ml,⟨B.cy.1,by have:=B.cy.2;show S.cycles≤_;omega⟩,⟨B.fu.1,by have:=B.fu.2;show S.fulls≤_;omega⟩⟩
 ·have hx:x∈S.table:=hx
  have n1:S.table.length≤12:=n1
  obtain⟨k,hk,rfl⟩:=List.getElem_of_mem hx
  by_cases h0:k = 0
  ·subst h0
   have:=T.e
   rw[show (0:Int) = ((0:Nat):Int) from rfl] at this
   have e:=(rv_at (t:=S.table) hk).symm.trans this
   rw[e];decide
  ·have r:=T.row k (by omega) (by show (k:Int) < S.table.length;omega)
   have e:=rv_at (t:=S.table) hk
   have t0:=r.t0
   have t1:=r.t1
   have e' : rv (xof S gh).t k = S.table[k]:=e
   rw[e'] at t0 t1
   omega
 ·obtain⟨t',ht',rfl⟩:=List.mem_map.1 ht
  have:=i0.roots t' ht'
  show t'.roots.length≤8;omega
 ·have h1:=i0.sh.pl a ha
  obtain⟨h4,_,_,_,_,h5,h6,_⟩:=i0.sh.g.inn (i0.sh.lb a h1.1)
  have h5:a + sz S.words a≤S.words.length:=h5
  have h6:2≤sz S.words a:=h6
  omega
theorem StB.mono {s:Sm.State} (h:StB 8 s):StB 9 s:={ h with rl:=λt ht=>(by have:=h.rl t ht;omega),tp:=λx hx=>(by have:=h.tp x hx;omega) }
theorem StB.row {s:Sm.State} (h:StB 8 s) (k:Nat) {x:Rg} (h0:-900≤x.top) (h1:x.top≤900):StB 9 { s with table:=s.table.set k x }:=
 { h.mono with wl:=by simpa using h.wl,t0:=by simpa using h.t0,t1:=by simpa using h.t1,tp:=λy hy=>(by
   rcases List.mem_or_eq_of_mem_set hy with hy | hy
   ·exact h.mono.tp y hy
   ·subst hy;omega) }
def StQ (rl rb b16 b1:Nat) (v:Value) (m c:Int) (F:Chs) (R:RM) (D:Chs):Prop:=
 ∃(s:Sm.State) (rows:List (List Value)) (thv mv ov pv:Value) (A:Chs) (wb nw wc:Nat) (wsp:List Value) (tb nt tc:Nat) (tsp:List Value) (m' : Int),
  StB rl s∧s.words.length = nw∧nw≤wc∧s.table.length = nt∧nt≤tc∧Rw (ThrC R) rows s.threads∧SW 103 4 rows thv A∧Bls R mv s.marks∧Ints R ov s.old∧Ints R pv s.pins∧m≤m'∧m'≤m + c∧
  D = (rb,rdO v m') :: (b16,C T_State (eSt s (.slice (some ⟨wb,0,none⟩) nw wc) (.slice (some ⟨tb,0,none⟩) nt tc) mv thv ov pv)) :: (A ++ (wb,C T_int (s.words.map I ++ wsp)) :: (tb,C T_Region (rowsE eRg s.table ++ tsp)) :: (b1,C T_State (cl z74)) :: F)
def DSt (R:RM) (rb:Nat) (v:Value) (m c:Int) (x:Value) (R' : RM) (A:Chs):Prop:=
 ∃(s:Sm.State) (wv mv thv ov pv:Value) (tb tc:Nat) (tsp:List Value) (m' : Int),StB 9 s∧Ints R' wv s.words∧Bls R' mv s.marks∧Ths R' thv s.threads∧Ints R' ov s.old∧Ints R' pv s.pins∧s.table.length≤tc∧m≤m'∧m'≤m + c∧
  x = .agg (eSt s wv (.slice (some ⟨tb,0,none⟩) s.table.length tc) mv thv ov pv).toArray∧A = [(rb,rdO v m'),(tb,C T_Region (rowsE eRg s.table ++ tsp))]
theorem st_flat {s:Sm.State} {mv ov pv thv:Value} {x:Option Addr} {y:Option Addr} {l q l2 q2:Nat} (h1:flat mv = true) (h2:flat thv = true) (h3:flat ov = true) (h4:flat pv = true):allFlat (eSt s (.slice x l q) (.slice y l2 q2) mv thv ov pv) = true:=by
 show (true && (true && (flat mv && (true && (true && (true && (true && (true && (flat thv && (flat ov && (flat pv && (true && (true && true))))))))))))) = true
 rw[h1,h2,h3,h4];rfl
theorem jfront {R:RM} {D E:Chs} {o:Obj} {m:M} (b:Nat) [t:Tk D b o E] (H:J R ((b,o) :: E) m):J R D m:=λh hs=>H h (hs.perm t.p)
theorem SW.flat {t w:Nat} {rows:List (List Value)} {v:Value} {A:Chs} (h:SW t w rows v A):flat v = true:=by
 obtain⟨a,c,e⟩:=h.sl
 rw[e];rfl
theorem jjunk {R:RM} {X D E:Chs} {m:M} (hp:D.Perm (X ++ E)) (H:J R E m):J R D m:=λh hs=>H h ((hs.perm hp).drop)
theorem th0 {R:RM} {rows:List (List Value)} {l:List Th} {thv:Value} {A:Chs} (hrw:Rw (ThrC R) rows l) (so:SW 103 4 rows thv A) (hn:1≤l.length):∃t ts rv rr b c sp,l = t :: ts∧rows = [rv,I t.next,.bool t.busy,I t.tried] :: rr∧Ints R rv t.roots∧Rw (ThrC R) rr ts∧
  rows.length≤c∧sp.length = (c - rows.length) * 4∧thv = .slice (some ⟨b,0,none⟩) rows.length c∧A = [(b,C 103 (rows.flatten ++ sp))]:=by
 cases l with
 | nil=>simp at hn
 | cons t ts=>
  cases rows with
  | nil=>have:=hrw.1;simp at this
  | cons r0 rr=>
   obtain⟨rv,e,hi⟩:=hrw.2 0 (by simp) (by simp)
   simp only[List.getElem_cons_zero] at e hi
   subst e
   rcases so with ⟨h,_,_⟩ | ⟨b,c,sp,h1,h2,h3,h4⟩
   ·cases h
   ·refine⟨t,ts,rv,rr,b,c,sp,rfl,rfl,hi,⟨by have:=hrw.1;simpa using this,λi h h'=>?_⟩,h1,h2,h3,h4⟩
    have:=hrw.2 (i + 1) (by simpa using h) (by simpa using h')
    simpa using this
section draws
variable {R:RM} {rb:Nat} {v:Value} {m:Int}
theorem d_l20State (hb:Byt R v) (hm:0≤m∧m < 100000000):Fn P F_s_l20State [.pointer (some ⟨rb,0,none⟩)] R [(rb,rdO v m)] (DSt R rb v m 2000000):=by
 refine s_s_l20State λF=>?_
 unfold c_s_l20State
 refine ja λb1=>jdr (d_l20Config hb ⟨by omega,by omega⟩) ?_
 rintro _ R1 m1 - ⟨hR1,c,rfl,hc⟩ g1 g2
 subst hR1
 refine ja λb3=>js (cs':=eCf c) rfl rfl (by exact Nat.le_refl 3) rfl (jla (l:=eCf c) (by exact Nat.le_refl 3) rfl ?_)
 refine jdr (d_l20Progs hc hb ⟨by omega,by omega⟩) ?_
 rintro pv R2 m2 hR2 ⟨progs,hpl,hp40,hp⟩ g3 g4
 have hb2:=hb.le hR2
 refine jla (l:=eCf c) (by exact Nat.le_refl 3) rfl (jpk hb2 ⟨by omega,by omega⟩ λz _ _=>jadd ⟨by omega,by omega⟩ (jand (jla (l:=eCf c) (by exact Nat.le_refl 3) rfl jev) ?_))
 obtain⟨n,hn⟩:∃n:Nat,40 + z = n:=⟨(40 + z).toNat,by omega⟩
 rw[hn]
 refine jdr (d_l20Picks hc (n:=n) (by omega) hb2 ⟨by omega,by omega⟩) ?_
 rintro kv R3 m3 hR3 ⟨picks,hkl,hks,hk⟩ g5 g6
 have hb3:=hb2.le hR3
 refine jk3 (F:=F) rb b3 b1 ?_
 refine jcutq (λvs R' D'=>R3.le R'∧∃(c:Cfg) (progs:List (List Sm.Op)) (picks:List Int) (pv kv:Value) (m4:Int),(storyOk c progs picks = true∧∀p∈progs,Vs p)∧Sml picks∧Progs R' pv progs∧Ints R' kv picks∧m≤m4∧m4≤m + 1600000∧D' = (rb,rdO v m4) :: (b3,C 92 (eCf c)) :: (b1,C T_State (cl z74)) :: F∧vs = [.pointer (some ⟨rb,0,none⟩),.pointer (some ⟨b1,0,none⟩),.pointer (some ⟨b3,0,none⟩),pv,kv]) (λK hK=>?_) ?_
 ·refine jpk hb3 ⟨by omega,by omega⟩ λy _ _=>jgr (jif (λ_=>?_) (λ_=>?_))
  ·refine jdr (d_l20Busy hb3 ⟨by omega,by omega⟩) ?_
   rintro _ R4 m4 hR4 ⟨c',progs',picks',pv',kv',rfl,hok,hs',hp',hk'⟩ g7 g8
   refine jex rfl (jex rfl (jex rfl (js (cs':=eCf c') rfl rfl (by exact Nat.le_refl 3) rfl ?_)))
   exact hK _ _ _ ⟨hR4,c',progs',picks',pv',kv',m4,hok,hs',hp',hk',by omega,by omega,rfl,rfl⟩
  ·exact hK _ _ _ ⟨RM.le.refl _,c,progs,picks,pv,kv,_,⟨story_ok hc hpl (λp h=>(hp40 p h).1) (by omega),λp h=>(hp40 p h).2⟩,hks,hp.le hR3,hk,by omega,by omega,rfl,rfl⟩
 have hR03:=hR2.trans hR3
 clear hp hk hks hc hpl hp40 hkl hb2 hn
 rintro e R4 D4 ⟨hR4,c,progs,picks,pv,kv,m4,⟨hok,hvs⟩,hs,hp,hk,g7,g8,hD,he⟩
 rw[hD];clear hD
 simp only[List.map,lc,ln,lj,and_true] at he
 simp only[he]
 obtain⟨S,gh,i0,B0,hpk,hpl⟩:=t_play hok λa ha=>⟨by have:=(hs a ha).1;omega,by have:=(hs a ha).2;omega⟩
 refine jla (l:=eCf c) (by exact Nat.le_refl 3) rfl (jc (A:=[]) (hpl R4 pv kv hp hk) ?_)
 rintro _ R5 _ hR5 ⟨p,g,rows,thv,A,ok,hrw,so,rfl,rfl⟩
 have hSB:=view_b i0 B0 (play_rn hok hvs hpk)
 refine jex rfl (jex rfl ?_)
 unfold simD
 refine jjunk (X:=(p,C T_l8Sim (eSim S g)) :: (g.hb,C T_l8Thread (eThs S.th g.rv ++ g.hsp)) :: evD S g) (E:=(A ++ [(g.wb,C T_int (S.words.map I ++ g.wsp)),(g.tb,C T_Region (rowsE eRg S.table ++ g.tsp)),(g.mb,C T_bool (S.marks.map Value.bool ++ g.msp))]) ++ ((rb,rdO v m4) :: (b3,C 92 (eCf c)) :: (b1,C T_State (cl z74)) :: F)) ?_ ?_
 ·refine (List.Perm.append_right _ List.perm_middle).trans (List.Perm.cons _ ?_)
  have:=List.perm_append_comm_assoc (A ++ [(g.wb,C T_int (S.words.map I ++ g.wsp)),(g.tb,C T_Region (rowsE eRg S.table ++ g.tsp)),(g.mb,C T_bool (S.marks.map Value.bool ++ g.msp))]) ((g.hb,C T_l8Thread (eThs S.th g.rv ++ g.hsp)) :: evD S g) ((rb,rdO v m4) :: (b3,C 92 (eCf c)) :: (b1,C T_State (cl z74)) :: F)
  simpa using this
 refine jfreeze (b:=g.mb) λR6 hR6 hmb=>?_
 have hmv:=bls_of hmb ok.mk_
 have hR16:=(hR4.trans hR5).trans hR6
 have hb6:=hb3.le hR16
 have hov:=ok.old.le hR6
 have hpv:=ok.pins.le hR6
 have hrw:=hrw.mono λ_ _=>ThrC.le hR6
 obtain⟨tha,thc,hthv⟩:=so.sl
 refine ja λb16=>js (cs':=eSt S.view (wS S g) (tS S g) (mS S g) thv g.old g.pins) rfl (st_flat rfl so.flat (Fz.flat hov) (Fz.flat hpv)) (by exact Nat.le_refl 13) rfl ?_
 have h0:StQ 8 rb b16 b1 v m 1600000 F R6 ((rb,rdO v m4) :: (b16,C T_State (eSt S.view (wS S g) (tS S g) (mS S g) thv g.old g.pins)) :: (A ++ (g.wb,C T_int (S.words.map I ++ g.wsp)) :: (g.tb,C T_Region (rowsE eRg S.table ++ g.tsp)) :: (b1,C T_State (cl z74)) :: F)):=
  ⟨S.view,rows,thv,mS S g,g.old,g.pins,A,g.wb,S.words.length,g.wc,g.wsp,g.tb,S.table.length,g.tc,g.tsp,m4,hSB,rfl,ok.wk,rfl,ok.tk,hrw,so,hmv,hov,hpv,by omega,by omega,rfl⟩
 refine jfront b16 (jfront rb (jfront b3 (jdrop ?_)))
 simp only[List.append_assoc,lc,ln]
 generalize (rb,rdO v m4) :: (b16,C T_State (eSt S.view (wS S g) (tS S g) (mS S g) thv g.old g.pins)) :: (A ++ (g.wb,C T_int (S.words.map I ++ g.wsp)) :: (g.tb,C T_Region (rowsE eRg S.table ++ g.tsp)) :: (b1,C T_State (cl z74)) :: F) = D6 at h0 ⊢
 have hR06:=hR03.trans hR16
 clear hmb hmv hov hpv hrw so hpl ok hSB
 refine jcutq (λvs R' D'=>R6.le R'∧StQ 9 rb b16 b1 v m 1600010 F R' D'∧vs = [.pointer (some ⟨b1,0,none⟩),.pointer (some ⟨b16,0,none⟩)]) (λK hK=>?_) ?_
 rotate_left
 ·rintro e R7 D7 ⟨hR7,⟨s,rows,thv,mv,ov,pv,A,wb,nw,wc,wsp,tb,nt,tc,tsp,m',sb,w1,w2,w3,w4,hrw,so,hmv,hov,hpv,h1,h2,hD⟩,he⟩
  rw[hD];clear hD
  simp only[List.map,lc,ln,lj,and_true] at he
  simp only[he]
  subst w1 w3
  obtain⟨tha,thc,hthv⟩:=so.sl
  have hfl:=st_flat (s:=s) (x:=some ⟨wb,0,none⟩) (y:=some ⟨tb,0,none⟩) (l:=s.words.length) (q:=wc) (l2:=s.table.length) (q2:=tc) (Fz.flat hmv) so.flat (Fz.flat hov) (Fz.flat hpv)
  refine jla (l:=eSt s (.slice (some ⟨wb,0,none⟩) s.words.length wc) (.slice (some ⟨tb,0,none⟩) s.table.length tc) mv thv ov pv) (by exact Nat.le_refl 13) rfl ?_
  refine js (cs':=eSt s (.slice (some ⟨wb,0,none⟩) s.words.length wc) (.slice (some ⟨tb,0,none⟩) s.table.length tc) mv thv ov pv) rfl hfl (by exact Nat.le_refl 13) rfl ?_
  refine jla (l:=eSt s (.slice (some ⟨wb,0,none⟩) s.words.length wc) (.slice (some ⟨tb,0,none⟩) s.table.length tc) mv thv ov pv) (by exact Nat.le_refl 13) rfl ?_
  refine jfront b16 (jdrop (jfront wb (jfreeze (b:=wb) λR8 hR8 hwb=>jfront rb (jperm List.perm_middle.symm (jfw so (hrw.all λ_ _=>ThrC.len) λR9 hR9 hfz=>?_)))))
  have hR79:=hR8.trans hR9
  exact jret (A:=[(rb,rdO v m'),(tb,C T_Region (rowsE eRg s.table ++ tsp))]) ((hR06.trans hR7).trans hR79) ⟨s,_,mv,thv,ov,pv,tb,tc,tsp,m',sb,(ints_of hwb w2).le hR9,Fz.le hR79 hmv,⟨rows,hrw.mono λ_ _=>ThrC.le hR79,hfz⟩,hov.le hR79,hpv.le hR79,w4,h1,by omega,rfl,rfl⟩
 obtain⟨s,rows,thv,mv,ov,pv,A,wb,nw,wc,wsp,tb,nt,tc,tsp,m',sb,w1,w2,w3,w4,hrw,so,hmv,hov,hpv,h1,h2,hD⟩:=h0
 rw[hD];clear hD
 have wl:=sb.wl
 have t0:=sb.t0
 have t1:=sb.t1
 refine jpk hb6 ⟨by omega,by omega⟩ λy _ _=>?_
 refine jcutq (λvs R' D'=>R6.le R'∧StQ 9 rb b16 b1 v m 1600010 F R' D'∧vs = [.pointer (some ⟨b1,0,none⟩),.pointer (some ⟨b16,0,none⟩)]) (λK2 hK2=>?_) ?_
 rotate_left
 ·rintro e R7 D7 ⟨hR7,hD,he⟩
  simp only[List.map,lc,ln,lj,and_true] at he
  simp only[he]
  exact hK _ _ _ ⟨hR7,hD,rfl⟩
 have fin:∀(s' : Sm.State) (m2:Int) (thv' : Value) (rows' : List (List Value)) (A' : Chs) (R' : RM),R6.le R'→StB 9 s'→s'.words.length = nw→s'.table.length = nt→s'.marks = s.marks→s'.old = s.old→s'.pins = s.pins→Rw (ThrC R') rows' s'.threads→SW 103 4 rows' thv' A'→m≤m2→m2≤m' + 8→
   J R' ((rb,rdO v m2) :: (b16,C T_State (eSt s' (.slice (some ⟨wb,0,none⟩) nw wc) (.slice (some ⟨tb,0,none⟩) nt tc) mv thv' ov pv)) :: (A' ++ (wb,C T_int (s'.words.map I ++ wsp)) :: (tb,C T_Region (rowsE eRg s'.table ++ tsp)) :: (b1,C T_State (cl z74)) :: F)) (K2 [.pointer (some ⟨b1,0,none⟩),.pointer (some ⟨b16,0,none⟩)]):=λs' m2 thv' rows' A' R' a0 a1 a2 a3 a4 a5 a6 a7 a8 a9 a10=>
  hK2 _ _ _ ⟨a0,⟨s',rows',thv',mv,ov,pv,A',wb,nw,wc,wsp,tb,nt,tc,tsp,m2,a1,a2,w2,a3,w4,a7,a8,by rw[a4];exact Fz.le a0 hmv,by rw[a5];exact hov.le a0,by rw[a6];exact hpv.le a0,a9,by omega,rfl⟩,rfl⟩
 clear hK hK2
 refine jeq (jif (λ_=>?_) (λ_=>jeq (jif (λ_=>?_) (λ_=>jeq (jif (λ_=>?_) (λ_=>jeq (jif (λ_=>?_) (λ_=>jeq (jif (λ_=>?_) (λ_=>jeq (jif (λ_=>?_) (λ_=>?_))))))))))))
 ·refine jl (v:=.slice (some ⟨wb,0,none⟩) nw wc) rfl (jl (v:=.slice (some ⟨wb,0,none⟩) nw wc) rfl (jln (jpk hb6 ⟨by omega,by omega⟩ λi _ _=>jand (jl (v:=.slice (some ⟨wb,0,none⟩) nw wc) rfl jev) (jpk hb6 ⟨by omega,by omega⟩ λx _ _=>jia (by omega) (by omega) (jand (jl (v:=.slice (some ⟨wb,0,none⟩) nw wc) rfl jev) ?_)))))
  refine jsi (l:=s.words) (by omega) ?_
  exact fin { s with words:=s.words.set i.toNat x } _ thv rows A R6 (RM.le.refl _) { sb.mono with wl:=by simpa using sb.wl,ml:=by simpa using sb.ml,wr:=λy hy=>(List.mem_or_eq_of_mem_set hy).elim (sb.wr y) λe=>by rw[e];unfold Rn;omega } (by simpa using w1) w3 rfl rfl rfl hrw so (by omega) (by omega)
 ·obtain⟨t,ts,rv,rr,bt,ct,sp,e1,e2,hrv,hrr,q1,q2,e3,e4⟩:=th0 hrw so sb.n0
  subst e2 e3 e4
  obtain⟨ra,rc,e5⟩:=hrv.sl
  subst e5
  have h8:=sb.rl t (by rw[e1];simp)
  refine jl (v:=.slice (some ⟨bt,0,none⟩) _ ct) rfl (jia (by omega) (by simp) (jla (l:=[.slice ra t.roots.length rc,I t.next,.bool t.busy,I t.tried]) (by simp) rfl ?_))
  refine ja λb38=>js (cs':=[.slice ra t.roots.length rc,I t.next,.bool t.busy,I t.tried]) rfl rfl (by exact Nat.le_refl 4) rfl ?_
  refine jl (v:=.slice ra t.roots.length rc) rfl (jl (v:=.slice (some ⟨wb,0,none⟩) nw wc) rfl (jln ?_))
  refine jc (A:=[]) (t_l5Ints hrv (by omega)) ?_
  rintro _ R7 _ hR7 ⟨b5,c5,sp5,hc5,hsp5,rfl,rfl⟩
  have hb7:=hb6.le hR7
  refine jand (jl (v:=.slice (some ⟨wb,0,none⟩) nw wc) rfl jev) (jpk hb7 ⟨by omega,by omega⟩ λx _ _=>jbs (cs:=[I x]) rfl rfl λbs=>?_)
  refine jas1 (l:=t.roots) (A:=[(b5,C T_int (t.roots.map I ++ sp5))]) (.inr ⟨b5,c5,sp5,hc5,hsp5,rfl,rfl⟩) (by omega) λv' A' so'=>jfso so' λR8 hR8 hi=>?_
  obtain⟨xa,xc,e6⟩:=hi.sl
  subst e6
  refine js (cs':=[.slice xa (t.roots ++ [x]).length xc,I t.next,.bool t.busy,I t.tried]) rfl rfl (by simp) rfl ?_
  refine jl (v:=.slice (some ⟨bt,0,none⟩) _ ct) rfl (jla (l:=[.slice xa (t.roots ++ [x]).length xc,I t.next,.bool t.busy,I t.tried]) (by exact Nat.le_refl 4) rfl (jia (by omega) (by simp) ?_))
  refine js (cs':=([.slice xa (t.roots ++ [x]).length xc,I t.next,.bool t.busy,I t.tried] :: rr).flatten ++ sp) rfl rfl (by simp) rfl ?_
  refine jfront b38 (jdrop ?_)
  refine fin { s with threads:={ t with roots:=t.roots ++ [x] } :: ts } _ (.slice (some ⟨bt,0,none⟩) _ ct) ([.slice xa (t.roots ++ [x]).length xc,I t.next,.bool t.busy,I t.tried] :: rr) [(bt,C 103 (([.slice xa (t.roots ++ [x]).length xc,I t.next,.bool t.busy,I t.tried] :: rr).flatten ++ sp))] R8 (hR7.trans hR8) { sb.mono with n0:=by simp,n1:=by have:=sb.n1;rw[e1] at this;simpa using this,rl:=λu hu=>?_ } w1 w3 rfl rfl rfl ?_ (.inr ⟨bt,ct,sp,q1,q2,rfl,rfl⟩) (by omega) (by omega)
  ·rcases List.mem_cons.1 hu with hu | hu
   ·subst hu;show (t.roots ++ [x]).length≤9;rw[List.length_append];simp;omega
   ·exact sb.mono.rl u (by rw[e1];exact List.mem_cons_of_mem _ hu)
  ·exact Rw.app (r1:=[_]) (l1:=[_]) (Rw.one ⟨_,rfl,hi⟩) (hrr.mono λ_ _=>ThrC.le (hR7.trans hR8))
 ·refine jl (v:=.slice (some ⟨tb,0,none⟩) nt tc) rfl (jln (jsub ⟨by omega,by omega⟩ (jpk hb6 ⟨by omega,by omega⟩ λi _ _=>jadd ⟨by omega,by omega⟩ ?_)))
  obtain⟨k,hk⟩:∃k:Nat,1 + i = k:=⟨(1 + i).toNat,by omega⟩
  rw[hk]
  have hkl:k < s.table.length:=by omega
  obtain⟨p0,p1⟩:=sb.tp _ (List.getElem_mem hkl)
  refine jl (v:=.slice (some ⟨tb,0,none⟩) nt tc) rfl (jian (by omega) (jlrow hkl (ja λb64=>js (cs':=eRg s.table[k]) rfl rfl (by exact Nat.le_refl 5) rfl ?_)))
  refine jl (v:=I (s.table[k]).top) rfl (jpk hb6 ⟨by omega,by omega⟩ λz _ _=>jadd ⟨by omega,by omega⟩ (jsub ⟨by omega,by omega⟩ (jand (jl (v:=I (s.table[k]).top) rfl jev) ?_)))
  refine js (cs':=eRg { s.table[k] with top:=(s.table[k]).top + z - 1 }) rfl rfl (by simp) rfl ?_
  refine jl (v:=.slice (some ⟨tb,0,none⟩) nt tc) rfl (jla (l:=eRg { s.table[k] with top:=(s.table[k]).top + z - 1 }) (by exact Nat.le_refl 5) rfl (jian (by omega) ?_))
  refine jsrow (x:={ s.table[k] with top:=(s.table[k]).top + z - 1 }) hkl ?_
  refine jfront b64 (jdrop ?_)
  exact fin { s with table:=s.table.set k { s.table[k] with top:=(s.table[k]).top + z - 1 } } _ thv rows A R6 (RM.le.refl _) (sb.row k (by show -900≤(s.table[k]).top + z - 1;omega) (by show (s.table[k]).top + z - 1≤900;omega)) w1 (by simpa using w3) rfl rfl rfl hrw so (by omega) (by omega)
 ·refine jbs (cs:=[I (-1),I 4,I 2]) rfl rfl λbt=>jpk hb6 ⟨by omega,by omega⟩ λz _ _=>jia (by omega) (by omega) (jl (sel_get [-1,4,2] (by omega) (by show _ < (3:Int);omega)) ?_)
  refine js (cs':=eSt { s with phase:=sel [-1,4,2] z } (.slice (some ⟨wb,0,none⟩) nw wc) (.slice (some ⟨tb,0,none⟩) nt tc) mv thv ov pv) rfl rfl (by exact Nat.le_of_ble_eq_true rfl) rfl (jfront bt (jdrop ?_))
  exact fin { s with phase:=sel [-1,4,2] z } _ thv rows A R6 (RM.le.refl _) { sb.mono with } w1 w3 rfl rfl rfl hrw so (by omega) (by omega)
 ·obtain⟨t,ts,rv,rr,bt,ct,sp,e1,e2,hrv,hrr,q1,q2,e3,e4⟩:=th0 hrw so sb.n0
  subst e2 e3 e4
  obtain⟨ra,rc,e5⟩:=hrv.sl
  subst e5
  refine jl (v:=.slice (some ⟨bt,0,none⟩) _ ct) rfl (jia (by omega) (by simp) (jla (l:=[.slice ra t.roots.length rc,I t.next,.bool t.busy,I t.tried]) (by simp) rfl ?_))
  refine ja λb38=>js (cs':=[.slice ra t.roots.length rc,I t.next,.bool t.busy,I t.tried]) rfl rfl (by exact Nat.le_refl 4) rfl ?_
  refine jl (v:=.bool t.busy) rfl (js (cs':=[.slice ra t.roots.length rc,I t.next,.bool (!t.busy),I t.tried]) rfl rfl (by simp) rfl ?_)
  refine jl (v:=.slice (some ⟨bt,0,none⟩) _ ct) rfl (jla (l:=[.slice ra t.roots.length rc,I t.next,.bool (!t.busy),I t.tried]) (by exact Nat.le_refl 4) rfl (jia (by omega) (by simp) ?_))
  refine js (cs':=([.slice ra t.roots.length rc,I t.next,.bool (!t.busy),I t.tried] :: rr).flatten ++ sp) rfl rfl (by simp) rfl ?_
  refine jfront b38 (jdrop ?_)
  refine fin { s with threads:={ t with busy:=!t.busy } :: ts } _ (.slice (some ⟨bt,0,none⟩) _ ct) ([.slice ra t.roots.length rc,I t.next,.bool (!t.busy),I t.tried] :: rr) [(bt,C 103 (([.slice ra t.roots.length rc,I t.next,.bool (!t.busy),I t.tried] :: rr).flatten ++ sp))] R6 (RM.le.refl _) { sb.mono with n0:=by simp,n1:=by have:=sb.n1;rw[e1] at this;simpa using this,rl:=λu hu=>?_ } w1 w3 rfl rfl rfl ?_ (.inr ⟨bt,ct,sp,q1,q2,rfl,rfl⟩) (by omega) (by omega)
  ·rcases List.mem_cons.1 hu with hu | hu
   ·subst hu;exact sb.mono.rl t (by rw[e1];simp)
   ·exact sb.mono.rl u (by rw[e1];exact List.mem_cons_of_mem _ hu)
  ·exact Rw.app (r1:=[_]) (l1:=[_]) (Rw.one ⟨_,rfl,hrv⟩) hrr
 ·refine jl (v:=.slice (some ⟨tb,0,none⟩) nt tc) rfl (jln (jsub ⟨by omega,by omega⟩ (jpk hb6 ⟨by omega,by omega⟩ λi _ _=>jadd ⟨by omega,by omega⟩ ?_)))
  obtain⟨k,hk⟩:∃k:Nat,1 + i = k:=⟨(1 + i).toNat,by omega⟩
  rw[hk]
  have hkl:k < s.table.length:=by omega
  refine jl (v:=.slice (some ⟨tb,0,none⟩) nt tc) rfl (jian (by omega) (jlrow hkl (ja λb64=>js (cs':=eRg s.table[k]) rfl rfl (by exact Nat.le_refl 5) rfl ?_)))
  refine jpk hb6 ⟨by omega,by omega⟩ λz _ _=>js (cs':=eRg { s.table[k] with kind:=z }) rfl rfl (by simp) rfl ?_
  refine jl (v:=.slice (some ⟨tb,0,none⟩) nt tc) rfl (jla (l:=eRg { s.table[k] with kind:=z }) (by exact Nat.le_refl 5) rfl (jian (by omega) ?_))
  refine jsrow (x:={ s.table[k] with kind:=z }) hkl ?_
  refine jfront b64 (jdrop ?_)
  obtain⟨p0,p1⟩:=sb.tp _ (List.getElem_mem hkl)
  exact fin { s with table:=s.table.set k { s.table[k] with kind:=z } } _ thv rows A R6 (RM.le.refl _) (sb.row k (by show -900≤(s.table[k]).top;omega) (by show (s.table[k]).top≤900;omega)) w1 (by simpa using w3) rfl rfl rfl hrw so (by omega) (by omega)
 ·exact fin s _ thv rows A R6 (RM.le.refl _) sb.mono w1 w3 rfl rfl rfl hrw so (by omega) (by omega)
end draws
end Go.Lf
end
section
namespace Go.Lf
open Go Sm
section draws
variable {R:RM} {rb:Nat} {v:Value} {m:Int}
theorem d_l20Begins {s:Sm.State} {wv tv mv thv ov pv:Value} (h:StC R s wv tv mv thv ov pv) (sb:StB 9 s) (hb:Byt R v) (hm:0≤m∧m < 200000000):Dr F_s_l20Begins [.pointer (some ⟨rb,0,none⟩),.agg (eSt s wv tv mv thv ov pv).toArray] R rb v m 5 (λx R'=>∃a:Int,x = I a∧inR a):=by
 refine s_s_l20Begins λF=>?_
 unfold c_s_l20Begins
 have wl:=sb.wl
 have t0:=sb.t0
 have t1:=sb.t1
 refine ja λb1=>?_
 rw[show cl (.agg (eSt s wv tv mv thv ov pv).toArray) = eSt s wv tv mv thv ov pv from rfl]
 refine jla (l:=eSt s wv tv mv thv ov pv) (by exact Nat.le_refl 13) rfl ?_
 refine jc (A:=[]) (t_l6Things h (by omega) (by omega)) ?_
 rintro x R1 _ hR1 ⟨rfl,hq⟩
 have hl0:∃lv ok l,x = .tuple #[lv,.bool ok]∧Tgs R1 lv l∧l.length≤200∧∀t∈l,0≤t.at_∧t.at_ < 1000000:=by
  cases hst:stThings s with
  | none=>rw[hst] at hq;exact⟨_,_,[],hq,⟨[],Rw.nil,.inl ⟨rfl,rfl,rfl⟩⟩,by simp,λt ht=>by cases ht⟩
  | some l=>
   rw[hst] at hq;obtain⟨lv,q1,q2⟩:=hq
   have ha:=all_tb (by omega) hst
   rw[List.length_tail] at ha
   exact⟨lv,true,l,q2,q1,by omega,λt ht=>⟨(ha.1 t ht).1,(ha.1 t ht).2.1⟩⟩
 obtain⟨lv,okb,l,rfl,hlv,hll,hat⟩:=hl0
 have hb1:=hb.le hR1
 have h1:=h.le hR1
 refine jex rfl (jex rfl (jfront rb ?_))
 refine jor [.pointer (some ⟨rb,0,none⟩),.pointer (some ⟨b1,0,none⟩),lv] (!okb || ((l.length:Int) == 0)) (λK' hK'=>?_) (λe c u ho he=>?_)
 ·refine jgtf (λq=>jln_ hlv.sl (jeq (hK' _ _ _ (q▸or2_f) (by rw[q,Bool.false_or])))) (λq=>hK' _ _ _ (q▸or2_t) (by rw[q,Bool.true_or]))
 simp only[List.map,lc,ln,lj,and_true] at he
 simp only[he]
 refine jcutq (λvs R' D'=>R' = R1∧∃(m2:Int) (c u:Value) (w:Bool),m≤m2∧m2≤m + 1∧Or2 c u w∧(w = false→0 < l.length)∧D' = (rb,rdO v m2) :: (b1,C T_State (eSt s wv tv mv thv ov pv)) :: ([] ++ F)∧vs = [.pointer (some ⟨rb,0,none⟩),.pointer (some ⟨b1,0,none⟩),lv,c,u]) (λK2 hK2=>?_) ?_
 ·rw[ho]
  refine jgtf (λq=>jpk hb1 ⟨by omega,by omega⟩ λy _ _=>jeq ?_) (λq=>?_)
  ·refine hK2 _ _ _ ⟨rfl,_,_,_,_,by omega,by omega,q▸or2_f,λ_=>?_,rfl,rfl⟩
   simp only[Bool.or_eq_false_iff,beq_eq_false_iff_ne] at q
   omega
  ·exact hK2 _ _ _ ⟨rfl,m,_,_,_,by omega,by omega,q▸or2_t,(λh=>by rw[q] at h;cases h),rfl,rfl⟩
 clear ho
 rintro e R2 D2 ⟨hR2,m2,c,u,w,q1,q2,ho,q3,hD,he⟩
 subst hR2
 rw[hD];clear hD
 simp only[List.map,lc,ln,lj,and_true] at he
 simp only[he]
 rw[ho]
 refine jif (λhw=>?_) (λhw=>?_)
 ·refine jl (v:=wv) rfl (jdr (d_l20Addr h1.w.sl (by omega) hb1 ⟨by omega,by omega⟩) ?_)
  rintro _ R3 m3 hR3 ⟨_,a,rfl,ha⟩ q4 q5
  exact dr_ret m3 (hR1.trans hR3) ⟨a,rfl,ha⟩ (by omega) (by omega)
 ·have hl:=q3 hw
  refine jln_ hlv.sl (jpk hb1 ⟨by omega,by omega⟩ λy y0 y1=>?_)
  obtain⟨k,hk⟩:∃k:Nat,y = k:=⟨y.toNat,by omega⟩
  subst hk
  have hkl:k < l.length:=by omega
  have hta:=hat _ (List.getElem_mem hkl)
  refine jtg hlv hkl λb3 o3 ty cs rv nv hrv hnv hb3 ho3 hrow3=>jfo (jlr (v:=I (l[k]).at_) hb3 (cell_of hrow3 (f:=0) rfl) ?_)
  exact dr_ret _ hR1 ⟨_,rfl,by omega,by omega⟩ (by omega) (by omega)
end draws
end Go.Lf
end
section
namespace Go.Lf
open Go Sm
theorem x_eqn (x y:Operand) (a:Addr) (n c:Nat) (w:World):(do eqGuard .eql 23 x y (.slice (some a) n c) (.slice none 0 0);binOp .eql 23 (.slice (some a) n c) (.slice none 0 0):Sem Value).run P w = .ok (.bool false) w:=by kernel_rfl
theorem x_eqn0 (x y:Operand) (w:World):(do eqGuard .eql 23 x y (.slice none 0 0) (.slice none 0 0);binOp .eql 23 (.slice none 0 0) (.slice none 0 0):Sem Value).run P w = .ok (.bool true) w:=by kernel_rfl
theorem x_copy0 (a b:Addr) (n c m d:Nat) (w:World):(Builtin.copy_ #[23,23] 3 #[.slice (some a) n c,.slice (some b) m d]).run P w = (do let cells ← loadCells b (Nat.min m n * 1);storeCells a cells.toList;pure (goInt (Nat.min m n)):Sem Value).run P w:=by
 kernel_rfl
section rules
variable {R:RM} {D:Chs} {k:Value→M}
theorem jX {s:Sem Value} (H:∀h,St h R D→∀w:World,w.heap = h→∃v w',s.run P w = .ok v w'∧Same w w'∧k v w'.heap):J R D (X P s k):=λh hs w hw=>by
 obtain⟨v,w',e,hsm,hk⟩:=H h hs w hw
 rw[e];exact⟨hsm,hk⟩
theorem jcopy {b o n c t m d:Nat} {xa:Addr} {l cs cs' : List Value} {D' : Chs} (hx:Reads R D (some xa) (Nat.min m n * 1) l) (hl:l.length = Nat.min m n) (hf:allFlat l = true) [a:At D b (C t cs)] (ho:o + l.length≤cs.length) (hc:lay cs o l = cs') [u:Up D b (C t cs) (C t cs') D']
  (H:J R D' (k (I (Nat.min m n:Nat)))):J R D (X P (Builtin.copy_ #[23,23] 3 #[.slice (some ⟨b,o,none⟩) n c,.slice (some xa) m d]) k):=by
 have hk:∀h,St h R D→∀w:World,w.heap = h→∃v w',(Builtin.copy_ #[23,23] 3 #[.slice (some ⟨b,o,none⟩) n c,.slice (some xa) m d]).run P w = .ok v w'∧Same w w'∧k v w'.heap:=by
  intro h hs w hw
  subst hw
  obtain⟨h',w1,w2,w3⟩:=wr_cells l o (hs.at_ b _ a.m).1 ho hf
  obtain⟨w',e1,hsm,e2⟩:=run_stores (P:=P) b l o 0 w h' w1
  have hr:rdS w.heap (some xa) (Nat.min m n * 1) = some l:=hx _ hs
  obtain⟨xb,xo,xs⟩:=xa
  cases xs with
  | some _=>cases hr
  | none=>
  have hr:rd w.heap xb xo (Nat.min m n * 1) = some l:=hr
  refine⟨I (Nat.min m n:Nat),w',?_,hsm,?_⟩
  ·rw[x_copy0]
   simp only[Sem.run_bind,run_loadsA (P:=P) hr,Result.andThen_ok,e1];rfl
  ·rw[e2]
   exact H h' (hs.turn (b:=b) (o:=C t cs) (o':=C t cs') (by rw[w2,hc]) w3)
 exact @jX _ _ _ _ hk
theorem jnilq {v:Value} {w n:Nat} {cells:List Value} {x y:Operand} (h:Fz R v w n cells) (H0:v = .slice none 0 0→n = 0→cells = []→J R D (k (.bool true))) (H1:J R D (k (.bool false))):J R D (X P (do eqGuard .eql 23 x y v (.slice none 0 0);binOp .eql 23 v (.slice none 0 0)) k):=by
 rcases h with ⟨rfl,h2,h3⟩ | ⟨b,o,cap,t,cs,rfl,_⟩
 ·intro h hs w hw
  rw[x_eqn0]
  subst hw
  exact⟨Same.refl _,H0 rfl h2 h3 _ hs⟩
 ·intro h hs w hw
  rw[x_eqn]
  subst hw
  exact⟨Same.refl _,H1 _ hs⟩
theorem jsl2 {v:Value} {l:List Int} {lo u:Int} (h:Ints R v l) (h0:0≤lo) (h1:lo≤u) (h2:u≤l.length) (H:∀v',Ints R v' ((l.take u.toNat).drop lo.toNat)→J R D (k v')):J R D (SL 1 v (some (I lo)) (some (I u)) k):=by
 rcases h with ⟨rfl,h3,_⟩ | ⟨b,o,cap,t,cs,rfl,h3,h4,h5,h6⟩
 ·intro h' hs
  refine⟨⟨h0,h1,by omega⟩,H _ ?_ h' hs⟩
  have e:l = []:=List.length_eq_zero_iff.1 h3
  have e1:u = 0:=by omega
  have e2:lo = 0:=by omega
  rw[e,e1,e2]
  exact .inl ⟨rfl,by simp,by simp⟩
 ·intro h' hs
  refine⟨⟨h0,h1,by omega⟩,H _ ?_ h' hs⟩
  by_cases c:cap = lo.toNat
  ·have hl:l.length = lo.toNat:=by omega
   have e1:u.toNat = lo.toNat:=by omega
   have e2:((l.take u.toNat).drop lo.toNat).length = 0:=by rw[List.length_drop,List.length_take];omega
   refine .inr ⟨b,o,cap - lo.toNat,t,cs,?_,h3,?_,?_,?_⟩
   ·rw[if_pos c,e2,e1,Nat.sub_self]
   ·rw[e2];omega
   ·rw[List.length_eq_zero_iff.1 e2];simp
   ·rw[e2];omega
  ·refine .inr ⟨b,o + lo.toNat * 1,cap - lo.toNat,t,cs,?_,h3,?_,?_,?_⟩
   ·rw[if_neg c];simp;omega
   ·simp only[List.length_drop,List.length_take];omega
   ·simp only[List.length_drop,List.length_take]
    rw[List.map_drop,List.map_take,← h5,List.take_take,List.drop_take,List.drop_drop]
    congr 1
    ·omega
    ·congr 1;omega
   ·simp only[List.length_drop,List.length_take];omega
theorem jown {v:Value} {l:List Int} (h:Ints R v l) (hl:l.length < 1000000) (H:∀v' b c sp,l.length≤c→sp.length = c - l.length→v' = .slice (some ⟨b,0,none⟩) l.length c→J R ((b,C T_int (l.map I ++ sp)) :: D) (k v')) :
  J R D (BS 3 0 (ZR 0 z3) [] λx=>AP 3 1 8 (cl z3) x v k):=by
 obtain⟨a,cap,rfl,hr⟩:=Fz.reads (D:=D) h
 refine jbs (cs:=[]) rfl rfl λb2=>?_
 refine jap0 (new:=l.map I) ?_ (by decide) (by omega) (λ_=>rfl) (λh0=>?_) (λb' c hc=>jperm (List.Perm.swap _ _ _) (jdrop ?_))
 ·intro h' hs'
  exact hr h' (St.drop (A:=[(b2,C 3 [])]) (by simpa using hs'))
 ·have:l = []:=List.length_eq_zero_iff.1 h0
  subst this
  exact H _ b2 0 [] (by simp) (by simp) rfl
 ·exact H _ b' c _ hc (by rw[flat_len (w:=1) (by intro x hx;rw[(List.mem_replicate.1 hx).2];rfl)];simp) rfl
end rules
theorem t_Clone {R:RM} {v:Value} {l:List Int} (h:Ints R v l) (hl:l.length < 1000000):Fn P F_slices_Clone_37 [v] R [] (λx R' A=>R' = R∧SO l x A∧(0 < l.length→OwnI l x A)):=by
 refine s_slices_Clone_37 λF=>?_
 unfold c_slices_Clone_37
 refine jnilq h (λ_ h0 _=>jift ?_) (jiff ?_)
 ·have:l = []:=List.length_eq_zero_iff.1 h0
  subst this
  exact jret (A:=[]) (RM.le.refl R) ⟨rfl,.inl ⟨rfl,rfl,rfl⟩,by simp⟩
 ·refine jown h hl λv' b c sp hc hsp hv=>?_
  exact jret (A:=[(b,C T_int (l.map I ++ sp))]) (RM.le.refl R) ⟨rfl,.inr ⟨b,c,sp,hc,hsp,hv,rfl⟩,λ_=>⟨b,c,sp,hc,hsp,hv,rfl⟩⟩
theorem p_i_ShapeOk (s:Shp):Pu F_i_ShapeOk [eSh s] (.bool (shapeOk s)):=λR=>s_i_ShapeOk λF=>q_ShapeOk s R F
theorem p_i_ShapeSize (s:Shp):Pu F_i_ShapeSize [eSh s] (I (shapeSize s)):=by
 intro R
 refine s_i_ShapeSize λF=>?_
 unfold c_i_ShapeSize
 refine ja λb=>jla (l:=[I s.refs,I s.nums]) (by simp) rfl (jp (p_i_ShapeOk s) ?_)
 refine jif (λh=>?_) (λh=>?_)
 ·refine jret (A:=[]) (RM.le.refl _) ?_
  simp only[Bool.not_eq_true'] at h
  simp[shapeSize,h]
 ·simp only[Bool.not_eq_false'] at h
  obtain⟨h0,h1,h2,h3⟩:=shapeOk_iff.1 h
  refine jl rfl (jadd ⟨by omega,by omega⟩ (jl rfl (jadd ⟨by omega,by omega⟩ ?_)))
  refine jret (A:=[]) (RM.le.refl _) ?_
  simp[shapeSize,h]
theorem p_i_ShapeOf {w:Int} (hw:inR w):Pu F_i_ShapeOf [I w] (.tuple #[eSh (shapeOf w).1,.bool (shapeOf w).2]):=by
 intro R
 refine s_i_ShapeOf λF=>?_
 unfold c_i_ShapeOf
 refine ja λb=>jlt (jif (λh=>?_) (λh=>?_))
 ·have h:=of_decide_eq_true h
  refine jbd (cs:=[I 0,I 0]) rfl rfl (js (cs':=[I 0,I 0]) rfl rfl (by simp) rfl (jla (l:=[I 0,I 0]) (by simp) rfl ?_))
  refine jret (A:=[]) (RM.le.refl _) ?_
  unfold shapeOf
  rw[if_neg (by omega)];rfl
 ·have h:=of_decide_eq_false h
  have e1:w.tdiv 16 = w / 16:=Int.tdiv_eq_ediv_of_nonneg (by omega)
  have e2:w.tmod 16 = w % 16:=Int.tmod_eq_emod_of_nonneg (by omega)
  refine jquo (by decide) (by rw[e1];constructor<;>omega) (jrem (by decide) ?_)
  rw[e1,e2]
  refine jbd (cs:=[I (w / 16),I (w % 16)]) rfl rfl (ja λb2=>js (cs':=[I (w / 16),I (w % 16)]) rfl rfl (by simp) rfl (jla (l:=[I (w / 16),I (w % 16)]) (by simp) rfl (jp (p_i_ShapeOk ⟨w / 16,w % 16⟩) ?_)))
  have ek:shapeOk ⟨w / 16,w % 16⟩ = decide (0≤w∧w / 16≤4∧w % 16≤4):=by
   rw[Bool.eq_iff_iff,shapeOk_iff,decide_eq_true_eq]
   show 0≤w / 16∧w / 16≤4∧0≤w % 16∧w % 16≤4↔_
   omega
  rw[ek]
  refine jif (λhk=>?_) (λhk=>?_)
  ·have hk:¬ (0≤w∧w / 16≤4∧w % 16≤4):=by
    rw[Bool.not_eq_true',decide_eq_false_iff_not] at hk
    exact hk
   refine jbd (cs:=[I 0,I 0]) rfl rfl (js (cs':=[I 0,I 0]) rfl rfl (by simp) rfl (jla (l:=[I 0,I 0]) (by simp) rfl ?_))
   refine jret (A:=[]) (RM.le.refl _) ?_
   unfold shapeOf
   rw[if_neg hk];rfl
  ·have hk:0≤w∧w / 16≤4∧w % 16≤4:=by simpa using hk
   refine jla (l:=[I (w / 16),I (w % 16)]) (by simp) rfl (js (cs':=[I (w / 16),I (w % 16)]) rfl rfl (by simp) rfl (jla (l:=[I (w / 16),I (w % 16)]) (by simp) rfl ?_))
   refine jret (A:=[]) (RM.le.refl _) ?_
   unfold shapeOf
   rw[if_pos hk]
theorem p_i_WordsOk (a:Option Addr) (n c:Nat) (hn:n < 1000000000000):Pu F_i_WordsOk [.slice a n c] (.bool (wordsOk n)):=by
 intro R
 refine s_i_WordsOk λF=>?_
 unfold c_i_WordsOk
 have er:(n:Int).tmod 16 = (n % 16:Nat):=by rw[Int.tmod_eq_emod_of_nonneg (by omega)];omega
 refine jan [.slice a n c] (((n:Int).tmod 16 == 0) && (decide ((n:Int)≥32))) (λK' hK'=>?_) (λe c u ho he=>?_)
 ·refine jln (jrem (by decide) (jeq (jgtt (λh1=>?_) (λh1=>?_))))
  ·refine jln (jge (hK' _ _ _ (h1▸and2_t) (by rw[h1,Bool.true_and])))
  ·exact hK' _ _ _ (h1▸and2_f) (by rw[h1,Bool.false_and])
 simp only[List.map,lc,ln,lj,and_true] at he
 simp only[he]
 refine jan [] ((((n:Int).tmod 16 == 0) && decide ((n:Int)≥32)) && (decide ((n:Int)≤192))) (λK' hK'=>?_) (λe c u ho he=>?_)
 ·rw[ho]
  refine jgtt (λh1=>?_) (λh1=>?_)
  ·refine jln (jle (hK' _ _ _ (h1▸and2_t) (by rw[h1,Bool.true_and])))
  ·exact hK' _ _ _ (h1▸and2_f) (by rw[h1,Bool.false_and])
 simp only[List.map,lc,ln,lj,and_true] at he
 simp only[he]
 rw[ho]
 refine jret (A:=[]) (RM.le.refl R) ?_
 congr 1
 unfold wordsOk
 rw[er,Bool.eq_iff_iff]
 simp only[Bool.and_eq_true,decide_eq_true_eq,beq_iff_eq]
 constructor<;>rintro⟨⟨h1,h2⟩,h3⟩<;>exact⟨⟨by omega,by omega⟩,by omega⟩
theorem p_i_fits (x:Option Addr) (n cc:Nat) (a size:Int) (hn:n < 1000000000000) (h0:1≤size) (h1:size≤16):Pu F_i_fits [.slice x n cc,I a,I size] (.bool (fits n a size)):=by
 intro R
 refine s_i_fits λF=>?_
 unfold c_i_fits
 refine jan [.slice x n cc,I a,I size] (wordsOk n && decide (a≥16)) (λK' hK'=>?_) (λe c u ho he=>?_)
 ·refine jp (p_i_WordsOk x n cc hn) (jgtt (λh1=>jge (hK' _ _ _ (h1▸and2_t) (by rw[h1,Bool.true_and]))) (λh1=>hK' _ _ _ (h1▸and2_f) (by rw[h1,Bool.false_and])))
 simp only[List.map,lc,ln,lj,and_true] at he
 simp only[he]
 refine jan [I a,I size] ((wordsOk n && decide (a≥16)) && decide (a < n)) (λK' hK'=>?_) (λe c u ho he=>?_)
 ·rw[ho]
  exact jgtt (λh1=>jln (jlt (hK' _ _ _ (h1▸and2_t) (by rw[h1,Bool.true_and])))) (λh1=>hK' _ _ _ (h1▸and2_f) (by rw[h1,Bool.false_and]))
 simp only[List.map,lc,ln,lj,and_true] at he
 simp only[he]
 refine jan [] (((wordsOk n && decide (a≥16)) && decide (a < n)) && decide (a.tmod 16 + size≤16)) (λK' hK'=>?_) (λe c u ho he=>?_)
 ·rw[ho]
  refine jgtt (λh1=>jrem (by decide) ?_) (λh1=>hK' _ _ _ (h1▸and2_f) (by rw[h1,Bool.false_and]))
  have h2:=h1
  simp only[Bool.and_eq_true,decide_eq_true_eq] at h2
  have e2:a.tmod 16 = a % 16:=Int.tmod_eq_emod_of_nonneg (by omega)
  exact jadd (by rw[e2];constructor<;>omega) (jle (hK' _ _ _ (h1▸and2_t) (by rw[h1,Bool.true_and])))
 simp only[List.map,lc,ln,lj,and_true] at he
 simp only[he]
 rw[ho]
 refine jret (A:=[]) (RM.le.refl R) ?_
 congr 1
 unfold fits
 rw[Bool.eq_iff_iff]
 simp only[Bool.and_eq_true,decide_eq_true_eq,beq_iff_eq]
 have hr:16≤a→(regionOf a = regionOf (a + size - 1)↔a.tmod 16 + size≤16):=λha=>by
  rw[Int.tmod_eq_emod_of_nonneg (by omega)]
  unfold regionOf
  rw[if_neg (by omega),if_neg (by omega)]
  omega
 constructor
 ·rintro⟨⟨⟨q0,q1⟩,q2⟩,q3⟩
  exact⟨⟨⟨⟨⟨q0,by omega⟩,h1⟩,q1⟩,q2⟩,(hr q1).2 q3⟩
 ·rintro⟨⟨⟨⟨⟨q0,_⟩,_⟩,q1⟩,q2⟩,q3⟩
  exact⟨⟨⟨q0,q1⟩,q2⟩,(hr q1).1 q3⟩
end Go.Lf
end
section
namespace Go.Lf
open Go Sm
theorem t_i_ThingAt {R:RM} {wv:Value} {w:List Int} (a:Int) (h:Ints R wv w) (hl:w.length < 1000000) (hin:inR (w.getD (a.toNat + 1) 0)) :
  Fn P F_i_ThingAt [wv,I a] R [] (λv R' A=>A = []∧∃x,ThV R' x (thingAt w a).1∧v = .tuple #[x,.bool (thingAt w a).2]):=by
 refine s_i_ThingAt λF=>?_
 unfold c_i_ThingAt
 obtain⟨wa,wc,hwv⟩:=h.sl
 have th0V:ThV R (.agg (eTh thing0 (.slice none 0 0) (.slice none 0 0)).toArray) thing0:=⟨_,_,rfl,.inl ⟨rfl,rfl,rfl⟩,.inl ⟨rfl,rfl,rfl⟩⟩
 refine ja λb1=>?_
 have h':=h
 rw[hwv]
 refine jp (p_i_fits wa w.length wc a 2 (by omega) (by decide) (by decide)) ?_
 rw[← hwv]
 refine jif (λh0=>?_) (λh0=>?_)
 ·have h0:fits w.length a 2 = false:=by simpa using h0
  have e:thingAt w a = (thing0,false):=by unfold thingAt;rw[h0];rfl
  refine jbd (cs:=eTh thing0 (.slice none 0 0) (.slice none 0 0)) rfl rfl (js (cs':=eTh thing0 (.slice none 0 0) (.slice none 0 0)) rfl rfl (by exact Nat.le_refl 6) rfl (jla (l:=eTh thing0 (.slice none 0 0) (.slice none 0 0)) (by exact Nat.le_refl 6) rfl ?_))
  rw[e]
  exact jret (A:=[]) (RM.le.refl _) ⟨rfl,_,th0V,rfl⟩
 have h0:fits w.length a 2 = true:=by simpa using h0
 obtain⟨a0,a1,-,-⟩:=fits_in h0
 obtain⟨n,rfl⟩:∃n:Nat,a = n:=⟨a.toNat,by omega⟩
 refine jadd ⟨by omega,by omega⟩ (jfz1 h (by omega) (by omega) ?_)
 have e1:w[((n:Int) + 1).toNat]'(by omega) = w.getD (n + 1) 0:=by
  have:((n:Int) + 1).toNat = n + 1:=by omega
  simp only[this]
  rw[List.getD_eq_getElem?_getD,List.getElem?_eq_getElem (by omega)];rfl
 rw[e1]
 simp only[Int.toNat_natCast] at hin
 generalize hwd:w.getD (n + 1) 0 = wd at hin ⊢
 refine jp (p_i_ShapeOf hin) (jex rfl (jex rfl (ja λb12=>js (cs':=[I (shapeOf wd).1.refs,I (shapeOf wd).1.nums]) rfl rfl (by exact Nat.le_refl 2) rfl ?_)))
 refine jor [wv,I n,.pointer (some ⟨b1,0,none⟩),.pointer (some ⟨b12,0,none⟩)] (!((shapeOf wd).2 && fits w.length n (shapeSize (shapeOf wd).1))) (λK' hK'=>?_) (λe c u ho he=>?_)
 ·refine jgtf (λh1=>?_) (λh1=>?_)
  ·have h1:(shapeOf wd).2 = true:=by simpa using h1
   obtain⟨q0,q1,q2,q3,q4⟩:=shape_rng h1
   refine jla (l:=[I (shapeOf wd).1.refs,I (shapeOf wd).1.nums]) (by simp) rfl (jp (p_i_ShapeSize _) ?_)
   rw[hwv]
   refine jp (p_i_fits wa w.length wc n _ (by omega) (by omega) (by omega)) ?_
   rw[← hwv,h1]
   exact hK' _ _ _ or2_f (by rw[h1,Bool.true_and])
  ·have h1:(shapeOf wd).2 = false:=by simpa using h1
   rw[h1]
   exact hK' _ _ true or2_t (by rw[h1];rfl)
 simp only[List.map,lc,ln,lj,and_true] at he
 simp only[he]
 rw[ho]
 refine jif (λh1=>?_) (λh1=>?_)
 ·have h1:((shapeOf wd).2 && fits w.length n (shapeSize (shapeOf wd).1)) = false:=by rw[Bool.not_eq_true'] at h1;exact h1
  have e:thingAt w n = (thing0,false):=by
   unfold thingAt
   rw[if_pos h0,Int.toNat_natCast,hwd]
   simp only[h1];rfl
  refine jbd (cs:=eTh thing0 (.slice none 0 0) (.slice none 0 0)) rfl rfl (js (cs':=eTh thing0 (.slice none 0 0) (.slice none 0 0)) rfl rfl (by exact Nat.le_refl 6) rfl (jla (l:=eTh thing0 (.slice none 0 0) (.slice none 0 0)) (by exact Nat.le_refl 6) rfl ?_))
  rw[e]
  exact jret (A:=[]) (RM.le.refl _) ⟨rfl,_,th0V,rfl⟩
 have h1:((shapeOf wd).2 && fits w.length n (shapeSize (shapeOf wd).1)) = true:=by simpa using h1
 have et:thingAt w n = (⟨n,w.getD n 0,(shapeOf wd).1,seg w (n + 2) (shapeOf wd).1.refs,seg w (n + 2 + (shapeOf wd).1.refs) (shapeOf wd).1.nums⟩,true):=by
  unfold thingAt
  rw[if_pos h0,Int.toNat_natCast,hwd]
  simp only[h1];rfl
 simp only[Bool.and_eq_true] at h1
 obtain⟨q0,q1,q2,q3,q4⟩:=shape_rng h1.1
 obtain⟨-,q5,-,-⟩:=fits_in h1.2
 rw[et]
 generalize (shapeOf wd).1 = sh at q0 q1 q2 q3 q4 q5 ⊢
 rw[q4] at q5
 have en:w[(n:Int).toNat]'(by omega) = w.getD n 0:=by
  simp only[Int.toNat_natCast]
  rw[List.getD_eq_getElem?_getD,List.getElem?_eq_getElem (by omega)];rfl
 refine jadd ⟨by omega,by omega⟩ (jl (v:=I sh.refs) rfl (jadd ⟨by omega,by omega⟩ (jfz2 h (by omega) (by omega) λq hq=>?_)))
 rw[en] at hq
 refine hq _ _ ?_
 refine jla (l:=[I sh.refs,I sh.nums]) (by simp) rfl (jsl2 h (by omega) (by omega) (by omega) λv1 hv1=>?_)
 refine jl (v:=I sh.nums) rfl (jadd ⟨by omega,by omega⟩ (jsl2 h (by omega) (by omega) (by omega) λv2 hv2=>?_))
 have l1:((w.take ((n:Int) + 2 + sh.refs).toNat).drop ((n:Int) + 2).toNat) = seg w (n + 2) sh.refs:=by
  unfold seg
  rw[List.drop_take];congr 1;omega
 have l2:((w.take ((n:Int) + 2 + sh.refs + sh.nums).toNat).drop ((n:Int) + 2 + sh.refs).toNat) = seg w (n + 2 + sh.refs) sh.nums:=by
  unfold seg
  rw[List.drop_take];congr 1;omega
 rw[l1] at hv1
 rw[l2] at hv2
 have ll1:(seg w (n + 2) sh.refs).length < 1000000:=by unfold seg;rw[List.length_take,List.length_drop];omega
 have ll2:(seg w (n + 2 + sh.refs) sh.nums).length < 1000000:=by unfold seg;rw[List.length_take,List.length_drop];omega
 refine jc (A:=[]) (t_Clone hv1 ll1) ?_
 rintro x1 R1 A1 _ ⟨hR1,so1,-⟩
 subst hR1
 refine jand (hq _ _ jev) (jand (jla (l:=[I sh.refs,I sh.nums]) (by simp) rfl jev) (jand (jl (v:=I sh.nums) rfl jev) ?_))
 refine jc (A:=[]) (t_Clone hv2 ll2) ?_
 rintro x2 R2 A2 _ ⟨hR2,so2,-⟩
 subst hR2
 obtain⟨xa1,xc1,e1⟩:=so1.sln
 obtain⟨xa2,xc2,e2⟩:=so2.sln
 subst e1 e2
 refine jbd (cs:=[I n,I (w.getD n 0),I sh.refs,I sh.nums,.slice xa1 (seg w (n + 2) sh.refs).length xc1,.slice xa2 (seg w (n + 2 + sh.refs) sh.nums).length xc2]) rfl rfl ?_
 refine jand (hq _ _ jev) (jand (jla (l:=[I sh.refs,I sh.nums]) (by simp) rfl jev) ?_)
 refine js (cs':=[I n,I (w.getD n 0),I sh.refs,I sh.nums,.slice xa1 (seg w (n + 2) sh.refs).length xc1,.slice xa2 (seg w (n + 2 + sh.refs) sh.nums).length xc2]) rfl rfl (by exact Nat.le_refl 6) rfl ?_
 refine jla (l:=[I n,I (w.getD n 0),I sh.refs,I sh.nums,.slice xa1 (seg w (n + 2) sh.refs).length xc1,.slice xa2 (seg w (n + 2 + sh.refs) sh.nums).length xc2]) (by exact Nat.le_refl 6) rfl ?_
 refine jfso so2 λR3 hR3 hi2=>jfso so1 λR4 hR4 hi1=>?_
 exact jret (A:=[]) (hR3.trans hR4) ⟨rfl,_,⟨_,_,rfl,hi1,hi2.le hR4⟩,rfl⟩
end Go.Lf
end
section
namespace Go.Lf
open Go Sm
theorem r_flInts {R:RM} {D:Chs} {va vb:Value} {la lb:List Int} (ha:Ints R va la) (hb:Ints R vb lb) (h1:la.length < 1000000) (h2:lb.length < 1000000):Ro F_w_flInts [va,vb] (.bool (la == lb)) R D:=by
 refine s_w_flInts λF=>?_
 unfold c_w_flInts
 refine jln_ ha.sl (jln_ hb.sl (jne (jif (λh=>?_) (λh=>?_))))
 ·have h:(la.length:Int)≠lb.length:=by simpa using h
  refine ro_ret ?_
  congr 1
  rw[eq_comm,beq_eq_false_iff_ne]
  intro e;rw[e] at h;exact h rfl
 have hl:la.length = lb.length:=by
  have:((la.length:Int) != lb.length) = false:=h
  rw[bne_eq_false_iff_eq] at this;omega
 refine jlp (λm vs R' D'=>R' = R∧D' = D ++ F∧∃i:Nat,i≤la.length∧vs = [va,vb,I i]∧la.take i = lb.take i∧m = la.length - i) (n:=la.length) ⟨rfl,rfl,0,by omega,rfl,by simp,by omega⟩ ?_
 rintro m e R1 D1 K ⟨hR,hD,i,hi,he,heq,hm⟩ hK
 subst hR
 rw[hD];clear hD
 simp only[List.map,lc,ln,lj,and_true] at he
 simp only[he]
 refine jln_ ha.sl (jlt (jif (λhc=>?_) (λhc=>?_)))
 rotate_left
 ·have hc:=of_decide_eq_false hc
  refine ro_ret ?_
  rw[List.take_of_length_le (by omega),List.take_of_length_le (by omega)] at heq
  rw[heq];simp
 have hc:i < la.length:=by have:=of_decide_eq_true hc;omega
 refine jfz1 ha (by omega) (by omega) (jfz1 hb (by omega) (by omega) (jne ?_))
 simp only[Int.toNat_natCast]
 refine jif (λhd=>?_) (λhd=>?_)
 ·have hd:la[i]≠lb[i]:=by simpa using hd
  refine ro_ret ?_
  congr 1
  rw[eq_comm,beq_eq_false_iff_ne]
  intro e;subst e;exact hd rfl
 ·have hd:la[i] = lb[i]:=by simpa using hd
  refine jadd ⟨by omega,by omega⟩ ?_
  refine hK (la.length - (i + 1)) _ _ _ (by omega) ⟨rfl,rfl,i + 1,by omega,rfl,?_,rfl⟩
  rw[List.take_succ_eq_append_getElem hc,List.take_succ_eq_append_getElem (by omega:i < lb.length),heq,hd]
theorem x_fldsh:(P.fieldsOf 25).toList.map (λf=>(f.name != "_",f.type,f.offset)) = [(true,T_int,0),(true,T_int,1)]:=by kernel_rfl
def Cod (R:RM) (v:Value):Prop:=∃n,Bsl R v n
end Go.Lf
end
section
namespace Go.Lf
open Go Sm
theorem mk_both {r:List Int × Bool} {x y:Value} {A B:Chs} (h1:QMk r x A) (h2:QMk r y B):(r.2 = true∧∃s1 s2,OwnI r.1 s1 A∧OwnI r.1 s2 B∧x = .tuple #[s1,.bool true]∧y = .tuple #[s2,.bool true])∨(r.2 = false∧x = .tuple #[.slice none 0 0,.bool false]∧y = .tuple #[.slice none 0 0,.bool false]∧A = []∧B = []):=by
 unfold QMk at h1 h2
 by_cases h:r.2 = true
 ·rw[if_pos h] at h1 h2
  obtain⟨s1,o1,e1⟩:=h1
  obtain⟨s2,o2,e2⟩:=h2
  exact .inl ⟨h,s1,s2,o1,o2,e1,e2⟩
 ·rw[if_neg h] at h1 h2
  exact .inr ⟨by simpa using h,h1.1,h2.1,h1.2,h2.2⟩
end Go.Lf
end
section
namespace Go.Lf
open Go Sm
end Go.Lf
end
section
namespace Go.Lf
open Go Sm
section rules
variable {R:RM} {D:Chs} {k:Value→M}
end rules
end Go.Lf
end
section
namespace Go.Lf
open Go Sm
end Go.Lf
end
section
namespace Go.Lf
open Go Sm
section
variable {R:RM} {D:Chs} {t:List Rg} {sp:List Value} {b cap:Nat}
end
end Go.Lf
end
section
namespace Go.Lf
open Go Sm
section
variable {R:RM} {D:Chs} {t:List Rg} {sp:List Value} {b cap:Nat}
end
section
variable {R:RM} {D:Chs} {t:List Rg} {sp:List Value} {b cap:Nat}
end
end Go.Lf
end
section
namespace Go.Lf
open Go Sm
section
variable {R:RM} {D:Chs} {t:List Rg} {sp:List Value} {b cap:Nat}
end
end Go.Lf
end
section
namespace Go.Lf
open Go Sm
end Go.Lf
end
section
namespace Go.Lf
open Go Sm
end Go.Lf
end
section
namespace Go.Lf
open Go Sm
def cpy (w:List Int) (a b z:Int):List Int:=w.mapIdx λj x=>if (j:Int) = a∨(j:Int) = b then b else if b < j∧(j:Int) < b + z then w.getD (a + ((j:Int) - b)).toNat 0 else x
def thingCopy (w:List Int) (a b:Int):List Int × Bool:=
 if ((thingAt w a).2 && fits w.length b (shapeSize (thingAt w a).1.sh)) && !(decide (b < a + shapeSize (thingAt w a).1.sh) && decide (a < b + shapeSize (thingAt w a).1.sh)) then (cpy w a b (shapeSize (thingAt w a).1.sh),true) else ([],false)
theorem cpy_len (w:List Int) (a b z:Int):(cpy w a b z).length = w.length:=by simp[cpy]
theorem cpy_get {w:List Int} {a b z:Int} {j:Nat} (h:j < w.length):(cpy w a b z)[j]? = some (if (j:Int) = a∨(j:Int) = b then b else if b < j∧(j:Int) < b + z then w.getD (a + ((j:Int) - b)).toNat 0 else w.getD j 0):=by
 unfold cpy
 rw[List.getElem?_mapIdx,List.getElem?_eq_getElem h]
 simp only[Option.map_some]
 rw[List.getD_eq_getElem?_getD (i:=j),List.getElem?_eq_getElem h];rfl
theorem getD_some {w:List Int} {j:Nat} (h:j < w.length):w[j]? = some (w.getD j 0):=by
 rw[List.getD_eq_getElem?_getD,List.getElem?_eq_getElem h];rfl
theorem cpy_of {w l:List Int} {n m z:Nat} (hz:1≤z) (hn:n + z≤w.length) (hm:m + z≤w.length) (hl:l.length = w.length) (h:∀j,m < j→j < m + z→l[j]? = w[n + (j - m)]?) (h' : ∀j,(j < m∨m + z≤j)→l[j]? = w[j]?) :
  (l.set n m).set m m = cpy w n m z∧(l.set m m).set n m = cpy w n m z:=by
 have key:∀j,j < w.length→(j≠n→j≠m→l[j]? = (cpy w n m z)[j]?)∧((j = n∨j = m)→(cpy w n m z)[j]? = some (m:Int)):=λj hj=>by
  rw[cpy_get hj]
  refine⟨λh1 h2=>?_,λh1=>by rw[if_pos (by omega)]⟩
  rw[if_neg (by omega)]
  by_cases c:(m:Int) < j∧(j:Int) < m + z
  ·rw[if_pos c,h j (by omega) (by omega),getD_some (by omega)]
   congr 2;omega
  ·rw[if_neg c,h' j (by omega),getD_some hj]
 constructor<;>
 ·apply List.ext_getElem?
  intro j
  by_cases hj:j < w.length
  ·obtain⟨k1,k2⟩:=key j hj
   rw[List.getElem?_set,List.getElem?_set]
   by_cases c1:j = m
   ·by_cases c2:j = n
    ·rw[k2 (.inl c2)];subst c1;subst c2;simp[hl,hj]
    ·rw[k2 (.inr c1)];subst c1;simp[hl,hj,Ne.symm c2]
   ·by_cases c2:j = n
    ·rw[k2 (.inl c2)];subst c2;simp[hl,hj,Ne.symm c1]
    ·rw[← k1 c2 c1,if_neg (by omega),if_neg (by omega)]
  ·rw[List.getElem?_eq_none (by simp;omega),List.getElem?_eq_none (by rw[cpy_len];omega)]
theorem flat_is (l:List Int):allFlat (l.map I) = true:=by
 unfold allFlat
 rw[List.all_eq_true]
 intro x hx
 obtain⟨_,_,rfl⟩:=List.mem_map.1 hx
 rfl
theorem lay_put {w q:List Int} {sp:List Value} {m z:Nat} (hq:q.length = z) (hm:m + z≤w.length):lay (w.map I ++ sp) (0 + m * 1) (q.map I) = (w.take m ++ q ++ w.drop (m + z)).map I ++ sp:=by
 unfold lay
 rw[Nat.zero_add,Nat.mul_one,List.length_map,hq,List.take_append_of_le_length (by rw[List.length_map];omega),List.drop_append_of_le_length (by rw[List.length_map];omega)]
 simp[List.map_append,List.map_take,List.map_drop]
theorem p_i_Thing_size {R:RM} {D:Chs} {v:Value} {t:Thing} {k:Value→M} (h:ThV R v t) (H:J R D (k (I (shapeSize t.sh)))):J R D (CA P F_i_Thing_size [v] k):=by
 refine jro (D:=D) (v:=I (shapeSize t.sh)) ?_ H
 refine s_i_Thing_size λF=>?_
 unfold c_i_Thing_size
 obtain⟨rv,nv,rfl,hr,hn⟩:=h
 refine ja λb=>jfo ?_
 refine jla (l:=[I t.sh.refs,I t.sh.nums]) (Nat.le_of_ble_eq_true rfl) rfl (jp (p_i_ShapeSize t.sh) ?_)
 exact jpart [] (G:=D ++ F) (ro_ret rfl)
theorem at_rng {w:List Int} {a:Int} (h:(thingAt w a).2 = true):16≤a∧a + shapeSize (thingAt w a).1.sh≤w.length∧2≤shapeSize (thingAt w a).1.sh∧shapeSize (thingAt w a).1.sh≤10:=by
 unfold thingAt at h ⊢
 split
 ·rename_i h0
  rw[if_pos h0] at h
  dsimp only at h ⊢
  split
  ·rename_i h1
   simp only[Bool.and_eq_true] at h1
   obtain⟨q0,q1,q2,q3,q4⟩:=shape_rng h1.1
   obtain⟨f0,f1,f2,f3⟩:=fits_in h1.2
   dsimp only
   omega
  ·rename_i h1
   rw[if_neg h1] at h;cases h
 ·rename_i h0
  rw[if_neg h0] at h;cases h
theorem t_i_ThingCopy {R:RM} {wv:Value} {w:List Int} (a b:Int) (h:Ints R wv w) (hl:w.length < 1000000) (hw:∀x∈w,Rn x) (hb:inR b) :
  Fn P F_i_ThingCopy [wv,I a,I b] R [] (λv R' A=>QMk (thingCopy w a b) v A):=by
 refine s_i_ThingCopy λF=>?_
 unfold c_i_ThingCopy
 have hin:∀i,inR (w.getD i 0):=λi=>by
  by_cases hi:i < w.length
  ·have:=hw (w[i]) (List.getElem_mem hi)
   rw[List.getD_eq_getElem?_getD,List.getElem?_eq_getElem hi];exact this
  ·rw[List.getD_eq_getElem?_getD,List.getElem?_eq_none (by omega)];exact⟨by decide,by decide⟩
 refine jc (A:=[]) (t_i_ThingAt a h hl (hin _)) ?_
 rintro _ R1 _ hR1 ⟨rfl,x,hx,rfl⟩
 have h:=h.le hR1
 obtain⟨wa,wc,hwv⟩:=h.sl
 subst hwv
 generalize hz:shapeSize (thingAt w a).1.sh = z
 have hx0:=hx
 obtain⟨rv,nv,rfl,hrv,hnv⟩:=hx
 obtain⟨ra,rc,hrve⟩:=hrv.sl
 obtain⟨na,nc,hnve⟩:=hnv.sl
 subst hrve hnve
 refine jex rfl (jex rfl (ja λbt=>js (cs':=eTh (thingAt w a).1 (.slice ra (thingAt w a).1.refs.length rc) (.slice na (thingAt w a).1.nums.length nc)) rfl rfl (by exact Nat.le_refl 6) rfl ?_))
 refine jor [.slice wa w.length wc,I a,I b,.pointer (some ⟨bt,0,none⟩)] (!((thingAt w a).2 && fits w.length b z)) (λK' hK'=>?_) (λe c u ho he=>?_)
 ·refine jgtf (λh1=>?_) (λh1=>?_)
  ·have h2:(thingAt w a).2 = true:=by simpa using h1
   obtain⟨q0,q1,q2,q3⟩:=at_rng h2
   rw[hz] at q1 q2 q3
   refine jla (l:=eTh (thingAt w a).1 (.slice ra (thingAt w a).1.refs.length rc) (.slice na (thingAt w a).1.nums.length nc)) (by exact Nat.le_refl 6) rfl (p_i_Thing_size hx0 ?_)
   rw[hz]
   refine jp (p_i_fits wa w.length wc b z (by omega) (by omega) (by omega)) ?_
   exact hK' _ _ _ (h1▸or2_f) (by rw[h2,Bool.true_and])
  ·exact hK' _ _ _ (h1▸or2_t) (by rw[show (thingAt w a).2 = false from by simpa using h1];rfl)
 simp only[List.map,lc,ln,lj,and_true] at he
 simp only[he]
 refine jor [.slice wa w.length wc,I a,I b,.pointer (some ⟨bt,0,none⟩)] (!((thingAt w a).2 && fits w.length b z) || (decide (b < a + z) && decide (a < b + z))) (λK' hK'=>?_) (λe c u ho he=>?_)
 ·rw[ho]
  refine jgtf (λh1=>?_) (λh1=>?_)
  ·have h2:((thingAt w a).2 && fits w.length b z) = true:=by simpa using h1
   simp only[Bool.and_eq_true] at h2
   obtain⟨q0,q1,q2,q3⟩:=at_rng h2.1
   rw[hz] at q1 q2 q3
   obtain⟨f0,f1,f2,f3⟩:=fits_in h2.2
   refine jla (l:=eTh (thingAt w a).1 (.slice ra (thingAt w a).1.refs.length rc) (.slice na (thingAt w a).1.nums.length nc)) (by exact Nat.le_refl 6) rfl (p_i_Thing_size hx0 ?_)
   rw[hz]
   refine jadd ⟨by omega,by omega⟩ (jlt (jgtt (λh3=>?_) (λh3=>?_)))
   ·refine jla (l:=eTh (thingAt w a).1 (.slice ra (thingAt w a).1.refs.length rc) (.slice na (thingAt w a).1.nums.length nc)) (by exact Nat.le_refl 6) rfl (p_i_Thing_size hx0 ?_)
    rw[hz,h3]
    refine jadd ⟨by omega,by omega⟩ (jlt (jpkt ?_))
    exact hK' _ _ _ (h1▸or2_f) (by rw[h1,h3];rfl)
   ·rw[h3]
    exact jpkf (hK' _ _ _ (h1▸or2_f) (by rw[h1,h3];rfl))
  ·exact hK' _ _ _ (h1▸or2_t) (by rw[h1,Bool.true_or])
 simp only[List.map,lc,ln,lj,and_true] at he
 simp only[he]
 rw[ho]
 refine jif (λh0=>?_) (λh0=>?_)
 ·refine jret (A:=[]) hR1 ?_
  have:thingCopy w a b = ([],false):=by
   unfold thingCopy
   rw[hz,if_neg]
   intro hh
   revert h0 hh
   cases (thingAt w a).2 && fits w.length b z<;>cases decide (b < a + z) && decide (a < b + z)<;>simp
  rw[this];exact⟨rfl,rfl⟩
 have h0' : ((thingAt w a).2 && fits w.length b z) = true∧(decide (b < a + z) && decide (a < b + z)) = false:=by
  revert h0
  cases (thingAt w a).2 && fits w.length b z<;>cases decide (b < a + z) && decide (a < b + z)<;>simp
 obtain⟨h2,h3⟩:=h0'
 have et:thingCopy w a b = (cpy w a b z,true):=by
  unfold thingCopy
  rw[hz,h2,h3];rfl
 simp only[Bool.and_eq_true] at h2
 obtain⟨q0,q1,q2,q3⟩:=at_rng h2.1
 rw[hz] at q1 q2 q3
 obtain⟨f0,f1,f2,f3⟩:=fits_in h2.2
 obtain⟨n,rfl⟩:∃n:Nat,a = n:=⟨a.toNat,by omega⟩
 obtain⟨m,rfl⟩:∃m:Nat,b = m:=⟨b.toNat,by omega⟩
 obtain⟨y,rfl⟩:∃y:Nat,z = y:=⟨z.toNat,by omega⟩
 refine jc (A:=[]) (t_Clone h hl) ?_
 rintro cv R2 A2 _ ⟨hR2,_,ho2⟩
 subst hR2
 obtain⟨cb,cc,sp,hcc,hsp,rfl,rfl⟩:=ho2 (by omega)
 have hsl:∀k:Value→M,J R2 ((cb,C T_int (w.map I ++ sp)) :: (bt,C 32 (eTh (thingAt w (n:Int)).1 (.slice ra (thingAt w (n:Int)).1.refs.length rc) (.slice na (thingAt w (n:Int)).1.nums.length nc))) :: F) (k (.slice (some ⟨cb,0 + m * 1,none⟩) (w.length - m) (cc - m)))→
   J R2 ((cb,C T_int (w.map I ++ sp)) :: (bt,C 32 (eTh (thingAt w (n:Int)).1 (.slice ra (thingAt w (n:Int)).1.refs.length rc) (.slice na (thingAt w (n:Int)).1.nums.length nc))) :: F) (SL 1 (.slice (some ⟨cb,0,none⟩) w.length cc) (some (I m)) none k):=λk hk h' hs=>by
  refine⟨⟨by omega,by omega,by omega⟩,?_⟩
  rw[if_neg (by omega)]
  have e1:((w.length:Int).toNat - (m:Int).toNat) = w.length - m:=by omega
  simp only[Int.toNat_natCast]
  exact hk h' hs
 refine jperm (D':=(cb,C T_int (w.map I ++ sp)) :: (bt,C 32 (eTh (thingAt w (n:Int)).1 (.slice ra (thingAt w (n:Int)).1.refs.length rc) (.slice na (thingAt w (n:Int)).1.nums.length nc))) :: F) (List.Perm.refl _) (hsl _ ?_)
 refine jla (l:=eTh (thingAt w (n:Int)).1 (.slice ra (thingAt w (n:Int)).1.refs.length rc) (.slice na (thingAt w (n:Int)).1.nums.length nc)) (by exact Nat.le_refl 6) rfl (p_i_Thing_size hx0 ?_)
 rw[hz]
 refine jadd ⟨by omega,by omega⟩ (jsl2 h (by omega) (by omega) (by omega) λsv hsv=>?_)
 have esv:((w.take ((n:Int) + y).toNat).drop ((n:Int)).toNat) = (w.drop n).take y:=by
  rw[List.drop_take];congr 1;omega
 rw[esv] at hsv
 have eql:((w.drop n).take y).length = y:=by rw[List.length_take,List.length_drop];omega
 obtain⟨sa,sc,hsve,hrd⟩:=hsv.reads (D:=(cb,C T_int (w.map I ++ sp)) :: (bt,C 32 (eTh (thingAt w (n:Int)).1 (.slice ra (thingAt w (n:Int)).1.refs.length rc) (.slice na (thingAt w (n:Int)).1.nums.length nc))) :: F)
 subst hsve
 rw[eql] at hrd ⊢
 have hsa:∃xa,sa = some xa:=by
  rcases hsv with ⟨_,e2,_⟩ | ⟨b',o',cap',t',cs',e,_⟩
  ·rw[eql] at e2
   omega
  ·exact⟨_,(Value.slice.inj e).1⟩
 obtain⟨xa,rfl⟩:=hsa
 have hmin:Nat.min y (w.length - m) = y:=Nat.min_eq_left (by omega)
 have eql' : (((w.drop n).take y).map I).length = y:=by rw[List.length_map,eql]
 refine @jcopy _ _ _ cb (0 + m * 1) (w.length - m) (cc - m) T_int y sc xa (((w.drop n).take y).map I) (w.map I ++ sp) ((w.take m ++ (w.drop n).take y ++ w.drop (m + y)).map I ++ sp) _ (by rw[hmin];exact hrd) (by rw[hmin,eql']) (flat_is _) _ (by rw[eql',List.length_append,List.length_map];omega) (lay_put eql (by omega)) _ ?_
 have hl1:(w.take m ++ (w.drop n).take y ++ w.drop (m + y)).length = w.length:=by simp only[List.length_append,List.length_take,List.length_drop];omega
 have hcp:=(cpy_of (w:=w) (l:=w.take m ++ (w.drop n).take y ++ w.drop (m + y)) (n:=n) (m:=m) (z:=y) (by omega) (by omega) (by omega) hl1 (λj j1 j2=>?_) (λj hj=>?_)).1
 rotate_left
 ·rw[List.getElem?_append_left (by simp;omega),List.getElem?_append_right (by simp;omega),List.getElem?_take,List.length_take,Nat.min_eq_left (by omega),if_pos (by omega),List.getElem?_drop]
 ·rcases hj with hj | hj
  ·rw[List.append_assoc,List.getElem?_append_left (by simp;omega),List.getElem?_take,if_pos (by omega)]
  ·rw[List.getElem?_append_right (by simp;omega),List.getElem?_drop]
   congr 1;simp;omega
 generalize w.take m ++ (w.drop n).take y ++ w.drop (m + y) = l1 at hl1 hcp ⊢
 refine jian (by omega) (jsi (l:=l1) (by omega) (jian (by omega) (jsi (l:=l1.set n m) (by simp;omega) ?_)))
 rw[hcp]
 refine jret (A:=[(cb,C T_int ((cpy w n m y).map I ++ sp))]) hR1 ?_
 rw[et]
 exact⟨_,⟨cb,cc,sp,by rw[cpy_len];omega,by rw[cpy_len];omega,by rw[cpy_len],rfl⟩,rfl⟩
end Go.Lf
end
section
namespace Go.Lf
open Go Sm
theorem t_ThingCopy {R:RM} {wv:Value} {w:List Int} (a b:Int) (h:Ints R wv w) (hl:w.length < 1000000) (ha:inR a) (hb:inR b) :
  Fn P F_s_ThingCopy [wv,I a,I b] R [] (λv R' A=>QMk (thingCopy w a b) v A):=by
 refine s_s_ThingCopy λF=>?_
 unfold c_s_ThingCopy
 refine jc (A:=[]) (t_ThingAt a h (by omega)) ?_
 rintro _ R1 _ hR1 ⟨rfl,x,hx,rfl⟩
 have h:=h.le hR1
 obtain⟨wa,wc,hwv⟩:=h.sl
 subst hwv
 generalize hz:shapeSize (thingAt w a).1.sh = z
 obtain⟨rv,nv,rfl,hrv,hnv⟩:=hx
 obtain⟨ra,rc,hrve⟩:=hrv.sl
 obtain⟨na,nc,hnve⟩:=hnv.sl
 subst hrve hnve
 refine jex rfl (jex rfl (ja λbt=>js (cs':=eTh (thingAt w a).1 (.slice ra (thingAt w a).1.refs.length rc) (.slice na (thingAt w a).1.nums.length nc)) rfl rfl (by exact Nat.le_refl 6) rfl ?_))
 refine jif (λh1=>?_) (λh1=>?_)
 ·have h2:(thingAt w a).2 = false:=by simpa using h1
  refine jret (A:=[]) hR1 ?_
  have:thingCopy w a b = ([],false):=by
   unfold thingCopy
   rw[h2];rfl
  rw[this];exact⟨rfl,rfl⟩
 have h2:(thingAt w a).2 = true:=by simpa using h1
 obtain⟨q0,q1,q2,q3⟩:=at_rng h2
 rw[hz] at q1 q2 q3
 refine jfo ?_
 refine jla (l:=[I (thingAt w a).1.sh.refs,I (thingAt w a).1.sh.nums]) (Nat.le_of_ble_eq_true rfl) rfl (jp (p_ShapeSize _) ?_)
 rw[hz]
 refine jor [.slice wa w.length wc,I a,I b,I z] (!fits w.length b z || (decide (b < a + z) && decide (a < b + z))) (λK' hK'=>?_) (λe c u ho he=>?_)
 ·refine jp (p_l3Fits wa w.length wc b z (by omega)) (jgtf (λh3=>?_) (λh3=>?_))
  ·have h3' : fits w.length b z = true:=by simpa using h3
   obtain⟨f0,f1,f2,f3⟩:=fits_in h3'
   refine jadd ⟨by omega,by omega⟩ (jlt (jgtt (λh4=>?_) (λh4=>?_)))
   ·refine jadd ⟨by omega,by omega⟩ (jlt ?_)
    rw[h4]
    exact jpkt (hK' _ _ _ (h3▸or2_f) (by rw[h3,h4];rfl))
   ·rw[h4]
    exact jpkf (hK' _ _ _ (h3▸or2_f) (by rw[h3,h4];rfl))
  ·exact hK' _ _ _ (h3▸or2_t) (by rw[h3,Bool.true_or])
 simp only[List.map,lc,ln,lj,and_true] at he
 simp only[he]
 rw[ho]
 refine jif (λh0=>?_) (λh0=>?_)
 ·refine jret (A:=[]) hR1 ?_
  have:thingCopy w a b = ([],false):=by
   unfold thingCopy
   rw[hz,h2,if_neg]
   intro hh
   revert h0 hh
   cases fits w.length b z<;>cases decide (b < a + z) && decide (a < b + z)<;>simp
  rw[this];exact⟨rfl,rfl⟩
 have h0' : fits w.length b z = true∧(decide (b < a + z) && decide (a < b + z)) = false:=by
  revert h0
  cases fits w.length b z<;>cases decide (b < a + z) && decide (a < b + z)<;>simp
 obtain⟨h3,h4⟩:=h0'
 have et:thingCopy w a b = (cpy w a b z,true):=by
  unfold thingCopy
  rw[hz,h2,h3,h4];rfl
 obtain⟨f0,f1,f2,f3⟩:=fits_in h3
 obtain⟨n,rfl⟩:∃n:Nat,a = n:=⟨a.toNat,by omega⟩
 obtain⟨m,rfl⟩:∃m:Nat,b = m:=⟨b.toNat,by omega⟩
 obtain⟨y,rfl⟩:∃y:Nat,z = y:=⟨z.toNat,by omega⟩
 refine jown h hl λv' cb cc sp hcc hsp hv=>?_
 subst hv
 refine jk1 (F:=F) cb ?_
 refine jcutq (λvs R' D'=>R' = R1∧∃l:List Int,l.length = w.length∧(∀j,m < j→j < m + y→l[j]? = w[n + (j - m)]?)∧(∀j,(j < m∨m + y≤j)→l[j]? = w[j]?)∧D' = (cb,C T_int (l.map I ++ sp)) :: F∧vs = [I n,I m,.slice (some ⟨cb,0,none⟩) w.length cc]) (λK hK=>?_) ?_
 ·refine jcutq (λvs R' D'=>R' = R1∧∃l:List Int,l.length = w.length∧(∀j,m < j→j < m + y→l[j]? = w[n + (j - m)]?)∧(∀j,(j < m∨m + y≤j)→l[j]? = w[j]?)∧D' = (cb,C T_int (l.map I ++ sp)) :: F∧vs = [I n,I m,.slice (some ⟨cb,0,none⟩) w.length cc]) (λK2 hK2=>?_) ?_
  ·refine jlp (λk vs R' D'=>R' = R1∧∃(i:Nat) (l:List Int),1≤i∧i≤y∧k = y - i∧l.length = w.length∧(∀j,m < j→j < m + i→l[j]? = w[n + (j - m)]?)∧(∀j,(j < m∨m + i≤j)→l[j]? = w[j]?)∧D' = (cb,C T_int (l.map I ++ sp)) :: F∧vs = [.slice wa w.length wc,I n,I m,I y,.slice (some ⟨cb,0,none⟩) w.length cc,I i])
    (n:=y - 1) ⟨rfl,1,w,by omega,by omega,rfl,rfl,λj _ _=>by omega,λj _=>rfl,rfl,rfl⟩ ?_
   rintro k e R2 D2 K3 ⟨hR,i,l,i1,i2,hk,hll,hg,hs,hD,he⟩ hK3
   subst hR
   rw[hD];clear hD
   simp only[List.map,lc,ln,lj,and_true] at he
   simp only[he]
   refine jlt (jif (λhc=>?_) (λhc=>?_))
   rotate_left
   ·have hc:=of_decide_eq_false hc
    have:i = y:=by omega
    subst this
    exact hK2 _ _ _ ⟨rfl,l,hll,hg,hs,rfl,rfl⟩
   have hc:=of_decide_eq_true hc
   refine jadd ⟨by omega,by omega⟩ (jadd ⟨by omega,by omega⟩ (jfz1 h (by omega) (by omega) ?_))
   have e1:w[((n:Int) + i).toNat]'(by omega) = w.getD (n + i) 0:=by
    have e0:((n:Int) + i).toNat = n + i:=by omega
    simp only[e0]
    rw[List.getD_eq_getElem?_getD,List.getElem?_eq_getElem (by omega)];rfl
   rw[e1]
   rw[show (m:Int) + i = ((m + i:Nat):Int) from by omega]
   refine jian (by omega) (jsi (l:=l) (by omega) (jadd ⟨by omega,by omega⟩ ?_))
   refine hK3 (y - (i + 1)) _ _ _ (by omega) ⟨rfl,i + 1,l.set (m + i) (w.getD (n + i) 0),by omega,by omega,rfl,by simpa using hll,λj j1 j2=>?_,λj hj=>?_,rfl,rfl⟩
   ·rw[List.getElem?_set]
    by_cases c:m + i = j
    ·rw[if_pos c,if_pos (by omega),getD_some (by omega)]
     congr 2;omega
    ·rw[if_neg c];exact hg j j1 (by omega)
   ·rw[List.getElem?_set,if_neg (by omega)]
    exact hs j (by omega)
  rintro e R2 D2 ⟨hR,l,hll,hg,hs,hD,he⟩
  subst hR
  rw[hD];clear hD
  simp only[List.map,lc,ln,lj,and_true] at he
  simp only[he]
  exact hK _ _ _ ⟨rfl,l,hll,hg,hs,rfl,rfl⟩
 rintro e R2 D2 ⟨hR,l,hll,hg,hs,hD,he⟩
 subst hR
 rw[hD];clear hD
 simp only[List.map,lc,ln,lj,and_true] at he
 simp only[he]
 have hcp:=(cpy_of (w:=w) (l:=l) (n:=n) (m:=m) (z:=y) (by omega) (by omega) (by omega) hll hg hs).2
 refine jian (by omega) (jsi (l:=l) (by omega) (jian (by omega) (jsi (l:=l.set m m) (by simp;omega) ?_)))
 rw[hcp]
 refine jret (A:=[(cb,C T_int ((cpy w n m y).map I ++ sp))]) hR1 ?_
 rw[et]
 exact⟨_,⟨cb,cc,sp,by rw[cpy_len];omega,by rw[cpy_len];omega,by rw[cpy_len],rfl⟩,rfl⟩
theorem d_DrawThingCopy {R:RM} {v:Value} (hc:Cod R v):Fn P F_s_DrawThingCopy [v] R [] (λx R' A=>∃(w:List Int) (wv:Value) (a b:Int),x = .tuple #[wv,I a,I b]∧Ints R' wv w∧w.length≤208∧(∀x∈w,Rn x)∧inR a∧inR b∧A = []):=by
 refine s_s_DrawThingCopy λF=>?_
 unfold c_s_DrawThingCopy
 obtain⟨n,hf⟩:=hc
 refine jc (A:=[]) (d_l1Open hf) ?_
 rintro _ R1 _ _ ⟨hR,rb,v',rfl,rfl,hb⟩
 subst hR
 refine jc (A:=[(rb,rdO v' 0)]) (d_l20State hb (by decide)) ?_
 rintro _ R2 _ hR2 ⟨s,wv,mv,thv,ov,pv,tb,tc,tsp,m1,sb,hw,hmv,hth,hov,hpv,htc,h1,h2,rfl,rfl⟩
 have wl:=sb.wl
 have t0:=sb.t0
 have t1:=sb.t1
 obtain⟨wa,wc,e⟩:=hw.sl
 subst e
 refine ja λb3=>js (cs':=eSt s (.slice wa s.words.length wc) (.slice (some ⟨tb,0,none⟩) s.table.length tc) mv thv ov pv) rfl (st_flat (Fz.flat hmv) (by obtain⟨_,_,e⟩:=hth.sl;rw[e];rfl) (Fz.flat hov) (Fz.flat hpv)) (by exact Nat.le_refl 13) rfl ?_
 refine jla (l:=eSt s (.slice wa s.words.length wc) (.slice (some ⟨tb,0,none⟩) s.table.length tc) mv thv ov pv) (by exact Nat.le_refl 13) rfl ?_
 refine jfreeze (b:=tb) λR3 hR3 htb=>?_
 have hb3:=(hb.le hR2).le hR3
 have hw:=hw.le hR3
 have htv:Rgs R3 (.slice (some ⟨tb,0,none⟩) s.table.length tc) s.table:=.inr ⟨tb,0,tc,_,_,rfl,htb,by rw[List.length_append,rowsE_size (w:=5) (λ_=>rfl)];omega,by rw[List.drop_zero,← rowsE_size (f:=eRg) (w:=5) (λ_=>rfl),List.take_append_of_le_length (Nat.le_refl _),List.take_length],htc⟩
 refine jdr (d_l20Begins ⟨hw,htv,Fz.le hR3 hmv,hth.le hR3,hov.le hR3,hpv.le hR3⟩ sb hb3 ⟨by omega,by omega⟩) ?_
 rintro _ R4 m2 hR4 ⟨a,rfl,ha⟩ h3 h4
 have hb4:=hb3.le hR4
 have hw:=hw.le hR4
 refine jl (v:=.slice wa s.words.length wc) rfl ?_
 refine jdr (d_l20Addr ⟨_,_,rfl⟩ (by omega) hb4 ⟨by omega,by omega⟩) ?_
 rintro _ R5 m3 - ⟨hR5,b,rfl,hbr⟩ h5 h6
 subst hR5
 have hR15:=(hR2.trans hR3).trans hR4
 refine jk2 (F:=F) rb b3 ?_
 refine jcutq (λvs R' D'=>R' = R5∧(∃m4:Int,D' = (rb,rdO v' m4) :: (b3,C T_State (eSt s (.slice wa s.words.length wc) (.slice (some ⟨tb,0,none⟩) s.table.length tc) mv thv ov pv)) :: F)∧∃b' : Int,inR b'∧vs = [.pointer (some ⟨b3,0,none⟩),I a,I b']) (λK hK=>?_) ?_
 ·refine jpk hb4 ⟨by omega,by omega⟩ λy _ _=>jeq (jif (λ_=>?_) (λ_=>?_))
  ·refine jl (v:=.slice (some ⟨tb,0,none⟩) s.table.length tc) rfl (jln (jsub ⟨by omega,by omega⟩ (jpk hb4 ⟨by omega,by omega⟩ λz _ _=>jadd ⟨by omega,by omega⟩ (jmul ⟨by omega,by omega⟩ ?_))))
   exact hK _ _ _ ⟨rfl,⟨_,rfl⟩,_,⟨by omega,by omega⟩,rfl⟩
  ·exact hK _ _ _ ⟨rfl,⟨_,rfl⟩,b,hbr,rfl⟩
 rintro e R6 D6 ⟨hR,⟨m4,hD⟩,b',hb',he⟩
 subst hR
 rw[hD];clear hD
 simp only[List.map,lc,ln,lj,and_true] at he
 simp only[he]
 refine jl (v:=.slice wa s.words.length wc) rfl ?_
 exact jret (A:=[]) hR15 ⟨s.words,_,a,b',rfl,hw,by omega,sb.wr,ha,hb',rfl⟩
end Go.Lf
end
