/- The given row of this law is proved: whatever code comes in, it returns true and leaves the code as it was. Conditions: none. -/
import Derived.Test.YtoajhnhjmhdfdaaGreatRows
import Derived.ProofKit
import Derived.ChangeOld
import Derived.Test.YtoajhnhjmhdfdaaGreatVO
set_option linter.unusedVariables false
set_option linter.unusedSimpArgs false
section
namespace Go.Lf
open Go Sm
theorem getD_some {w:List Int} {j:Nat} (h:j < w.length):w[j]? = some (w.getD j 0):=by
 rw[List.getD_eq_getElem?_getD,List.getElem?_eq_getElem h];rfl
end Go.Lf
end
section
namespace Go.Lf
open Go Sm
end Go.Lf
end
section
namespace Go.Lf
open Go Sm
end Go.Lf
end
section
namespace Go.Lf
open Go Sm
theorem room_facts {t:List Rg} {o z:Int} {u:List Rg} {a:Int} (h:tableRoom t o z = some (u,a)):∃k:Nat,regionOf a = k∧1≤k∧k < u.length∧(∀h:k < u.length,(u[k]).kind = 2∧(u[k]).owner = o∧(u[k]).top = a)∧regionOf (a + z - 1) = k∧tableOk u = true∧u.length = t.length∧16≤a∧a < 192∧1≤z∧z≤16:=by
 obtain⟨h0,h1,h2,h3,h4⟩:=room_in h
 rcases room_spec (tableOk_iff.1 h0) h1 h2 h3 h4 with hn | ⟨t',d,he,hr⟩
 ·rw[hn] at h;cases h
 rw[he] at h
 cases h
 have n1:=hr.ok.n1
 have hd:=hr.d0
 have hf:=hr.fit
 have hlt:a / 16 < u.length:=by
  by_cases c:a / 16 < u.length
  ·exact c
  ·have:=hr.dk
   rw[rv_out (by omega) (by omega)] at this
   cases this
 obtain⟨k,hk⟩:∃k:Nat,a / 16 = k:=⟨(a / 16).toNat,by omega⟩
 have hkl:k < u.length:=by omega
 refine⟨k,by unfold regionOf;rw[if_neg (by omega)];exact hk,by omega,hkl,λh=>?_,by unfold regionOf;rw[if_neg (by omega)];omega,tableOk_iff.2 hr.ok,hr.len,hd,by omega,h3,h4⟩
 have e:=rv_at h
 rw[← hk] at e
 rw[← e]
 exact⟨hr.dk,hr.do_,hr.dt⟩
end Go.Lf
end
section
namespace Go.Lf
open Go Sm
theorem p_i_RegionOf {a:Int} (h0:0≤a) (h1:a < 1000000):Pu F_i_RegionOf [I a] (I (regionOf a)):=by
 intro R
 refine s_i_RegionOf λF=>?_
 unfold c_i_RegionOf
 have e1:a.tdiv 16 = a / 16:=Int.tdiv_eq_ediv_of_nonneg h0
 refine jlt (jif (λh=>?_) (λh=>?_))
 ·have h:=z_f h
  omega
 ·refine jquo (by decide) (by rw[e1];constructor<;>omega) ?_
  rw[e1]
  exact jret (A:=[]) (RM.le.refl R) (by unfold regionOf;rw[if_neg (by omega)])
set_option maxHeartbeats 1000000 in
theorem w_TableRoom {R:RM} {v:Value} (hc:Cod R v):Fn P F_w_FnTableRoom [v] R [] (λx _ A=>x = .bool true∧A = []):=by
 refine s_w_FnTableRoom λF=>?_
 unfold c_w_FnTableRoom
 have hsl:∃a c n,v = .slice a n c:=by
  obtain⟨n,hf⟩:=hc
  obtain⟨a,c,e⟩:=hf.sl
  exact⟨a,c,n,e⟩
 obtain⟨ca,cc,cn,hv⟩:=hsl
 refine jln_ ⟨ca,cc,hv⟩ (jgr (jif (λ_=>jret (A:=[]) (RM.le.refl R) ⟨rfl,rfl⟩) (λ_=>?_)))
 refine jc (A:=[]) (d_DrawTableRoom hc) ?_
 rintro _ R1 _ hR1 ⟨t,tb,tc,tsp,o,z,rfl,t0,t1,t2,o0,o1,z0,z1,rfl⟩
 refine jex rfl (jex rfl (jex rfl ?_))
 refine jperm (D':=(tb,C T_Region (rowsE eRg t ++ tsp)) :: F) (List.Perm.refl _) ?_
 refine jmk (m_i_TableRoom o z (by omega)) ?_
 intro x N hq
 cases hr:tableRoom t o z with
 | none=>
  rw[hr] at hq
  obtain⟨rfl,rfl⟩:x = .tuple #[.slice none 0 0,I 0,.bool false]∧N = []:=hq
  refine jex rfl (jex rfl (jex rfl ?_))
  refine jmk (m_TableRoom o z (by omega)) ?_
  intro x' N' hq'
  rw[hr] at hq'
  obtain⟨rfl,rfl⟩:x' = .tuple #[.slice none 0 0,I 0,.bool false]∧N' = []:=hq'
  refine jex rfl (jex rfl (jex rfl ?_))
  refine jperm (D':=(tb,C T_Region (rowsE eRg t ++ tsp)) :: F) (List.Perm.refl _) ?_
  refine jor [I o,I z,.slice none 0 0,I 0,.bool false,.slice none 0 0] false (λK' hK'=>?_) (λe c u ho he=>?_)
  ·exact @jxb _ _ _ _ _ _ _ (jff (jne (hK' _ _ _ or2_f rfl)))
  simp only[List.map,lc,ln,lj,z_t] at he
  simp only[he]
  refine jor [I o,I z,.slice none 0 0,I 0,.bool false,.slice none 0 0] false (λK' hK'=>?_) (λe c u ho he=>?_)
  ·rw[ho]
   exact jff (jln (jln (jne (hK' _ _ _ or2_f rfl))))
  simp only[List.map,lc,ln,lj,z_t] at he
  simp only[he]
  rw[ho]
  refine jiff ?_
  refine jcutq (λvs R' D'=>R' = R1∧D' = (tb,C T_Region (rowsE eRg t ++ tsp)) :: F∧vs = [I o,I z,.slice none 0 0,I 0,.bool false]) (λK hK=>?_) ?_
  ·refine jcutq (λvs R' D'=>R' = R1∧D' = (tb,C T_Region (rowsE eRg t ++ tsp)) :: F∧vs = [I o,I z,.slice none 0 0,I 0,.bool false]) (λK2 hK2=>?_) ?_
   ·refine jlp (λn vs R' D'=>R' = R1∧D' = (tb,C T_Region (rowsE eRg t ++ tsp)) :: F∧vs = [I o,I z,.slice none 0 0,I 0,.bool false,.slice none 0 0,I 0]) (n:=0) ⟨rfl,rfl,rfl⟩ ?_
    rintro n e R3 D3 K3 ⟨hR,hD,he⟩ hK3
    subst hR
    rw[hD];clear hD
    simp only[List.map,lc,ln,lj,z_t] at he
    simp only[he]
    exact jln (jlt (jiff (hK2 _ _ _ ⟨rfl,rfl,rfl⟩)))
   rintro e R3 D3 ⟨hR,hD,he⟩
   subst hR
   rw[hD];clear hD
   simp only[List.map,lc,ln,lj,z_t] at he
   simp only[he]
   exact hK _ _ _ ⟨rfl,rfl,rfl⟩
  rintro e R3 D3 ⟨hR,hD,he⟩
  subst hR
  rw[hD];clear hD
  simp only[List.map,lc,ln,lj,z_t] at he
  simp only[he]
  exact jift (jln (jeq (jret (A:=[]) hR1 ⟨rfl,rfl⟩)))
 | some ua=>
  obtain⟨u,a⟩:=ua
  obtain⟨k,k0,k1,k2,k3,k4,k5,hul,a0,a1,z2,z3⟩:=room_facts hr
  obtain⟨k6,k7,k8⟩:=k3 k2
  rw[hr] at hq
  obtain⟨_,⟨ub,uc,usp,huc,rfl,rfl⟩,rfl⟩:=hq
  refine jex rfl (jex rfl (jex rfl ?_))
  refine jmk (m_TableRoom (t:=t) (sp:=tsp) (b:=tb) (cap:=tc) o z (by omega)) ?_
  intro x' N' hq'
  rw[hr] at hq'
  obtain⟨_,⟨wb,wc,wsp,hwc,rfl,rfl⟩,rfl⟩:=hq'
  refine jex rfl (jex rfl (jex rfl ?_))
  refine jk2 (F:=F) ub wb ?_
  refine jor [I o,I z,.slice (some ⟨ub,0,none⟩) u.length uc,I a,.bool true,.slice (some ⟨wb,0,none⟩) u.length wc] false (λK' hK'=>?_) (λe c u' ho he=>?_)
  ·exact @jxb _ _ _ _ _ _ _ (jff (jne (hK' _ _ _ or2_f (by simp))))
  simp only[List.map,lc,ln,lj,z_t] at he
  simp only[he]
  refine jor [I o,I z,.slice (some ⟨ub,0,none⟩) u.length uc,I a,.bool true,.slice (some ⟨wb,0,none⟩) u.length wc] false (λK' hK'=>?_) (λe c u' ho he=>?_)
  ·rw[ho]
   exact jff (jln (jln (jne (hK' _ _ _ or2_f (by simp)))))
  simp only[List.map,lc,ln,lj,z_t] at he
  simp only[he]
  rw[ho]
  refine jiff ?_
  refine jcutq (λvs R' D'=>R' = R1∧D' = (ub,C T_Region (rowsE eRg u ++ usp)) :: (wb,C T_Region (rowsE eRg u ++ wsp)) :: F∧vs = [I o,I z,.slice (some ⟨ub,0,none⟩) u.length uc,I a,.bool true]) (λK hK=>?_) ?_
  ·refine jcutq (λvs R' D'=>R' = R1∧D' = (ub,C T_Region (rowsE eRg u ++ usp)) :: (wb,C T_Region (rowsE eRg u ++ wsp)) :: F∧vs = [I o,I z,.slice (some ⟨ub,0,none⟩) u.length uc,I a,.bool true]) (λK2 hK2=>?_) ?_
   ·refine jlp (λn vs R' D'=>R' = R1∧D' = (ub,C T_Region (rowsE eRg u ++ usp)) :: (wb,C T_Region (rowsE eRg u ++ wsp)) :: F∧∃i:Nat,i≤u.length∧n = u.length - i∧vs = [I o,I z,.slice (some ⟨ub,0,none⟩) u.length uc,I a,.bool true,.slice (some ⟨wb,0,none⟩) u.length wc,I i]) (n:=u.length) ⟨rfl,rfl,0,by omega,rfl,rfl⟩ ?_
    rintro n e R3 D3 K3 ⟨hR,hD,i,hi,hn,he⟩ hK3
    subst hR
    rw[hD];clear hD
    simp only[List.map,lc,ln,lj,z_t] at he
    simp only[he]
    refine jln (jlt (jif (λhc=>?_) (λhc=>hK2 _ _ _ ⟨rfl,rfl,rfl⟩)))
    have hc:=z_f hc
    have hiu:i < u.length:=by omega
    refine jian hiu (jlrow (sp:=usp) hiu (jian hiu (jlrow (sp:=wsp) hiu ?_)))
    refine @jxrg (u[i]) (u[i]) _ _ _ _ _ ?_
    rw[beq_self_eq_true]
    exact jiff (jadd ⟨by omega,by omega⟩ (hK3 (u.length - (i + 1)) _ _ _ (by omega) ⟨rfl,rfl,i + 1,by omega,rfl,rfl⟩))
   rintro e R3 D3 ⟨hR,hD,he⟩
   subst hR
   rw[hD];clear hD
   simp only[List.map,lc,ln,lj,z_t] at he
   simp only[he]
   exact hK _ _ _ ⟨rfl,rfl,rfl⟩
  rintro e R3 D3 ⟨hR,hD,he⟩
  subst hR
  rw[hD];clear hD
  simp only[List.map,lc,ln,lj,z_t] at he
  simp only[he]
  refine jiff (jp (p_i_RegionOf (by omega) (by omega)) ?_)
  rw[k0]
  refine jan [I o,I z,.slice (some ⟨ub,0,none⟩) u.length uc,I a,I k] true (λK' hK'=>?_) (λe c u' ho he=>?_)
  ·refine jge ?_
   rw[show decide ((k:Int)≥1) = true from decide_eq_true (by omega)]
   exact jtt (jln (jlt (hK' _ _ _ and2_t (decide_eq_true (by omega)))))
  simp only[List.map,lc,ln,lj,z_t] at he
  simp only[he]
  refine jan [I o,I z,.slice (some ⟨ub,0,none⟩) u.length uc,I a,I k] true (λK' hK'=>?_) (λe c u' ho he=>?_)
  ·rw[ho]
   refine jtt (jian k2 (jl (v:=I (u[k]).kind) (by rw[Nat.zero_add];exact row_cell (f:=0) k2 rfl) (jeq (hK' _ _ _ and2_t ?_))))
   rw[k6];rfl
  simp only[List.map,lc,ln,lj,z_t] at he
  simp only[he]
  refine jan [I z,.slice (some ⟨ub,0,none⟩) u.length uc,I a,I k] true (λK' hK'=>?_) (λe c u' ho he=>?_)
  ·rw[ho]
   refine jtt (jian k2 (jl (v:=I (u[k]).owner) (by rw[Nat.zero_add];exact row_cell (f:=1) k2 rfl) (jeq (hK' _ _ _ and2_t ?_))))
   rw[k7,beq_self_eq_true]
  simp only[List.map,lc,ln,lj,z_t] at he
  simp only[he]
  refine jan [I z,.slice (some ⟨ub,0,none⟩) u.length uc,I a,I k] true (λK' hK'=>?_) (λe c u' ho he=>?_)
  ·rw[ho]
   refine jtt (jian k2 (jl (v:=I (u[k]).top) (by rw[Nat.zero_add];exact row_cell (f:=2) k2 rfl) (jeq (hK' _ _ _ and2_t ?_))))
   rw[k8,beq_self_eq_true]
  simp only[List.map,lc,ln,lj,z_t] at he
  simp only[he]
  refine jan [.slice (some ⟨ub,0,none⟩) u.length uc] true (λK' hK'=>?_) (λe c u' ho he=>?_)
  ·rw[ho]
   refine jtt (jadd ⟨by omega,by omega⟩ (jsub ⟨by omega,by omega⟩ (jp (p_i_RegionOf (by omega) (by omega)) (jeq (hK' _ _ _ and2_t ?_)))))
   rw[k4,beq_self_eq_true]
  simp only[List.map,lc,ln,lj,z_t] at he
  simp only[he]
  refine jan [] true (λK' hK'=>?_) (λe c u' ho he=>?_)
  ·rw[ho]
   refine jtt (jro (r_i_TableOk (t:=u) (sp:=usp) (b:=ub) (cap:=uc) (by omega)) (hK' _ _ _ and2_t ?_))
   exact k5
  simp only[List.map,lc,ln,lj,z_t] at he
  simp only[he]
  rw[ho]
  exact jret (A:=[]) hR1 ⟨rfl,rfl⟩
end Go.Lf
end
section
namespace Go.Lf
open Go Sm
structure Blk (w w' : World):Prop where
 same:Same w w'
 block:∀k,k < w.heap.size→w'.heap[k]? = w.heap[k]?
theorem Blk.frame {W w' : World} (h:Blk W w') (may:MemPlace→Prop):W.keptBut w' may:=by
 refine⟨h.same.1,h.same.2,λi hi=>?_⟩
 rw[h.block i hi]
 split<;>simp_all
theorem Blk.at_ {W w' : World} (h:Blk W w') {p:MemPlace} (hp:p.block < W.heap.size):W.sameAt w' p:=by
 cases p with
 | cell b o=>exact World.cell?_of_block (w:=W) (h.block b hp)
 | map b=>exact h.block b hp
def IsRow (w:World) (a:Option Addr) (len cap:Nat) (zs:List Int):Prop:=
 (a = none∧len = 0∧cap = 0∧zs = [])∨
 ∃x,a = some x∧len≤cap∧zs.length = cap∧(∀i,i < zs.length→w.cell? (x.add i) = some (.int .u8 (zs.getD i 0)))∧∀n∈zs,(Lit.int .u8 n).wf = true
theorem cod_of {w:World} {a:Option Addr} {len cap:Nat} {zs:List Int} (h:IsRow w a len cap zs):Cod (λb=>w.heap[b]?) (.slice a len cap):=by
 rcases h with ⟨rfl,rfl,rfl,rfl⟩ | ⟨x,rfl,hl,hz,hcell,hwz⟩
 ·exact⟨0,none,0,rfl,z_n _,.inl rfl⟩
 ·by_cases h0:len = 0
  ·exact⟨len,some x,cap,rfl,hl,.inl h0⟩
  ·obtain⟨b,off,spot⟩:=x
   have hc:=hcell 0 (by omega)
   have hspot:spot = none:=by simpa [Addr.add] using World.cell?_spot hc
   subst hspot
   refine⟨len,_,cap,rfl,hl,.inr ⟨b,off,rfl,λi hi=>?_⟩⟩
   have hi' : i < zs.length:=by omega
   have hc:=hcell i hi'
   have hw:=hwz (zs.getD i 0) (by simp[List.getD,hi'])
   rw[show (⟨b,off,none⟩:Addr).add i = ⟨b,off + i,none⟩ by simp[Addr.add],hc_eq] at hc
   unfold Go.Lf.hc at hc
   split at hc
   ·rename_i cs t fz hb
    refine⟨t,cs,fz,_,hb,hc,?_⟩
    have hr:∀n:Int,(Lit.int .u8 n).wf = true→0≤n∧n < 256:=λn hn=>by
     have h2:(decide (0≤n) && decide (n≤255)) = true:=hn
     simp only[z_b,z_d] at h2
     omega
    exact hr _ hw
   ·cases hc
theorem law_walk {f:Nat} (hw:∀(R:RM) (v:Value),Cod R v→Fn P f [v] R [] (λx _ A=>x = .bool true∧A = [])) {w:World} {a:Option Addr} {len cap:Nat} {zs:List Int} (h:IsRow w a len cap zs) :
  Calls P f #[.slice a len cap] w λe w'=>e = .returned (.bool true)∧Blk w w':=by
 have h1:=hw _ _ (cod_of h) [] w.heap ⟨λb o hb=>hb,(λb o hm=>by cases hm),List.nodup_nil⟩ w rfl
 refine h1.mono ?_
 rintro e w' ⟨v,rfl,hs,R',A',h2,h3,rfl,h4⟩
 refine⟨rfl,hs,λk hk=>?_⟩
 have:=h3.rd k _ (h2 k _ (Array.getElem?_eq_getElem hk))
 rw[this,Array.getElem?_eq_getElem hk]
end Go.Lf
end
section
namespace Go.Proofs.YtoajhnhjmhdfdaaGreat.fnTableRoom
open Go Go.Lf
open Go.ChangeShapes Go.WideShapes Go.ChangeAt Go.RowKit
set_option linter.unusedVariables false
theorem own:ownKnob Tryz.prog.godebug = none:=by kernel_rfl
theorem laidOut:laidOutB Tryz.prog = true:=by kernel_rfl
set_option maxRecDepth 100000 in
theorem lifted (os:Os) (started:os.Started) (H:Type) (enc:TypeId × Value→H) :
  ReturnsInHanded {} Tryz.checked os 3 .any (Rows.fnTableRoomSpec.pre6 enc Tryz.prog Tryz.f3 Rows.fnTableRoomRow.domain false) (Rows.fnTableRoomSpec.post enc Tryz.prog Tryz.f3 false true false false):=by
 refine returnsInHanded_of_change (C:=Tryz.checked) own started (by kernel_rfl) Tryz.func3
  (ChangeSpec.witness6 (enc:=enc) (C:=Tryz.checked) false ⟨#[],#[.slice none 0 0],[]⟩ 8 (by kernel_rfl) (by kernel_rfl) (by kernel_rfl) (by kernel_rfl)) ?_
 intro W base args ds gs before hval0 hW hcnd _
 have hval:∀(j:Nat) t v,Tryz.f3.params[j]? = some t→args[j]? = some v→Value.okWide Tryz.prog W .any base t v:=hval0
 have hW':=hW
 obtain⟨p,q,hA0,hV,rfl,hfz,hnd⟩:=hW
 have hA:DataW.TrodAll enc Tryz.prog W 0 (λ_=>true) true Tryz.f3.params.toList args.toList ds p:=hA0
 rw[Tryz.params3] at hA hval
 obtain⟨v0,vs0,d0,ds0,p0,q0,hargs,rfl,rfl,h0,r0⟩:=trodAll_cons hA
 obtain⟨rfl,rfl,rfl⟩:=trodAll_nil r0
 obtain rfl:args = #[v0]:=by cases args;simp_all
 obtain⟨rfl,rfl⟩:=trodVars_none hV
 obtain⟨a0,len0,cap0,rfl⟩:=okWide_slice Tryz.underlying22 (hval 0 22 v0 rfl rfl)
 have k0:=h0
 have lt0:∀x∈p0,x.block < W.heap.size:=by obtain⟨m,hm⟩:=k0;exact DataW.trod_lt m _ _ _ hm
 obtain⟨z0,w0⟩:∃zs,IsRow W a0 len0 cap0 zs:=by
  obtain⟨fuel,hf⟩:=h0
  rcases open_ints Tryz.underlying22 Tryz.underlying5 (by kernel_rfl) hf with ⟨hcs,_⟩ | ⟨x,l,c,zs,hcs,_,hl,hm,hz,_,hcell,hwz⟩
  ·simp[Value.cells] at hcs
   obtain⟨rfl,rfl,rfl⟩:=hcs
   exact⟨[],.inl ⟨rfl,rfl,rfl,rfl⟩⟩
  ·simp[Value.cells] at hcs
   obtain⟨rfl,rfl,rfl⟩:=hcs
   exact⟨zs,.inr ⟨_,rfl,hl,by simpa using hz,hcell,hwz⟩⟩
 clear hA0 hval0
 refine (law_walk (f:=3) (λR v h=>w_TableRoom h) w0).mono λe W' ⟨he,bel⟩=>?_
 subst he
 have hst:DataW.Trod enc Tryz.prog W' 0 (λb=>decide (b < W.heap.size)) true 22 (Value.slice a0 len0 cap0) d0 p0:=WideElems.Trod_stays laidOut (by kernel_rfl) (z_f (by kernel_rfl)) k0 (λx hx=>bel.at_ (lt0 x hx)) (λx hx=>by simpa using lt0 x hx)
 exact⟨_,rfl,_,_,_,[],_,[],hW',trodAll_mk1 (shut_bool Tryz.underlying4 _),trodAll_mk1 hst,rfl,bel.frame _,λh=>by cases h⟩
theorem over:Rows.fnTableRoomRow.holds Tryz.pinned (OpenSpec.ofChange Rows.fnTableRoomSpec):=
 OpenClaim.holds_of_wide 3 Tryz.f3 rfl rfl rfl rfl rfl rfl rfl ⟨rfl,rfl,rfl,rfl,rfl⟩ rfl rfl rfl rfl rfl (by kernel_rfl) Tryz.func3 (by kernel_rfl)
  (z_f (by kernel_rfl)) (by unfold Func.isWrapper;rw[if_neg (z_g (by kernel_rfl))];exact⟨rfl,rfl⟩)
  (λos started H enc _=>lifted os started H enc)
theorem proved:Rows.FnTableRoomSaid:=over
#print axioms proved
end Go.Proofs.YtoajhnhjmhdfdaaGreat.fnTableRoom
end
