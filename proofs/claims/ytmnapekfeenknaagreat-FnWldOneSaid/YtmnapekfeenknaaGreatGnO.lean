/-
  Contracts: the gateway hears, both sides.
-/
import Derived.Test.YtmnapekfeenknaaGreatGnC
import Derived.Test.YtmnapekfeenknaaGreatGnVe
import Derived.Test.YtmnapekfeenknaaGreatInsW
import Derived.Test.YtmnapekfeenknaaGreatM2
import Derived.Test.YtmnapekfeenknaaGreatGnE
import Derived.Test.YtmnapekfeenknaaGreatM3
set_option linter.unusedVariables false
set_option linter.unusedSimpArgs false
set_option maxRecDepth 100000
set_option maxHeartbeats 8000000
namespace Go.Proofs.YtmnapekfeenknaaGreat
open Go.Sx Go.Proofs Go.Mo
noncomputable def b9i:Sx.Spec:=⟨false,true,[.map,.book,.int .i64,.row .msg],[[some .row],[none]],fun _ _ ⟨m,l,s,x,_⟩ => .ret (.tup [oAs [.list .row fun _=>(a2l (m ()) (l ()) (s ()) (x ())).b],vB fun _=>(a2l (m ()) (l ()) (s ()) (x ())).ok],fun _=>0)⟩
theorem c2S:b9 Tryz.prog 263 b9i:=j5 j3 (ss := [(146,a6P),(193,a9r),(222,a5S),(246,Z4)]) ⟨a8n,b2t,a9F,b7u,trivial⟩ rfl rfl<|by
 intro(bs:Th (List Int)) (p:Th Int) ⟨(m:Th PMap),(l:Th (List Row)),(s:Th Int),(x:Th Msg),u⟩ K _ _ ho h
 obtain⟨m,rfl⟩:=b6 m;obtain⟨l,rfl⟩:=b6 l;obtain⟨s,rfl⟩:=b6 s;obtain⟨x,rfl⟩:=b6 x
 have hp:=a2W l x.ord.who
 have hlt0 : ¬m7 l x.ord.who = -1→(m7 l x.ord.who).toNat<l.length:=fun h=>by omega
 have hq:=fun(h:C4 m l=true)=>b5K h
 have hr := @c1B (nth .row l (m7 l x.ord.who).toNat).cell m.cells
 refine⟨noAnn,noAnn,20,?_⟩
 cbv
 repeat' first|((with_reducible intro _);cbv)|(with_reducible refine And.intro ?_ ?_)
 all_goals first|(refine retK h ?_;clear h;simp only[fin0])|(with_reducible refine Ob.mk ?_;clear h)|(clear h)
 all_goals(try simp only[eta0,RT.bytes]at *)
 all_goals(try have hlt:=hlt0 (by assumption))
 all_goals(try(have hz:=hq (by assumption);obtain⟨hm1,hm2,hc⟩:=hz))
 all_goals(try have hw:=e9 (n:=(nth .row l (m7 l x.ord.who).toNat).cell+1) (by have:=hc _ hlt;omega) (by have:=hc _ hlt;omega))
 all_goals(try simp only[j9 .row hlt,List.set_set,List.length_set]at *)
 all_goals(try simp only[a6N,j9 .row hlt,List.set_set,List.length_set,b8v,b1x]at *)
 all_goals(try simp only[hw]at *)
 all_goals(try simp only[a2l,B5,Mo.rowAt]at *)
 all_goals(try generalize ((nth RT.row l (m7 l x.ord.who).toNat).cell+1).tmod m.cells=q at *)
 all_goals grind[x6,a8g]
noncomputable def b9j:Sx.Spec:=⟨false,true,[.map,.list .gst,.row .gst],[[some .gst]],fun _ _ ⟨m,l,g,_⟩ => .ret (vW .gst fun _=>a8K (m ()) (l ()) (g ()),fun _=>0)⟩
theorem c8i:b9 Tryz.prog 265 b9j:=j5 j3 (ss := [(224,b1P),(228,a6Q),(253,a3w)]) ⟨b5r,b2v,c0m,trivial⟩ rfl rfl<|by
 intro(bs:Th (List Int)) (p:Th Int) ⟨(m:Th PMap),(l:Th (List Gst)),(g:Th Gst),u⟩ K _ _ ho h
 obtain⟨m,rfl⟩:=b6 m;obtain⟨l,rfl⟩:=b6 l;obtain⟨g,rfl⟩:=b6 g
 have hl:=okB (ho.2.1 _ (.head _))
 have hz:=d3o l g
 have hlong:20<l.length→E8 m l=false:=fun h=>a9Q h
 refine⟨annL [(265,6,⟨Nat,[⟨.tmp 7 0,some 23,.gst⟩],fun σ k=>((((σ.fg 23).t 9 (vI fun _=>(k:Int))).t 7 (vO 23 1)).t 8 (vB fun _=>(gpTo l g k).d)).row 23 1 .gst (fun _=>(gpTo l g k).l),fun _ k _=>k≤l.length∧l.length≤20∧E8 m l=true∧a1x m g=true,fun _ k _=>l.length-k⟩)],noAnn,20,?_⟩
 cbv
 repeat' first|((with_reducible refine fun(k:Nat) => ?_);cbv)|((with_reducible intro _);cbv)|(with_reducible refine And.intro ?_ ?_)
 all_goals try((first|(with_reducible refine LoopIn.mk ((0:Nat)) ?_ ?_)|(with_reducible refine LoopBack.mk ((k+1:Nat)) ?_ ?_ ?_)) )
 all_goals try((with_reducible show l9 _ _);cbv;(try simp only[and_true,true_and]))
 all_goals try(repeat' with_reducible refine And.intro ?_ ?_)
 all_goals first|(refine retK h ?_;clear h;simp only[fin0])|(with_reducible refine Ob.mk ?_;clear h)|(clear h)
 all_goals(try simp only[eta0,RT.bytes]at *)
 all_goals grind(splits:=30) [j4,e9,c9b,a9R,V9,c5Y,a8K]
def gotS (m:PMap) (t:Arb) (cell side n:Int):List Msg :=
 if n7 t (b7 m cell side) = -1∨n=0 then[]else[⟨6,n7 t (b7 m cell side),b7 m cell side,IntKind.i64.wrap (1-side),n,x6,A2,K0⟩]
noncomputable def sGot:Sx.Spec:=⟨false,true,[.map,.arb,.int .i64,.int .i64,.int .i64],[[some .msg]],fun _ _ ⟨m,t,c,s,n,_⟩ => .ret (vW .msg fun _=>gotS (m ()) (t ()) (c ()) (s ()) (n ()),fun _=>0)⟩
theorem d1U:b9 Tryz.prog 284 sGot:=j5 j3 (ss := [(138,E6),(190,L5)]) ⟨V3,a0p,trivial⟩ rfl rfl<|by
 intro(bs:Th (List Int)) (p:Th Int) ⟨(m:Th PMap),(t:Th Arb),(c:Th Int),(s:Th Int),(n:Th Int),u⟩ K _ _ ho h
 obtain⟨m,rfl⟩:=b6 m;obtain⟨t,rfl⟩:=b6 t;obtain⟨c,rfl⟩:=b6 c;obtain⟨s,rfl⟩:=b6 s;obtain⟨n,rfl⟩:=b6 n
 refine⟨noAnn,noAnn,20,?_⟩
 cbv
 repeat' first|((with_reducible intro _);cbv)|(with_reducible refine And.intro ?_ ?_)
 all_goals first|(refine retK h ?_;clear h;simp only[fin0])|(with_reducible refine Ob.mk ?_;clear h)|(clear h)
 all_goals(try simp only[eta0,RT.bytes]at *)
 all_goals grind[gotS,x6,A2,K0]
noncomputable def b1J:Sx.Spec:=⟨false,false,[.row .srv,.int .i64],[[none,some .hld,some .gst]],fun _ _ ⟨s,c,_⟩ => .asrt (fun _=>(s ()).holds.length≤9) (.ret (rAs (a7o fun _=>⟨(s ()).up,G9 (s ()).holds (c ()),(s ()).o8⟩),fun _=>0))⟩
noncomputable def d6W:Sx.Spec:=⟨false,false,[.row .srv,.row .hld],[[none,some .hld,some .gst]],fun _ _ ⟨s,h,_⟩ => .asrt (fun _=>(s ()).holds.length≤9) (.ret (rAs (a7o fun _=>⟨(s ()).up,a6e (s ()).holds (h ()),(s ()).o8⟩),fun _=>0))⟩
theorem a8r:b9 Tryz.prog 286 b1J:=j5 j3 (ss := []) trivial rfl rfl<|by
 intro(bs:Th (List Int)) (p:Th Int) ⟨(s:Th Srv),(c:Th Int),u⟩ K _ _ ho h
 obtain⟨s,rfl⟩:=b6 s;obtain⟨c,rfl⟩:=b6 c
 obtain⟨ha,h⟩:=h
 have ha:=ha.out
 have hl:=b7M s.holds c
 refine⟨annL [(286,3,⟨Nat,[⟨.tmp 5 0,some 1000000000000008,.hld⟩],fun σ k=>(((σ.fg 8).t 6 (vI fun _=>(k:Int))).t 5 (vO 8 1)).h 8 (1,.row false 0 .hld (fun _=>V6 s.holds c k)),fun _ k _=>k≤s.holds.length,fun _ k _=>s.holds.length-k⟩)],noAnn,20,?_⟩
 cbv
 repeat' first|((with_reducible refine fun(k:Nat) => ?_);cbv)|((with_reducible intro _);cbv)|(with_reducible refine And.intro ?_ ?_)
 all_goals try((first|(with_reducible refine LoopIn.mk ((0:Nat)) ?_ ?_)|(with_reducible refine LoopBack.mk ((k+1:Nat)) ?_ ?_ ?_)) )
 all_goals try((with_reducible show l9 _ _);cbv;(try simp only[and_true,true_and]))
 all_goals try(repeat' with_reducible refine And.intro ?_ ?_)
 all_goals first|(refine retK h ?_;clear h;simp only[fin0])|(with_reducible refine Ob.mk ?_;clear h)|(clear h)
 all_goals(try simp only[eta0,RT.bytes]at *)
 all_goals grind[j4,b4s,b7L,c0N,b7N]
theorem c8q:b9 Tryz.prog 283 d6W:=j5 j3 (ss := [(286,b1J)]) ⟨a8r,trivial⟩ rfl rfl<|by
 intro(bs:Th (List Int)) (p:Th Int) ⟨(s:Th Srv),(g:Th Hld),u⟩ K _ _ ho h
 obtain⟨s,rfl⟩:=b6 s;obtain⟨g,rfl⟩:=b6 g
 obtain⟨ha,h⟩:=h
 have ha:=ha.out
 have hd:=c3v s.holds g.state.cell
 have hl:=d3c (G9 s.holds g.state.cell) g
 refine⟨annL [(283,5,⟨Nat,[⟨.tmp 6 0,some 1000000000000016,.hld⟩],fun σ k=>((((σ.fg 16).t 8 (vI fun _=>(k:Int))).t 6 (vO 16 1)).t 7 (vB fun _=>(hpTo (G9 s.holds g.state.cell) g k).d)).h 16 (1,.row false 0 .hld (fun _=>(hpTo (G9 s.holds g.state.cell) g k).l)),fun _ k _=>k≤(G9 s.holds g.state.cell).length,fun _ k _=>(G9 s.holds g.state.cell).length-k⟩)],noAnn,20,?_⟩
 cbv
 repeat' first|((with_reducible refine fun(k:Nat) => ?_);cbv)|((with_reducible intro _);cbv)|(with_reducible refine And.intro ?_ ?_)
 all_goals try((first|(with_reducible refine LoopIn.mk ((0:Nat)) ?_ ?_)|(with_reducible refine LoopBack.mk ((k+1:Nat)) ?_ ?_ ?_)) )
 all_goals try((with_reducible show l9 _ _);cbv;(try simp only[and_true,true_and]))
 all_goals try(repeat' with_reducible refine And.intro ?_ ?_)
 all_goals first|(refine retK h ?_;clear h;simp only[fin0])|(with_reducible refine Ob.mk ?_;clear h)|(clear h)
 all_goals(try simp only[eta0,RT.bytes]at *)
 all_goals grind(splits:=30) [j4,c8S,a9N,a2k,c5R,a6e]
noncomputable def b4R:Sx.Spec:=⟨false,false,[.map,.row .srv,.list .sto,.arb,.int .i64,.row .msg],[[none,some .hld,some .gst],[some .sto],[some .msg]],fun _ _ ⟨m,s,st,t,v,x,_⟩ =>
 .ret (.tup [rAs (a7o fun _=>(H5 (m ()) (s ()) (st ()) (t ()) (v ()) (x ())).srv),vL .sto fun _=>(H5 (m ()) (s ()) (st ()) (t ()) (v ()) (x ())).stores,vL .msg fun _=>(H5 (m ()) (s ()) (st ()) (t ()) (v ()) (x ())).out],fun _=>0)⟩
theorem c2m {t:RT} {l:Th (List t.ty)} {i:Th Int} {e:Th t.ty} {y:List t.ty}:(C5 t l i e=fun _=>y)↔(l ()).set (i ()).toNat (e ())=y:=⟨fun h=>congrFun h (),fun h=>by funext u;exact h⟩
theorem d8y {m:PMap} {t:Arb} {x:Msg} {n:Int} (hs:x.side=0∨x.side=1) (hn:1≤n):gotS m t x.cell x.side n=W7 m t x n:=by
 have hw:IntKind.i64.wrap (1-x.side)=1-x.side:=e9 (by omega) (by omega)
 have h0 : ¬n=0:=by omega
 simp only[gotS,W7,hw,h0,or_false]
theorem b2Z {m:PMap} {s:Srv} {st:List Sto} {v:Int} {x:Msg} (h1:C0 m s=true) (h2:B1 m st=true) (h4:y5 m v x=true) :
  s.holds.length≤9∧(∀h,a6e s.holds h=Y8 s.holds h)∧0≤x.cell∧x.cell<st.length∧B2 m (nth .sto st x.cell.toNat)=true ∧
  (z7 s x.cell=true→V5 m (j6 s x.cell)=true∧(j6 s x.cell).state.cell=x.cell∧(j6 s x.cell).state.ins.length=2) ∧
  (x.kind=7→a8K m s.o8 x.gst=a3d s.o8 x.gst)∧(x.kind=1→1≤x.n∧x.n≤900)∧(x.kind=5→(x.side=0∨x.side=1)∧0≤x.pcl.n) ∧
  (z7 s x.cell=true→x.side=0∨x.side=1 → @LE.le Int _ 0 (nth .int (j6 s x.cell).state.ins x.side.toNat) ∧ @LE.le Int _ (nth .int (j6 s x.cell).state.ins x.side.toNat) 5000):=by
 have hm4:=h4
 have hf:=b0Z h1
 have hs:=b2W h1
 simp only[y5,decide_eq_true_eq]at h4
 obtain⟨hm,_,_,hc0,hc1,hkd⟩:=h4
 unfold B1 at h2
 rw[Bool.and_eq_true]at h2
 obtain⟨ha,hb⟩:=h2
 simp only[decide_eq_true_eq]at ha
 have hcell:x.cell<st.length:=by rw[ha.2];exact hc1
 have hk:=(l8 _ _).1 hb x.cell.toNat (by omega)
 simp only[a3o,Bool.and_eq_true]at hk
 have hold:z7 s x.cell=true→V5 m (j6 s x.cell)=true∧(j6 s x.cell).state.cell=x.cell∧(j6 s x.cell).state.ins.length=2:=fun hh=>by
  simp only[z7,decide_eq_true_eq]at hh
  have hlt:=a2M s.holds x.cell
  have ho:=a6K h1 (k:=(k8 s.holds x.cell).toNat) (by omega)
  have hcc:=a3L hh
  have hff:=o7 (C2.1 ho).2.2
  rw[j6,if_pos hh]
  exact⟨ho,hcc,hff.2.2.2.2.2.2.2.2⟩
 refine⟨by omega,fun h=>c3u hs,hc0,hcell,hk.1,hold,fun hk7 => ?_,fun hk1 => ?_,fun hk5 => ?_,fun hh hsd => ?_⟩
 ·have hg:E8 m s.o8=true:=by
   simp only[C0,Z0,Bool.and_eq_true]at h1
   exact h1.1.1.2
  have hx:a1x m x.gst=true:=by
   simp only[J2,decide_eq_true_eq]at hkd
   grind
  exact c3A hg hx
 ·simp only[J2,decide_eq_true_eq]at hkd
  grind
 ·have h5:=a3I hm4 (.inl hk5)
  have h6:=(v7 h5).1
  have h7:=c5K hm4 hk5
  refine⟨h6,?_⟩
  simp only[J8,decide_eq_true_eq]at h7
  omega
 ·exact c3r (C2.1 (hold hh).1).2.2 (by omega)
theorem c2O:b9 Tryz.prog 248 b4R:=j5 j3 (ss := [(192,a9p),(145,a7J),(144,a5a),(193,a9r),(223,a7Q),(221,a4Z),(249,a4U),(282,b9h),(283,d6W),(265,b9j),(259,a1h),(285,b4W),(286,b1J),(284,sGot)]) ⟨b2o,b5q,a5n,b2t,b5v,b0z,b2p,c2R,c8q,c8i,a4m,c0f,a8r,d1U,trivial⟩ rfl rfl<|by
 intro(bs:Th (List Int)) (p:Th Int) ⟨(m:Th PMap),(s:Th Srv),(st:Th (List Sto)),(t:Th Arb),(v:Th Int),(x:Th Msg),u⟩ K _ _ ho h
 obtain⟨m,rfl⟩:=b6 m;obtain⟨s,rfl⟩:=b6 s;obtain⟨st,rfl⟩:=b6 st;obtain⟨t,rfl⟩:=b6 t;obtain⟨v,rfl⟩:=b6 v;obtain⟨x,rfl⟩:=b6 x
 refine⟨noAnn,noAnn,20,?_⟩
 have hf := @b2Z m s st v x
 cbv
 repeat' first|((with_reducible intro _);cbv)|(with_reducible refine And.intro ?_ ?_)
 all_goals first|(refine retK h ?_;clear h;simp only[fin0])|(with_reducible refine Ob.mk ?_;clear h)|(clear h)
 all_goals(try simp only[eta0,RT.bytes]at *)
 all_goals(try simp only[c2m]at *)
 all_goals(try clear bs p u K)
 all_goals(try simp only[Bool.not_eq_true',Bool.not_eq_false',bne_iff_ne,ne_eq]at *)
 all_goals(grind(splits:=40) [H5,r8,N4,a0f,a0e,C7,a0s,a2G,a8y,A2,K0,x6,d8y,e9,j4])
end Go.Proofs.YtmnapekfeenknaaGreat
