/-
  Contract: an order done in the one world, the reference's.
-/
import Derived.Test.YtmnapekfeenknaaGreatFx
import Derived.Test.YtmnapekfeenknaaGreatMx
import Derived.Test.YtmnapekfeenknaaGreatGvDo
import Derived.Test.YtmnapekfeenknaaGreatGnVe
set_option linter.unusedVariables false
set_option linter.unusedSimpArgs false
set_option maxRecDepth 100000
set_option maxHeartbeats 8000000
namespace Go.Proofs.YtmnapekfeenknaaGreat
open Go.Sx Go.Proofs Go.Mo
section
variable {o:One} {id:Int} {r:Ord}
theorem d1m (h:r6 o=true) (e:J9 o.wlks id = -1) : ¬(0≤b8 o.wlks id∧(nth .ow o.wlks (b8 o.wlks id).toNat).here=true):=fun q=>by
 rw[d1n h,if_pos q]at e
 omega
theorem c5m (h:r6 o=true) (e : ¬J9 o.wlks id = -1):J9 o.wlks id=b8 o.wlks id ∧ ¬b8 o.wlks id<0∧(nth .ow o.wlks (b8 o.wlks id).toNat).here=true:=by
 rw[d1n h]at e ⊢
 by_cases q:0≤b8 o.wlks id∧(nth .ow o.wlks (b8 o.wlks id).toNat).here=true
 ·rw[if_pos q]
  exact⟨rfl,by omega,q.2⟩
 ·rw[if_neg q]at e
  exact absurd rfl e
theorem c9r (h:r6 o=true) (hr:y9 r=true) (h0:J9 o.wlks r.who = -1):n9 o r=⟨o,9⟩:=by
 rw[a7q h hr];unfold s4;simp only;rw[if_pos (d1m h h0)]
theorem d3q {k:Nat} {A:OW} (h1 : ¬r.kind=1) (h2:r.kind=2) (hj : ¬b8 o.wlks r.dest<0) (hv:(nth .ow o.wlks (b8 o.wlks r.dest).toNat).here=true)
  (hc : ¬ ¬e8 o.map (nth .ow o.wlks (b8 o.wlks r.dest).toNat).wlk.pos=e8 o.map (nth .ow o.wlks k).wlk.pos) (hn : ¬(nth .ow o.wlks k).wlk.j8<r.n) (h9 : ¬99<(nth .ow o.wlks (b8 o.wlks r.dest).toNat).wlk.j8+r.n) (hh:(nth .ow o.wlks k).here=true) :
  (⟨⟨o.map,((o.wlks.set k A).set k ⟨⟨(nth .ow o.wlks k).wlk.id,(nth .ow o.wlks k).wlk.pos,(nth .ow o.wlks k).wlk.j8-r.n,r.seq,1⟩,(nth .ow o.wlks k).here⟩).set (b8 o.wlks r.dest).toNat
   ⟨⟨(nth .ow o.wlks (b8 o.wlks r.dest).toNat).wlk.id,(nth .ow o.wlks (b8 o.wlks r.dest).toNat).wlk.pos,(nth .ow o.wlks (b8 o.wlks r.dest).toNat).wlk.j8+r.n,(nth .ow o.wlks (b8 o.wlks r.dest).toNat).wlk.seq,(nth .ow o.wlks (b8 o.wlks r.dest).toNat).wlk.last⟩,(nth .ow o.wlks (b8 o.wlks r.dest).toNat).here⟩,o.ground,o.air⟩,1⟩:OC)=a3H o k (nth .ow o.wlks k).wlk r:=by
 rw[List.set_set]
 unfold a3H a8u
 simp only
 rw[if_neg h1,if_pos h2,if_neg (fun q=>q ⟨by omega,hv,Classical.not_not.1 hc⟩),if_neg hn,if_neg h9,hh]
end
def finS (o:One) (r:Ord) (L:List OW) (G:List Int) (A:List (List Int)) (c:Int):OC:=⟨⟨o.map,L.set (b8 o.wlks r.who).toNat ⟨⟨(nth .ow L (b8 o.wlks r.who).toNat).wlk.id,(nth .ow L (b8 o.wlks r.who).toNat).wlk.pos,(nth .ow L (b8 o.wlks r.who).toNat).wlk.j8,r.seq,c⟩,(nth .ow L (b8 o.wlks r.who).toNat).here⟩,G,A⟩,c⟩
theorem b2s:b9 Tryz.prog 34 a2U:=j5 j3 (ss := [(25,U5),(35,Y5),(86,a2A),(94,d0R),(117,B6),(137,O5),(138,E6)]) ⟨a0o,a2h,a9E,d1K,N7,a4n,V3,trivial⟩ rfl rfl<|by
 intro(bs:Th (List Int)) (p:Th Int) ⟨(o:Th One),(r:Th Ord),u⟩ K _ _ ho h
 obtain⟨o,rfl⟩:=b6 o;obtain⟨r,rfl⟩:=b6 r
 refine⟨noAnn,annL [(34,21,⟨Th (List OW)×Th (List Int)×Th (List (List Int))×Th Int,[],fun σ g=>(((σ.t 8 (.one (.att (.int .i64 g.2.2.2)))).h 11010 (1,.row true 0 .ow g.1)).h 11011 (1,.row true 0 .int g.2.1)).h 11012 (1,.row true 0 .ints g.2.2.1),
  fun σ g _=>Ob fun _=>(g.1 ()).length=o.wlks.length∧finS o r (g.1 ()) (g.2.1 ()) (g.2.2.1 ()) (g.2.2.2 ())=n9 o r,fun _ _ _=>0⟩),
  (97,4,⟨Th Bool×Th Bool,[],fun σ g => σ.t 23 (.one (.att (.bool (.of g.1)))),fun _ g _=>Ob fun _=>(g.1 ()=true↔r.kind=4∧nth .int o.ground (e8 o.map (nth .ow o.wlks (J9 o.wlks r.who).toNat).wlk.pos).toNat<r.n),fun _ _ _=>0⟩),
  (97,6,⟨Th Bool×Th Int,[],fun σ g => σ.t 38 (.one (.att (.bool (.of g.1)))),fun _ g _=>Ob fun _=>(g.1 ()=true↔r.kind=4∧99<IntKind.i64.wrap ((nth .ow o.wlks (J9 o.wlks r.who).toNat).wlk.j8+r.n)),fun _ _ _=>0⟩),
  (97,8,⟨Th Bool×Th Bool×Th Bool,[],fun σ g => σ.t 51 (.one (.att (.bool (.of g.1)))),fun _ g _=>Ob fun _=>(g.1 ()=true↔r.kind=5∧B4 o.map (nth .ow o.wlks (J9 o.wlks r.who).toNat).wlk.pos r.dest=false),fun _ _ _=>0⟩),
  (97,10,⟨Th Bool×Th Int×Th Bool,[],fun σ g => σ.t 66 (.one (.att (.bool (.of g.1)))),fun _ g _=>Ob fun _=>(g.1 ()=true↔r.kind≠4∧(nth .ow o.wlks (J9 o.wlks r.who).toNat).wlk.j8<r.n),fun _ _ _=>0⟩),
  (97,12,⟨Th Bool×Th Int×Th Int,[],fun σ g => σ.t 78 (.one (.att (.bool (.of g.1)))),fun _ g _=>Ob fun _=>(g.1 ()=true↔r.kind=3∧900<IntKind.i64.wrap (nth .int o.ground (e8 o.map (nth .ow o.wlks (J9 o.wlks r.who).toNat).wlk.pos).toNat+r.n)),fun _ _ _=>0⟩),
  (97,14,⟨Th Bool×Th Bool×Th Int,[],fun σ g => σ.t 94 (.one (.att (.bool (.of g.1)))),fun _ g _=>Ob fun _=>(g.1 ()=true↔r.kind=5∧100000<IntKind.i64.wrap (nth .int (nth .ints o.air (b7 o.map (e8 o.map (nth .ow o.wlks (J9 o.wlks r.who).toNat).wlk.pos) r.dest).toNat) (IntKind.i64.wrap (1-r.dest)).toNat+r.n)),fun _ _ _=>0⟩)],20,?_⟩
 cbv
 repeat' first|((with_reducible refine fun(g:Th Bool×Th Bool) => ?_);obtain⟨b,z⟩:=g;obtain⟨b,rfl⟩:=b6 b;obtain⟨z,rfl⟩:=b6 z;(with_reducible refine ImpB.out ?_);cbv;(with_reducible refine ImpB.mk ?_);intro hq;obtain⟨hq⟩:=hq)|((with_reducible refine fun(g:Th Bool×Th Int) => ?_);obtain⟨b,z⟩:=g;obtain⟨b,rfl⟩:=b6 b;obtain⟨z,rfl⟩:=b6 z;(with_reducible refine ImpB.out ?_);cbv;(with_reducible refine ImpB.mk ?_);intro hq;obtain⟨hq⟩:=hq)|((with_reducible refine fun(g:Th Bool×Th Bool×Th Bool) => ?_);obtain⟨b,z,y⟩:=g;obtain⟨b,rfl⟩:=b6 b;obtain⟨z,rfl⟩:=b6 z;obtain⟨y,rfl⟩:=b6 y;(with_reducible refine ImpB.out ?_);cbv;(with_reducible refine ImpB.mk ?_);intro hq;obtain⟨hq⟩:=hq)|((with_reducible refine fun(g:Th Bool×Th Int×Th Bool) => ?_);obtain⟨b,z,y⟩:=g;obtain⟨b,rfl⟩:=b6 b;obtain⟨z,rfl⟩:=b6 z;obtain⟨y,rfl⟩:=b6 y;(with_reducible refine ImpB.out ?_);cbv;(with_reducible refine ImpB.mk ?_);intro hq;obtain⟨hq⟩:=hq)|((with_reducible refine fun(g:Th Bool×Th Int×Th Int) => ?_);obtain⟨b,z,y⟩:=g;obtain⟨b,rfl⟩:=b6 b;obtain⟨z,rfl⟩:=b6 z;obtain⟨y,rfl⟩:=b6 y;(with_reducible refine ImpB.out ?_);cbv;(with_reducible refine ImpB.mk ?_);intro hq;obtain⟨hq⟩:=hq)|((with_reducible refine fun(g:Th Bool×Th Bool×Th Int) => ?_);obtain⟨b,z,y⟩:=g;obtain⟨b,rfl⟩:=b6 b;obtain⟨z,rfl⟩:=b6 z;obtain⟨y,rfl⟩:=b6 y;(with_reducible refine ImpB.out ?_);cbv;(with_reducible refine ImpB.mk ?_);intro hq;obtain⟨hq⟩:=hq)|((with_reducible refine fun(g:Th (List OW)×Th (List Int)×Th (List (List Int))×Th Int) => ?_);obtain⟨L,G,A,c⟩:=g;obtain⟨L,rfl⟩:=b6 L;obtain⟨G,rfl⟩:=b6 G;obtain⟨A,rfl⟩:=b6 A;obtain⟨c,rfl⟩:=b6 c;(with_reducible refine ImpB.out ?_);cbv;(with_reducible refine ImpB.mk ?_);intro hq;obtain⟨hq⟩:=hq)|((with_reducible intro _);cbv)|(with_reducible refine And.intro ?_ ?_)
 all_goals try((first|(with_reducible refine LoopIn.wf (fun σ => (σ.tmB 23,r7)) ?_ ?_)|(with_reducible refine LoopBack.wf (fun σ => (σ.tmB 23,r7)) ?_ ?_ ?_)|(with_reducible refine LoopIn.wf (fun σ => (σ.tmB 38,G8)) ?_ ?_)|(with_reducible refine LoopBack.wf (fun σ => (σ.tmB 38,G8)) ?_ ?_ ?_)|(with_reducible refine LoopIn.wf (fun σ => (σ.tmB 51,r7,r7)) ?_ ?_)|(with_reducible refine LoopBack.wf (fun σ => (σ.tmB 51,r7,r7)) ?_ ?_ ?_)|(with_reducible refine LoopIn.wf (fun σ => (σ.tmB 66,G8,r7)) ?_ ?_)|(with_reducible refine LoopBack.wf (fun σ => (σ.tmB 66,G8,r7)) ?_ ?_ ?_)|(with_reducible refine LoopIn.wf (fun σ => (σ.tmB 78,G8,G8)) ?_ ?_)|(with_reducible refine LoopBack.wf (fun σ => (σ.tmB 78,G8,G8)) ?_ ?_ ?_)|(with_reducible refine LoopIn.wf (fun σ => (σ.tmB 94,r7,G8)) ?_ ?_)|(with_reducible refine LoopBack.wf (fun σ => (σ.tmB 94,r7,G8)) ?_ ?_ ?_)|(with_reducible refine LoopIn.wf (fun σ => (σ.rowL .ow 11010,σ.rowL .int 11011,σ.rowL .ints 11012,σ.tmI 8)) ?_ ?_)|(with_reducible refine LoopBack.wf (fun σ => (σ.rowL .ow 11010,σ.rowL .int 11011,σ.rowL .ints 11012,σ.tmI 8)) ?_ ?_ ?_))<;>cbv)
 all_goals try(with_reducible show _∧_;(try simp only[and_true,true_and]))
 all_goals try(repeat' with_reducible refine And.intro ?_ ?_)
 all_goals try(with_reducible refine MeasB.mk ?_)
 all_goals first|(refine retK h ?_;clear h;simp only[fin0])|(with_reducible refine Ob.mk ?_;clear h)|(clear h)
 all_goals(try simp only[eta0,RT.bytes]at *)
 all_goals(try dsimp only[RT.ty]at *)
 all_goals(try simp only[M0]at *)
 all_goals(first|(rw[b3B (by assumption)];exact⟨⟨rfl,rfl,rfl,rfl,rfl⟩,rfl⟩)|(rw[b3A (by assumption)];exact⟨⟨rfl,rfl,rfl,rfl,rfl⟩,rfl⟩)|(rw[c9r (by assumption) (by assumption) (by assumption)];exact⟨⟨rfl,rfl,rfl,rfl,rfl⟩,rfl⟩)|skip)
 all_goals(try have hP:=c5m (o:=o) (id:=r.who) (by assumption) (by assumption))
 all_goals(try simp only[hP.1]at *)
 all_goals(try have hQ:=c5m (o:=o) (id:=r.dest) (by assumption) (by assumption))
 all_goals(try simp only[hQ.1]at *)
 all_goals(try have hQn:=d1m (o:=o) (id:=r.dest) (by assumption) (by assumption))
 all_goals(try have hpl:=a1R (l:=o.wlks) (i:=r.who) hP.2.1)
 all_goals(try have hpp:=hpl.2)
 all_goals(try simp only[z8,a1L,a9i]at *)
 all_goals(try dsimp only[RT.ty]at *)
 all_goals(try simp only[M0]at *)
 all_goals(first|omega|rfl|exact hpp|(rw[c6y (by assumption) (by assumption) hP.2.1 hP.2.2 (by assumption)];exact⟨⟨rfl,rfl,rfl,rfl,rfl⟩,rfl⟩)|(rw[c1r (by assumption) (by assumption) hP.2.1 hP.2.2 (by assumption)];exact⟨⟨rfl,rfl,rfl,rfl,rfl⟩,rfl⟩)|(rw[←hq.2];exact⟨⟨rfl,rfl,rfl,rfl,rfl⟩,rfl⟩)|exact a0m (by assumption) hP.2.1|(constructor<;>intro q<;>first|(cases q;done)|exact⟨by assumption,by assumption⟩|exact absurd q.1 (by assumption)|exact absurd q.2 (by assumption)|rfl)|skip)
 all_goals(try have hh:=hP.2.2)
 all_goals(try have hLK:(b8 o.wlks r.who).toNat<L.length:=by(rw[hq.1];exact hpl.1))
 all_goals(try simp only[j9 .ow hLK,List.set_set])
 all_goals(try rw[hq.1])
 all_goals(try simp only[j9 .ow hpl.1,List.set_set,List.length_set]at *)
 all_goals(try dsimp only[RT.ty]at *)
 all_goals(try simp only[M0]at *)
 all_goals(first|exact hpp|exact(a1R hQ.2.1).2|(rw[←hq.2];exact⟨⟨rfl,rfl,rfl,rfl,rfl⟩,rfl⟩)|skip)
 all_goals(try have hor:=G6.1 (by assumption))
 all_goals(try have hX:=a2d (o:=o) (i:=r.who) (by assumption) hP.2.1)
 all_goals(try have hne:=b5k (o:=o) (a:=r.who) (b:=r.dest) hP.2.1 hQ.2.1 (by omega))
 all_goals(try have hJ:=a2d (o:=o) (i:=r.dest) (by assumption) hQ.2.1)
 all_goals(try have hjl:=a1R (l:=o.wlks) (i:=r.dest) hQ.2.1)
 all_goals(try simp only[m5 .ow hne,m5 .ow hne.symm,j9 .ow hpl.1,j9 .ow hjl.1,a2a hne,List.set_set]at *)
 all_goals(try have he:B4 o.map (nth .ow o.wlks (b8 o.wlks r.who).toNat).wlk.pos r.dest=true:=by grind)
 all_goals(try have hT:=b8u (o:=o) (by assumption) he)
 all_goals(try simp(disch:=omega) only[e9]at *)
 all_goals(first|exact⟨hT.2.1,hT.2.2.1⟩|exact c4p hT.1 hT.2.2.2.1|skip)
 all_goals(try(refine⟨by first|trivial|rfl|simp only[List.length_set],?_⟩;rw[c6z (by assumption) (by assumption) hP.2.1 hP.2.2 (by assumption) (by assumption)];unfold finS))
 all_goals(try simp only[j9 .ow hpl.1,List.set_set])
 all_goals(try simp only[m5 .ow hne,m5 .ow hne.symm,j9 .ow hpl.1,j9 .ow hjl.1,List.set_set])
 all_goals(try rw[List.set_comm _ _ hne.symm])
 all_goals(first|exact d3q (by assumption) (by assumption) hQ.2.1 hQ.2.2 (by assumption) (by assumption) (by assumption) hh|grind[a3H,b0B,a8u,b0D,b0C,a5p,oFin,oSet,M5])
end Go.Proofs.YtmnapekfeenknaaGreat
