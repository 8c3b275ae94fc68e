/- What some ends alone need. -/
import Derived.Test.YtmnapekfeenknaaGreatInsW
import Derived.Test.YtmnapekfeenknaaGreatFnI
import Derived.Test.YtmnapekfeenknaaGreatFnJ
import Derived.Test.YtmnapekfeenknaaGreatFnM
import Derived.Test.YtmnapekfeenknaaGreatGnE
import Derived.Test.YtmnapekfeenknaaGreatGnC
import Derived.Test.YtmnapekfeenknaaGreatGvC
import Derived.Test.YtmnapekfeenknaaGreatFnQ
import Derived.Test.YtmnapekfeenknaaGreatGvI
import Derived.Test.YtmnapekfeenknaaGreatGnVe
import Derived.Test.YtmnapekfeenknaaGreatGnO
import Derived.Test.YtmnapekfeenknaaGreatGnT
import Derived.Test.YtmnapekfeenknaaGreatGvQ
import Derived.Test.YtmnapekfeenknaaGreatGnX
import Derived.Test.YtmnapekfeenknaaGreatGvD
import Derived.Test.YtmnapekfeenknaaGreatGvDo
import Derived.Test.YtmnapekfeenknaaGreatMy
set_option linter.unusedVariables false
set_option linter.unusedSimpArgs false
set_option maxRecDepth 100000
set_option maxHeartbeats 16000000
namespace Go.Proofs.YtmnapekfeenknaaGreat
open Go.Sx Go.Proofs Go.Mo
end Go.Proofs.YtmnapekfeenknaaGreat
namespace Go.Mo
open Go.Sx
end Go.Mo
namespace Go.Proofs.YtmnapekfeenknaaGreat
open Go.Sx Go.Proofs Go.Mo
end Go.Proofs.YtmnapekfeenknaaGreat
namespace Go.Mo
open Go.Sx
end Go.Mo
namespace Go.Proofs.YtmnapekfeenknaaGreat
open Go.Sx Go.Proofs Go.Mo
noncomputable def d0Z:Sx.Spec:=⟨false,true,[.map,.row .cll,.ord],[nCll,[none]],fun _ _ ⟨m,c,o,_⟩ => .ret (.tup [oCll fun _=>(a4C (m ()) (c ()) (o ())).c,vI fun _=>(a4C (m ()) (c ()) (o ())).code],fun _=>0)⟩
end Go.Proofs.YtmnapekfeenknaaGreat
namespace Go.Proofs.YtmnapekfeenknaaGreat
open Go.Sx Go.Proofs Go.RowKit
end Go.Proofs.YtmnapekfeenknaaGreat
namespace Go.Proofs.YtmnapekfeenknaaGreat
open Go.Sx Go.Proofs Go.Mo
theorem d1M:b9 Tryz.prog 196 Z4:=j5 j3 (ss := []) trivial rfl rfl<|by
 intro(bs:Th (List Int)) (p:Th Int) ⟨(l:Th (List Row)),(w:Th Int),u⟩ K _ _ ho h
 obtain⟨l,rfl⟩:=b6 l;obtain⟨w,rfl⟩:=b6 w
 have hl:=okL (ho.1 _ (.head _))
 refine⟨annL [(229,2,⟨Nat,[],fun σ k => σ.t 8 (vI fun _=>(k:Int)),fun _ k _=>k≤l.length∧m9 k (nwho l w)=true,fun _ k _=>l.length-k⟩)],noAnn,20,?_⟩
 cbv
 repeat' first|((with_reducible refine fun(k:Nat) => ?_);cbv)|((with_reducible intro _);cbv)|(with_reducible refine And.intro ?_ ?_)
 all_goals try((first|(with_reducible refine LoopIn.mk ((0:Nat)) ?_ ?_)|(with_reducible refine LoopBack.mk ((k+1:Nat)) ?_ ?_ ?_)) )
 all_goals try((with_reducible show l9 _ _);cbv;(try simp only[and_true,true_and]))
 all_goals try(repeat' with_reducible refine And.intro ?_ ?_)
 all_goals first|(refine retK h ?_;clear h;simp only[fin0])|(with_reducible refine Ob.mk ?_;clear h)|(clear h)
 all_goals(try simp only[eta0,RT.bytes]at *)
 all_goals grind[n8,n5,nwho,a8F,c2v,b9r,j4]
theorem d2i:b9 Tryz.prog 152 a5S:=j5 j3 (ss := []) trivial rfl rfl<|by
 intro(bs:Th (List Int)) (p:Th Int) ⟨(l:Th (List Row)),u⟩ K _ _ ho h
 obtain⟨l,rfl⟩:=b6 l
 have hl:=okB (ho.1 _ (.head _))
 refine⟨noAnn,noAnn,20,?_⟩
 cbv
 repeat' first|((with_reducible intro _);cbv)|(with_reducible refine And.intro ?_ ?_)
 all_goals first|(refine retK h ?_;clear h;simp only[fin0])|(with_reducible refine Ob.mk ?_;clear h)|(clear h)
 all_goals(try simp only[eta0,RT.bytes]at *)
 all_goals grind
end Go.Proofs.YtmnapekfeenknaaGreat
namespace Go.Sx
theorem ioK {α : Type} {K:V×Th α → Prop} {u v:V} {x y : α} (h:K (u,fun _=>x)) (e1:v=u) (e2:y=x):K (v,fun _=>y):=by
 rw[e1,e2]
 exact h
end Go.Sx
namespace Go.Proofs.YtmnapekfeenknaaGreat
open Go.Sx Go.Proofs Go.Mo
noncomputable def d7c:Sx.Io:=⟨.book,true,[.int .i64,.int .i64,.int .i64,.int .i64],[],fun l ⟨w,k,d,n,_⟩ => .asrt (fun _=>seqB (l ())) (.ret (vB fun _=>(T7 (l ()) (w ()) (k ()) (d ()) (n ())).ok,fun _=>(T7 (l ()) (w ()) (k ()) (d ()) (n ())).b))⟩
theorem d8d:b9 Tryz.prog 156 (ioX d7c):=io1 j3 (ss := [(196,Z4),(92,Y5)]) ⟨d1M,a6a,trivial⟩ rfl rfl<|by
 intro(l:Th (List Row)) ⟨(w:Th Int),(k:Th Int),(d:Th Int),(n:Th Int),u⟩ K _ ho h
 obtain⟨l,rfl⟩:=b6 l;obtain⟨w,rfl⟩:=b6 w;obtain⟨k,rfl⟩:=b6 k;obtain⟨d,rfl⟩:=b6 d;obtain⟨n,rfl⟩:=b6 n
 obtain⟨ha,h⟩:=h
 have ha:=ha.out
 have hp:=a2W l w
 have hq:=ha (m7 l w).toNat
 refine⟨noAnn,noAnn,20,?_⟩
 cbv
 repeat' first|((with_reducible intro _);cbv)|(with_reducible refine And.intro ?_ ?_)
 all_goals first|refine ioK h ?_ ?_|(with_reducible refine Ob.mk ?_;clear h)|(clear h)
 all_goals(try clear h)
 all_goals(try clear K)
 all_goals(try simp only[fin0])
 all_goals(try simp only[eta0,RT.bytes]at *)
 all_goals(try have hlt:(m7 l w).toNat<l.length:=(by clear ho;grind))
 all_goals(try simp only[z8,j9 .row hlt,List.set_set,List.length_set]at *)
 all_goals grind[T7,b8g,e9]
noncomputable def b6M:Sx.Spec:=⟨false,true,[.row .sto,.map],[nCll],fun _ _ ⟨s,m,_⟩ => .asrt (fun _=>B2 (m ()) (s ())=true) (.ret (oCll fun _=>r9 (m ()) (s ()),fun _=>0))⟩
theorem c0r:b9 Tryz.prog 194 a2z:=j5 j3 (ss := [(104,R6)]) ⟨a3G,trivial⟩ rfl rfl<|by
 intro(bs:Th (List Int)) (p:Th Int) ⟨(s:Th Sto),u⟩ K _ _ ho h
 obtain⟨s,rfl⟩:=b6 s
 have hrl:=d1I ho.1
 refine⟨noAnn,noAnn,20,?_⟩
 cbv
 repeat' first|((with_reducible intro _);cbv)|(with_reducible refine And.intro ?_ ?_)
 all_goals first|(refine retK h ?_;clear h;simp only[fin0])|(with_reducible refine Ob.mk ?_;clear h)|(clear h)
 all_goals(try simp only[eta0,RT.bytes]at *)
 all_goals grind
theorem b7n:b9 Tryz.prog 67 b6M:=j5 j3 (ss := [(120,c4T)]) ⟨c2Z,trivial⟩ rfl rfl<|by
 intro(bs:Th (List Int)) (p:Th Int) ⟨(s:Th Sto),(m:Th PMap),u⟩ K _ _ ho h
 obtain⟨s,rfl⟩:=b6 s;obtain⟨m,rfl⟩:=b6 m
 obtain⟨hpre,h⟩:=h
 have hpre:=z6.1 hpre.out
 refine⟨noAnn,noAnn,20,?_⟩
 cbv
 repeat' first|((with_reducible intro _);cbv)|(with_reducible refine And.intro ?_ ?_)
 all_goals first|(refine retK h ?_;clear h;simp only[fin0])|(with_reducible refine Ob.mk ?_;clear h)|(clear h)
 all_goals(try simp only[eta0,RT.bytes]at *)
 all_goals grind[r9]
theorem c2M:b9 Tryz.prog 43 a5Q:=j5 j3 (ss := [(106,a2b),(67,b6M),(104,R6)]) ⟨c5v,b7n,a3G,trivial⟩ rfl rfl<|by
 intro(bs:Th (List Int)) (p:Th Int) ⟨(m:Th PMap),(s:Th Sto),u⟩ K _ _ ho h
 obtain⟨m,rfl⟩:=b6 m;obtain⟨s,rfl⟩:=b6 s
 refine⟨noAnn,noAnn,20,?_⟩
 cbv
 repeat' first|((with_reducible intro _);cbv)|(with_reducible refine And.intro ?_ ?_)
 all_goals first|(refine retK h ?_;clear h;simp only[fin0])|(with_reducible refine Ob.mk ?_;clear h)|(clear h)
 all_goals(try simp only[eta0,RT.bytes]at *)
 all_goals grind[E4,O1]
end Go.Proofs.YtmnapekfeenknaaGreat
namespace Go.Mo
open Go.Sx
end Go.Mo
namespace Go.Proofs.YtmnapekfeenknaaGreat
open Go.Sx Go.Proofs Go.Mo
noncomputable def b6Q:Sx.Spec:=⟨false,true,[.list .gst],[[some .gst]],fun _ _ ⟨l,_⟩ => .ret (vW .gst l,fun _=>0)⟩
noncomputable def c4R:Sx.Spec:=⟨false,true,[.row .hld,.map,.int .i64],[[some .gst]],fun _ _ ⟨h,m,s,_⟩ => .asrt (fun _=>(h ()).state.wlks.length≤9) (.ret (vW .gst fun _=>o8 (m ()) (h ()) (s ()),fun _=>0))⟩
theorem c0t:b9 Tryz.prog 195 b6Q:=j5 j3 (ss := []) trivial rfl rfl<|by
 intro(bs:Th (List Int)) (p:Th Int) ⟨(l:Th (List Gst)),u⟩ K _ _ ho h
 obtain⟨l,rfl⟩:=b6 l
 have hl:=okB (ho.1 _ (.head _))
 refine⟨noAnn,noAnn,20,?_⟩
 cbv
 repeat' first|((with_reducible intro _);cbv)|(with_reducible refine And.intro ?_ ?_)
 all_goals first|(refine retK h ?_;clear h;simp only[fin0])|(with_reducible refine Ob.mk ?_;clear h)|(clear h)
 all_goals(try simp only[eta0,RT.bytes]at *)
 all_goals grind
theorem d2g:b9 Tryz.prog 153 a7Q:=j5 j3 (ss := [(195,b6Q),(186,a4f)]) ⟨c0t,c0s,trivial⟩ rfl rfl<|by
 intro(bs:Th (List Int)) (p:Th Int) ⟨(s:Th Srv),u⟩ K _ _ ho h
 obtain⟨s,rfl⟩:=b6 s
 have hl:=okB (ho.1 _ (.tail _ (.head _)))
 have hl2:=okB (ho.1 _ (.tail _ (.tail _ (.head _))))
 have hz:=a0Z s.holds
 have hs:=fun k => @J7 .hld s.holds k
 refine⟨annL [(153,3,⟨Nat,[⟨.cell 4 1,some 25,.hld⟩],fun σ k=>((σ.t 15 (vI fun _=>(k:Int))).u9 4 1 (.own 25 1)).row 25 1 .hld (fun _=>pre s.holds k),fun _ k _=>k≤s.holds.length,fun _ k _=>s.holds.length-k⟩)],noAnn,20,?_⟩
 cbv
 repeat' first|((with_reducible refine fun(k:Nat) => ?_);cbv)|((with_reducible intro _);cbv)|(with_reducible refine And.intro ?_ ?_)
 all_goals try((first|(with_reducible refine LoopIn.mk ((0:Nat)) ?_ ?_)|(with_reducible refine LoopBack.mk ((k+1:Nat)) ?_ ?_ ?_)) )
 all_goals try((with_reducible show l9 _ _);cbv;(try simp only[and_true,true_and]))
 all_goals try(repeat' with_reducible refine And.intro ?_ ?_)
 all_goals first|(refine retK h ?_;clear h;simp only[fin0])|(with_reducible refine Ob.mk ?_;clear h)|(clear h)
 all_goals(try simp only[eta0,RT.bytes]at *)
 all_goals grind[X4,a1a,j4]
theorem c8z:b9 Tryz.prog 150 a4Z:=j5 j3 (ss := [(194,a2z)]) ⟨c0r,trivial⟩ rfl rfl<|by
 intro(bs:Th (List Int)) (p:Th Int) ⟨(l:Th (List Sto)),u⟩ K _ _ ho h
 obtain⟨l,rfl⟩:=b6 l
 have hl:=okB (ho.1 _ (.head _))
 have hz:=a0Z l
 have hs:=fun k => @J7 .sto l k
 refine⟨annL [(150,3,⟨Nat,[⟨.tmp 3 0,some 17,.sto⟩],fun σ k=>((σ.t 8 (vI fun _=>(k:Int))).t 3 (vO 17 1)).row 17 1 .sto (fun _=>pre l k),fun _ k _=>k≤l.length,fun _ k _=>l.length-k⟩)],noAnn,20,?_⟩
 cbv
 repeat' first|((with_reducible refine fun(k:Nat) => ?_);cbv)|((with_reducible intro _);cbv)|(with_reducible refine And.intro ?_ ?_)
 all_goals try((first|(with_reducible refine LoopIn.mk ((0:Nat)) ?_ ?_)|(with_reducible refine LoopBack.mk ((k+1:Nat)) ?_ ?_ ?_)) )
 all_goals try((with_reducible show l9 _ _);cbv;(try simp only[and_true,true_and]))
 all_goals try(repeat' with_reducible refine And.intro ?_ ?_)
 all_goals first|(refine retK h ?_;clear h;simp only[fin0])|(with_reducible refine Ob.mk ?_;clear h)|(clear h)
 all_goals(try simp only[eta0,RT.bytes]at *)
 all_goals grind[X4,a1a,j4]
theorem d2d:b9 Tryz.prog 199 c4R:=j5 j3 (ss := [(168,O5)]) ⟨a0Q,trivial⟩ rfl rfl<|by
 intro(bs:Th (List Int)) (p:Th Int) ⟨(h0:Th Hld),(m:Th PMap),(s:Th Int),u⟩ K _ _ ho h
 obtain⟨h0,rfl⟩:=b6 h0;obtain⟨m,rfl⟩:=b6 m;obtain⟨s,rfl⟩:=b6 s
 obtain⟨ha,h⟩:=h
 have ha:=ha.out
 have hl:=okB (ho.1 _ (.tail _ (.tail _ (.tail _ (.head _)))))
 have hz:=c1d m h0 s
 refine⟨annL [(199,3,⟨Nat,[⟨.tmp 7 0,some 33,.gst⟩],fun σ k=>((σ.t 14 (vI fun _=>(k:Int))).t 7 (vO 33 1)).row 33 1 .gst (fun _=>ghTo m h0 s k),fun _ k _=>k≤h0.state.wlks.length,fun _ k _=>h0.state.wlks.length-k⟩)],noAnn,20,?_⟩
 cbv
 repeat' first|((with_reducible refine fun(k:Nat) => ?_);cbv)|((with_reducible intro _);cbv)|(with_reducible refine And.intro ?_ ?_)
 all_goals try((first|(with_reducible refine LoopIn.mk ((0:Nat)) ?_ ?_)|(with_reducible refine LoopBack.mk ((k+1:Nat)) ?_ ?_ ?_)) )
 all_goals try((with_reducible show l9 _ _);cbv;(try simp only[and_true,true_and]))
 all_goals try(repeat' with_reducible refine And.intro ?_ ?_)
 all_goals first|(refine retK h ?_;clear h;simp only[fin0])|(with_reducible refine Ob.mk ?_;clear h)|(clear h)
 all_goals(try simp only[eta0,RT.bytes]at *)
 all_goals grind[b5Q,c1c,c6a,o8,j4]
section
variable {w:Wld} {e:Evt} (h:m8 w=true)
include h
end
end Go.Proofs.YtmnapekfeenknaaGreat
namespace Go.Proofs.YtmnapekfeenknaaGreat
open Go.Sx Go.Proofs Go.Mo
noncomputable def d0X:Sx.Io:=⟨.book,true,[.map,.row .msg],[],fun l ⟨m,x,_⟩ => .asrt (fun _=>C4 (m ()) (l ())=true) (.ret (vB fun _=>(B5 (m ()) (l ()) (x ())).ok,fun _=>(B5 (m ()) (l ()) (x ())).b))⟩
theorem d5J:b9 Tryz.prog 198 (ioX d0X):=io1 j3 (ss := [(196,Z4)]) ⟨d1M,trivial⟩ rfl rfl<|by
 intro(l:Th (List Row)) ⟨(m:Th PMap),(x:Th Msg),u⟩ K _ ho h
 obtain⟨l,rfl⟩:=b6 l;obtain⟨m,rfl⟩:=b6 m;obtain⟨x,rfl⟩:=b6 x
 obtain⟨ha,h⟩:=h
 have ha:=ha.out
 have hp:=a2W l x.ord.who
 obtain⟨hm1,hm2,hc⟩:=b5K ha
 have hq:=hc (m7 l x.ord.who).toNat
 have hr := @c1B (nth .row l (m7 l x.ord.who).toNat).cell m.cells
 refine⟨noAnn,noAnn,20,?_⟩
 cbv
 repeat' first|((with_reducible intro _);cbv)|(with_reducible refine And.intro ?_ ?_)
 all_goals first|refine ioK h ?_ ?_|(with_reducible refine Ob.mk ?_;clear h)|(clear h)
 all_goals(try clear h)
 all_goals(try clear K)
 all_goals(try simp only[fin0])
 all_goals(try simp only[eta0,RT.bytes]at *)
 all_goals(try have hlt:(m7 l x.ord.who).toNat<l.length:=(by clear ho;grind))
 all_goals(try simp only[z8,j9 .row hlt,List.set_set,List.length_set]at *)
 all_goals(try have hw:=e9 (n:=(nth .row l (m7 l x.ord.who).toNat).cell+1) (by have:=hq hlt;omega) (by have:=hq hlt;omega))
 all_goals(try simp only[hw]at *)
 all_goals(try simp only[B5,Mo.rowAt]at *)
 all_goals(try generalize ((nth RT.row l (m7 l x.ord.who).toNat).cell+1).tmod m.cells=q at *)
 all_goals grind[B5,Mo.rowAt,e9,x6,a8g]
end Go.Proofs.YtmnapekfeenknaaGreat
namespace Go.Sx
end Go.Sx
namespace Go.Proofs.YtmnapekfeenknaaGreat
open Go.Sx Go.Proofs Go.Mo
end Go.Proofs.YtmnapekfeenknaaGreat
