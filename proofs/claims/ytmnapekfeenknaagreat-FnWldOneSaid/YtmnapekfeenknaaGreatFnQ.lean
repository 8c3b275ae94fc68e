/-
  Contracts: is a world ok, the program's way.
-/
import Derived.Test.YtmnapekfeenknaaGreatGvC
import Derived.Test.YtmnapekfeenknaaGreatM3
import Derived.Test.YtmnapekfeenknaaGreatFnI
import Derived.Test.YtmnapekfeenknaaGreatM1
set_option linter.unusedVariables false
set_option linter.unusedSimpArgs false
set_option maxRecDepth 100000
set_option maxHeartbeats 8000000
namespace Go.Sx
def St.tmL (t:RT) (σ : St) (d:Nat):Th (List t.ty):=match σ.tm.get d with
 | .one (.att (.list t' l))=>if h:t'=t then W6 h l else a7b t
 |_=>a7b t
end Go.Sx
namespace Go.Proofs.YtmnapekfeenknaaGreat
open Go.Sx Go.Proofs Go.Mo
theorem b2D (n:Nat):(NatCast.natCast n:Int)=(n:Int):=rfl
theorem c6V {k:Nat} (h:k≤1000):(IntKind.i64.wrap ((k:Int)+1)).toNat=k+1:=by rw[j4 (by omega)];rfl
theorem a8l:b9 Tryz.prog 18 a2T:=j5 j3 (ss := [(72,a5a),(73,a7J),(74,a6P),(75,a9p),(78,a9r),(81,a3u),(50,sIn)]) ⟨d5N,d1F,d5K,d5B,d5D,a4p,okIn,trivial⟩ rfl rfl<|by
 intro(bs:Th (List Int)) (p:Th Int) ⟨(w:Th Wld),u⟩ K _ _ ho h
 obtain⟨w,rfl⟩:=b6 w
 have ht := @J4 w.map w.table w.servers.length
 have hs := @a3n w.map w.stores
 have hs4 := @b1A w.map w.stores
 have he:=b4A w
 have hi:=fun(k j:Nat) => @c5T w.map (nth .srv w.servers k) j
 have hi2:=fun(k:Nat) => @b2F w.map w.servers.length (nth .msg w.net k)
 have hn:=fun(k:Nat) => @b0Z w.map (nth .srv w.servers k)
 refine⟨annL [(18,5,⟨Th Int×Th Bool,[],fun σ g=>(σ.only [1,3,47,48]).t 49 (.one (.att (.int .i64 g.1))),fun _ g _=>Ob fun _=>0≤g.1 ()∧g.1 ()≤w.stores.length∧w.stores.length≤4∧D0 w.map w.table w.servers.length=true∧B1 w.map w.stores=true∧C4 w.map w.rows=true∧w.net.length≤40∧w.notes.length≤150∧m9 (g.1 ()).toNat (a2r w)=true,fun _ g _=>5-(g.1 ()).toNat⟩),
  (18,11,⟨Th Bool×Th Int,[],fun σ g=>(σ.only [1,3,65,66]).t 67 (.one (.att (.int .i64 g.2))),fun _ g _=>Ob fun _=>0≤g.2 ()∧g.2 ()≤w.servers.length∧w.servers.length≤3∧m9 w.stores.length (a2r w)=true∧m9 (g.2 ()).toNat (a4I w)=true,fun _ g _=>4-(g.2 ()).toNat⟩),
  (125,2,⟨Th Int×Th Int,[],fun σ g => σ.t 8 (.one (.att (.int .i64 g.1))),fun σ g _=>Ob ((fun(L:Th (List Hld))=>fun _=>0≤g.1 ()∧g.1 ()≤(L ()).length∧(L ()).length≤4∧m9 (g.1 ()).toNat (a5J w.table (L ()))=true) (σ.tmL .hld 0)),fun _ g _=>5-(g.1 ()).toNat⟩),
  (18,17,⟨Th Bool×Th Int×Th Int,[],fun σ g=>(σ.only [1,3,83,84]).t 85 (.one (.att (.int .i64 g.2.1))),fun _ g _=>Ob fun _=>0≤g.2.1 ()∧g.2.1 ()≤w.net.length∧m9 w.stores.length (a2r w)=true∧a9n w=true∧m9 (g.2.1 ()).toNat (a8x w)=true,fun _ g _=>41-(g.2.1 ()).toNat⟩),
  (128,2,⟨Th Bool×Th Bool×Th Int,[],fun σ g => σ.t 8 (.one (.att (.int .i64 g.2.2))),fun σ g _=>Ob fun _=>0≤g.2.2 ()∧g.2.2 ()≤w.notes.length∧m9 (g.2.2 ()).toNat (a5q w.notes)=true,fun _ g _=>151-(g.2.2 ()).toNat⟩)],annL [(76,1,⟨Th Bool×Th Bool,[],fun σ _ => σ,fun _ _ _=>Ob fun _=>True,fun _ _ _=>0⟩),(79,1,⟨Th Bool×Th Bool,[],fun σ _ => σ,fun _ _ _=>Ob fun _=>True,fun _ _ _=>0⟩)],20,?_⟩
 cbv
 repeat' first|((with_reducible refine fun(g:Th Int×Th Bool) => ?_);obtain⟨i,z⟩:=g;obtain⟨i,rfl⟩:=b6 i;obtain⟨z,rfl⟩:=b6 z;(with_reducible refine ImpB.out ?_);cbv;(with_reducible refine ImpB.mk ?_);intro hq;obtain⟨hq⟩:=hq;have hq0:=hq.1;obtain⟨i,rfl⟩:=Int.eq_ofNat_of_zero_le hq0;clear hq0)|((with_reducible refine fun(g:Th Bool×Th Int) => ?_);obtain⟨z,i⟩:=g;obtain⟨z,rfl⟩:=b6 z;obtain⟨i,rfl⟩:=b6 i;(with_reducible refine ImpB.out ?_);cbv;(with_reducible refine ImpB.mk ?_);intro hq;obtain⟨hq⟩:=hq;have hq0:=hq.1;obtain⟨i,rfl⟩:=Int.eq_ofNat_of_zero_le hq0;clear hq0)|((with_reducible refine fun(g:Th Int×Th Int) => ?_);obtain⟨j,z⟩:=g;obtain⟨j,rfl⟩:=b6 j;obtain⟨z,rfl⟩:=b6 z;(with_reducible refine ImpB.out ?_);cbv;(with_reducible refine ImpB.mk ?_);intro hq;obtain⟨hq⟩:=hq;have hq0:=hq.1;obtain⟨j,rfl⟩:=Int.eq_ofNat_of_zero_le hq0;clear hq0)|((with_reducible refine fun(g:Th Bool×Th Int×Th Int) => ?_);obtain⟨z,i,y⟩:=g;obtain⟨z,rfl⟩:=b6 z;obtain⟨i,rfl⟩:=b6 i;obtain⟨y,rfl⟩:=b6 y;(with_reducible refine ImpB.out ?_);cbv;(with_reducible refine ImpB.mk ?_);intro hq;obtain⟨hq⟩:=hq;have hq0:=hq.1;obtain⟨i,rfl⟩:=Int.eq_ofNat_of_zero_le hq0;clear hq0)|((with_reducible refine fun(g:Th Bool×Th Bool×Th Int) => ?_);obtain⟨z,y,i⟩:=g;obtain⟨z,rfl⟩:=b6 z;obtain⟨y,rfl⟩:=b6 y;obtain⟨i,rfl⟩:=b6 i;(with_reducible refine ImpB.out ?_);cbv;(with_reducible refine ImpB.mk ?_);intro hq;obtain⟨hq⟩:=hq;have hq0:=hq.1;obtain⟨i,rfl⟩:=Int.eq_ofNat_of_zero_le hq0;clear hq0)|((with_reducible refine fun(g:Th Bool×Th Bool) => ?_);obtain⟨z,y⟩:=g;obtain⟨z,rfl⟩:=b6 z;obtain⟨y,rfl⟩:=b6 y;(with_reducible refine ImpB.out ?_);cbv;(with_reducible refine ImpB.mk ?_);intro hq;obtain⟨hq⟩:=hq)|((with_reducible intro _);cbv)|(with_reducible refine And.intro ?_ ?_)
 all_goals try((first|(with_reducible refine LoopIn.wf (fun σ => (σ.tmI 49,r7)) ?_ ?_)|(with_reducible refine LoopBack.wf (fun σ => (σ.tmI 49,r7)) ?_ ?_ ?_)|(with_reducible refine LoopIn.wf (fun σ => (r7,σ.tmI 67)) ?_ ?_)|(with_reducible refine LoopBack.wf (fun σ => (r7,σ.tmI 67)) ?_ ?_ ?_)|(with_reducible refine LoopIn.wf (fun σ => (σ.tmI 8,G8)) ?_ ?_)|(with_reducible refine LoopBack.wf (fun σ => (σ.tmI 8,G8)) ?_ ?_ ?_)|(with_reducible refine LoopIn.wf (fun σ => (r7,σ.tmI 85,G8)) ?_ ?_)|(with_reducible refine LoopBack.wf (fun σ => (r7,σ.tmI 85,G8)) ?_ ?_ ?_)|(with_reducible refine LoopIn.wf (fun σ => (r7,r7,σ.tmI 8)) ?_ ?_)|(with_reducible refine LoopBack.wf (fun σ => (r7,r7,σ.tmI 8)) ?_ ?_ ?_)|(with_reducible refine LoopIn.wf (fun _=>(r7,r7)) ?_ ?_)|(with_reducible refine LoopBack.wf (fun _=>(r7,r7)) ?_ ?_ ?_))<;>cbv)
 all_goals try(with_reducible show _∧_;(try simp only[and_true,true_and]))
 all_goals try(repeat' with_reducible refine And.intro ?_ ?_)
 all_goals try(with_reducible refine MeasB.mk ?_)
 all_goals first|(refine retK h ?_;clear h;simp only[fin0])|(with_reducible refine Ob.mk ?_;clear h)|(clear h)
 all_goals(try simp only[eta0,RT.bytes]at *)
 all_goals(try dsimp only[RT.ty]at *)
 all_goals(try simp only[Int.toNat_natCast,Int.toNat_zero]at *)
 all_goals(try simp only[b2D]at *)
 all_goals(try simp(disch:=omega) only[c6V,j4,Int.toNat_natCast])
 all_goals(first|omega|grind(splits:=30) [j4,e9,a7A,a9n,b2E,a8w,b4K,b4J,b8M,b8A,a2r,a5J,c5I,a8x,b5w,a5q,a7a,a1V,n8,n5,inR])
end Go.Proofs.YtmnapekfeenknaaGreat
