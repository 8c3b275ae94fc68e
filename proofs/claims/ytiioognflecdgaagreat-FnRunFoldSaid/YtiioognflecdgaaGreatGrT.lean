/-
  Contracts: what is drawn: lists of walkers, records.
-/
import Derived.Test.YtiioognflecdgaaGreatGnV
import Derived.Test.YtiioognflecdgaaGreatGnJ
import Derived.Test.YtiioognflecdgaaGreatM1
import Derived.Test.YtiioognflecdgaaGreatFnYs
import Derived.Test.YtiioognflecdgaaGreatGnE
import Derived.Test.YtiioognflecdgaaGreatGnC
import Derived.Test.YtiioognflecdgaaGreatM3
set_option linter.unusedVariables false
set_option linter.unusedSimpArgs false
set_option maxRecDepth 100000
set_option maxHeartbeats 8000000
namespace Go.Proofs.YtiioognflecdgaaGreat
open Go.Sx Go.Proofs Go.Mo
noncomputable def d1A:Sx.Spec:=⟨false,true,[.row .srv,.map,.arb,.int .i64],[[some .msg]],fun _ _ ⟨s,m,t,c,_⟩ => .asrt (fun _=>A4 (m ()) (s ())=true) (.ret (vW .msg fun _=>D1 (m ()) (s ()) (t ()) (c ()),fun _=>0))⟩
theorem d2d {α : Type} (l:List α):List.drop (Int.toNat 0) (List.take (if(l.length:Int)<4 then(l.length:Int)else 4).toNat l)=l.take 4:=by
 show List.drop 0 _=_
 rw[List.drop_zero]
 by_cases h:(l.length:Int)<4
 ·rw[if_pos h,Int.toNat_natCast,List.take_of_length_le (by omega),List.take_of_length_le (by omega)]
 ·rw[if_neg h];rfl
theorem a7u {t:RT} {l:List t.ty} {k:Nat} (h:k<4):nth t (l.take 4) k=nth t l k:=by
 unfold nth
 grind
theorem c2U {m:PMap} {s:Srv} {t:Arb} {c:Int} (ha:A4 m s=true) (hz : ¬(j5 s.holds c<0)):(nth .hld s.holds (j5 s.holds c).toNat).state.outs.length=2∧(nth .hld s.holds (j5 s.holds c).toNat).state.wlks.length≤9∧tkTo m t (nth .hld s.holds (j5 s.holds c).toNat) c 2=D1 m s t c:=by
 have hp:=a1s s.holds c
 have h1:u5 s c=true:=by simp[u5];omega
 have h2:e9 s c=nth .hld s.holds (j5 s.holds c).toNat:=by unfold e9;rw[if_pos (by omega)]
 have h3:=o7 (A6.1 (a4O ha (show(j5 s.holds c).toNat<s.holds.length by omega))).2.2
 refine⟨h3.2.2.2.2.2.2.1,Q6 (A6.1 (a4O ha (show(j5 s.holds c).toNat<s.holds.length by omega))).2.2,?_⟩
 ·rw[←h2];exact b5r h1
theorem c2T {m:PMap} {s:Srv} {t:Arb} {c:Int} (hz:j5 s.holds c<0):D1 m s t c = []:=by
 have h1:u5 s c=false:=by simp[u5];omega
 unfold D1
 rw[h1];rfl
theorem d2O (n:Nat):(NatCast.natCast n:Int)=(n:Int):=rfl
theorem c5z {k:Nat} (h:k≤1000):(IntKind.i64.wrap ((k:Int)+1)).toNat=k+1:=by rw[j4 (by omega)];rfl
theorem c9x {m:PMap} {t:Arb} {h:Hld} {c:Int} {T:List Msg} {i j:Nat} (hj:j<(List.take 4 (nth .pcls h.state.outs i)).length):T++tkP m t h c (i:Int) j ++ [(⟨5,j9 t (b7 m c i),b7 m c i,1-(i:Int),0,⟨0,0,0,0,0⟩,nth .pcl (List.take 4 (nth .pcls h.state.outs i)) j,⟨0,0,⟨0,0,0,0,0⟩⟩⟩:Msg)]=T++tkP m t h c (i:Int) (j+1):=by
 have h2:j<4∧j<(nth .pcls h.state.outs i).length:=by rw[List.length_take]at hj;omega
 have h3:j<(nth .pcls h.state.outs (i:Int).toNat).length:=h2.2
 rw[b5s h3,List.append_assoc,a7u h2.1]
 rfl
theorem c9A {m:PMap} {t:Arb} {h:Hld} {c:Int} {T:List Msg} {i j:Nat} (hj:j<(List.take 4 (n6 m h (i:Int))).length):T++tkG m t h c (i:Int) j ++ [(⟨7,j9 t (b7 m c i),b7 m c i,1-(i:Int),0,⟨0,0,0,0,0⟩,⟨0,0,⟨0,0,0,0,0⟩,0⟩,nth .gst (List.take 4 (n6 m h (i:Int))) j⟩:Msg)]=T++tkG m t h c (i:Int) (j+1):=by
 have h2:j<4∧j<(n6 m h (i:Int)).length:=by rw[List.length_take]at hj;omega
 rw[b5t h2.2,List.append_assoc,a7u h2.1]
 rfl
theorem d2D:b6 Tryz.prog 72 d1A:=j3 b9 (ss := [(115,a2y),(85,F9),(75,E6),(116,c1d)]) ⟨b0g,U5,a0a,c7k,trivial⟩ rfl rfl<|by
 intro(bs:Th (List Int)) (p:Th Int) ⟨(s:Th Srv),(m:Th PMap),(t:Th Arb),(c:Th Int),u⟩ K _ _ ho h
 obtain⟨s,rfl⟩:=a8 s;obtain⟨m,rfl⟩:=a8 m;obtain⟨t,rfl⟩:=a8 t;obtain⟨c,rfl⟩:=a8 c
 obtain⟨ha,h⟩:=h
 have ha:A4 m s=true:=ha.out
 have hp:=a1s s.holds c
 have hz : ¬(j5 s.holds c<0)→(nth .hld s.holds (j5 s.holds c).toNat).state.outs.length=2∧(nth .hld s.holds (j5 s.holds c).toNat).state.wlks.length≤9∧tkTo m t (nth .hld s.holds (j5 s.holds c).toNat) c 2=D1 m s t c:=fun hz=>c2U ha hz
 have hz0:j5 s.holds c<0→D1 m s t c = []:=fun hz=>c2T hz
 have hn : ∀k:Nat,(k:Int)<2→IntKind.i64.wrap (1-(k:Int))=1-(k:Int):=fun k hk=>b8 (by omega) (by omega)
 refine⟨annL [(72,7,⟨Th Int×Th Bool,[⟨.tmp 11 0,some 500,.msg⟩],fun σ g=>(fun(H:Th Hld)=>(((σ.only [3,4,5,6,8,10]).t 33 (.one (.att (.int .i64 g.1)))).t 11 (vO 500 1)).row 500 1 .msg (fun _=>tkTo m t (nth .hld s.holds (j5 s.holds c).toNat) c (g.1 ()).toNat)) (fun _=>a1J),fun _ g _=>Ob fun _=>0≤g.1 ()∧g.1 ()≤2∧0≤j5 s.holds c,fun _ g _=>2-(g.1 ()).toNat⟩),
  (72,14,⟨Th Bool×Th Int,[⟨.tmp 11 0,some 500,.msg⟩],fun σ g=>(fun(S:Th Int)=>(((σ.only [3,4,5,6,8,10,12,13,14,15,33,68,69]).t 70 (.one (.att (.int .i64 g.2)))).t 11 (vO 500 1)).row 500 1 .msg (fun _=>tkTo m t (nth .hld s.holds (j5 s.holds c).toNat) c (S ()).toNat++tkP m t (nth .hld s.holds (j5 s.holds c).toNat) c (S ()) (g.2 ()).toNat)) (σ.tmI 12),fun σ g _=>Ob ((fun(S:Th Int)=>fun _=>0≤g.2 ()∧g.2 ()≤4∧g.2 ()≤(nth .pcls (nth .hld s.holds (j5 s.holds c).toNat).state.outs (S ()).toNat).length) (σ.tmI 12)),fun _ g _=>5-(g.2 ()).toNat⟩),
  (72,22,⟨Th Int×Th Int,[⟨.tmp 11 0,some 500,.msg⟩],fun σ g=>(fun(S:Th Int)=>(((σ.only [3,4,5,6,8,10,12,13,14,15,33,91,92]).t 93 (.one (.att (.int .i64 g.1)))).t 11 (vO 500 1)).row 500 1 .msg (fun _=>tkTo m t (nth .hld s.holds (j5 s.holds c).toNat) c (S ()).toNat++tkP m t (nth .hld s.holds (j5 s.holds c).toNat) c (S ()) 4++tkG m t (nth .hld s.holds (j5 s.holds c).toNat) c (S ()) (g.1 ()).toNat)) (σ.tmI 12),fun σ g _=>Ob ((fun(S:Th Int)=>fun _=>0≤g.1 ()∧g.1 ()≤4∧g.1 ()≤(n6 m (nth .hld s.holds (j5 s.holds c).toNat) (S ())).length) (σ.tmI 12)),fun _ g _=>5-(g.1 ()).toNat⟩)],noAnn,20,?_⟩
 cbv
 repeat' first|((with_reducible refine fun(g:Th Int×Th Bool) => ?_);obtain⟨i,z⟩:=g;obtain⟨i,rfl⟩:=a8 i;obtain⟨z,rfl⟩:=a8 z;(with_reducible refine ImpB.out ?_);cbv;(with_reducible refine ImpB.mk ?_);intro hq;obtain⟨hq⟩:=hq;have hq0:=hq.1;obtain⟨i,rfl⟩:=Int.eq_ofNat_of_zero_le hq0;clear hq0)|((with_reducible refine fun(g:Th Bool×Th Int) => ?_);obtain⟨z,j⟩:=g;obtain⟨z,rfl⟩:=a8 z;obtain⟨j,rfl⟩:=a8 j;(with_reducible refine ImpB.out ?_);cbv;(with_reducible refine ImpB.mk ?_);intro hq;obtain⟨hq⟩:=hq;have hq0:=hq.1;obtain⟨j,rfl⟩:=Int.eq_ofNat_of_zero_le hq0;clear hq0)|((with_reducible refine fun(g:Th Int×Th Int) => ?_);obtain⟨k,z⟩:=g;obtain⟨k,rfl⟩:=a8 k;obtain⟨z,rfl⟩:=a8 z;(with_reducible refine ImpB.out ?_);cbv;(with_reducible refine ImpB.mk ?_);intro hq;obtain⟨hq⟩:=hq;have hq0:=hq.1;obtain⟨k,rfl⟩:=Int.eq_ofNat_of_zero_le hq0;clear hq0)|((with_reducible intro _);cbv)|(with_reducible refine And.intro ?_ ?_)
 all_goals try((first|(with_reducible refine LoopIn.wf (fun σ => (σ.tmI 33,B6)) ?_ ?_)|(with_reducible refine LoopBack.wf (fun σ => (σ.tmI 33,B6)) ?_ ?_ ?_)|(with_reducible refine LoopIn.wf (fun σ => (B6,σ.tmI 70)) ?_ ?_)|(with_reducible refine LoopBack.wf (fun σ => (B6,σ.tmI 70)) ?_ ?_ ?_)|(with_reducible refine LoopIn.wf (fun σ => (σ.tmI 93,a0n)) ?_ ?_)|(with_reducible refine LoopBack.wf (fun σ => (σ.tmI 93,a0n)) ?_ ?_ ?_))<;>cbv)
 all_goals try(with_reducible show _∧_;(try simp only[and_true,true_and]))
 all_goals try(repeat' with_reducible refine And.intro ?_ ?_)
 all_goals try(with_reducible refine MeasB.mk ?_)
 all_goals first|(refine retK h ?_;clear h;simp only[fin0])|(with_reducible refine Ob.mk ?_;clear h)|(clear h)
 all_goals(try simp only[eta0,RT.bytes]at *)
 all_goals(try dsimp only[RT.ty]at *)
 all_goals(try simp only[d2d,Int.toNat_natCast]at *)
 all_goals(try simp only[d2O]at *)
 all_goals(try simp(disch:=assumption) only[hn])
 all_goals(first|omega|(simp(disch:=omega) only[c5z];first|exact c9x ‹_› | exact c9A ‹_›)|grind[j4,c2R,c2S,c5J,c5K,b5s,c9z,c5L,b5t,c9C,c9y,c9B,a8W,u6,A8,G5,a7u])
end Go.Proofs.YtiioognflecdgaaGreat
