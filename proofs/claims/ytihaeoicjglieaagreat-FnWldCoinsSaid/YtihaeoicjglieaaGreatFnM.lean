/-
  Contracts: records one behind the other.
-/
import Derived.Test.YtihaeoicjglieaaGreatInsW
import Derived.Test.YtihaeoicjglieaaGreatGnF
import Derived.Test.YtihaeoicjglieaaGreatFnYs
import Derived.Test.YtihaeoicjglieaaGreatM1
set_option linter.unusedVariables false
set_option linter.unusedSimpArgs false
set_option maxRecDepth 100000
set_option maxHeartbeats 16000000
namespace Go.Proofs.YtihaeoicjglieaaGreat
open Go.Sx Go.Proofs Go.Mo
noncomputable def c3U:Sx.Spec:=⟨false,true,[.map,.row .cll,.list .rcd],[nCll,[none]],fun _ _ ⟨m,c,l,_⟩ => .asrt (fun _=>s6 (m ()) (c ())=true∧(l ()).length≤250) (.ret (.tup [oCll fun _=>a3k (m ()) (c ()) (l ()),vI fun _=>(a0e (m ()) (c ()) (l ()):Int)],fun _=>0))⟩
theorem a8W {m:PMap} {c:Cll} {i:Nat} {w:Wlk} {o:Sx.Ord}:(Q8 m c i w o).c.cell=c.cell:=by
 unfold Q8 a0t a0v a0w a0u U3 I0
 repeat' split
 all_goals rfl
theorem a0y {m:PMap} {c:Cll} {r:Sx.Rec}:(l7 m c r).c.cell=c.cell:=by
 unfold l7
 split
 ·split
  ·unfold J0
   split
   ·rfl
   dsimp only
   split
   ·rfl
   split
   ·rfl
   exact a8W
  ·rfl
 split
 ·rfl
 split
 ·unfold y6
  repeat' split
  all_goals rfl
 ·unfold G9
  split<;>rfl
theorem c8f (m:PMap) (c:Cll) (l:List Sx.Rec) (k:Nat):(v8 m c l k).cell=(v8 m c l (k+1)).cell:=by rw[P1,a0y]
theorem c2a:b8 Tryz.prog 100 c3U:=j4 e9 (ss := [(75,R0),(166,a8C),(214,a8G),(48,G5),(49,a0N),(132,b0S),(103,a5e),(128,D6),(134,a2c),(248,a0D),(136,V0)])
  ⟨a7E,c4B,b6C,U1,a5s,b0l,a4D,a0n,a7u,b1u,a3b,trivial⟩ rfl rfl<|by
 intro(bs:Th (List Int)) (p:Th Int) ⟨(m:Th PMap),(c:Th Cll),(l:Th (List Sx.Rec)),u⟩ K _ _ ho h
 obtain⟨m,rfl⟩:=b6 m;obtain⟨c,rfl⟩:=b6 c;obtain⟨l,rfl⟩:=b6 l
 obtain⟨hpre,h⟩:=h
 have hpre:=hpre.out
 refine⟨annL [(100,3,⟨Nat,[⟨.cell 9 1,some 8449,.wlk⟩,⟨.cell 9 3,some 8451,.pcls⟩,⟨.cell 9 4,some 8452,.int⟩,⟨.cell 9 5,some 8453,.int⟩],
  fun σ k=>((((((((((((σ.fgs [8449,8451,8452,8453]).t 17 (vI fun _=>(k:Int))).u7 9 0 (.att (.int .i64 fun _=>(v8 m c l k).cell))).u7 9 1 (.own 8449 1)).u7 9 2 (.att (.int .i64 fun _=>(v8 m c l k).ground))).u7 9 3 (.own 8451 1)).u7 9 4 (.own 8452 1)).u7 9 5 (.own 8453 1)).row 8449 1 .wlk (fun _=>(v8 m c l k).wlks)).row 8451 1 .pcls (fun _=>(v8 m c l k).outs)).row 8452 1 .int (fun _=>(v8 m c l k).next)).row 8453 1 .int (fun _=>(v8 m c l k).ins)),
  fun _ k _=>k≤l.length∧m8 k (P2 m c l)=true,fun _ k _=>l.length-k⟩)],noAnn,20,?_⟩
 cbv
 repeat' first|((with_reducible refine fun(k:Nat) => ?_);cbv)|((with_reducible intro _);cbv)|(with_reducible refine And.intro ?_ ?_)
 all_goals try((first|(with_reducible refine LoopIn.mk ((0:Nat)) ?_ ?_)|(with_reducible refine LoopBack.mk ((k+1:Nat)) ?_ ?_ ?_)) )
 all_goals try((with_reducible show m0 _ _);cbv;(try simp only[and_true,true_and]))
 all_goals try(repeat' with_reducible refine And.intro ?_ ?_)
 all_goals first|(refine retK h ?_;clear h;simp only[fin0])|(with_reducible refine Ob.mk ?_;clear h)|(clear h)
 all_goals(try simp only[eta0,RT.bytes]at *)
 all_goals try first|exact c8f m c l k|exact Nat.sub_lt_sub_left (by assumption) (Nat.lt_succ_self k)|exact Nat.succ_le_of_lt (by assumption)
 all_goals(try have hc2:=(by assumption:k≤l.length∧m8 k (P2 m c l)=true))
 all_goals(try have hck:=a7X hpre.1 hc2.2)
 all_goals(try have hfk:P2 m c l k=(H4 m (nth .rcd l k)&&(l7 m (v8 m c l k) (nth .rcd l k)).ok):=rfl)
 all_goals(try have hfs:=P1 m c l k)
 all_goals(try have hfa := @c0m m c l k)
 all_goals(try have hfc:a3k m c l=v8 m c l (a0e m c l):=rfl)
 all_goals(try generalize hx:v8 m c l k=x at *)
 all_goals(try generalize hr:nth RT.rcd l k=r at *)
 all_goals(try have hlt:=I7 (l:=x.wlks) (id:=r.ord.who) (by assumption))
 all_goals(try simp only[B3,l9 .wlk hlt,List.set_set,List.length_set,a5m]at *)
 all_goals(try have hf := @n5 m x hck)
 all_goals(try have hwk := @L7 m x hck)
 all_goals(try have hsd := @D3 m x hck)
 all_goals(try have hlen:=Q3 hck)
 all_goals(try have hps := @K5 m x.cell r.side)
 all_goals(try have hdo:=b1R (m:=m) (r:=r) (by assumption) (by assumption))
 all_goals(try have hoi:=J9.1 hdo)
 all_goals(try have hpd:=S4 x.wlks r.ord.dest)
 all_goals(try have hwr:=a8v (m:=m) (c:=x) (o:=r.ord) hck hlt hdo (by assumption))
 all_goals(try simp only[hwr]at *)
 all_goals(try have hld:=I7 (l:=x.wlks) (id:=r.ord.dest) (by assumption))
 all_goals(try have hne:=a4w (l:=x.wlks) (a:=r.ord.who) (b:=r.ord.dest) (by assumption) (by assumption) (a1G hdo (by assumption)))
 all_goals(try simp only[a6Q hne,n6 .wlk hne,n6 .wlk hne.symm,l9 .wlk hlt,l9 .wlk hld]at *)
 all_goals(try have hin:=a7L (m:=m) (r:=r) (by assumption) (by assumption))
 all_goals(try have hpi:=I2.1 hin)
 all_goals(try have hwg:=d1O (c:=x) (p:=r.pcl) hck hin)
 all_goals(try simp only[hwg]at *)
 all_goals(try have hfr := @X7 x r.ord (by assumption))
 all_goals(try simp only[B3]at *)
 all_goals grind[l7,y6,G9,E7,R3,J0,Q8,a0t,a0v,a0w,a0u,U3,I0,D5,H9,e8,S4,I7,n7,n4,j3,a9f,W6,a9T]
end Go.Proofs.YtihaeoicjglieaaGreat
