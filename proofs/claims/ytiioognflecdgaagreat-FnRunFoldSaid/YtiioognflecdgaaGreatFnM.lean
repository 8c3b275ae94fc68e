/-
  Contracts: records one behind the other.
-/
import Derived.Test.YtiioognflecdgaaGreatFnFb
import Derived.Test.YtiioognflecdgaaGreatGnJ
import Derived.Test.YtiioognflecdgaaGreatFnYs
import Derived.Test.YtiioognflecdgaaGreatM1
set_option linter.unusedVariables false
set_option linter.unusedSimpArgs false
set_option maxRecDepth 100000
set_option maxHeartbeats 16000000
namespace Go.Proofs.YtiioognflecdgaaGreat
open Go.Sx Go.Proofs Go.Mo
noncomputable def c6p:Sx.Spec:=⟨false,true,[.map,.row .cll,.list .rcd],[nCll,[none]],fun _ _ ⟨m,c,l,_⟩ => .asrt (fun _=>p9 (m ()) (c ())=true∧(l ()).length≤250) (.ret (.tup [oCll fun _=>a2g (m ()) (c ()) (l ()),vI fun _=>(X5 (m ()) (c ()) (l ()):Int)],fun _=>0))⟩
theorem a7y {m:PMap} {c:Cll} {i:Nat} {w:Wlk} {o:Sx.Ord}:(R4 m c i w o).c.cell=c.cell:=by
 unfold R4 a0i a0k a0l a0j S7 F8
 repeat' split
 all_goals rfl
theorem P8 {m:PMap} {c:Cll} {r:Sx.Rec}:(j8 m c r).c.cell=c.cell:=by
 unfold j8
 split
 ·split
  ·unfold K3
   split
   ·rfl
   dsimp only
   split
   ·rfl
   split
   ·rfl
   exact a7y
  ·rfl
 split
 ·rfl
 split
 ·unfold y7
  repeat' split
  all_goals rfl
 ·unfold H0
  split<;>rfl
theorem c4U (m:PMap) (c:Cll) (l:List Sx.Rec) (k:Nat):(s9 m c l k).cell=(s9 m c l (k+1)).cell:=by rw[P7,P8]
theorem c7m:b6 Tryz.prog 119 c6p:=j3 b9 (ss := [(158,N7),(170,a7c),(199,a7f),(85,F9),(231,a1P),(225,a9m),(122,a4a),(125,C8),(228,a1e),(230,Y9),(126,R8)])
  ⟨a6m,c1E,b4w,U5,a7o,a8I,a3C,Y1,a6e,a9W,a1W,trivial⟩ rfl rfl<|by
 intro(bs:Th (List Int)) (p:Th Int) ⟨(m:Th PMap),(c:Th Cll),(l:Th (List Sx.Rec)),u⟩ K _ _ ho h
 obtain⟨m,rfl⟩:=a8 m;obtain⟨c,rfl⟩:=a8 c;obtain⟨l,rfl⟩:=a8 l
 obtain⟨hpre,h⟩:=h
 have hpre:=hpre.out
 refine⟨annL [(119,3,⟨Nat,[⟨.cell 9 1,some 8449,.wlk⟩,⟨.cell 9 3,some 8451,.pcls⟩,⟨.cell 9 4,some 8452,.int⟩,⟨.cell 9 5,some 8453,.int⟩],
  fun σ k=>((((((((((((σ.fgs [8449,8451,8452,8453]).t 17 (vI fun _=>(k:Int))).v5 9 0 (.att (.int .i64 fun _=>(s9 m c l k).cell))).v5 9 1 (.own 8449 1)).v5 9 2 (.att (.int .i64 fun _=>(s9 m c l k).ground))).v5 9 3 (.own 8451 1)).v5 9 4 (.own 8452 1)).v5 9 5 (.own 8453 1)).row 8449 1 .wlk (fun _=>(s9 m c l k).wlks)).row 8451 1 .pcls (fun _=>(s9 m c l k).outs)).row 8452 1 .int (fun _=>(s9 m c l k).next)).row 8453 1 .int (fun _=>(s9 m c l k).ins)),
  fun _ k _=>k≤l.length∧l9 k (M4 m c l)=true,fun _ k _=>l.length-k⟩)],noAnn,20,?_⟩
 cbv
 repeat' first|((with_reducible refine fun(k:Nat) => ?_);cbv)|((with_reducible intro _);cbv)|(with_reducible refine And.intro ?_ ?_)
 all_goals try((first|(with_reducible refine LoopIn.mk ((0:Nat)) ?_ ?_)|(with_reducible refine LoopBack.mk ((k+1:Nat)) ?_ ?_ ?_)) )
 all_goals try((with_reducible show l8 _ _);cbv;(try simp only[and_true,true_and]))
 all_goals try(repeat' with_reducible refine And.intro ?_ ?_)
 all_goals first|(refine retK h ?_;clear h;simp only[fin0])|(with_reducible refine Ob.mk ?_;clear h)|(clear h)
 all_goals(try simp only[eta0,RT.bytes]at *)
 all_goals try first|exact c4U m c l k|exact Nat.sub_lt_sub_left (by assumption) (Nat.lt_succ_self k)|exact Nat.succ_le_of_lt (by assumption)
 all_goals(try have hc2:=(by assumption:k≤l.length∧l9 k (M4 m c l)=true))
 all_goals(try have hck:=a6B hpre.1 hc2.2)
 all_goals(try have hfk:M4 m c l k=(E9 m (nth .rcd l k)&&(j8 m (s9 m c l k) (nth .rcd l k)).ok):=rfl)
 all_goals(try have hfs:=P7 m c l k)
 all_goals(try have hfa := @b7U m c l k)
 all_goals(try have hfc:a2g m c l=s9 m c l (X5 m c l):=rfl)
 all_goals(try generalize hx:s9 m c l k=x at *)
 all_goals(try generalize hr:nth RT.rcd l k=r at *)
 all_goals(try have hlt:=L0 (l:=x.wlks) (id:=r.ord.who) (by assumption))
 all_goals(try simp only[B4,m6 .wlk hlt,List.set_set,List.length_set,a4g]at *)
 all_goals(try have hf := @o7 m x hck)
 all_goals(try have hwk := @L7 m x hck)
 all_goals(try have hsd := @C6 m x hck)
 all_goals(try have hlen:=Q6 hck)
 all_goals(try have hps := @H9 m x.cell r.side)
 all_goals(try have hdo:=b0r (m:=m) (r:=r) (by assumption) (by assumption))
 all_goals(try have hoi:=N4.1 hdo)
 all_goals(try have hpd:=O6 x.wlks r.ord.dest)
 all_goals(try have hwr:=a6V (m:=m) (c:=x) (o:=r.ord) hck hlt hdo (by assumption))
 all_goals(try simp only[hwr]at *)
 all_goals(try have hld:=L0 (l:=x.wlks) (id:=r.ord.dest) (by assumption))
 all_goals(try have hne:=a3v (l:=x.wlks) (a:=r.ord.who) (b:=r.ord.dest) (by assumption) (by assumption) (a6b hdo (by assumption)))
 all_goals(try simp only[a5B hne,q9 .wlk hne,q9 .wlk hne.symm,m6 .wlk hlt,m6 .wlk hld]at *)
 all_goals(try have hin:=b0q (m:=m) (r:=r) (by assumption) (by assumption))
 all_goals(try have hpi:=Q2.1 hin)
 all_goals(try have hwg:=c8g (c:=x) (p:=r.pcl) hck hin)
 all_goals(try simp only[hwg]at *)
 all_goals(try have hfr := @a1t x r.ord (by assumption))
 all_goals(try simp only[B4]at *)
 all_goals grind[j8,y7,H0,J4,Q1,K3,R4,a0i,a0k,a0l,a0j,S7,F8,H6,H7,b8,O6,L0,n8,n3,j4,a7G,T8,a8q]
end Go.Proofs.YtiioognflecdgaaGreat
