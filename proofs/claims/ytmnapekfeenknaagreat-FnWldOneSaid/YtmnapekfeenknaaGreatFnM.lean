/-
  Contracts: records one behind the other.
-/
import Derived.Test.YtmnapekfeenknaaGreatInsW
import Derived.Test.YtmnapekfeenknaaGreatFnI
import Derived.Test.YtmnapekfeenknaaGreatM1
set_option linter.unusedVariables false
set_option linter.unusedSimpArgs false
set_option maxRecDepth 100000
set_option maxHeartbeats 16000000
namespace Go.Proofs.YtmnapekfeenknaaGreat
open Go.Sx Go.Proofs Go.Mo
noncomputable def c4T:Sx.Spec:=⟨false,true,[.map,.row .cll,.list .rcd],[nCll,[none]],fun _ _ ⟨m,c,l,_⟩ => .asrt (fun _=>s5 (m ()) (c ())=true∧(l ()).length≤250) (.ret (.tup [oCll fun _=>a3P (m ()) (c ()) (l ()),vI fun _=>(a0L (m ()) (c ()) (l ()):Int)],fun _=>0))⟩
theorem a9M {m:PMap} {c:Cll} {i:Nat} {w:Wlk} {o:Sx.Ord}:(S1 m c i w o).c.cell=c.cell:=by
 unfold S1 a0z a0B a0C a0A U0 I1
 repeat' split
 all_goals rfl
theorem a0T {m:PMap} {c:Cll} {r:Sx.Rec}:(m0 m c r).c.cell=c.cell:=by
 unfold m0
 split
 ·split
  ·unfold I8
   split
   ·rfl
   dsimp only
   split
   ·rfl
   split
   ·rfl
   exact a9M
  ·rfl
 split
 ·rfl
 split
 ·unfold y4
  repeat' split
  all_goals rfl
 ·unfold I0
  split<;>rfl
theorem c9j (m:PMap) (c:Cll) (l:List Sx.Rec) (k:Nat):(v8 m c l k).cell=(v8 m c l (k+1)).cell:=by rw[Q9,a0T]
theorem c2Z:b9 Tryz.prog 120 c4T:=j5 j3 (ss := [(104,R6),(179,a9s),(208,a9u),(68,E6),(69,a1i),(164,a9q),(121,a2y),(36,B6),(166,a1C),(243,a0X),(168,O5)])
  ⟨a3G,c5z,b7w,S9,a5Z,a8o,a2f,M7,a5l,b2m,a0Q,trivial⟩ rfl rfl<|by
 intro(bs:Th (List Int)) (p:Th Int) ⟨(m:Th PMap),(c:Th Cll),(l:Th (List Sx.Rec)),u⟩ K _ _ ho h
 obtain⟨m,rfl⟩:=b6 m;obtain⟨c,rfl⟩:=b6 c;obtain⟨l,rfl⟩:=b6 l
 obtain⟨hpre,h⟩:=h
 have hpre:=hpre.out
 refine⟨annL [(120,3,⟨Nat,[⟨.cell 9 1,some 8449,.wlk⟩,⟨.cell 9 3,some 8451,.pcls⟩,⟨.cell 9 4,some 8452,.int⟩,⟨.cell 9 5,some 8453,.int⟩],
  fun σ k=>((((((((((((σ.fgs [8449,8451,8452,8453]).t 17 (vI fun _=>(k:Int))).u9 9 0 (.att (.int .i64 fun _=>(v8 m c l k).cell))).u9 9 1 (.own 8449 1)).u9 9 2 (.att (.int .i64 fun _=>(v8 m c l k).ground))).u9 9 3 (.own 8451 1)).u9 9 4 (.own 8452 1)).u9 9 5 (.own 8453 1)).row 8449 1 .wlk (fun _=>(v8 m c l k).wlks)).row 8451 1 .pcls (fun _=>(v8 m c l k).outs)).row 8452 1 .int (fun _=>(v8 m c l k).next)).row 8453 1 .int (fun _=>(v8 m c l k).ins)),
  fun _ k _=>k≤l.length∧m9 k (R0 m c l)=true,fun _ k _=>l.length-k⟩)],noAnn,20,?_⟩
 cbv
 repeat' first|((with_reducible refine fun(k:Nat) => ?_);cbv)|((with_reducible intro _);cbv)|(with_reducible refine And.intro ?_ ?_)
 all_goals try((first|(with_reducible refine LoopIn.mk ((0:Nat)) ?_ ?_)|(with_reducible refine LoopBack.mk ((k+1:Nat)) ?_ ?_ ?_)) )
 all_goals try((with_reducible show l9 _ _);cbv;(try simp only[and_true,true_and]))
 all_goals try(repeat' with_reducible refine And.intro ?_ ?_)
 all_goals first|(refine retK h ?_;clear h;simp only[fin0])|(with_reducible refine Ob.mk ?_;clear h)|(clear h)
 all_goals(try simp only[eta0,RT.bytes]at *)
 all_goals try first|exact c9j m c l k|exact Nat.sub_lt_sub_left (by assumption) (Nat.lt_succ_self k)|exact Nat.succ_le_of_lt (by assumption)
 all_goals(try have hc2:=(by assumption:k≤l.length∧m9 k (R0 m c l)=true))
 all_goals(try have hck:=a8N hpre.1 hc2.2)
 all_goals(try have hfk:R0 m c l k=(I4 m (nth .rcd l k)&&(m0 m (v8 m c l k) (nth .rcd l k)).ok):=rfl)
 all_goals(try have hfs:=Q9 m c l k)
 all_goals(try have hfa := @c1i m c l k)
 all_goals(try have hfc:a3P m c l=v8 m c l (a0L m c l):=rfl)
 all_goals(try generalize hx:v8 m c l k=x at *)
 all_goals(try generalize hr:nth RT.rcd l k=r at *)
 all_goals(try have hlt:=F6 (l:=x.wlks) (id:=r.ord.who) (by assumption))
 all_goals(try simp only[z8,j9 .wlk hlt,List.set_set,List.length_set,a3z]at *)
 all_goals(try have hf := @o7 m x hck)
 all_goals(try have hwk := @K9 m x hck)
 all_goals(try have hsd := @E1 m x hck)
 all_goals(try have hlen:=Z7 hck)
 all_goals(try have hps := @L7 m x.cell r.side)
 all_goals(try have hdo:=b2I (m:=m) (r:=r) (by assumption) (by assumption))
 all_goals(try have hoi:=G6.1 hdo)
 all_goals(try have hpd:=Q0 x.wlks r.ord.dest)
 all_goals(try have hwr:=a5O (m:=m) (c:=x) (o:=r.ord) hck hlt hdo (by assumption))
 all_goals(try simp only[hwr]at *)
 all_goals(try have hld:=F6 (l:=x.wlks) (id:=r.ord.dest) (by assumption))
 all_goals(try have hne:=a3A (l:=x.wlks) (a:=r.ord.who) (b:=r.ord.dest) (by assumption) (by assumption) (a0l hdo (by assumption)))
 all_goals(try simp only[a2a hne,m5 .wlk hne,m5 .wlk hne.symm,j9 .wlk hlt,j9 .wlk hld]at *)
 all_goals(try have hin:=a8B (m:=m) (r:=r) (by assumption) (by assumption))
 all_goals(try have hpi:=J1.1 hin)
 all_goals(try have hwg:=d3l (c:=x) (p:=r.pcl) hck hin)
 all_goals(try simp only[hwg]at *)
 all_goals(try have hfr := @Z6 x r.ord (by assumption))
 all_goals(try simp only[z8]at *)
 all_goals grind[m0,y4,I0,G0,T9,I8,S1,a0z,a0B,a0C,a0A,U0,I1,D2,H7,e9,Q0,F6,n8,n5,j4,a9T,Y7,b0O]
end Go.Proofs.YtmnapekfeenknaaGreat
