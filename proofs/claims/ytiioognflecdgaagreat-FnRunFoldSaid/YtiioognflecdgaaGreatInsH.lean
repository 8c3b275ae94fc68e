/-
  Contracts: a world in new memory, the reference's way.
-/
import Derived.Test.YtiioognflecdgaaGreatGnE
import Derived.Test.YtiioognflecdgaaGreatTok
import Derived.Test.YtiioognflecdgaaGreatS5
import Derived.Test.YtiioognflecdgaaGreatM3
import Derived.Test.YtiioognflecdgaaGreatFnFb
import Derived.Test.YtiioognflecdgaaGreatS4f
import Derived.Test.YtiioognflecdgaaGreatM2
set_option linter.unusedVariables false
set_option linter.unusedSimpArgs false
set_option maxRecDepth 100000
set_option maxHeartbeats 8000000
namespace Go.Proofs.YtiioognflecdgaaGreat
open Go.Sx Go.Proofs Go.Mo
noncomputable def nWld:List (Option RT) := [none,none,some .srv,some .sto,some .int,some .int,some .row,some .msg,some .note]
noncomputable def a3o:Sx.Spec:=⟨false,true,[.row .wld],[nWld],fun _ _ ⟨w,_⟩ => .ret (oWld w,fun _=>0)⟩
theorem a7q:b6 Tryz.prog 46 a3o:=j3 b9 (ss := [(93,a3q),(94,a2A),(95,a4b)]) ⟨a8d,a4j,a7r,trivial⟩ rfl rfl<|by
 intro(bs:Th (List Int)) (p:Th Int) ⟨(w:Th Wld),u⟩ K _ _ ho h
 obtain⟨w,rfl⟩:=a8 w
 have hb0:=okB (ho.1 _ (.tail _ (.tail _ (.head _))))
 have hb3:=okB (ho.1 _ (.tail _ (.tail _ (.tail _ (.tail _ (.head _))))))
 have hb4:=okB (ho.1 _ (.tail _ (.tail _ (.tail _ (.tail _ (.tail _ (.head _)))))))
 have hb6:=okB (ho.1 _ (.tail _ (.tail _ (.tail _ (.tail _ (.tail _ (.tail _ (.tail _ (.head _)))))))))
 have hb7:=okB (ho.1 _ (.tail _ (.tail _ (.tail _ (.tail _ (.tail _ (.tail _ (.tail _ (.tail _ (.head _))))))))))
 have hs:=fun k => @J1 .srv w.servers k
 have hz:=a1h w.servers
 refine⟨annL [(46,4,⟨Nat,[⟨.cell 4 2,some 51,.srv⟩],fun σ k=>(((σ.fgs [51,14,18,23,28]).t 4 (vI fun _=>(k:Int))).v5 4 2 (.own 51 1)).row 51 1 .srv (fun _=>pre w.servers k),fun _ k _=>k≤w.servers.length,fun _ k _=>w.servers.length-k⟩)],noAnn,20,?_⟩
 cbv
 repeat' first|((with_reducible refine fun(k:Nat) => ?_);cbv)|((with_reducible intro _);cbv)|(with_reducible refine And.intro ?_ ?_)
 all_goals try((first|(with_reducible refine LoopIn.mk ((0:Nat)) ?_ ?_)|(with_reducible refine LoopBack.mk ((k+1:Nat)) ?_ ?_ ?_)) )
 all_goals try((with_reducible show l8 _ _);cbv;(try simp only[and_true,true_and]))
 all_goals try(repeat' with_reducible refine And.intro ?_ ?_)
 all_goals first|(refine retK h ?_;clear h;simp only[fin0])|(with_reducible refine Ob.mk ?_;clear h)|(clear h)
 all_goals(try simp only[eta0,RT.bytes]at *)
 all_goals(try grind[Z8,a1i,j4])
end Go.Proofs.YtiioognflecdgaaGreat
namespace Go.Proofs.YtiioognflecdgaaGreat
open Go.Sx Go.Proofs Go.RowKit
theorem c5d:(Tryz.prog.info? 87).map (fun i=>(i.zero,i.size,i.bytes))=some (some (.agg #[.int .i64 0,.int .i64 0,.int .i64 0,.int .i64 0,.int .i64 0,.int .i64 0,.int .i64 0,.int .i64 0,.int .i64 0,.int .i64 0,.int .i64 0,.int .i64 0,.int .i64 0,.int .i64 0,.int .i64 0,.int .i64 0,.int .i64 0,.int .i64 0,.int .i64 0,.int .i64 0,.int .i64 0,.int .i64 0,.int .i64 0,.int .i64 0,.int .i64 0]),25,200):=by kernel_rfl
theorem c8E (w:World) (n b c:Nat) (cs:Array Value) (T i:Nat) (hh:w.heap[b]? = some (.cells cs T (0,0))) (hnc:n≤c) (hc:c≤maxLen) (hs:cs.size=c * 25) (hi:i<n) (h1c : ∀u∈cs.toList.take (n * 25),one u) :
  Calls Tryz.prog 71 #[.slice (some ⟨b,0,none⟩) n c,.int .i64 i,.int .i64 ((i:Int)+1)] w fun e w' => ∃v cs',e = .returned v∧DelE w w' 25 v n i b c cs T cs':=by
 obtain⟨inf,hinf,hz,hsz,hby⟩:=info_parts c5d
 obtain⟨Z,hZ⟩ : ∃Z:Value,Z = .agg #[.int .i64 0,.int .i64 0,.int .i64 0,.int .i64 0,.int .i64 0,.int .i64 0,.int .i64 0,.int .i64 0,.int .i64 0,.int .i64 0,.int .i64 0,.int .i64 0,.int .i64 0,.int .i64 0,.int .i64 0,.int .i64 0,.int .i64 0,.int .i64 0,.int .i64 0,.int .i64 0,.int .i64 0,.int .i64 0,.int .i64 0,.int .i64 0,.int .i64 0]:=⟨_,rfl⟩
 rw[←hZ]at hz
 have hzc:(Value.cells Z).size=25:=by rw[hZ];rfl
 have hzv : ∀w,(zeroValue 87).run Tryz.prog w = .ok Z w:=fun w=>by simp[zeroValue,typeInfo,hinf,hz]
 have hz1 : ∀u∈(Value.cells Z).toList,one u:=by
  intro u hu
  rw[hZ]at hu
  simp[Value.cells]at hu
  first|(subst hu;rfl)|(rcases hu with rfl|rfl|rfl|rfl<;>rfl)
 clear hZ
 have u25:=run_underlying Tryz.underlying33
 have z38 : ∀w,(sizeOf 87).run Tryz.prog w = .ok 25 w:=fun w=>by simp[sizeOf,typeInfo,hinf,hsz]
 have mixed:=b9.mix
 have hc63:c≤9223372036854775807:=hc
 obtain⟨e1,e2,e3,e4,e5,e6,e7⟩:=a8s (cs:=cs) (zs:=(Value.cells Z).toList) hs hnc hi (by rw[Array.length_toList];exact hzc)
 obtain⟨us,hus⟩ : ∃us,us=(cs.toList.take (n * 25)).drop ((i+1) * 25):=⟨_,rfl⟩
 rw[←hus]at e1 e2 e3
 obtain⟨A,hA,hsrc⟩ : ∃A:Addr,(if c=i+1 then some (⟨b,0,none⟩:Addr)else some ⟨b,(i+1) * 25,none⟩)=some A∧(∀j v,us[j]? = some v→w.drew.cell? (A.add j)=some v):=by
  by_cases h:c=i+1
  ·refine⟨⟨b,0,none⟩,by simp[h],fun j v hj => ?_⟩
   have h0:us.length=0:=by rw[e1,show n-(i+1)=0 by omega,Nat.zero_mul]
   rw[List.length_eq_zero_iff.1 h0]at hj
   simp at hj
  ·refine⟨⟨b,(i+1) * 25,none⟩,by simp[h],fun j v hj => ?_⟩
   rw[hus,List.getElem?_drop,List.getElem?_take]at hj
   rw[v7,show w.drew.cell? ⟨b,(i+1) * 25+j,none⟩=w.cell? ⟨b,(i+1) * 25+j,none⟩from rfl,o9 hh]
   split at hj
   ·simpa using hj
   ·cases hj
 have h1u : ∀u∈us,one u:=fun u hu=>h1c u (by rw[hus]at hu;exact List.mem_of_mem_drop hu)
 obtain⟨W1,hW1⟩ : ∃W1,W1=wrote w.drew b (i * 25) cs us:=⟨_,rfl⟩
 have hap : ∀ty,(Builtin.append_ #[33,33] ty #[.slice (some ⟨b,0,none⟩) i c,.slice (some A) (n-(i+1)) (c-(i+1))]).run Tryz.prog w.drew = .ok (.slice (some ⟨b,0,none⟩) (i+(n-(i+1))) c) W1:=fun ty=>by
  have:=a4z (P:=Tryz.prog) (w:=w.drew) (ty:=ty) (T:=33) (b:=b) (n:=i) (cap:=c) (m:=n-(i+1)) (capx:=c-(i+1)) (a:=A) (cs:=cs) (us:=us) (T0:=T) Tryz.underlying33 hinf hh (by rw[hsz];exact e1) hsrc (by omega) (by rw[hsz];exact hs) h1u
  rw[this,hsz,hW1]
 have hh1:W1.heap[b]? = some (.cells (putAt cs.toList (i * 25) us).toArray T (0,0)):=by rw[hW1];exact y5 hh
 have hin:i+(n-(i+1))=n-1:=by omega
 rw[hin]at hap
 have hcl : ∀(W:World),W.heap=W1.heap → ∀ty cc,(Builtin.clear_ #[33] ty #[.slice (some ⟨b,(n-1) * 25,none⟩) 1 cc]).run Tryz.prog W = .ok (.tuple #[]) (wrote W b ((n-1) * 25) (putAt cs.toList (i * 25) us).toArray (Value.cells Z).toList):=fun W hW ty cc =>
  a4y (T0:=T) Tryz.underlying33 hzv (by rw[hW];exact hh1) (by rw[e3];rw[Array.length_toList]at e4;exact e4) hz1
 have hend : ∀W:World,W.heap=(wrote W1 b ((n-1) * 25) (putAt cs.toList (i * 25) us).toArray (Value.cells Z).toList).heap→W.os=w.os→W.tape=w.tape→W.output=w.output→DelE w W 25 (.slice (some ⟨b,0,none⟩) (n-1) c) n i b c cs T (closed cs 25 n i (Value.cells Z).toList):=fun W hW g1 g2 g3=>by
  refine⟨rfl,?_,e5,e6,e7,g1,g2,g3,?_,fun x hx => ?_⟩
  ·rw[hW,y5 hh1,closed,←hus]
  ·rw[hW,hW1];simp[wrote,World.setRow]
  ·rw[hW,s4 hx,hW1,s4 hx];rfl
 have hw2:IntKind.i64.wrap ((i:Int)+1)=((i+1:Nat):Int):=by rw[IntKind.wrap_i64];omega
 have hci : ¬(c=n-1):=by omega
 have hne : ¬((i:Int)=(i:Int)+1):=by omega
 have htn:((i:Int)+1).toNat=i+1:=by omega
 have hb1:(0:Int)≤(i:Int)+1:=by omega
 have hb2:(i:Int)+1≤(n:Int):=by omega
 have hb3:(i:Int)+1≤(c:Int):=by omega
 have hb4:i≤c:=by omega
 have hb5:(i:Int)≤(i:Int)+1:=by omega
 have hb6:n-(n-1)=1:=by omega
 have hb7:n-1≤n:=by omega
 have g1:W1.os=w.os:=by rw[hW1];rfl
 have g2:W1.tape=w.tape:=by rw[hW1];rfl
 have g3:W1.output=w.output:=by rw[hW1];rfl
 obtain⟨zs,hzs⟩ : ∃zs,zs=(Value.cells Z).toList:=⟨_,rfl⟩
 rw[←hzs]at hcl hend
 clear hzs hzv hz1 hzc hW1
 clear hinf hz hby e1 e2 e3 e4 e5 e6 e7 h1u hsrc hh1 h1c hus
 go_enter Tryz.func71,Tryz.ntmps71
 go_wp2_with fail
 go_region_law_o (refine a1L rfl (.tmp 22) (.tmp 25) 33 rfl _ _ (by simp[Act.eval,Act.put]) (by simp[Act.eval,Act.put]) (hap _) ?_)
 go_wp2_with (at_builtin;refine a1c _ rfl _ 33 rfl _ rfl (hcl _ rfl _ _) ?_)
 all_goals go_ret
 all_goals exact⟨.slice (some ⟨b,0,none⟩) (n-1) c,_,rfl,hend _ rfl g1 g2 g3⟩
theorem d3e:c2J Tryz.prog 71 .msg:=fun w n b cap cs T i hh h1 h2 h3 h4 h5 _=>c8E w n b cap cs T i hh h1 h2 h3 h4 h5
theorem c4e:b6 Tryz.prog 71 (.raw (delM .msg)) :=
 c8C ⟨_,_,Tryz.func71,by kernel_rfl,rfl⟩ d3e
end Go.Proofs.YtiioognflecdgaaGreat
namespace Go.Proofs.YtiioognflecdgaaGreat
open Go.Sx Go.Proofs Go.Mo
noncomputable def b2n:Sx.Spec:=⟨false,true,[.arb],[[some .int,some .int]],fun _ _ ⟨t,_⟩ => .ret (oArb t,fun _=>0)⟩
noncomputable def a7g:SpecX := .raw (b5v (delM .msg))
theorem b0i:b6 Tryz.prog 71 a7g:=b3B c4e ⟨_,_,Tryz.func71,by kernel_rfl,rfl⟩
theorem b9u:b6 Tryz.prog 63 b2n:=j3 b9 (ss := []) trivial rfl rfl<|by
 intro(bs:Th (List Int)) (p:Th Int) ⟨(t:Th Arb),u⟩ K _ _ ho h
 obtain⟨t,rfl⟩:=a8 t
 have hl:=okB (ho.1 _ (.head _))
 have hl2:=okB (ho.1 _ (.tail _ (.head _)))
 refine⟨noAnn,noAnn,20,?_⟩
 cbv
 repeat' first|((with_reducible intro _);cbv)|(with_reducible refine And.intro ?_ ?_)
 all_goals first|(refine retK h ?_;clear h;simp only[fin0])|(with_reducible refine Ob.mk ?_;clear h)|(clear h)
 all_goals(try simp only[eta0,RT.bytes]at *)
 all_goals(try grind)
theorem a4Y:b6 Tryz.prog 23 a3o:=j3 b9 (ss := [(62,a3q),(63,b2n),(64,a2A),(65,a4b)]) ⟨c4g,b9u,c7p,c7n,trivial⟩ rfl rfl<|by
 intro(bs:Th (List Int)) (p:Th Int) ⟨(w:Th Wld),u⟩ K _ _ ho h
 obtain⟨w,rfl⟩:=a8 w
 have hb0:=okB (ho.1 _ (.tail _ (.tail _ (.head _))))
 have hb3:=okB (ho.1 _ (.tail _ (.tail _ (.tail _ (.tail _ (.head _))))))
 have hb4:=okB (ho.1 _ (.tail _ (.tail _ (.tail _ (.tail _ (.tail _ (.head _)))))))
 have hb6:=okB (ho.1 _ (.tail _ (.tail _ (.tail _ (.tail _ (.tail _ (.tail _ (.tail _ (.head _)))))))))
 have hb7:=okB (ho.1 _ (.tail _ (.tail _ (.tail _ (.tail _ (.tail _ (.tail _ (.tail _ (.tail _ (.head _))))))))))
 have hs:=fun k => @J1 .srv w.servers k
 have hz:=a1h w.servers
 refine⟨annL [(23,4,⟨Nat,[⟨.cell 4 2,some 500,.srv⟩],fun σ k=>(((σ.only [1,2,3,27,28]).t 29 (vI fun _=>(k:Int))).v5 4 2 (.own 500 1)).row 500 1 .srv (fun _=>pre w.servers k),fun _ k _=>k≤w.servers.length,fun _ k _=>w.servers.length-k⟩)],noAnn,20,?_⟩
 cbv
 repeat' first|((with_reducible refine fun(k:Nat) => ?_);cbv)|((with_reducible intro _);cbv)|(with_reducible refine And.intro ?_ ?_)
 all_goals try((first|(with_reducible refine LoopIn.mk ((0:Nat)) ?_ ?_)|(with_reducible refine LoopBack.mk ((k+1:Nat)) ?_ ?_ ?_)) )
 all_goals try((with_reducible show l8 _ _);cbv;(try simp only[and_true,true_and]))
 all_goals try(repeat' with_reducible refine And.intro ?_ ?_)
 all_goals first|(refine retK h ?_;clear h;simp only[fin0])|(with_reducible refine Ob.mk ?_;clear h)|(clear h)
 all_goals(try simp only[eta0,RT.bytes]at *)
 all_goals(try grind[Z8,a1i,j4])
end Go.Proofs.YtiioognflecdgaaGreat
namespace Go.Sx
theorem a4Q {t:RT} (l:Th (List t.ty)) (i:Th Int) (f:Th t.ty):B5 t l i f=fun _=>(l ()).set (i ()).toNat (f ()):=rfl
theorem ioK {α : Type} {K:V×Th α → Prop} {u v:V} {x y : α} (h:K (u,fun _=>x)) (e1:v=u) (e2:y=x):K (v,fun _=>y):=by
 rw[e1,e2]
 exact h
abbrev ioX (s:Io):SpecX := .raw (b5c s)
end Go.Sx
namespace Go.Proofs.YtiioognflecdgaaGreat
open Go.Sx Go.Proofs Go.Mo
noncomputable def d1G:Sx.Io:=⟨.book,true,[.int .i64,.int .i64,.int .i64,.int .i64],[],fun l ⟨w,k,d,n,_⟩ => .asrt (fun _=>seqB (l ())) (.ret (vB fun _=>(L6 (l ()) (w ()) (k ()) (d ()) (n ())).ok,fun _=>(L6 (l ()) (w ()) (k ()) (d ()) (n ())).b))⟩
theorem d2J:b6 Tryz.prog 68 (ioX d1G):=io1 b9 (ss := [(112,U4),(81,a1z)]) ⟨c6V,a8J,trivial⟩ rfl rfl<|by
 intro(l:Th (List Row)) ⟨(w:Th Int),(k:Th Int),(d:Th Int),(n:Th Int),u⟩ K _ ho h
 obtain⟨l,rfl⟩:=a8 l;obtain⟨w,rfl⟩:=a8 w;obtain⟨k,rfl⟩:=a8 k;obtain⟨d,rfl⟩:=a8 d;obtain⟨n,rfl⟩:=a8 n
 obtain⟨ha,h⟩:=h
 have ha:=ha.out
 have hp:=a1A l w
 have hq:=ha (k9 l w).toNat
 refine⟨noAnn,noAnn,20,?_⟩
 cbv
 repeat' first|((with_reducible intro _);cbv)|(with_reducible refine And.intro ?_ ?_)
 all_goals first|refine ioK h ?_ ?_|(with_reducible refine Ob.mk ?_;clear h)|(clear h)
 all_goals(try clear h)
 all_goals(try clear K)
 all_goals(try simp only[fin0])
 all_goals(try simp only[eta0,RT.bytes]at *)
 all_goals(try have hlt:(k9 l w).toNat<l.length:=(by clear ho;grind))
 all_goals(try simp only[B4,m6 .row hlt,List.set_set,List.length_set]at *)
 all_goals grind[L6,b5g,b8]
theorem c3Q:b6 Tryz.prog 139 c1a:=j3 b9 (ss := [(51,a4R),(94,a2A),(181,U4),(148,a1z)]) ⟨a6h,a4j,b4u,a6g,trivial⟩ rfl rfl<|by
 intro(bs:Th (List Int)) (p:Th Int) ⟨(m:Th PMap),(l:Th (List Row)),(w:Th Int),(k:Th Int),(d:Th Int),(n:Th Int),u⟩ K _ _ ho h
 obtain⟨m,rfl⟩:=a8 m;obtain⟨l,rfl⟩:=a8 l;obtain⟨w,rfl⟩:=a8 w;obtain⟨k,rfl⟩:=a8 k;obtain⟨d,rfl⟩:=a8 d;obtain⟨n,rfl⟩:=a8 n
 have hs := @b0H m l
 have hp:=a1A l w
 have hlt0 : ¬k9 l w = -1→(k9 l w).toNat<l.length:=fun h=>by omega
 have hq:=fun(h:A7 m l=true)=>b0H h (k9 l w).toNat
 refine⟨noAnn,noAnn,20,?_⟩
 cbv
 repeat' first|((with_reducible intro _);cbv)|(with_reducible refine And.intro ?_ ?_)
 all_goals first|(refine retK h ?_;clear h;simp only[fin0])|(with_reducible refine Ob.mk ?_;clear h)|(clear h)
 all_goals(try simp only[eta0,RT.bytes]at *)
 all_goals(try have hlt:=hlt0 (by assumption))
 all_goals(try simp only[m6 .row hlt,List.set_set,List.length_set]at *)
 all_goals(try simp only[a4Q,m6 .row hlt,List.set_set,List.length_set,b5u,a8X])
 all_goals grind[a6z,L6,b5g,b8]
noncomputable def c6n:Sx.Io:=⟨.book,true,[.map,.row .msg],[],fun l ⟨m,x,_⟩ => .asrt (fun _=>A7 (m ()) (l ())=true) (.ret (vB fun _=>(z8 (m ()) (l ()) (x ())).ok,fun _=>(z8 (m ()) (l ()) (x ())).b))⟩
noncomputable def c0Y:Sx.Spec:=⟨false,true,[.map,.book,.arb,.int .i64,.int .i64],[[none,none,none,none,none,none,none,none,none,none,none,none,none,none,none,none,none,none,none,none,none,none,none,none,none],[none]],fun _ _ ⟨m,l,t,s,w,_⟩ => .ret (.tup [oMsg fun _=>(a4q (m ()) (l ()) (t ()) (s ()) (w ())).x,vB fun _=>(a4q (m ()) (l ()) (t ()) (s ()) (w ())).ok],fun _=>0)⟩
noncomputable def b2o:Sx.Spec:=⟨false,true,[.map,.arb,.int .i64,.int .i64,.int .i64],[[some .int,some .int],[none]],fun _ _ ⟨m,t,s,c,v,_⟩ => .ret (.tup [oArb fun _=>(N5 (m ()) (t ()) (s ()) (c ()) (v ())).t,vB fun _=>(N5 (m ()) (t ()) (s ()) (c ()) (v ())).ok],fun _=>0)⟩
theorem b2Q {m:PMap} {l:List Row} (h:A7 m l=true):2≤m.cells∧m.cells≤4 ∧ ∀k,k<l.length→0≤(nth .row l k).cell∧(nth .row l k).cell<m.cells:=by
 have hp:p7 m=true:=by
  unfold A7 at h
  rw[Bool.and_eq_true]at h
  exact h.1
 obtain⟨h1,h2,_,_⟩:=s0.1 hp
 refine⟨h1,h2,fun k hk => ?_⟩
 have:=(a7C h hk).1
 simp only[V4,decide_eq_true_eq]at this
 exact⟨this.2.2.1,this.2.2.2.1⟩
theorem b8g {c n:Int} (h0:0≤c) (h1:c<n) (h2:n≤4):0≤(c+1).tmod n∧(c+1).tmod n≤4:=by
 constructor
 ·exact Int.tmod_nonneg _ (by omega)
 ·have:=Int.tmod_lt_of_pos (c+1) (show 0<n by omega)
  omega
theorem d0v:b6 Tryz.prog 114 (ioX c6n):=io1 b9 (ss := [(112,U4)]) ⟨c6V,trivial⟩ rfl rfl<|by
 intro(l:Th (List Row)) ⟨(m:Th PMap),(x:Th Msg),u⟩ K _ ho h
 obtain⟨l,rfl⟩:=a8 l;obtain⟨m,rfl⟩:=a8 m;obtain⟨x,rfl⟩:=a8 x
 obtain⟨ha,h⟩:=h
 have ha:=ha.out
 have hp:=a1A l x.ord.who
 obtain⟨hm1,hm2,hc⟩:=b2Q ha
 have hq:=hc (k9 l x.ord.who).toNat
 have hr := @b8g (nth .row l (k9 l x.ord.who).toNat).cell m.cells
 refine⟨noAnn,noAnn,20,?_⟩
 cbv
 repeat' first|((with_reducible intro _);cbv)|(with_reducible refine And.intro ?_ ?_)
 all_goals first|refine ioK h ?_ ?_|(with_reducible refine Ob.mk ?_;clear h)|(clear h)
 all_goals(try clear h)
 all_goals(try clear K)
 all_goals(try simp only[fin0])
 all_goals(try simp only[eta0,RT.bytes]at *)
 all_goals(try have hlt:(k9 l x.ord.who).toNat<l.length:=(by clear ho;grind))
 all_goals(try simp only[B4,m6 .row hlt,List.set_set,List.length_set]at *)
 all_goals(try have hw:=b8 (n:=(nth .row l (k9 l x.ord.who).toNat).cell+1) (by have:=hq hlt;omega) (by have:=hq hlt;omega))
 all_goals(try simp only[hw]at *)
 all_goals(try simp only[z8,Mo.rowAt]at *)
 all_goals(try generalize ((nth RT.row l (k9 l x.ord.who).toNat).cell+1).tmod m.cells=q at *)
 all_goals grind[z8,Mo.rowAt,b8,u6,a6c]
theorem c3O:b6 Tryz.prog 140 c0Y:=j3 b9 (ss := [(51,a4R),(49,a3r),(181,U4),(77,E6)]) ⟨a6h,a3E,b4u,Q3,trivial⟩ rfl rfl<|by
 intro(bs:Th (List Int)) (p:Th Int) ⟨(m:Th PMap),(l:Th (List Row)),(t:Th Arb),(s:Th Int),(w:Th Int),u⟩ K _ _ ho h
 obtain⟨m,rfl⟩:=a8 m;obtain⟨l,rfl⟩:=a8 l;obtain⟨t,rfl⟩:=a8 t;obtain⟨s,rfl⟩:=a8 s;obtain⟨w,rfl⟩:=a8 w
 have hp:=a1A l w
 refine⟨noAnn,noAnn,20,?_⟩
 cbv
 repeat' first|((with_reducible intro _);cbv)|(with_reducible refine And.intro ?_ ?_)
 all_goals first|(refine retK h ?_;clear h;simp only[fin0])|(with_reducible refine Ob.mk ?_;clear h)|(clear h)
 all_goals(try simp only[eta0,RT.bytes]at *)
 all_goals grind(splits:=60) [a4q,U0,Mo.rowAt,b3r,u6,A8,G5]
theorem b6P:b6 Tryz.prog 180 b2o:=j3 b9 (ss := [(49,a3r),(97,sIn)]) ⟨a3E,G7,trivial⟩ rfl rfl<|by
 intro(bs:Th (List Int)) (p:Th Int) ⟨(m:Th PMap),(t:Th Arb),(s:Th Int),(c:Th Int),(v:Th Int),u⟩ K _ _ ho h
 obtain⟨m,rfl⟩:=a8 m;obtain⟨t,rfl⟩:=a8 t;obtain⟨s,rfl⟩:=a8 s;obtain⟨c,rfl⟩:=a8 c;obtain⟨v,rfl⟩:=a8 v
 have hl:=okB (ho.2.1 _ (.head _))
 have hl2:=okB (ho.2.1 _ (.tail _ (.head _)))
 have hc0:=fun(k:Nat) => @b1o m t s k
 have hcc:=hc0 c.toNat
 clear hc0
 refine⟨noAnn,noAnn,20,?_⟩
 cbv
 repeat' first|((with_reducible intro _);cbv)|(with_reducible refine And.intro ?_ ?_)
 all_goals first|(refine retK h ?_;clear h;simp only[fin0])|(with_reducible refine Ob.mk ?_;clear h)|(clear h)
 all_goals(try simp only[eta0,RT.bytes]at *)
 all_goals(try simp only[a4Q,List.nil_append,List.set_set,List.length_set,b5u,a8X]at *)
 all_goals grind(splits:=40) [N5,n4,B8,X3,a2Z,inR,b8]
def tabB (t:Arb) (v:Int):Prop:=t.servers.length=t.ages.length∧t.servers.length≤4∧0≤v∧v≤3 ∧ ∀k,k<t.ages.length → @LE.le Int _ 0 (nth .int t.ages k) ∧ @LE.le Int _ (nth .int t.ages k) 900
noncomputable def c1c:Sx.Io:=⟨.arb,true,[.int .i64,.int .i64,.int .i64],[],fun t ⟨v,c,s,_⟩ => .asrt (fun _=>tabB (t ()) (v ())) (.ret (vB fun _=>(n4 (t ()) (v ()) (c ()) (s ())).ok,fun _=>(n4 (t ()) (v ()) (c ()) (s ())).t))⟩
noncomputable def b8G:Sx.Io:=⟨.row .wld,true,[.list .msg],[],fun w ⟨l,_⟩ => .asrt (fun _=>(w ()).net.length≤40∧(l ()).length≤1000) (.ret (.tup [],fun _=>u7 (w ()) (l ())))⟩
theorem c7A (n:Nat):(NatCast.natCast n:Int)=(n:Int):=rfl
theorem c7j:b6 Tryz.prog 66 (ioX c1c):=io1 b9 (ss := [(38,sIn)]) ⟨okIn,trivial⟩ rfl rfl<|by
 intro(t:Th Arb) ⟨(v:Th Int),(c:Th Int),(s:Th Int),u⟩ K _ ho h
 obtain⟨t,rfl⟩:=a8 t;obtain⟨v,rfl⟩:=a8 v;obtain⟨c,rfl⟩:=a8 c;obtain⟨s,rfl⟩:=a8 s
 obtain⟨ha,h⟩:=h
 have ha:=ha.out
 have ha:tabB t v:=ha
 have h1:IntKind.i64.wrap ((t.servers.length:Int)-1)=(t.servers.length:Int)-1:=b8 (by have:=ha.2.1;omega) (by have:=ha.2.1;omega)
 have h2:IntKind.i64.wrap (v-1)=v-1:=b8 (by have:=ha.2.2.1;dsimp only at *;omega) (by have:=ha.2.2.2.1;dsimp only at *;omega)
 have h3:0≤c→c<(t.ages.length:Int)→IntKind.i64.wrap (nth .int t.ages c.toNat+1)=nth .int t.ages c.toNat+1:=fun a b=>by
  have:=ha.2.2.2.2 c.toNat (by dsimp only at *;omega)
  exact b8 (by dsimp only[RT.ty]at *;omega) (by dsimp only[RT.ty]at *;omega)
 refine⟨noAnn,noAnn,20,?_⟩
 cbv
 repeat' first|((with_reducible intro _);cbv)|(with_reducible refine And.intro ?_ ?_)
 all_goals first|refine ioK h ?_ ?_|(with_reducible refine Ob.mk ?_;clear h)|(clear h)
 all_goals(try clear h)
 all_goals(try clear K)
 all_goals(try simp only[fin0])
 all_goals(try simp only[eta0,RT.bytes]at *)
 all_goals(try dsimp only[RT.ty]at *)
 all_goals(try simp only[c7A]at *)
 all_goals(try rw[h1]at *)
 all_goals(try rw[h2]at *)
 all_goals(try simp only[B4]at *)
 all_goals grind[inR,n4,tabB]
theorem c2O {k:Nat} (h:k≤1000):(IntKind.i64.wrap ((k:Int)+1)).toNat=k+1:=by rw[j4 (by omega)];rfl
theorem c3k {a l:List Msg} {k:Nat} (hk:k<l.length) (h:((a.length+((l.take k).take (40-a.length)).length:Nat):Int)<40):a++(l.take k).take (40-a.length) ++ [nth .msg l k]=a++(l.take (k+1)).take (40-a.length):=by
 rw[List.length_take,List.length_take]at h
 have h1:k<40-a.length:=by omega
 rw[List.take_take,List.take_take,Nat.min_eq_right (by omega),Nat.min_eq_right (by omega),List.take_succ_eq_append_getElem hk,l7 .msg l k hk,List.append_assoc]
theorem c3l {a l:List Msg} {k:Nat} (hk:k<l.length) (h : ¬((a.length+((l.take k).take (40-a.length)).length:Nat):Int)<40):a++(l.take k).take (40-a.length)=a++(l.take (k+1)).take (40-a.length):=by
 rw[List.length_take,List.length_take]at h
 have h1:40-a.length≤k:=by omega
 rw[List.take_take,List.take_take,Nat.min_eq_left (by omega),Nat.min_eq_left (by omega)]
theorem c1D:b6 Tryz.prog 67 (ioX b8G):=io1 b9 (ss := []) trivial rfl rfl<|by
 intro(w:Th Wld) ⟨(l:Th (List Msg)),u⟩ K _ ho h
 obtain⟨w,rfl⟩:=a8 w;obtain⟨l,rfl⟩:=a8 l
 obtain⟨ha,h⟩:=h
 have ha:=ha.out
 have ha:w.net.length≤40∧l.length≤1000:=ha
 refine⟨annL [(67,1,⟨Th Int×Th Bool,[⟨.cell 0 7,some 500,.msg⟩],fun σ g=>((((σ.only [0,6,7]).h 8 (1,.dead)).t 8 (.one (.att (.int .i64 g.1)))).v5 0 7 (.own 500 1)).row 500 1 .msg (fun _=>w.net++(l.take (g.1 ()).toNat).take (40-w.net.length)),fun _ g _=>Ob fun _=>0≤g.1 ()∧g.1 ()≤l.length,fun _ g _=>l.length-(g.1 ()).toNat⟩)],noAnn,20,?_⟩
 cbv
 repeat' first|((with_reducible refine fun(g:Th Int×Th Bool) => ?_);obtain⟨k,z⟩:=g;obtain⟨k,rfl⟩:=a8 k;obtain⟨z,rfl⟩:=a8 z;(with_reducible refine ImpB.out ?_);cbv;(with_reducible refine ImpB.mk ?_);intro hq;obtain⟨hq⟩:=hq;have hq0:=hq.1;obtain⟨k,rfl⟩:=Int.eq_ofNat_of_zero_le hq0;clear hq0)|((with_reducible intro _);cbv)|(with_reducible refine And.intro ?_ ?_)
 all_goals try((first|(with_reducible refine LoopIn.wf (fun σ => (σ.tmI 8,B6)) ?_ ?_)|(with_reducible refine LoopBack.wf (fun σ => (σ.tmI 8,B6)) ?_ ?_ ?_))<;>cbv)
 all_goals try(with_reducible show _∧_;(try simp only[and_true,true_and]))
 all_goals try(repeat' with_reducible refine And.intro ?_ ?_)
 all_goals try(with_reducible refine MeasB.mk ?_)
 all_goals first|refine ioK h ?_ ?_|(with_reducible refine Ob.mk ?_;clear h)|(clear h)
 all_goals(try clear h)
 all_goals(try clear K)
 all_goals(try simp only[fin0])
 all_goals(try simp only[eta0,RT.bytes]at *)
 all_goals(try dsimp only[RT.ty]at *)
 all_goals(try simp only[c7A,Int.toNat_natCast,Int.toNat_zero]at *)
 all_goals(try simp(disch:=omega) only[c2O,j4,Int.toNat_natCast])
 all_goals first|omega|rfl|exact(c3k ‹_› ‹_›)|exact(c3l ‹_› ‹_›)|grind[u7,List.length_append,List.length_take,List.take_of_length_le]
noncomputable def a9i:Sx.Spec:=⟨false,false,[.row .srv,.int .i64],[[none,some .hld,some .gst]],fun _ _ ⟨s,c,_⟩ => .asrt (fun _=>(s ()).holds.length≤9) (.ret (rAs (a5j fun _=>⟨(s ()).up,E0 (s ()).holds (c ()),(s ()).n6⟩),fun _=>0))⟩
noncomputable def d1z:Sx.Spec:=⟨false,false,[.row .srv,.row .hld],[[none,some .hld,some .gst]],fun _ _ ⟨s,h,_⟩ => .asrt (fun _=>(s ()).holds.length≤9) (.ret (rAs (a5j fun _=>⟨(s ()).up,a4o (s ()).holds (h ()),(s ()).n6⟩),fun _=>0))⟩
theorem a6l:b6 Tryz.prog 239 a9i:=j3 b9 (ss := []) trivial rfl rfl<|by
 intro(bs:Th (List Int)) (p:Th Int) ⟨(s:Th Srv),(c:Th Int),u⟩ K _ _ ho h
 obtain⟨s,rfl⟩:=a8 s;obtain⟨c,rfl⟩:=a8 c
 obtain⟨ha,h⟩:=h
 have ha:=ha.out
 have hl:=b4N s.holds c
 refine⟨annL [(239,3,⟨Nat,[⟨.tmp 5 0,some 1000000000000008,.hld⟩],fun σ k=>(((σ.fg 8).t 6 (vI fun _=>(k:Int))).t 5 (vO 8 1)).h 8 (1,.row false 0 .hld (fun _=>P2 s.holds c k)),fun _ k _=>k≤s.holds.length,fun _ k _=>s.holds.length-k⟩)],noAnn,20,?_⟩
 cbv
 repeat' first|((with_reducible refine fun(k:Nat) => ?_);cbv)|((with_reducible intro _);cbv)|(with_reducible refine And.intro ?_ ?_)
 all_goals try((first|(with_reducible refine LoopIn.mk ((0:Nat)) ?_ ?_)|(with_reducible refine LoopBack.mk ((k+1:Nat)) ?_ ?_ ?_)) )
 all_goals try((with_reducible show l8 _ _);cbv;(try simp only[and_true,true_and]))
 all_goals try(repeat' with_reducible refine And.intro ?_ ?_)
 all_goals first|(refine retK h ?_;clear h;simp only[fin0])|(with_reducible refine Ob.mk ?_;clear h)|(clear h)
 all_goals(try simp only[eta0,RT.bytes]at *)
 all_goals grind[j4,b1D,b4M,b7z,b4O]
theorem c3X:b6 Tryz.prog 235 d1z:=j3 b9 (ss := [(239,a9i)]) ⟨a6l,trivial⟩ rfl rfl<|by
 intro(bs:Th (List Int)) (p:Th Int) ⟨(s:Th Srv),(g:Th Hld),u⟩ K _ _ ho h
 obtain⟨s,rfl⟩:=a8 s;obtain⟨g,rfl⟩:=a8 g
 obtain⟨ha,h⟩:=h
 have ha:=ha.out
 have hd:=b9P s.holds g.state.cell
 have hl:=c7W (E0 s.holds g.state.cell) g
 refine⟨annL [(235,5,⟨Nat,[⟨.tmp 6 0,some 1000000000000016,.hld⟩],fun σ k=>((((σ.fg 16).t 8 (vI fun _=>(k:Int))).t 6 (vO 16 1)).t 7 (vB fun _=>(hpTo (E0 s.holds g.state.cell) g k).d)).h 16 (1,.row false 0 .hld (fun _=>(hpTo (E0 s.holds g.state.cell) g k).l)),fun _ k _=>k≤(E0 s.holds g.state.cell).length,fun _ k _=>(E0 s.holds g.state.cell).length-k⟩)],noAnn,20,?_⟩
 cbv
 repeat' first|((with_reducible refine fun(k:Nat) => ?_);cbv)|((with_reducible intro _);cbv)|(with_reducible refine And.intro ?_ ?_)
 all_goals try((first|(with_reducible refine LoopIn.mk ((0:Nat)) ?_ ?_)|(with_reducible refine LoopBack.mk ((k+1:Nat)) ?_ ?_ ?_)) )
 all_goals try((with_reducible show l8 _ _);cbv;(try simp only[and_true,true_and]))
 all_goals try(repeat' with_reducible refine And.intro ?_ ?_)
 all_goals first|(refine retK h ?_;clear h;simp only[fin0])|(with_reducible refine Ob.mk ?_;clear h)|(clear h)
 all_goals(try simp only[eta0,RT.bytes]at *)
 all_goals grind(splits:=30) [j4,c4A,a7B,a0Q,c1T,a4o]
end Go.Proofs.YtiioognflecdgaaGreat
namespace Go.Proofs.YtiioognflecdgaaGreat
open Go.Sx Go.Proofs Go.RowKit
theorem c4t:(Tryz.prog.info? 76).map (fun i=>(i.zero,i.size,i.bytes))=some (some (.agg #[.int .i64 0,.int .i64 0,.int .i64 0,.slice none 0 0,.int .i64 0,.slice none 0 0,.slice none 0 0,.slice none 0 0]),8,128):=by kernel_rfl
theorem a8K : ∃inf z,Tryz.prog.info? 76=some inf∧inf.size=8∧inf.bytes=128∧inf.zero=some z∧z.cells.size=8:=by
 obtain⟨i0,h1,h2,h3,h4⟩:=info_parts c4t
 exact⟨i0,_,h1,h3,h4,h2,rfl⟩
theorem c4s (w:World) (b n c i vb voff vc T tV:Nat) (cs vcs:Array Value) (us:List Value) (hi:i<n) (hroom:n+1≤c) (hc:c≤maxLen) (hh:w.heap[b]? = some (.cells cs T (0,0))) (hs:cs.size=c * 8) (hu:us.length=8)
  (hvh:w.heap[vb]? = some (.cells vcs tV (0,0))) (hvb:vb≠b) (hvs : ∀j v,us[j]? = some v→w.cell? ⟨vb,voff+j,none⟩=some v) (h1 : ∀u∈us,one u) (h1c : ∀u∈cs.toList.take (n * 8),one u) :
  Calls Tryz.prog 192 #[.slice (some ⟨b,0,none⟩) n c,.int .i64 i,.slice (some ⟨vb,voff,none⟩) 1 vc] w fun e w' =>
   ∃v,e = .returned v∧InsE w w' 8 (.slice (some ⟨b,0,none⟩) n c) v n i 1 b c cs us:=by
 obtain⟨inf,z,hinf,hsz,hby,hz,hzc⟩:=a8K
 have u25:=run_underlying Tryz.underlying69
 have z38 : ∀w,(sizeOf 76).run Tryz.prog w = .ok 8 w:=fun w=>by simp[sizeOf,typeInfo,hinf,hsz]
 have hc63:c≤9223372036854775807:=hc
 have hcb:n+1≤9223372036854775807:=by omega
 have hkB:cs.size≠0:=by rw[hs];omega
 have hov : ∀lb cb,(callFunc 221 #[.slice (some ⟨vb,voff,none⟩) 1 vc,.slice (some ⟨b,(i+1) * 8,none⟩) lb cb]).run Tryz.prog w = .ok (.value (.bool false)) w:=fun lb cb=>by
  rw[run_callFunc_extern Tryz.func221 (by kernel_rfl) (by kernel_rfl) (by kernel_rfl) (e:=Extern.SlicesOverlaps.overlaps #[69,69] #[4]) (by kernel_rfl),
   Lib.run_overlaps_apart w 69 4 76 Tryz.underlying69 8 z38 ⟨vb,voff,none⟩ ⟨b,(i+1) * 8,none⟩ 1 vc lb cb hvb tV T vcs.size cs.size (by simp[World.shape?,hvh]) (by simp[World.shape?,hh]) hkB (frozen_of_row _ _ _ _ _ hvh) (frozen_of_row _ _ _ _ _ hvh)]
  rfl
 have hw1:IntKind.i64.wrap ((n:Int)+1)=((n+1:Nat):Int):=by rw[IntKind.wrap_i64];omega
 have hw2:IntKind.i64.wrap ((i:Int)+1)=((i+1:Nat):Int):=by rw[IntKind.wrap_i64];omega
 have hne : ¬((i:Int)=(n:Int)):=by omega
 have mixed:=b9.mix
 have hb1:(0:Int)≤(i:Int)+1:=by omega
 have hin:i≤n:=by omega
 have hb2 : ¬(c=i+1):=by omega
 have hb3:(i:Int)≤(n:Int)+1:=by omega
 have hb4 : ¬(c=i):=by omega
 have htn:((i:Int)+1).toNat=i+1:=by omega
 go_enter Tryz.func192,Tryz.ntmps192
 go_wp2_with (simp only[hov])
 clear hov
 have htl:=U9 (i:=i) hs (show n≤c by omega)
 have hn5:(n+1) * 8≤c * 8:=Nat.mul_le_mul_right _ hroom
 have hsrc : ∀j v,((cs.toList.take (n * 8)).drop (i * 8))[j]? = some v→w.cell? ⟨b,i * 8+j,none⟩=some v:=fun j v hj=>by
  rw[List.getElem?_drop,List.getElem?_take]at hj
  rw[o9 hh]
  split at hj
  ·simpa using hj
  ·cases hj
 have hcp1 : ∀ty dc sc,(Builtin.copy_ #[69,69] ty #[.slice (some ⟨b,(i+1) * 8,none⟩) (n-i) dc,.slice (some ⟨b,i * 8,none⟩) (n+1-i) sc]).run Tryz.prog w.drew = .ok (goInt (n-i:Nat)) (wrote w.drew b ((i+1) * 8) cs ((cs.toList.take (n * 8)).drop (i * 8))):=fun ty dc sc =>
  C3 (k:=n-i) (us:=(cs.toList.take (n * 8)).drop (i * 8)) Tryz.underlying69 hinf (by simp only[Nat.min_def];split<;>omega) (by rw[hsz];exact htl) (fun j v hj=>by
   rw[v7]
   exact hsrc j v hj) hh (by rw[htl,hs];omega) (fun u hu=>h1c u (List.mem_of_mem_drop hu))
 go_region_law_o (refine step_copy_runI rfl _ _ 69 69 rfl _ _ (by simp[Act.eval,Act.put]) (by simp[Act.eval,Act.put]) (hcp1 _ _ _) ?_)
 have htl2:((cs.toList.take (n * 8)).drop (i * 8)).length=(n-i) * 8:=htl
 obtain⟨cs1,hcs1⟩ : ∃cs1,cs1=(putAt cs.toList ((i+1) * 8) ((cs.toList.take (n * 8)).drop (i * 8))).toArray:=⟨_,rfl⟩
 obtain⟨W1,hW1⟩ : ∃W1,W1=wrote w.drew b ((i+1) * 8) cs ((cs.toList.take (n * 8)).drop (i * 8)):=⟨_,rfl⟩
 have hh1:W1.heap[b]? = some (.cells cs1 T (0,0)):=by rw[hW1,hcs1];exact y5 hh
 have hv1:W1.heap[vb]? = some (.cells vcs tV (0,0)):=by rw[hW1,s4 hvb];exact hvh
 have hsz1:cs1.size=c * 8:=by rw[hcs1,List.size_toArray,o8 _ _ _ (by rw[htl2,Array.length_toList,hs];omega),Array.length_toList,hs]
 have hcp2 : ∀(W:World),W.heap=W1.heap → ∀ty dc,(Builtin.copy_ #[69,69] ty #[.slice (some ⟨b,i * 8,none⟩) (n+1-i) dc,.slice (some ⟨vb,voff,none⟩) 1 vc]).run Tryz.prog W = .ok (goInt (1:Nat)) (wrote W b (i * 8) cs1 us):=fun W hW ty dc =>
  C3 (k:=1) (us:=us) (T:=T) Tryz.underlying69 hinf (by simp only[Nat.min_def];split<;>omega) (by rw[hsz,hu]) (fun j v hj=>by
   rw[v7,o9 (cs:=vcs) (T:=tV) (by rw[hW];exact hv1)]
   have:=hvs j v hj
   rw[o9 hvh]at this
   exact this) (by rw[hW];exact hh1) (by rw[hu,hsz1];omega) h1
 rw[←hW1]
 go_wp2_with (at_builtin;refine wpList_copy_runI _ rfl _ _ 69 69 rfl _ _ rfl rfl (hcp2 _ rfl _ _) ?_)
 have hend:InsM w (wrote W1 b (i * 8) cs1 us) 8 (.slice (some ⟨b,0,none⟩) n c) (.slice (some ⟨b,0,none⟩) (n+1) c) n i 1 b c cs us b c (K6 cs 8 n i us).toArray T:=by
  refine InsM.room hh hs hroom hc hi hu ?_ (fun x hx => ?_) ?_ ?_ ?_ ?_
  ·rw[y5 hh1,K6,hcs1]
  ·rw[s4 hx,hW1,s4 hx];rfl
  ·rw[hW1];rfl
  ·rw[hW1];rfl
  ·rw[hW1];rfl
  ·rw[hW1];simp[wrote,World.setRow]
 subst hcs1
 subst hW1
 go_ret
 exact⟨.slice (some ⟨b,0,none⟩) (n+1) c,rfl,_,_,_,_,hend⟩
theorem c4u (w:World) (b n c i vb voff vc T tV:Nat) (cs vcs:Array Value) (us:List Value) (hi:i<n) (hnc:n≤c) (hroom:c<n+1) (hc:c≤maxLen) (hh:w.heap[b]? = some (.cells cs T (0,0))) (hs:cs.size=c * 8) (hu:us.length=8)
  (hvh:w.heap[vb]? = some (.cells vcs tV (0,0))) (hvs : ∀j v,us[j]? = some v→w.cell? ⟨vb,voff+j,none⟩=some v) (h1 : ∀u∈us,one u) (h1c : ∀u∈cs.toList.take (n * 8),one u) (hbig:(n+1) * 128≤140737488355328) :
  Calls Tryz.prog 192 #[.slice (some ⟨b,0,none⟩) n c,.int .i64 i,.slice (some ⟨vb,voff,none⟩) 1 vc] w fun e w' =>
   ∃v,e = .returned v∧InsE w w' 8 (.slice (some ⟨b,0,none⟩) n c) v n i 1 b c cs us:=by
 obtain⟨inf,z,hinf,hsz,hby,hz,hzc⟩:=a8K
 have u25:=run_underlying Tryz.underlying69
 have z38 : ∀w,(sizeOf 76).run Tryz.prog w = .ok 8 w:=fun w=>by simp[sizeOf,typeInfo,hinf,hsz]
 have mixed:=b9.mix
 have hc63:c≤9223372036854775807:=hc
 have hsrc : ∀j v,((cs.toList.take (n * 8)).drop (i * 8))[j]? = some v→w.cell? ⟨b,i * 8+j,none⟩=some v:=fun j v hj=>by
  rw[List.getElem?_drop,List.getElem?_take]at hj
  rw[o9 hh]
  split at hj
  ·simpa using hj
  ·cases hj
 have hi5:(i+1) * 8≤c * 8:=Nat.mul_le_mul_right _ (by omega)
 have hold:(Builtin.firstCells inf.size i (.slice (some ⟨b,0,none⟩) i c)).run Tryz.prog w.drew = .ok (cs.toList.take (i * 8)).toArray w.drew:=by
  rw[hsz]
  exact run_firstCells_some w.drew 8 i ⟨b,0,none⟩ i c (cs.toList.take (i * 8)) (by rw[List.length_take,Array.length_toList,hs];omega) (fun j v hj=>by
   rw[v7,Nat.zero_add,show w.drew.cell? ⟨b,j,none⟩=w.cell? ⟨b,j,none⟩from rfl,o9 hh]
   rw[List.getElem?_take]at hj
   split at hj
   ·simpa using hj
   ·cases hj)
 have hik:i+(n+1-i)=n+1:=by omega
 have hkk:(n:Int)+1-(i:Int)=((n+1-i:Nat):Int):=by omega
 have hrz : ∀ty,(Builtin.append_ #[69,3] ty #[.slice (some ⟨b,0,none⟩) i c,.int .i64 ((n:Int)+1-(i:Int))]).run Tryz.prog w =
   .ok (.slice (some ⟨w.heap.size,0,none⟩) (n+1) (grownCap w (n+1) c 76)) (w.drew.alloc (.cells ((cs.toList.take (i * 8)).toArray++Builtin.zeroCells z.cells (n+1-i)++Builtin.zeroCells z.cells (grownCap w (n+1) c 76-(n+1))) 76)):=fun ty=>by
  have h:=Lib.run_append_grow_zeros w 69 3 ty 76 inf z .i64 .i64 Tryz.underlying69 Tryz.underlying3 hinf hz (some ⟨b,0,none⟩) i c (cs.toList.take (i * 8)) hold (n+1-i) (by omega) (by omega) (by omega) (by omega) (by rw[hby];omega) (by rw[hby,hik];exact growslice_fits hroom hbig)
  rw[hik]at h
  rw[hkk]
  exact h
 obtain⟨G,hG⟩ : ∃G,G=grownCap w (n+1) c 76:=⟨_,rfl⟩
 have hGn:n+1≤G:=by rw[hG];exact grownCap_ge w _ _ _
 have hGm:G≤maxLen:=by rw[hG];exact grownCap_le_maxLen w (n+1) c _ (by unfold maxLen;omega)
 have hG63:G≤9223372036854775807:=hGm
 obtain⟨ROW,hROW⟩ : ∃ROW:Array Value,ROW=(cs.toList.take (i * 8)).toArray++Builtin.zeroCells z.cells (n+1-i)++Builtin.zeroCells z.cells (G-(n+1)):=⟨_,rfl⟩
 rw[←hG]at hrz
 rw[←hROW]at hrz
 have hRl:ROW.toList.length=G * 8:=by
  rw[hROW,Array.length_toList]
  simp only[Array.size_append,List.size_toArray,size_zeroCells,hzc,List.length_take,Array.length_toList,hs]
  omega
 have hR0 : ∀o,o<i * 8→ROW.toList[o]? = cs[o]? := fun o ho=>by
  have hl:(cs.toList.take (i * 8)).length=i * 8:=by rw[List.length_take,Array.length_toList,hs];omega
  rw[hROW]
  simp only[Array.toList_append]
  rw[List.append_assoc,List.getElem?_append_left (by rw[List.toList_toArray,hl];exact ho),List.toList_toArray,List.getElem?_take,if_pos ho]
  simp
 have htl:=U9 (i:=i) hs hnc
 have hbw:b<w.heap.size:=by
  rcases Nat.lt_or_ge b w.heap.size with h|h
  ·exact h
  ·rw[Array.getElem?_eq_none h]at hh;cases hh
 have hvw:vb<w.heap.size:=by
  rcases Nat.lt_or_ge vb w.heap.size with h|h
  ·exact h
  ·rw[Array.getElem?_eq_none h]at hvh;cases hvh
 obtain⟨W1,hW1⟩ : ∃W1,W1=w.drew.alloc (.cells ROW 76):=⟨_,rfl⟩
 rw[←hW1]at hrz
 have hN1:W1.heap[w.heap.size]? = some (.cells ROW 76 (0,0)):=by rw[hW1];exact a5o w _
 have hO1 : ∀x,x<w.heap.size→W1.heap[x]? = w.heap[x]? := fun x hx=>by rw[hW1];exact a5n w _ x hx
 obtain⟨R2,hR2⟩ : ∃R2,R2=(putAt ROW.toList (i * 8) us).toArray:=⟨_,rfl⟩
 have hG5:(n+1) * 8≤G * 8:=Nat.mul_le_mul_right _ hGn
 have hR2l:R2.size=G * 8:=by rw[hR2,List.size_toArray,o8 _ _ _ (by rw[hu,hRl];omega),hRl]
 have hcpA : ∀(W:World),W.heap=W1.heap → ∀ty dc,(Builtin.copy_ #[69,69] ty #[.slice (some ⟨w.heap.size,i * 8,none⟩) (n+1-i) dc,.slice (some ⟨vb,voff,none⟩) 1 vc]).run Tryz.prog W = .ok (goInt (1:Nat)) (wrote W w.heap.size (i * 8) ROW us):=fun W hW ty dc =>
  C3 (k:=1) (us:=us) (T:=76) Tryz.underlying69 hinf (by simp only[Nat.min_def];split<;>omega) (by rw[hsz,hu]) (fun j v hj=>by
   rw[v7,o9 (cs:=vcs) (T:=tV) (by rw[hW,hO1 _ hvw];exact hvh)]
   have:=hvs j v hj
   rw[o9 hvh]at this
   exact this) (by rw[hW];exact hN1) (by rw[hu,←Array.length_toList,hRl];omega) h1
 obtain⟨W2,hW2⟩ : ∃W2,W2=wrote W1 w.heap.size (i * 8) ROW us:=⟨_,rfl⟩
 have hcpB : ∀(W:World),W.heap=W2.heap → ∀ty dc sc,(Builtin.copy_ #[69,69] ty #[.slice (some ⟨w.heap.size,(i+1) * 8,none⟩) (n-i) dc,.slice (some ⟨b,i * 8,none⟩) (n-i) sc]).run Tryz.prog W = .ok (goInt (n-i:Nat)) (wrote W w.heap.size ((i+1) * 8) R2 ((cs.toList.take (n * 8)).drop (i * 8))):=fun W hW ty dc sc =>
  C3 (k:=n-i) (us:=(cs.toList.take (n * 8)).drop (i * 8)) (T:=76) Tryz.underlying69 hinf (by simp only[Nat.min_def];split<;>omega) (by rw[hsz,htl]) (fun j v hj=>by
   rw[v7,o9 (cs:=cs) (T:=T) (by rw[hW,hW2,s4 (by omega),hO1 _ hbw];exact hh)]
   have:=hsrc j v hj
   rw[o9 hh]at this
   exact this) (by rw[hW,hW2,hR2];exact y5 hN1) (by rw[htl,hR2l];omega) (fun u hu=>h1c u (List.mem_of_mem_drop hu))
 have hGi : ¬(G=i):=by omega
 have hGim : ¬(G=i+1):=by omega
 have hci : ¬(c=i):=by omega
 have hw1:IntKind.i64.wrap ((n:Int)+1)=((n+1:Nat):Int):=by rw[IntKind.wrap_i64];omega
 have hw2:IntKind.i64.wrap ((i:Int)+1)=((i+1:Nat):Int):=by rw[IntKind.wrap_i64];omega
 have hb1:(0:Int)≤(i:Int)+1:=by omega
 have hin:i≤n:=by omega
 have htn:((i:Int)+1).toNat=i+1:=by omega
 have hb3:(i:Int)≤(n:Int):=by omega
 have hne : ¬((i:Int)=(n:Int)):=by omega
 have hend : ∀W:World,W.heap=(wrote W2 w.heap.size ((i+1) * 8) R2 ((cs.toList.take (n * 8)).drop (i * 8))).heap→W.os=w.os→W.tape=w.tape→W.output=w.output→InsE w W 8 (.slice (some ⟨b,0,none⟩) n c) (.slice (some ⟨w.heap.size,0,none⟩) (n+1) G) n i 1 b c cs us:=fun W hW g1 g2 g3=>by
  refine⟨_,_,_,76,InsM.grow (row:=ROW.toList) hRl hs hnc hGn hGm hi hu hR0 ?_ rfl ?_ (fun x hx => ?_) g1 g2 g3⟩
  ·rw[hW,y5 (T:=76) (by rw[hW2,hR2];exact y5 hN1),Y4,hR2]
  ·rw[hW,hW2,hW1];simp[wrote,World.setRow,World.alloc]
  ·rw[hW,s4 (by omega),hW2,s4 (by omega)];exact hO1 x hx
 clear hkk hik hold hROW hG hRl hR0
 go_enter Tryz.func192,Tryz.ntmps192
 go_wp2_with (first
  |(at_builtin;refine Lib.wpList_append_run _ rfl _ _ _ _ rfl _ _ rfl rfl _ _ (hrz _) ?_)
  |(at_builtin;refine wpList_copy_runI _ rfl _ _ 69 69 rfl _ _ rfl rfl (hcpA _ rfl _ _) ?_))
 go_region_law_o (refine step_copy_runI rfl _ _ 69 69 rfl (.slice (some ⟨w.heap.size,(i+1) * 8,none⟩) (n-i) (G-(i+1))) (.slice (some ⟨b,i * 8,none⟩) (n-i) (c-i)) (by simp[Act.eval,Act.put]) (by simp[Act.eval,Act.put]) (hcpB _ (by rw[hW2,hW1];rfl) _ _ _) ?_)
 go_wp2
 go_ret
 exact⟨.slice (some ⟨w.heap.size,0,none⟩) (n+1) G,rfl,hend _ (by rw[hW2,hW1,hR2];rfl) rfl rfl rfl⟩
theorem c7P (w:World) (b n c vb voff vc T:Nat) (cs:Array Value) (us:List Value) (hn:n≤c) (hc:c≤maxLen) (hh:w.heap[b]? = some (.cells cs T (0,0))) (hs:cs.size=c * 8) (hu:us.length=8)
  (hvs : ∀j v,us[j]? = some v→w.cell? ⟨vb,voff+j,none⟩=some v) (h1 : ∀u∈us,one u) (hb:(n+1) * 128≤140737488355328) :
  Calls Tryz.prog 192 #[.slice (some ⟨b,0,none⟩) n c,.int .i64 n,.slice (some ⟨vb,voff,none⟩) 1 vc] w fun e w' =>
   ∃v,e = .returned v∧InsE w w' 8 (.slice (some ⟨b,0,none⟩) n c) v n n 1 b c cs us:=by
 obtain⟨inf,z,hinf,hsz,hby,hz,hzc⟩:=a8K
 have u25:=run_underlying Tryz.underlying69
 have z38 : ∀w,(sizeOf 76).run Tryz.prog w = .ok 8 w:=fun w=>by simp[sizeOf,typeInfo,hinf,hsz]
 have hc63:c≤9223372036854775807:=hc
 have mixed:=b9.mix
 rcases H8 (P:=Tryz.prog) (ty:=69) (w:=w) Tryz.underlying69 hinf hz hsz hby hzc (Old.row n b c cs T hh hn hc hs) (m:=1) (us:=us) ⟨by rw[hu],.inr (.inr ⟨vb,voff,vc,rfl,hvs⟩)⟩ h1 (by omega) (by simpa using hb)with ⟨_,h,_⟩|⟨v,w',b',cap',cs',T',hr,A⟩
 ·cases h
 ·have hend:InsE w w' 8 _ v _ _ 1 b _ cs us:=⟨_,_,_,_,A.ins⟩
  by_cases hcn:n=c
  ·subst hcn
   go_enter Tryz.func192,Tryz.ntmps192
   go_wp2_with (at_builtin;refine Lib.wpList_append_run _ rfl _ _ _ _ rfl _ _ rfl rfl _ _ hr ?_)
   go_ret
   exact⟨v,rfl,hend⟩
  ·have hcn2 : ¬(c=n):=fun h=>hcn h.symm
   go_enter Tryz.func192,Tryz.ntmps192
   go_wp2_with (at_builtin;refine Lib.wpList_append_run _ rfl _ _ _ _ rfl _ _ rfl rfl _ _ hr ?_)
   go_ret
   exact⟨v,rfl,hend⟩
theorem c7O (w:World) (b vb voff vc T:Nat) (cs:Array Value) (us:List Value) (hcs:cs = #[]) (hu:us.length=8)
  (hvs : ∀j v,us[j]? = some v→w.cell? ⟨vb,voff+j,none⟩=some v) (h1 : ∀u∈us,one u) :
  Calls Tryz.prog 192 #[.slice none 0 0,.int .i64 0,.slice (some ⟨vb,voff,none⟩) 1 vc] w fun e w' =>
   ∃v,e = .returned v∧InsE w w' 8 (.slice none 0 0) v 0 0 1 b 0 cs us:=by
 obtain⟨inf,z,hinf,hsz,hby,hz,hzc⟩:=a8K
 have u25:=run_underlying Tryz.underlying69
 have z38 : ∀w,(sizeOf 76).run Tryz.prog w = .ok 8 w:=fun w=>by simp[sizeOf,typeInfo,hinf,hsz]
 have mixed:=b9.mix
 rcases H8 (P:=Tryz.prog) (ty:=69) (w:=w) Tryz.underlying69 hinf hz hsz hby hzc (Old.nil b 0 cs T hcs rfl) (m:=1) (us:=us) ⟨by rw[hu],.inr (.inr ⟨vb,voff,vc,rfl,hvs⟩)⟩ h1 (by omega) (by omega)with ⟨_,_,_,h⟩|⟨v,w',b',cap',cs',T',hr,A⟩
 ·cases h
 ·go_enter Tryz.func192,Tryz.ntmps192
  have hend:InsE w w' 8 _ v _ _ 1 b _ cs us:=⟨_,_,_,_,A.ins⟩
  go_wp2_with (at_builtin;refine Lib.wpList_append_run _ rfl _ _ _ _ rfl _ _ rfl rfl _ _ hr ?_)
  all_goals go_ret
  all_goals first|exact⟨v,rfl,hend⟩|(have hcn:c=n:=by(first|assumption|(symm;assumption)|omega);subst hcn;exact⟨v,rfl,hend⟩)
theorem d2S:b8n Tryz.prog 192 .hld:=by
 intro w s n b cap cs T i vb vcap vT vcs us hO hi hvb hvh hu hvs h1 h1c hL
 have hs5:RT.size .hld=8:=rfl
 have hb5:RT.bytes .hld=128:=rfl
 rw[hs5]at *
 rw[hb5]at hL
 cases hO with
 |nil _ _ _ _ hcs hcap =>
  have:i=0:=by omega
  subst this
  subst hcap
  exact c7O w b vb 0 vcap T cs us hcs hu hvs h1
 |row _ _ _ _ _ hh hnc hcm hcs =>
  rcases Nat.lt_or_ge i n with hlt|hge
  ·rcases Nat.lt_or_ge cap (n+1)with hr|hr
   ·exact c4u w b n cap i vb 0 vcap T vT cs vcs us hlt hnc hr hcm hh hcs hu hvh hvs h1 h1c hL
   ·exact c4s w b n cap i vb 0 vcap T vT cs vcs us hlt hr hcm hh hcs hu hvh (hvb ⟨_,rfl⟩) hvs h1 h1c
  ·have:i=n:=by omega
   subst this
   exact c7P w b i cap vb 0 vcap T cs us hnc hcm hh hcs hu hvs h1 hL
theorem c4b:b6 Tryz.prog 192 (.raw (insM .hld)) :=
 b9H ⟨_,_,Tryz.func192,by kernel_rfl,rfl⟩ d2S
end Go.Proofs.YtiioognflecdgaaGreat
