/-
  Contracts: what a server says a2a a side, the reference's way.
-/
import Derived.Test.YtihaeoicjglieaaGreatGnC
import Derived.Test.YtihaeoicjglieaaGreatGrT
import Derived.Test.YtihaeoicjglieaaGreatM2
import Derived.Test.YtihaeoicjglieaaGreatGnF
import Derived.Test.YtihaeoicjglieaaGreatM3
import Derived.Test.YtihaeoicjglieaaGreatFnR
import Derived.Test.YtihaeoicjglieaaGreatInsW
import Derived.Test.YtihaeoicjglieaaGreatFnQ
import Derived.Test.YtihaeoicjglieaaGreatTok
import Derived.Test.YtihaeoicjglieaaGreatS5
set_option linter.unusedVariables false
set_option linter.unusedSimpArgs false
set_option maxRecDepth 100000
set_option maxHeartbeats 8000000
namespace Go.Proofs.YtihaeoicjglieaaGreat
open Go.Sx Go.Proofs Go.Mo
noncomputable def b7Z:Sx.Spec:=⟨false,true,[.map,.arb,.row .hld,.int .i64],[[some .msg]],fun _ _ ⟨m,t,h,s,_⟩ => .asrt (fun _=>S8 (m ()) (h ())=true∧0≤s ()∧s ()≤1) (.ret (vW .msg fun _=>a2a (m ()) (t ()) (h ()) (s ()),fun _=>0))⟩
theorem b6B:b8 Tryz.prog 202 b7Z:=j4 e9 (ss := [(119,G5),(165,M7),(244,c9M)]) ⟨W5,Y9,d0z,trivial⟩ rfl rfl<|by
 intro(bs:Th (List Int)) (p:Th Int) ⟨(m:Th PMap),(t:Th Arb),(h0:Th Hld),(s:Th Int),u⟩ K _ _ ho h
 obtain⟨m,rfl⟩:=b6 m;obtain⟨t,rfl⟩:=b6 t;obtain⟨h0,rfl⟩:=b6 h0;obtain⟨s,rfl⟩:=b6 s
 obtain⟨ha,h⟩:=h
 have ha:=ha.out
 have hh:S8 m h0=true:=ha.1
 have hs0:0≤s:=ha.2.1
 have hs1:s≤1:=ha.2.2
 clear ha
 have hf:=n5 (B7.1 hh).2.2
 have hw:=e8 (n:=1-s) (by omega) (by omega)
 have hz:=b1n m t h0 s
 have hy:=b2i m t h0 s
 have e1:=fun k => @c1K m t h0 s k
 have e2:=fun k => @c2A m t h0 s k
 have s1:=fun k => @b8R m t h0 s k
 have s2:=fun k => @b9Z m t h0 s k
 refine⟨annL [(202,7,⟨Nat,[⟨.tmp 9 0,some 16,.msg⟩],fun σ k=>(((σ.fg 16).t 12 (vI fun _=>(k:Int))).t 9 (vO 16 1)).row 16 1 .msg (fun _=>a1F m t h0 s k),fun _ k _=>k≤(nth .pcls h0.state.outs s.toNat).length∧k≤4,fun _ k _=>4-k⟩),(202,12,⟨Nat,[⟨.tmp 9 0,some 16,.msg⟩],fun σ k=>(((σ.fg 16).t 14 (vI fun _=>(k:Int))).t 9 (vO 16 1)).row 16 1 .msg (fun _=>a1F m t h0 s 4++a2I m t h0 s k),fun _ k _=>k≤(n9 m h0 s).length∧k≤4,fun _ k _=>4-k⟩)],noAnn,20,?_⟩
 cbv
 repeat' first|((with_reducible refine fun(k:Nat) => ?_);cbv)|((with_reducible intro _);cbv)|(with_reducible refine And.intro ?_ ?_)
 all_goals try((first|(with_reducible refine LoopIn.mk ((0:Nat)) ?_ ?_)|(with_reducible refine LoopBack.mk ((k+1:Nat)) ?_ ?_ ?_)) )
 all_goals try((with_reducible show m0 _ _);cbv;(try simp only[and_true,true_and]))
 all_goals try(repeat' with_reducible refine And.intro ?_ ?_)
 all_goals first|(refine retK h ?_;clear h;simp only[fin0])|(with_reducible refine Ob.mk ?_;clear h)|(clear h)
 all_goals(try simp only[eta0,RT.bytes]at *)
 all_goals(try simp only[hw,hh,if_true]at *)
 all_goals grind(splits:=30) [j3,e8,b8Q,b9Y,c1L,c2C,a2a,u5,y8,F8]
def a4l (m:PMap) (s:Srv) (t:Arb) (servers cell:Int):List Msg :=
 if B5 m s=true∧C2 m t servers=true∧A6 s cell=true then a2a m t (j6 s cell) 0++a2a m t (j6 s cell) 1 else[]
theorem a9v (m:PMap) (t:Arb) (h:Hld) (s:Int):(a2a m t h s).length≤8:=by
 unfold a2a
 split
 ·simp
 ·have h1:=b1n m t h s 4
  have h2:=b2i m t h s 4
  simp;omega
theorem b7M {m:PMap} {s:Srv} {cell:Int} (h:B5 m s=true) (h2:A6 s cell=true):S8 m (j6 s cell)=true:=by
 simp only[A6,decide_eq_true_eq]at h2
 have:=a3K s.holds cell
 rw[j6,if_pos h2]
 exact a6c h (by omega)
noncomputable def b8b:Sx.Spec:=⟨false,true,[.map,.row .srv,.arb,.int .i64,.int .i64],[[some .msg]],fun _ _ ⟨m,s,t,v,c,_⟩ => .ret (vW .msg fun _=>a4l (m ()) (s ()) (t ()) (v ()) (c ()),fun _=>0)⟩
theorem c1S:b8 Tryz.prog 150 b8b:=j4 e9 (ss := [(156,a8z),(86,a4r),(201,b0Q),(202,b7Z)]) ⟨b1v,a4E,b1w,b6B,trivial⟩ rfl rfl<|by
 intro(bs:Th (List Int)) (p:Th Int) ⟨(m:Th PMap),(s:Th Srv),(t:Th Arb),(v:Th Int),(c:Th Int),u⟩ K _ _ ho h
 obtain⟨m,rfl⟩:=b6 m;obtain⟨s,rfl⟩:=b6 s;obtain⟨t,rfl⟩:=b6 t;obtain⟨v,rfl⟩:=b6 v;obtain⟨c,rfl⟩:=b6 c
 have hq := @b7M m s c
 have h1:=a9v m t (j6 s c) 0
 have h2:=a9v m t (j6 s c) 1
 refine⟨noAnn,noAnn,20,?_⟩
 cbv
 repeat' first|((with_reducible intro _);cbv)|(with_reducible refine And.intro ?_ ?_)
 all_goals first|(refine retK h ?_;clear h;simp only[fin0])|(with_reducible refine Ob.mk ?_;clear h)|(clear h)
 all_goals(try simp only[eta0,RT.bytes]at *)
 all_goals grind[a4l]
def b5z (m:PMap) (c:Int) (l:List Wlk):Sto:=if s6 m (a0x m c l)=true then P5 m c l else a0K
noncomputable def c3W:Sx.Spec:=⟨false,true,[.map,.int .i64,.list .wlk],[nCll],fun _ _ ⟨m,c,l,_⟩ => .ret (oCll fun _=>a0x (m ()) (c ()) (l ()),fun _=>0)⟩
noncomputable def b8d:Sx.Spec:=⟨false,true,[.map,.int .i64,.list .wlk],[nSto],fun _ _ ⟨m,c,l,_⟩ => .ret (oSto fun _=>b5z (m ()) (c ()) (l ()),fun _=>0)⟩
noncomputable def c4a:Sx.Spec:=⟨false,true,[.map],[[some .int,some .int]],fun _ _ ⟨m,_⟩ => .ret (oArb fun _=>a3U (m ()),fun _=>0)⟩
noncomputable def c3O:Sx.Spec:=⟨false,true,[.map,.list .wlk],[[some .row]],fun _ _ ⟨m,l,_⟩ => .ret (oAs [.list .row fun _=>a9a (m ()) (l ())],fun _=>0)⟩
noncomputable def a6W:Sx.Spec:=⟨false,true,[],[[none,some .hld,some .gst]],fun _ _ _ => .ret (oSrv fun _=>⟨true,[],[]⟩,fun _=>0)⟩
noncomputable def b5L:Sx.Spec:=⟨false,true,[.map,.list .wlk,.int .i64],[[none,none,some .srv,some .sto,some .int,some .int,some .row,some .msg,some .note]],fun _ _ ⟨m,l,v,_⟩ => .ret (oWld fun _=>a5Y (m ()) (l ()) (v ()),fun _=>0)⟩
theorem b8z {α : Type} (x : α) (k:Nat):List.replicate (k+1) x=List.replicate k x ++ [x]:=by
 rw[List.replicate_succ',]
theorem c9S (m:PMap) (l:List Wlk) (k:Nat):(List.range (k+1)).map (fun(i:Nat)=>P5 m (i:Int) l)=(List.range k).map (fun(i:Nat)=>P5 m (i:Int) l) ++ [P5 m (k:Int) l]:=by
 rw[List.range_succ,List.map_append]
 rfl
theorem c9Q (m:PMap) {l:List Wlk} {k:Nat} (h:k<l.length):(l.take (k+1)).map (a1b m)=(l.take k).map (a1b m) ++ [a1b m (nth .wlk l k)]:=by
 have h1:l.take (k+1)=l.take k ++ [nth .wlk l k]:=M0 .wlk h
 rw[h1,List.map_append]
 rfl
theorem b8Z:b8 Tryz.prog 41 a6W:=j4 e9 (ss := []) trivial rfl rfl<|by
 intro(bs:Th (List Int)) (p:Th Int) u K _ _ ho h
 refine⟨noAnn,noAnn,20,?_⟩
 cbv
 repeat' first|((with_reducible intro _);cbv)|(with_reducible refine And.intro ?_ ?_)
 all_goals first|(refine retK h ?_;clear h;simp only[fin0])|(with_reducible refine Ob.mk ?_;clear h)|(clear h)
 all_goals(try simp only[eta0,RT.bytes]at *)
theorem c6R:b8 Tryz.prog 163 a6W:=j4 e9 (ss := []) trivial rfl rfl<|by
 intro(bs:Th (List Int)) (p:Th Int) u K _ _ ho h
 refine⟨noAnn,noAnn,20,?_⟩
 cbv
 repeat' first|((with_reducible intro _);cbv)|(with_reducible refine And.intro ?_ ?_)
 all_goals first|(refine retK h ?_;clear h;simp only[fin0])|(with_reducible refine Ob.mk ?_;clear h)|(clear h)
 all_goals(try simp only[eta0,RT.bytes]at *)
theorem c7c:b8 Tryz.prog 161 c4a:=j4 e9 (ss := [(85,z7)]) ⟨C7,trivial⟩ rfl rfl<|by
 intro(bs:Th (List Int)) (p:Th Int) ⟨(m:Th PMap),u⟩ K _ _ ho h
 obtain⟨m,rfl⟩:=b6 m
 have hm := @o8 m
 refine⟨annL [(161,5,⟨Nat,[⟨.cell 4 0,some 500,.int⟩,⟨.cell 4 1,some 501,.int⟩],fun σ k=>((((((σ.fgs [500,501]).t 4 (vI fun _=>(k:Int))).u7 4 0 (.own 500 1)).u7 4 1 (.own 501 1)).row 500 1 .int (fun _=>List.replicate k (-1:Int))).row 501 1 .int (fun _=>List.replicate k (0:Int))),fun _ k _=>(k:Int)≤m.cells∧s0 m=true,fun _ k _=>m.cells.toNat-k⟩)],noAnn,20,?_⟩
 cbv
 repeat' first|((with_reducible refine fun(k:Nat) => ?_);cbv)|((with_reducible intro _);cbv)|(with_reducible refine And.intro ?_ ?_)
 all_goals try((first|(with_reducible refine LoopIn.mk ((0:Nat)) ?_ ?_)|(with_reducible refine LoopBack.mk ((k+1:Nat)) ?_ ?_ ?_)) )
 all_goals try((with_reducible show m0 _ _);cbv;(try simp only[and_true,true_and]))
 all_goals try(repeat' with_reducible refine And.intro ?_ ?_)
 all_goals first|(refine retK h ?_;clear h;simp only[fin0])|(with_reducible refine Ob.mk ?_;clear h)|(clear h)
 all_goals(try simp only[eta0,RT.bytes]at *)
 all_goals grind[j3,b8z,a3U]
theorem c6Y:b8 Tryz.prog 162 c3O:=j4 e9 (ss := [(85,z7),(160,X1),(189,D6)]) ⟨C7,Y8,K8,trivial⟩ rfl rfl<|by
 intro(bs:Th (List Int)) (p:Th Int) ⟨(m:Th PMap),(l:Th (List Wlk)),u⟩ K _ _ ho h
 obtain⟨m,rfl⟩:=b6 m;obtain⟨l,rfl⟩:=b6 l
 have hl:=okB (ho.2.1 _ (.head _))
 have hf := @b5p m l
 refine⟨annL [(162,5,⟨Nat,[⟨.cell 6 0,some 500,.row⟩],fun σ k=>(((σ.fgs [500]).t 6 (vI fun _=>(k:Int))).u7 6 0 (.own 500 1)).row 500 1 .row (fun _=>(l.take k).map (a1b m)),fun _ k _=>k≤l.length,fun _ k _=>l.length-k⟩)],noAnn,20,?_⟩
 cbv
 repeat' first|((with_reducible refine fun(k:Nat) => ?_);cbv)|((with_reducible intro _);cbv)|(with_reducible refine And.intro ?_ ?_)
 all_goals try((first|(with_reducible refine LoopIn.mk ((0:Nat)) ?_ ?_)|(with_reducible refine LoopBack.mk ((k+1:Nat)) ?_ ?_ ?_)) )
 all_goals try((with_reducible show m0 _ _);cbv;(try simp only[and_true,true_and]))
 all_goals try(repeat' with_reducible refine And.intro ?_ ?_)
 all_goals first|(refine retK h ?_;clear h;simp only[fin0])|(with_reducible refine Ob.mk ?_;clear h)|(clear h)
 all_goals(try simp only[eta0,RT.bytes]at *)
 all_goals grind[j3,c9Q,a9a,a1b,List.length_map,List.length_take]
theorem c7b:b8 Tryz.prog 212 c3W:=j4 e9 (ss := [(85,z7),(148,sIn),(160,X1),(189,D6)]) ⟨C7,I5,Y8,K8,trivial⟩ rfl rfl<|by
 intro(bs:Th (List Int)) (p:Th Int) ⟨(m:Th PMap),(c:Th Int),(l:Th (List Wlk)),u⟩ K _ _ ho h
 obtain⟨m,rfl⟩:=b6 m;obtain⟨c,rfl⟩:=b6 c;obtain⟨l,rfl⟩:=b6 l
 have hl:=okB (ho.2.2.1 _ (.head _))
 have hn:=c2r m c l
 have hm := @o8 m
 refine⟨annL [(212,5,⟨Nat,[⟨.cell 8 1,some 500,.wlk⟩],fun σ k=>(((σ.fgs [29,30,500]).t 8 (vI fun _=>(k:Int))).u7 8 1 (.own 500 1)).row 500 1 .wlk (fun _=>O4 m c l k),fun _ k _=>k≤l.length,fun _ k _=>l.length-k⟩)],noAnn,20,?_⟩
 cbv
 repeat' first|((with_reducible refine fun(k:Nat) => ?_);cbv)|((with_reducible intro _);cbv)|(with_reducible refine And.intro ?_ ?_)
 all_goals try((first|(with_reducible refine LoopIn.mk ((0:Nat)) ?_ ?_)|(with_reducible refine LoopBack.mk ((k+1:Nat)) ?_ ?_ ?_)) )
 all_goals try((with_reducible show m0 _ _);cbv;(try simp only[and_true,true_and]))
 all_goals try(repeat' with_reducible refine And.intro ?_ ?_)
 all_goals first|(refine retK h ?_;clear h;simp only[fin0])|(with_reducible refine Ob.mk ?_;clear h)|(clear h)
 all_goals(try simp only[eta0,RT.bytes]at *)
 all_goals(try dsimp only[RT.ty]at *)
 all_goals grind(splits:=20) [j3,e8,c2q,c7I,b9P,a0x,U4,inR,a0g]
theorem c6T:b8 Tryz.prog 164 b8d:=j4 e9 (ss := [(212,c3W),(180,a1D)]) ⟨c7b,a1J,trivial⟩ rfl rfl<|by
 intro(bs:Th (List Int)) (p:Th Int) ⟨(m:Th PMap),(c:Th Int),(l:Th (List Wlk)),u⟩ K _ _ ho h
 obtain⟨m,rfl⟩:=b6 m;obtain⟨c,rfl⟩:=b6 c;obtain⟨l,rfl⟩:=b6 l
 refine⟨noAnn,noAnn,20,?_⟩
 cbv
 repeat' first|((with_reducible intro _);cbv)|(with_reducible refine And.intro ?_ ?_)
 all_goals first|(refine retK h ?_;clear h;simp only[fin0])|(with_reducible refine Ob.mk ?_;clear h)|(clear h)
 all_goals(try simp only[eta0,RT.bytes]at *)
 all_goals grind[b5z,P5,a0K,U4]
theorem b4r:b8 Tryz.prog 96 b5L:=j4 e9 (ss := [(85,z7),(160,X1),(148,sIn),(161,c4a),(162,c3O),(163,a6W),(164,b8d)]) ⟨C7,Y8,I5,c7c,c6Y,c6R,c6T,trivial⟩ rfl rfl<|by
 intro(bs:Th (List Int)) (p:Th Int) ⟨(m:Th PMap),(l:Th (List Wlk)),(v:Th Int),u⟩ K _ _ ho h
 obtain⟨m,rfl⟩:=b6 m;obtain⟨l,rfl⟩:=b6 l;obtain⟨v,rfl⟩:=b6 v
 have hm := @o8 m
 have hk:=fun(i:Int) => @b4Y m i l
 refine⟨annL [(96,5,⟨Nat×Unit,[⟨.cell 8 2,some 500,.srv⟩],fun σ q=>(((σ.fgs [500]).t 8 (vI fun _=>(q.1:Int))).u7 8 2 (.own 500 1)).row 500 1 .srv (fun _=>List.replicate q.1 ⟨true,[],[]⟩),fun _ q _=>(q.1:Int)≤v∧s0 m=true∧A5 m l=true∧1≤v∧v≤3,fun _ q _=>v.toNat-q.1⟩),
  (96,9,⟨Nat,[⟨.cell 8 3,some 501,.sto⟩],fun σ k=>(((σ.fgs [501]).t 9 (vI fun _=>(k:Int))).u7 8 3 (.own 501 1)).row 501 1 .sto (fun _=>(List.range k).map fun(i:Nat)=>P5 m (i:Int) l),fun _ k _=>(k:Int)≤m.cells∧s0 m=true∧A5 m l=true∧1≤v∧v≤3,fun _ k _=>m.cells.toNat-k⟩)],noAnn,20,?_⟩
 cbv
 repeat' first|((with_reducible refine fun(k:Nat) => ?_);cbv)|((with_reducible refine fun(q:Nat×Unit) => ?_);obtain⟨s,_⟩:=q;cbv)|((with_reducible intro _);cbv)|(with_reducible refine And.intro ?_ ?_)
 all_goals try((first|(with_reducible refine LoopIn.mk (((0,()):Nat×Unit)) ?_ ?_)|(with_reducible refine LoopIn.mk ((0:Nat)) ?_ ?_)|(with_reducible refine LoopBack.mk ((k+1:Nat)) ?_ ?_ ?_)|(with_reducible refine LoopBack.mk (((s+1,()):Nat×Unit)) ?_ ?_ ?_)) )
 all_goals try((with_reducible show m0 _ _);cbv;(try simp only[and_true,true_and]))
 all_goals try(repeat' with_reducible refine And.intro ?_ ?_)
 all_goals first|(refine retK h ?_;clear h;simp only[fin0])|(with_reducible refine Ob.mk ?_;clear h)|(clear h)
 all_goals(try simp only[eta0,RT.bytes]at *)
 all_goals(try dsimp only[RT.ty]at *)
 all_goals(try grind(splits:=20) [j3,e8,inR,b8z,c9S,a5Y,R7,a1f,b5z])
theorem S6 (n:Nat):(NatCast.natCast n:Int)=(n:Int):=rfl
theorem tmw {a n:Int} (ha:0≤a) (hb:a≤1000000000000000) (hn:1≤n):0≤(IntKind.i64.wrap (a+1)).tmod n∧(IntKind.i64.wrap (a+1)).tmod n<n:=by
 rw[e8 (by omega) (by omega)]
 exact tm (by omega) hn
noncomputable def c0r (p:Th Int) (pre:Th Prop) (B n:Int):Rn (V×Th Int) :=   .asrt (fun _=>pre ()∧0≤p ()∧p ()≤B) (.all Int fun x0 => .all Int fun x1 => .all Int fun x2 => .all Int fun x3 => .all Int fun x4 => .all Int fun q => .asm (fun _=>p ()≤q∧q≤p ()+n) (.ret (.agg [cI x0,cI x1,cI x2,cI x3,cI x4],fun _=>q)))
noncomputable def c3Z:Sx.Spec:=⟨true,false,[.row .wld],[],fun _ p ⟨w,_⟩=>c0r p (fun _=>True) 999000001000 40⟩
noncomputable def b5S:Sx.Spec:=⟨true,false,[.row .wld],[],fun _ p ⟨w,_⟩=>c0r p (fun _=>True) 999000000000 60⟩
noncomputable def c3E:Sx.Spec:=⟨true,false,[.row .wld,.int .i64,.int .i64],[],fun _ p ⟨w,_⟩=>c0r p (fun _=>True) 999000000000 60⟩
noncomputable def c9I:Sx.Spec:=⟨true,false,[.row .wld,.int .i64],[],fun _ p ⟨w,_⟩=>c0r p (fun _=>(w ()).rows.length≤20∧1≤(w ()).servers.length) 999000000000 100⟩
noncomputable def b8h:Sx.Spec:=⟨true,false,[.row .wld,.int .i64],[],fun _ p ⟨w,_⟩=>c0r p (fun _=>(w ()).stores.length≤20) 999000000000 100⟩
theorem c2e:b8 Tryz.prog 142 c3Z:=j4 e9 (ss := [(192,a8A),(46,J4)]) ⟨a7A,D2,trivial⟩ rfl rfl<|by
 intro(bs:Th (List Int)) (p:Th Int) ⟨(w:Th Wld),u⟩ K hb hp0 ho h
 obtain⟨w,rfl⟩:=b6 w;obtain⟨bs,rfl⟩:=b6 bs;obtain⟨p,rfl⟩:=b6 p
 obtain⟨hpre,h⟩:=h
 have hpre:True∧0≤p∧p≤999000001000:=hpre.out
 have hl:=okL (ho.1 _ (.tail _ (.tail _ (.tail _ (.tail _ (.tail _ (.tail _ (.head _))))))))
 refine⟨noAnn,noAnn,20,?_⟩
 cbv
 repeat' first|((with_reducible intro _);cbv)|(with_reducible refine And.intro ?_ ?_)
 all_goals first|(refine retK (h _ _ _ _ _ _ ?_) rfl;clear h)|(with_reducible refine Ob.mk ?_;clear h)|(clear h)
 all_goals(try simp only[eta0,RT.bytes]at *)
 all_goals first|omega|grind[e8]
theorem d0u:b8 Tryz.prog 98 c3E:=j4 e9 (ss := [(46,J4)]) ⟨D2,trivial⟩ rfl rfl<|by
 intro(bs:Th (List Int)) (p:Th Int) ⟨(w:Th Wld),(k:Th Int),(what:Th Int),u⟩ K hb hp0 ho h
 obtain⟨w,rfl⟩:=b6 w;obtain⟨k,rfl⟩:=b6 k;obtain⟨what,rfl⟩:=b6 what;obtain⟨bs,rfl⟩:=b6 bs;obtain⟨p,rfl⟩:=b6 p
 obtain⟨hpre,h⟩:=h
 have hpre:True∧0≤p∧p≤999000000000:=hpre.out
 refine⟨noAnn,noAnn,20,?_⟩
 cbv
 repeat' first|((with_reducible intro _);cbv)|(with_reducible refine And.intro ?_ ?_)
 all_goals first|(refine retK (h _ _ _ _ _ _ ?_) rfl;clear h)|(with_reducible refine Ob.mk ?_;clear h)|(clear h)
 all_goals(try simp only[eta0,RT.bytes]at *)
 all_goals first|omega|grind[e8]
theorem d4i:b8 Tryz.prog 97 c9I:=j4 e9 (ss := [(46,J4),(142,c3Z),(165,M7)]) ⟨D2,c2e,Y9,trivial⟩ rfl rfl<|by
 intro(bs:Th (List Int)) (p:Th Int) ⟨(w:Th Wld),(k:Th Int),u⟩ K hb hp0 ho h
 obtain⟨w,rfl⟩:=b6 w;obtain⟨k,rfl⟩:=b6 k;obtain⟨bs,rfl⟩:=b6 bs;obtain⟨p,rfl⟩:=b6 p
 obtain⟨hpre,h⟩:=h
 have hpre:(w.rows.length≤20∧1≤w.servers.length)∧0≤p∧p≤999000000000:=hpre.out
 have hl:=okL (ho.1 _ (.tail _ (.tail _ (.tail _ (.tail _ (.tail _ (.tail _ (.tail _ (.head _)))))))))
 refine⟨annL [(97,3,⟨Th Int×Th Row×Th Int,[],fun σ g=>((σ.t 8 (.one (.att (.int .i64 g.1)))).a2M 8 0 (b2z g.2.1)).u7 0 1 (.att (.int .i64 g.2.2)),
   fun _ g _=>Ob fun _=>0≤g.1 ()∧g.1 ()≤w.rows.length∧p≤g.2.2 ()∧g.2.2 ()≤p+g.1 (),fun _ g _=>w.rows.length-(g.1 ()).toNat⟩),
  (97,19,⟨Th Int×Th Bool,[],fun σ g => σ.t 9 (.one (.att (.int .i64 g.1))),fun _ g _=>Ob fun _=>0≤g.1 ()∧g.1 ()≤w.net.length,fun _ g _=>w.net.length-(g.1 ()).toNat⟩)],noAnn,20,?_⟩
 cbv
 repeat' first|((with_reducible refine fun(g:Th Int×Th Row×Th Int) => ?_);obtain⟨i,r,q⟩:=g;obtain⟨i,rfl⟩:=b6 i;obtain⟨r,rfl⟩:=b6 r;obtain⟨q,rfl⟩:=b6 q;(with_reducible refine ImpB.out ?_);cbv;(with_reducible refine ImpB.mk ?_);intro hq;obtain⟨hq⟩:=hq)|((with_reducible refine fun(g:Th Int×Th Bool) => ?_);obtain⟨j,z⟩:=g;obtain⟨j,rfl⟩:=b6 j;obtain⟨z,rfl⟩:=b6 z;(with_reducible refine ImpB.out ?_);cbv;(with_reducible refine ImpB.mk ?_);intro hq;obtain⟨hq⟩:=hq)|((with_reducible intro _);cbv)|(with_reducible refine And.intro ?_ ?_)
 all_goals try((first|(with_reducible refine LoopIn.wf (fun σ => (σ.tmI 8,d5D σ 8,asI (σ.ce 0 1))) ?_ ?_)|(with_reducible refine LoopBack.wf (fun σ => (σ.tmI 8,d5D σ 8,asI (σ.ce 0 1))) ?_ ?_ ?_)|(with_reducible refine LoopIn.wf (fun σ => (σ.tmI 9,s5)) ?_ ?_)|(with_reducible refine LoopBack.wf (fun σ => (σ.tmI 9,s5)) ?_ ?_ ?_))<;>cbv)
 all_goals try(with_reducible show _∧_;(try simp only[and_true,true_and]))
 all_goals try(repeat' with_reducible refine And.intro ?_ ?_)
 all_goals try(with_reducible refine MeasB.mk ?_)
 all_goals first|(refine retK (h _ _ _ _ _ _ ?_) rfl;clear h)|(with_reducible refine Ob.mk ?_;clear h)|(clear h)
 all_goals(try simp only[eta0,RT.bytes]at *)
 all_goals(first|rfl|omega|grind[e8,tm,tmw])
theorem c7f:b8 Tryz.prog 99 b8h:=j4 e9 (ss := [(142,c3Z),(46,J4),(165,M7)]) ⟨c2e,D2,Y9,trivial⟩ rfl rfl<|by
 intro(bs:Th (List Int)) (p:Th Int) ⟨(w:Th Wld),(k:Th Int),u⟩ K hb hp0 ho h
 obtain⟨w,rfl⟩:=b6 w;obtain⟨k,rfl⟩:=b6 k;obtain⟨bs,rfl⟩:=b6 bs;obtain⟨p,rfl⟩:=b6 p
 obtain⟨hpre,h⟩:=h
 have hpre:w.stores.length≤20∧0≤p∧p≤999000000000:=hpre.out
 have hl:=okL (ho.1 _ (.tail _ (.tail _ (.tail _ (.tail _ (.tail _ (.tail _ (.head _))))))))
 refine⟨annL [(99,8,⟨Th Int×Th Int,[],fun σ g=>(σ.t 7 (.one (.att (.int .i64 g.1)))).t 8 (.one (.att (.int .i64 g.2))),
   fun _ g _=>Ob fun _=>0≤g.1 ()∧g.1 ()<w.rows.length∧0≤g.2 ()∧g.2 ()≤w.rows.length,fun _ g _=>w.rows.length-(g.2 ()).toNat⟩),
  (99,16,⟨Th Int×Th Int×Th Int,[],fun σ g=>((σ.t 9 (.one (.att (.int .i64 g.1)))).t 10 (.one (.att (.int .i64 g.2.1)))).u7 0 1 (.att (.int .i64 g.2.2)),
   fun _ g _=>Ob fun _=>0≤g.1 ()∧(w.stores.length=0∨g.1 ()<w.stores.length)∧0≤g.2.1 ()∧g.2.1 ()≤w.stores.length∧p≤g.2.2 ()∧g.2.2 ()≤p+10+g.2.1 (),fun _ g _=>w.stores.length-(g.2.1 ()).toNat⟩)],noAnn,20,?_⟩
 cbv
 repeat' first|((with_reducible refine fun(g:Th Int×Th Int×Th Int) => ?_);obtain⟨c,n,q⟩:=g;obtain⟨c,rfl⟩:=b6 c;obtain⟨n,rfl⟩:=b6 n;obtain⟨q,rfl⟩:=b6 q;(with_reducible refine ImpB.out ?_);cbv;(with_reducible refine ImpB.mk ?_);intro hq;obtain⟨hq⟩:=hq)|((with_reducible refine fun(g:Th Int×Th Int) => ?_);obtain⟨i,n⟩:=g;obtain⟨i,rfl⟩:=b6 i;obtain⟨n,rfl⟩:=b6 n;(with_reducible refine ImpB.out ?_);cbv;(with_reducible refine ImpB.mk ?_);intro hq;obtain⟨hq⟩:=hq)|((with_reducible intro _);cbv)|(with_reducible refine And.intro ?_ ?_)
 all_goals try((first|(with_reducible refine LoopIn.wf (fun σ => (σ.tmI 9,σ.tmI 10,asI (σ.ce 0 1))) ?_ ?_)|(with_reducible refine LoopBack.wf (fun σ => (σ.tmI 9,σ.tmI 10,asI (σ.ce 0 1))) ?_ ?_ ?_)|(with_reducible refine LoopIn.wf (fun σ => (σ.tmI 7,σ.tmI 8)) ?_ ?_)|(with_reducible refine LoopBack.wf (fun σ => (σ.tmI 7,σ.tmI 8)) ?_ ?_ ?_))<;>cbv)
 all_goals try(with_reducible show _∧_;(try simp only[and_true,true_and]))
 all_goals try(repeat' with_reducible refine And.intro ?_ ?_)
 all_goals try(with_reducible refine MeasB.mk ?_)
 all_goals first|(refine retK (h _ _ _ _ _ _ ?_) rfl;clear h)|(with_reducible refine Ob.mk ?_;clear h)|(clear h)
 all_goals(try simp only[eta0,RT.bytes]at *)
 all_goals(try dsimp only[RT.ty]at *)
 all_goals(try simp only[S6]at *)
 all_goals(first|rfl|omega|grind[e8]|(have hq2 := @tmw i w.rows.length (by omega) (by omega) (by omega);have hw := @e8 (n+1) (by omega) (by omega);rw[hw];exact⟨hq2.1,hq2.2,by omega,by omega⟩) |
  (have hq2 := @tmw c w.stores.length (by omega) (by omega) (by omega);have hw := @e8 (n+1) (by omega) (by omega);rw[hw];exact⟨hq2.1,.inr hq2.2,by omega,by omega,by omega,by omega⟩))
end Go.Proofs.YtihaeoicjglieaaGreat
namespace Go.Sx
def oneC (v:V):C:=match v with
 | .one c=>c
 |_ => .unk
def St.tmB (σ : St) (d:Nat):Th Bool:=asB (oneC (σ.tm.get d))
end Go.Sx
namespace Go.Proofs.YtihaeoicjglieaaGreat
open Go.Sx Go.Proofs Go.Mo
def d5H:Th Row:=fun _=>⟨0,0,false,⟨0,0,0,0,0⟩,0,0⟩
theorem b9s:b8 Tryz.prog 82 b5S:=j4 e9 (ss := [(46,J4),(142,c3Z)]) ⟨D2,c2e,trivial⟩ rfl rfl<|by
 intro(bs:Th (List Int)) (p:Th Int) ⟨(w:Th Wld),u⟩ K hb hp0 ho h
 obtain⟨w,rfl⟩:=b6 w;obtain⟨bs,rfl⟩:=b6 bs;obtain⟨p,rfl⟩:=b6 p
 obtain⟨hpre,h⟩:=h
 have hpre:True∧0≤p∧p≤999000000000:=hpre.out
 refine⟨noAnn,annL [(82,4,⟨Th Int×Th Int,[],fun σ g=>(σ.t 5 (.one (.att (.int .i64 g.1)))).u7 0 1 (.att (.int .i64 g.2)),fun _ g _=>Ob fun _=>p≤g.2 ()∧g.2 ()≤p+2,fun _ g _=>0⟩),
  (82,13,⟨Th Bool×Th Int,[],fun σ g => σ.t 37 (.one (.att (.bool (.of g.1)))),fun _ g _=>Ob fun _=>True,fun _ g _=>0⟩),
  (82,19,⟨Th Int×Th Bool,[],fun σ g => σ.t 47 (.one (.att (.bool (.of g.2)))),fun _ g _=>Ob fun _=>True,fun _ g _=>0⟩),
  (82,24,⟨Th Bool×Th Bool,[],fun σ g => σ.t 61 (.one (.att (.bool (.of g.1)))),fun _ g _=>Ob fun _=>True,fun _ g _=>0⟩),
  (82,28,⟨Th Bool×Th Row,[],fun σ g => σ.t 66 (.one (.att (.bool (.of g.1)))),fun _ g _=>Ob fun _=>True,fun _ g _=>0⟩)],20,?_⟩
 cbv
 repeat' first|((with_reducible refine fun(g:Th Int×Th Int) => ?_);obtain⟨i,q⟩:=g;obtain⟨i,rfl⟩:=b6 i;obtain⟨q,rfl⟩:=b6 q;(with_reducible refine ImpB.out ?_);cbv;(with_reducible refine ImpB.mk ?_);intro hq;obtain⟨hq⟩:=hq)|((with_reducible refine fun(g:Th Bool×Th Int) => ?_);obtain⟨b1,z1⟩:=g;obtain⟨b1,rfl⟩:=b6 b1;obtain⟨z1,rfl⟩:=b6 z1;(with_reducible refine ImpB.out ?_);cbv;(with_reducible refine ImpB.mk ?_);intro hq;obtain⟨hq⟩:=hq)|((with_reducible refine fun(g:Th Int×Th Bool) => ?_);obtain⟨z2,b2⟩:=g;obtain⟨z2,rfl⟩:=b6 z2;obtain⟨b2,rfl⟩:=b6 b2;(with_reducible refine ImpB.out ?_);cbv;(with_reducible refine ImpB.mk ?_);intro hq;obtain⟨hq⟩:=hq)|((with_reducible refine fun(g:Th Bool×Th Bool) => ?_);obtain⟨b3,z3⟩:=g;obtain⟨b3,rfl⟩:=b6 b3;obtain⟨z3,rfl⟩:=b6 z3;(with_reducible refine ImpB.out ?_);cbv;(with_reducible refine ImpB.mk ?_);intro hq;obtain⟨hq⟩:=hq)|((with_reducible refine fun(g:Th Bool×Th Row) => ?_);obtain⟨b4,z4⟩:=g;obtain⟨b4,rfl⟩:=b6 b4;obtain⟨z4,rfl⟩:=b6 z4;(with_reducible refine ImpB.out ?_);cbv;(with_reducible refine ImpB.mk ?_);intro hq;obtain⟨hq⟩:=hq)|((with_reducible intro _);cbv)|(with_reducible refine And.intro ?_ ?_)
 all_goals try((first|(with_reducible refine LoopIn.wf (fun σ => (σ.tmI 5,asI (σ.ce 0 1))) ?_ ?_)|(with_reducible refine LoopBack.wf (fun σ => (σ.tmI 5,asI (σ.ce 0 1))) ?_ ?_ ?_)|(with_reducible refine LoopIn.wf (fun σ => (σ.tmB 37,L0)) ?_ ?_)|(with_reducible refine LoopBack.wf (fun σ => (σ.tmB 37,L0)) ?_ ?_ ?_)|(with_reducible refine LoopIn.wf (fun σ => (L0,σ.tmB 47)) ?_ ?_)|(with_reducible refine LoopBack.wf (fun σ => (L0,σ.tmB 47)) ?_ ?_ ?_)|(with_reducible refine LoopIn.wf (fun σ => (σ.tmB 61,s5)) ?_ ?_)|(with_reducible refine LoopBack.wf (fun σ => (σ.tmB 61,s5)) ?_ ?_ ?_)|(with_reducible refine LoopIn.wf (fun σ => (σ.tmB 66,d5H)) ?_ ?_)|(with_reducible refine LoopBack.wf (fun σ => (σ.tmB 66,d5H)) ?_ ?_ ?_))<;>cbv)
 all_goals try(with_reducible show _∧_;(try simp only[and_true,true_and]))
 all_goals try(repeat' with_reducible refine And.intro ?_ ?_)
 all_goals try(with_reducible refine MeasB.mk ?_)
 all_goals first|(refine retK (h _ _ _ _ _ _ ?_) rfl;clear h)|(with_reducible refine Ob.mk ?_;clear h)|(clear h)
 all_goals(try simp only[eta0,RT.bytes]at *)
 all_goals(try dsimp only[RT.ty]at *)
 all_goals(try simp only[S6]at *)
 all_goals(first|rfl|omega|grind[e8])
def tabB (t:Arb) (v:Int):Prop:=t.servers.length=t.ages.length∧t.servers.length≤4∧0≤v∧v≤3 ∧ ∀k,k<t.ages.length → @LE.le Int _ 0 (nth .int t.ages k) ∧ @LE.le Int _ (nth .int t.ages k) 900
noncomputable def c3R:Sx.Io:=⟨.arb,true,[.int .i64,.int .i64,.int .i64],[],fun t ⟨v,c,s,_⟩ => .asrt (fun _=>tabB (t ()) (v ())) (.ret (vB fun _=>(p9 (t ()) (v ()) (c ()) (s ())).ok,fun _=>(p9 (t ()) (v ()) (c ()) (s ())).t))⟩
noncomputable def c1t:Sx.Io:=⟨.row .wld,true,[.list .msg],[],fun w ⟨l,_⟩ => .asrt (fun _=>(w ()).net.length≤40∧(l ()).length≤1000) (.ret (.tup [],fun _=>v7 (w ()) (l ())))⟩
theorem d1g (n:Nat):(NatCast.natCast n:Int)=(n:Int):=rfl
theorem d0M:b8 Tryz.prog 109 (ioX c3R):=io1 e9 (ss := [(57,sIn)]) ⟨okIn,trivial⟩ rfl rfl<|by
 intro(t:Th Arb) ⟨(v:Th Int),(c:Th Int),(s:Th Int),u⟩ K _ ho h
 obtain⟨t,rfl⟩:=b6 t;obtain⟨v,rfl⟩:=b6 v;obtain⟨c,rfl⟩:=b6 c;obtain⟨s,rfl⟩:=b6 s
 obtain⟨ha,h⟩:=h
 have ha:=ha.out
 have ha:tabB t v:=ha
 have h1:IntKind.i64.wrap ((t.servers.length:Int)-1)=(t.servers.length:Int)-1:=e8 (by have:=ha.2.1;omega) (by have:=ha.2.1;omega)
 have h2:IntKind.i64.wrap (v-1)=v-1:=e8 (by have:=ha.2.2.1;dsimp only at *;omega) (by have:=ha.2.2.2.1;dsimp only at *;omega)
 have h3:0≤c→c<(t.ages.length:Int)→IntKind.i64.wrap (nth .int t.ages c.toNat+1)=nth .int t.ages c.toNat+1:=fun a b=>by
  have:=ha.2.2.2.2 c.toNat (by dsimp only at *;omega)
  exact e8 (by dsimp only[RT.ty]at *;omega) (by dsimp only[RT.ty]at *;omega)
 refine⟨noAnn,noAnn,20,?_⟩
 cbv
 repeat' first|((with_reducible intro _);cbv)|(with_reducible refine And.intro ?_ ?_)
 all_goals first|refine ioK h ?_ ?_|(with_reducible refine Ob.mk ?_;clear h)|(clear h)
 all_goals(try clear h)
 all_goals(try clear K)
 all_goals(try simp only[fin0])
 all_goals(try simp only[eta0,RT.bytes]at *)
 all_goals(try dsimp only[RT.ty]at *)
 all_goals(try simp only[d1g]at *)
 all_goals(try rw[h1]at *)
 all_goals(try rw[h2]at *)
 all_goals(try simp only[B3]at *)
 all_goals grind[inR,p9,tabB]
theorem c5V {k:Nat} (h:k≤1000):(IntKind.i64.wrap ((k:Int)+1)).toNat=k+1:=by rw[j3 (by omega)];rfl
theorem c6u {a l:List Msg} {k:Nat} (hk:k<l.length) (h:((a.length+((l.take k).take (40-a.length)).length:Nat):Int)<40):a++(l.take k).take (40-a.length) ++ [nth .msg l k]=a++(l.take (k+1)).take (40-a.length):=by
 rw[List.length_take,List.length_take]at h
 have h1:k<40-a.length:=by omega
 rw[List.take_take,List.take_take,Nat.min_eq_right (by omega),Nat.min_eq_right (by omega),List.take_succ_eq_append_getElem hk,l6 .msg l k hk,List.append_assoc]
theorem c6v {a l:List Msg} {k:Nat} (hk:k<l.length) (h : ¬((a.length+((l.take k).take (40-a.length)).length:Nat):Int)<40):a++(l.take k).take (40-a.length)=a++(l.take (k+1)).take (40-a.length):=by
 rw[List.length_take,List.length_take]at h
 have h1:40-a.length≤k:=by omega
 rw[List.take_take,List.take_take,Nat.min_eq_left (by omega),Nat.min_eq_left (by omega)]
theorem c4y:b8 Tryz.prog 110 (ioX c1t):=io1 e9 (ss := []) trivial rfl rfl<|by
 intro(w:Th Wld) ⟨(l:Th (List Msg)),u⟩ K _ ho h
 obtain⟨w,rfl⟩:=b6 w;obtain⟨l,rfl⟩:=b6 l
 obtain⟨ha,h⟩:=h
 have ha:=ha.out
 have ha:w.net.length≤40∧l.length≤1000:=ha
 refine⟨annL [(110,1,⟨Th Int×Th Bool,[⟨.cell 0 7,some 500,.msg⟩],fun σ g=>((((σ.only [0,6,7]).h 8 (1,.dead)).t 8 (.one (.att (.int .i64 g.1)))).u7 0 7 (.own 500 1)).row 500 1 .msg (fun _=>w.net++(l.take (g.1 ()).toNat).take (40-w.net.length)),fun _ g _=>Ob fun _=>0≤g.1 ()∧g.1 ()≤l.length,fun _ g _=>l.length-(g.1 ()).toNat⟩)],noAnn,20,?_⟩
 cbv
 repeat' first|((with_reducible refine fun(g:Th Int×Th Bool) => ?_);obtain⟨k,z⟩:=g;obtain⟨k,rfl⟩:=b6 k;obtain⟨z,rfl⟩:=b6 z;(with_reducible refine ImpB.out ?_);cbv;(with_reducible refine ImpB.mk ?_);intro hq;obtain⟨hq⟩:=hq;have hq0:=hq.1;obtain⟨k,rfl⟩:=Int.eq_ofNat_of_zero_le hq0;clear hq0)|((with_reducible intro _);cbv)|(with_reducible refine And.intro ?_ ?_)
 all_goals try((first|(with_reducible refine LoopIn.wf (fun σ => (σ.tmI 8,s5)) ?_ ?_)|(with_reducible refine LoopBack.wf (fun σ => (σ.tmI 8,s5)) ?_ ?_ ?_))<;>cbv)
 all_goals try(with_reducible show _∧_;(try simp only[and_true,true_and]))
 all_goals try(repeat' with_reducible refine And.intro ?_ ?_)
 all_goals try(with_reducible refine MeasB.mk ?_)
 all_goals first|refine ioK h ?_ ?_|(with_reducible refine Ob.mk ?_;clear h)|(clear h)
 all_goals(try clear h)
 all_goals(try clear K)
 all_goals(try simp only[fin0])
 all_goals(try simp only[eta0,RT.bytes]at *)
 all_goals(try dsimp only[RT.ty]at *)
 all_goals(try simp only[d1g,Int.toNat_natCast,Int.toNat_zero]at *)
 all_goals(try simp(disch:=omega) only[c5V,j3,Int.toNat_natCast])
 all_goals first|omega|rfl|exact(c6u ‹_› ‹_›)|exact(c6v ‹_› ‹_›)|grind[v7,List.length_append,List.length_take,List.take_of_length_le]
end Go.Proofs.YtihaeoicjglieaaGreat
namespace Go.Proofs.YtihaeoicjglieaaGreat
open Go.Sx Go.Proofs Go.RowKit
theorem c7G:(Tryz.prog.info? 88).map (fun i=>(i.zero,i.size,i.bytes))=some (some (.agg #[.int .i64 0,.int .i64 0,.int .i64 0,.int .i64 0,.int .i64 0,.int .i64 0,.int .i64 0]),7,56):=by kernel_rfl
theorem b0o : ∃inf z,Tryz.prog.info? 88=some inf∧inf.size=7∧inf.bytes=56∧inf.zero=some z∧z.cells.size=7:=by
 obtain⟨i0,h1,h2,h3,h4⟩:=info_parts c7G
 exact⟨i0,_,h1,h3,h4,h2,rfl⟩
theorem c7F (w:World) (b n c i vb voff vc T tV:Nat) (cs vcs:Array Value) (us:List Value) (hi:i<n) (hroom:n+1≤c) (hc:c≤maxLen) (hh:w.heap[b]? = some (.cells cs T (0,0))) (hs:cs.size=c * 7) (hu:us.length=7)
  (hvh:w.heap[vb]? = some (.cells vcs tV (0,0))) (hvb:vb≠b) (hvs : ∀j v,us[j]? = some v→w.cell? ⟨vb,voff+j,none⟩=some v) (h1 : ∀u∈us,one u) (h1c : ∀u∈cs.toList.take (n * 7),one u) :
  Calls Tryz.prog 252 #[.slice (some ⟨b,0,none⟩) n c,.int .i64 i,.slice (some ⟨vb,voff,none⟩) 1 vc] w fun e w' =>
   ∃v,e = .returned v∧InsE w w' 7 (.slice (some ⟨b,0,none⟩) n c) v n i 1 b c cs us:=by
 obtain⟨inf,z,hinf,hsz,hby,hz,hzc⟩:=b0o
 have u25:=run_underlying Tryz.underlying92
 have z38 : ∀w,(sizeOf 88).run Tryz.prog w = .ok 7 w:=fun w=>by simp[sizeOf,typeInfo,hinf,hsz]
 have hc63:c≤9223372036854775807:=hc
 have hcb:n+1≤9223372036854775807:=by omega
 have hkB:cs.size≠0:=by rw[hs];omega
 have hov : ∀lb cb,(callFunc 271 #[.slice (some ⟨vb,voff,none⟩) 1 vc,.slice (some ⟨b,(i+1) * 7,none⟩) lb cb]).run Tryz.prog w = .ok (.value (.bool false)) w:=fun lb cb=>by
  rw[run_callFunc_extern Tryz.func271 (by kernel_rfl) (by kernel_rfl) (by kernel_rfl) (e:=Extern.SlicesOverlaps.overlaps #[92,92] #[4]) (by kernel_rfl),
   Lib.run_overlaps_apart w 92 4 88 Tryz.underlying92 7 z38 ⟨vb,voff,none⟩ ⟨b,(i+1) * 7,none⟩ 1 vc lb cb hvb tV T vcs.size cs.size (by simp[World.shape?,hvh]) (by simp[World.shape?,hh]) hkB (frozen_of_row _ _ _ _ _ hvh) (frozen_of_row _ _ _ _ _ hvh)]
  rfl
 have hw1:IntKind.i64.wrap ((n:Int)+1)=((n+1:Nat):Int):=by rw[IntKind.wrap_i64];omega
 have hw2:IntKind.i64.wrap ((i:Int)+1)=((i+1:Nat):Int):=by rw[IntKind.wrap_i64];omega
 have hne : ¬((i:Int)=(n:Int)):=by omega
 have mixed:=e9.mix
 have hb1:(0:Int)≤(i:Int)+1:=by omega
 have hin:i≤n:=by omega
 have hb2 : ¬(c=i+1):=by omega
 have hb3:(i:Int)≤(n:Int)+1:=by omega
 have hb4 : ¬(c=i):=by omega
 have htn:((i:Int)+1).toNat=i+1:=by omega
 go_enter Tryz.func252,Tryz.ntmps252
 go_wp2_with (simp only[hov])
 clear hov
 have htl:=X8 (i:=i) hs (show n≤c by omega)
 have hn5:(n+1) * 7≤c * 7:=Nat.mul_le_mul_right _ hroom
 have hsrc : ∀j v,((cs.toList.take (n * 7)).drop (i * 7))[j]? = some v→w.cell? ⟨b,i * 7+j,none⟩=some v:=fun j v hj=>by
  rw[List.getElem?_drop,List.getElem?_take]at hj
  rw[s9 hh]
  split at hj
  ·simpa using hj
  ·cases hj
 have hcp1 : ∀ty dc sc,(Builtin.copy_ #[92,92] ty #[.slice (some ⟨b,(i+1) * 7,none⟩) (n-i) dc,.slice (some ⟨b,i * 7,none⟩) (n+1-i) sc]).run Tryz.prog w.drew = .ok (goInt (n-i:Nat)) (wrote w.drew b ((i+1) * 7) cs ((cs.toList.take (n * 7)).drop (i * 7))):=fun ty dc sc =>
  C9 (k:=n-i) (us:=(cs.toList.take (n * 7)).drop (i * 7)) Tryz.underlying92 hinf (by simp only[Nat.min_def];split<;>omega) (by rw[hsz];exact htl) (fun j v hj=>by
   rw[A2]
   exact hsrc j v hj) hh (by rw[htl,hs];omega) (fun u hu=>h1c u (List.mem_of_mem_drop hu))
 go_region_law_o (refine step_copy_runI rfl _ _ 92 92 rfl _ _ (by simp[Act.eval,Act.put]) (by simp[Act.eval,Act.put]) (hcp1 _ _ _) ?_)
 have htl2:((cs.toList.take (n * 7)).drop (i * 7)).length=(n-i) * 7:=htl
 obtain⟨cs1,hcs1⟩ : ∃cs1,cs1=(putAt cs.toList ((i+1) * 7) ((cs.toList.take (n * 7)).drop (i * 7))).toArray:=⟨_,rfl⟩
 obtain⟨W1,hW1⟩ : ∃W1,W1=wrote w.drew b ((i+1) * 7) cs ((cs.toList.take (n * 7)).drop (i * 7)):=⟨_,rfl⟩
 have hh1:W1.heap[b]? = some (.cells cs1 T (0,0)):=by rw[hW1,hcs1];exact A4 hh
 have hv1:W1.heap[vb]? = some (.cells vcs tV (0,0)):=by rw[hW1,u9 hvb];exact hvh
 have hsz1:cs1.size=c * 7:=by rw[hcs1,List.size_toArray,s8 _ _ _ (by rw[htl2,Array.length_toList,hs];omega),Array.length_toList,hs]
 have hcp2 : ∀(W:World),W.heap=W1.heap → ∀ty dc,(Builtin.copy_ #[92,92] ty #[.slice (some ⟨b,i * 7,none⟩) (n+1-i) dc,.slice (some ⟨vb,voff,none⟩) 1 vc]).run Tryz.prog W = .ok (goInt (1:Nat)) (wrote W b (i * 7) cs1 us):=fun W hW ty dc =>
  C9 (k:=1) (us:=us) (T:=T) Tryz.underlying92 hinf (by simp only[Nat.min_def];split<;>omega) (by rw[hsz,hu]) (fun j v hj=>by
   rw[A2,s9 (cs:=vcs) (T:=tV) (by rw[hW];exact hv1)]
   have:=hvs j v hj
   rw[s9 hvh]at this
   exact this) (by rw[hW];exact hh1) (by rw[hu,hsz1];omega) h1
 rw[←hW1]
 go_wp2_with (at_builtin;refine wpList_copy_runI _ rfl _ _ 92 92 rfl _ _ rfl rfl (hcp2 _ rfl _ _) ?_)
 have hend:InsM w (wrote W1 b (i * 7) cs1 us) 7 (.slice (some ⟨b,0,none⟩) n c) (.slice (some ⟨b,0,none⟩) (n+1) c) n i 1 b c cs us b c (N3 cs 7 n i us).toArray T:=by
  refine InsM.room hh hs hroom hc hi hu ?_ (fun x hx => ?_) ?_ ?_ ?_ ?_
  ·rw[A4 hh1,N3,hcs1]
  ·rw[u9 hx,hW1,u9 hx];rfl
  ·rw[hW1];rfl
  ·rw[hW1];rfl
  ·rw[hW1];rfl
  ·rw[hW1];simp[wrote,World.setRow]
 subst hcs1
 subst hW1
 go_ret
 exact⟨.slice (some ⟨b,0,none⟩) (n+1) c,rfl,_,_,_,_,hend⟩
theorem c7H (w:World) (b n c i vb voff vc T tV:Nat) (cs vcs:Array Value) (us:List Value) (hi:i<n) (hnc:n≤c) (hroom:c<n+1) (hc:c≤maxLen) (hh:w.heap[b]? = some (.cells cs T (0,0))) (hs:cs.size=c * 7) (hu:us.length=7)
  (hvh:w.heap[vb]? = some (.cells vcs tV (0,0))) (hvs : ∀j v,us[j]? = some v→w.cell? ⟨vb,voff+j,none⟩=some v) (h1 : ∀u∈us,one u) (h1c : ∀u∈cs.toList.take (n * 7),one u) (hbig:(n+1) * 56≤140737488355328) :
  Calls Tryz.prog 252 #[.slice (some ⟨b,0,none⟩) n c,.int .i64 i,.slice (some ⟨vb,voff,none⟩) 1 vc] w fun e w' =>
   ∃v,e = .returned v∧InsE w w' 7 (.slice (some ⟨b,0,none⟩) n c) v n i 1 b c cs us:=by
 obtain⟨inf,z,hinf,hsz,hby,hz,hzc⟩:=b0o
 have u25:=run_underlying Tryz.underlying92
 have z38 : ∀w,(sizeOf 88).run Tryz.prog w = .ok 7 w:=fun w=>by simp[sizeOf,typeInfo,hinf,hsz]
 have mixed:=e9.mix
 have hc63:c≤9223372036854775807:=hc
 have hsrc : ∀j v,((cs.toList.take (n * 7)).drop (i * 7))[j]? = some v→w.cell? ⟨b,i * 7+j,none⟩=some v:=fun j v hj=>by
  rw[List.getElem?_drop,List.getElem?_take]at hj
  rw[s9 hh]
  split at hj
  ·simpa using hj
  ·cases hj
 have hi5:(i+1) * 7≤c * 7:=Nat.mul_le_mul_right _ (by omega)
 have hold:(Builtin.firstCells inf.size i (.slice (some ⟨b,0,none⟩) i c)).run Tryz.prog w.drew = .ok (cs.toList.take (i * 7)).toArray w.drew:=by
  rw[hsz]
  exact run_firstCells_some w.drew 7 i ⟨b,0,none⟩ i c (cs.toList.take (i * 7)) (by rw[List.length_take,Array.length_toList,hs];omega) (fun j v hj=>by
   rw[A2,Nat.zero_add,show w.drew.cell? ⟨b,j,none⟩=w.cell? ⟨b,j,none⟩from rfl,s9 hh]
   rw[List.getElem?_take]at hj
   split at hj
   ·simpa using hj
   ·cases hj)
 have hik:i+(n+1-i)=n+1:=by omega
 have hkk:(n:Int)+1-(i:Int)=((n+1-i:Nat):Int):=by omega
 have hrz : ∀ty,(Builtin.append_ #[92,3] ty #[.slice (some ⟨b,0,none⟩) i c,.int .i64 ((n:Int)+1-(i:Int))]).run Tryz.prog w =
   .ok (.slice (some ⟨w.heap.size,0,none⟩) (n+1) (grownCap w (n+1) c 88)) (w.drew.alloc (.cells ((cs.toList.take (i * 7)).toArray++Builtin.zeroCells z.cells (n+1-i)++Builtin.zeroCells z.cells (grownCap w (n+1) c 88-(n+1))) 88)):=fun ty=>by
  have h:=Lib.run_append_grow_zeros w 92 3 ty 88 inf z .i64 .i64 Tryz.underlying92 Tryz.underlying3 hinf hz (some ⟨b,0,none⟩) i c (cs.toList.take (i * 7)) hold (n+1-i) (by omega) (by omega) (by omega) (by omega) (by rw[hby];omega) (by rw[hby,hik];exact growslice_fits hroom hbig)
  rw[hik]at h
  rw[hkk]
  exact h
 obtain⟨G,hG⟩ : ∃G,G=grownCap w (n+1) c 88:=⟨_,rfl⟩
 have hGn:n+1≤G:=by rw[hG];exact grownCap_ge w _ _ _
 have hGm:G≤maxLen:=by rw[hG];exact grownCap_le_maxLen w (n+1) c _ (by unfold maxLen;omega)
 have hG63:G≤9223372036854775807:=hGm
 obtain⟨ROW,hROW⟩ : ∃ROW:Array Value,ROW=(cs.toList.take (i * 7)).toArray++Builtin.zeroCells z.cells (n+1-i)++Builtin.zeroCells z.cells (G-(n+1)):=⟨_,rfl⟩
 rw[←hG]at hrz
 rw[←hROW]at hrz
 have hRl:ROW.toList.length=G * 7:=by
  rw[hROW,Array.length_toList]
  simp only[Array.size_append,List.size_toArray,size_zeroCells,hzc,List.length_take,Array.length_toList,hs]
  omega
 have hR0 : ∀o,o<i * 7→ROW.toList[o]? = cs[o]? := fun o ho=>by
  have hl:(cs.toList.take (i * 7)).length=i * 7:=by rw[List.length_take,Array.length_toList,hs];omega
  rw[hROW]
  simp only[Array.toList_append]
  rw[List.append_assoc,List.getElem?_append_left (by rw[List.toList_toArray,hl];exact ho),List.toList_toArray,List.getElem?_take,if_pos ho]
  simp
 have htl:=X8 (i:=i) hs hnc
 have hbw:b<w.heap.size:=by
  rcases Nat.lt_or_ge b w.heap.size with h|h
  ·exact h
  ·rw[Array.getElem?_eq_none h]at hh;cases hh
 have hvw:vb<w.heap.size:=by
  rcases Nat.lt_or_ge vb w.heap.size with h|h
  ·exact h
  ·rw[Array.getElem?_eq_none h]at hvh;cases hvh
 obtain⟨W1,hW1⟩ : ∃W1,W1=w.drew.alloc (.cells ROW 88):=⟨_,rfl⟩
 rw[←hW1]at hrz
 have hN1:W1.heap[w.heap.size]? = some (.cells ROW 88 (0,0)):=by rw[hW1];exact a6F w _
 have hO1 : ∀x,x<w.heap.size→W1.heap[x]? = w.heap[x]? := fun x hx=>by rw[hW1];exact a6E w _ x hx
 obtain⟨R2,hR2⟩ : ∃R2,R2=(putAt ROW.toList (i * 7) us).toArray:=⟨_,rfl⟩
 have hG5:(n+1) * 7≤G * 7:=Nat.mul_le_mul_right _ hGn
 have hR2l:R2.size=G * 7:=by rw[hR2,List.size_toArray,s8 _ _ _ (by rw[hu,hRl];omega),hRl]
 have hcpA : ∀(W:World),W.heap=W1.heap → ∀ty dc,(Builtin.copy_ #[92,92] ty #[.slice (some ⟨w.heap.size,i * 7,none⟩) (n+1-i) dc,.slice (some ⟨vb,voff,none⟩) 1 vc]).run Tryz.prog W = .ok (goInt (1:Nat)) (wrote W w.heap.size (i * 7) ROW us):=fun W hW ty dc =>
  C9 (k:=1) (us:=us) (T:=88) Tryz.underlying92 hinf (by simp only[Nat.min_def];split<;>omega) (by rw[hsz,hu]) (fun j v hj=>by
   rw[A2,s9 (cs:=vcs) (T:=tV) (by rw[hW,hO1 _ hvw];exact hvh)]
   have:=hvs j v hj
   rw[s9 hvh]at this
   exact this) (by rw[hW];exact hN1) (by rw[hu,←Array.length_toList,hRl];omega) h1
 obtain⟨W2,hW2⟩ : ∃W2,W2=wrote W1 w.heap.size (i * 7) ROW us:=⟨_,rfl⟩
 have hcpB : ∀(W:World),W.heap=W2.heap → ∀ty dc sc,(Builtin.copy_ #[92,92] ty #[.slice (some ⟨w.heap.size,(i+1) * 7,none⟩) (n-i) dc,.slice (some ⟨b,i * 7,none⟩) (n-i) sc]).run Tryz.prog W = .ok (goInt (n-i:Nat)) (wrote W w.heap.size ((i+1) * 7) R2 ((cs.toList.take (n * 7)).drop (i * 7))):=fun W hW ty dc sc =>
  C9 (k:=n-i) (us:=(cs.toList.take (n * 7)).drop (i * 7)) (T:=88) Tryz.underlying92 hinf (by simp only[Nat.min_def];split<;>omega) (by rw[hsz,htl]) (fun j v hj=>by
   rw[A2,s9 (cs:=cs) (T:=T) (by rw[hW,hW2,u9 (by omega),hO1 _ hbw];exact hh)]
   have:=hsrc j v hj
   rw[s9 hh]at this
   exact this) (by rw[hW,hW2,hR2];exact A4 hN1) (by rw[htl,hR2l];omega) (fun u hu=>h1c u (List.mem_of_mem_drop hu))
 have hGi : ¬(G=i):=by omega
 have hGim : ¬(G=i+1):=by omega
 have hci : ¬(c=i):=by omega
 have hw1:IntKind.i64.wrap ((n:Int)+1)=((n+1:Nat):Int):=by rw[IntKind.wrap_i64];omega
 have hw2:IntKind.i64.wrap ((i:Int)+1)=((i+1:Nat):Int):=by rw[IntKind.wrap_i64];omega
 have hb1:(0:Int)≤(i:Int)+1:=by omega
 have hin:i≤n:=by omega
 have htn:((i:Int)+1).toNat=i+1:=by omega
 have hb3:(i:Int)≤(n:Int):=by omega
 have hne : ¬((i:Int)=(n:Int)):=by omega
 have hend : ∀W:World,W.heap=(wrote W2 w.heap.size ((i+1) * 7) R2 ((cs.toList.take (n * 7)).drop (i * 7))).heap→W.os=w.os→W.tape=w.tape→W.output=w.output→InsE w W 7 (.slice (some ⟨b,0,none⟩) n c) (.slice (some ⟨w.heap.size,0,none⟩) (n+1) G) n i 1 b c cs us:=fun W hW g1 g2 g3=>by
  refine⟨_,_,_,88,InsM.grow (row:=ROW.toList) hRl hs hnc hGn hGm hi hu hR0 ?_ rfl ?_ (fun x hx => ?_) g1 g2 g3⟩
  ·rw[hW,A4 (T:=88) (by rw[hW2,hR2];exact A4 hN1),a0s,hR2]
  ·rw[hW,hW2,hW1];simp[wrote,World.setRow,World.alloc]
  ·rw[hW,u9 (by omega),hW2,u9 (by omega)];exact hO1 x hx
 clear hkk hik hold hROW hG hRl hR0
 go_enter Tryz.func252,Tryz.ntmps252
 go_wp2_with (first
  |(at_builtin;refine Lib.wpList_append_run _ rfl _ _ _ _ rfl _ _ rfl rfl _ _ (hrz _) ?_)
  |(at_builtin;refine wpList_copy_runI _ rfl _ _ 92 92 rfl _ _ rfl rfl (hcpA _ rfl _ _) ?_))
 go_region_law_o (refine step_copy_runI rfl _ _ 92 92 rfl (.slice (some ⟨w.heap.size,(i+1) * 7,none⟩) (n-i) (G-(i+1))) (.slice (some ⟨b,i * 7,none⟩) (n-i) (c-i)) (by simp[Act.eval,Act.put]) (by simp[Act.eval,Act.put]) (hcpB _ (by rw[hW2,hW1];rfl) _ _ _) ?_)
 go_wp2
 go_ret
 exact⟨.slice (some ⟨w.heap.size,0,none⟩) (n+1) G,rfl,hend _ (by rw[hW2,hW1,hR2];rfl) rfl rfl rfl⟩
theorem d1C (w:World) (b n c vb voff vc T:Nat) (cs:Array Value) (us:List Value) (hn:n≤c) (hc:c≤maxLen) (hh:w.heap[b]? = some (.cells cs T (0,0))) (hs:cs.size=c * 7) (hu:us.length=7)
  (hvs : ∀j v,us[j]? = some v→w.cell? ⟨vb,voff+j,none⟩=some v) (h1 : ∀u∈us,one u) (hb:(n+1) * 56≤140737488355328) :
  Calls Tryz.prog 252 #[.slice (some ⟨b,0,none⟩) n c,.int .i64 n,.slice (some ⟨vb,voff,none⟩) 1 vc] w fun e w' =>
   ∃v,e = .returned v∧InsE w w' 7 (.slice (some ⟨b,0,none⟩) n c) v n n 1 b c cs us:=by
 obtain⟨inf,z,hinf,hsz,hby,hz,hzc⟩:=b0o
 have u25:=run_underlying Tryz.underlying92
 have z38 : ∀w,(sizeOf 88).run Tryz.prog w = .ok 7 w:=fun w=>by simp[sizeOf,typeInfo,hinf,hsz]
 have hc63:c≤9223372036854775807:=hc
 have mixed:=e9.mix
 rcases K4 (P:=Tryz.prog) (ty:=92) (w:=w) Tryz.underlying92 hinf hz hsz hby hzc (Old.row n b c cs T hh hn hc hs) (m:=1) (us:=us) ⟨by rw[hu],.inr (.inr ⟨vb,voff,vc,rfl,hvs⟩)⟩ h1 (by omega) (by simpa using hb)with ⟨_,h,_⟩|⟨v,w',b',cap',cs',T',hr,A⟩
 ·cases h
 ·have hend:InsE w w' 7 _ v _ _ 1 b _ cs us:=⟨_,_,_,_,A.ins⟩
  by_cases hcn:n=c
  ·subst hcn
   go_enter Tryz.func252,Tryz.ntmps252
   go_wp2_with (at_builtin;refine Lib.wpList_append_run _ rfl _ _ _ _ rfl _ _ rfl rfl _ _ hr ?_)
   go_ret
   exact⟨v,rfl,hend⟩
  ·have hcn2 : ¬(c=n):=fun h=>hcn h.symm
   go_enter Tryz.func252,Tryz.ntmps252
   go_wp2_with (at_builtin;refine Lib.wpList_append_run _ rfl _ _ _ _ rfl _ _ rfl rfl _ _ hr ?_)
   go_ret
   exact⟨v,rfl,hend⟩
theorem d1B (w:World) (b vb voff vc T:Nat) (cs:Array Value) (us:List Value) (hcs:cs = #[]) (hu:us.length=7)
  (hvs : ∀j v,us[j]? = some v→w.cell? ⟨vb,voff+j,none⟩=some v) (h1 : ∀u∈us,one u) :
  Calls Tryz.prog 252 #[.slice none 0 0,.int .i64 0,.slice (some ⟨vb,voff,none⟩) 1 vc] w fun e w' =>
   ∃v,e = .returned v∧InsE w w' 7 (.slice none 0 0) v 0 0 1 b 0 cs us:=by
 obtain⟨inf,z,hinf,hsz,hby,hz,hzc⟩:=b0o
 have u25:=run_underlying Tryz.underlying92
 have z38 : ∀w,(sizeOf 88).run Tryz.prog w = .ok 7 w:=fun w=>by simp[sizeOf,typeInfo,hinf,hsz]
 have mixed:=e9.mix
 rcases K4 (P:=Tryz.prog) (ty:=92) (w:=w) Tryz.underlying92 hinf hz hsz hby hzc (Old.nil b 0 cs T hcs rfl) (m:=1) (us:=us) ⟨by rw[hu],.inr (.inr ⟨vb,voff,vc,rfl,hvs⟩)⟩ h1 (by omega) (by omega)with ⟨_,_,_,h⟩|⟨v,w',b',cap',cs',T',hr,A⟩
 ·cases h
 ·go_enter Tryz.func252,Tryz.ntmps252
  have hend:InsE w w' 7 _ v _ _ 1 b _ cs us:=⟨_,_,_,_,A.ins⟩
  go_wp2_with (at_builtin;refine Lib.wpList_append_run _ rfl _ _ _ _ rfl _ _ rfl rfl _ _ hr ?_)
  all_goals go_ret
  all_goals first|exact⟨v,rfl,hend⟩|(have hcn:c=n:=by(first|assumption|(symm;assumption)|omega);subst hcn;exact⟨v,rfl,hend⟩)
theorem d6J:c0W Tryz.prog 252 .gst:=by
 intro w s n b cap cs T i vb vcap vT vcs us hO hi hvb hvh hu hvs h1 h1c hL
 have hs5:RT.size .gst=7:=rfl
 have hb5:RT.bytes .gst=56:=rfl
 rw[hs5]at *
 rw[hb5]at hL
 cases hO with
 |nil _ _ _ _ hcs hcap =>
  have:i=0:=by omega
  subst this
  subst hcap
  exact d1B w b vb 0 vcap T cs us hcs hu hvs h1
 |row _ _ _ _ _ hh hnc hcm hcs =>
  rcases Nat.lt_or_ge i n with hlt|hge
  ·rcases Nat.lt_or_ge cap (n+1)with hr|hr
   ·exact c7H w b n cap i vb 0 vcap T vT cs vcs us hlt hnc hr hcm hh hcs hu hvh hvs h1 h1c hL
   ·exact c7F w b n cap i vb 0 vcap T vT cs vcs us hlt hr hcm hh hcs hu hvh (hvb ⟨_,rfl⟩) hvs h1 h1c
  ·have:i=n:=by omega
   subst this
   exact d1C w b i cap vb 0 vcap T cs us hnc hcm hh hcs hu hvs h1 hL
theorem c7k:b8 Tryz.prog 252 (.raw (insM .gst)) :=
 c2n ⟨_,_,Tryz.func252,by kernel_rfl,rfl⟩ d6J
end Go.Proofs.YtihaeoicjglieaaGreat
