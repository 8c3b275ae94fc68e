/-
  Contracts: what is drawn: cells.
-/
import Derived.Test.YtmnapekfeenknaaGreatFnQ
import Derived.Test.YtmnapekfeenknaaGreatGnE
import Derived.Test.YtmnapekfeenknaaGreatFnI
import Derived.Test.YtmnapekfeenknaaGreatM5
import Derived.Test.YtmnapekfeenknaaGreatGvC
import Derived.Test.YtmnapekfeenknaaGreatM3
import Derived.Test.YtmnapekfeenknaaGreatM2
set_option linter.unusedVariables false
set_option linter.unusedSimpArgs false
set_option maxRecDepth 100000
set_option maxHeartbeats 8000000
namespace Go.Proofs.YtmnapekfeenknaaGreat
open Go.Sx Go.Proofs Go.Mo
def b6B (m:PMap) (c:Int) (l:List Wlk):Sto:=if s5 m (W8 m c l)=true then L3 m c l else a1f
noncomputable def b1e:Sx.Spec:=⟨false,true,[.map,.int .i64,.list .wlk],[nCll],fun _ _ ⟨m,c,l,_⟩ => .ret (oCll fun _=>W8 (m ()) (c ()) (l ()),fun _=>0)⟩
noncomputable def b8Y:Sx.Spec:=⟨false,true,[.map,.int .i64,.list .wlk],[nSto],fun _ _ ⟨m,c,l,_⟩ => .ret (oSto fun _=>b6B (m ()) (c ()) (l ()),fun _=>0)⟩
noncomputable def b1f:Sx.Spec:=⟨false,true,[.map],[[some .int,some .int]],fun _ _ ⟨m,_⟩ => .ret (oArb fun _=>a0G (m ()),fun _=>0)⟩
noncomputable def b1d:Sx.Spec:=⟨false,true,[.map,.list .wlk],[[some .row]],fun _ _ ⟨m,l,_⟩ => .ret (oAs [.list .row fun _=>a7j (m ()) (l ())],fun _=>0)⟩
noncomputable def a7K:Sx.Spec:=⟨false,true,[],[[none,some .hld,some .gst]],fun _ _ _ => .ret (oSrv fun _=>⟨true,[],[]⟩,fun _=>0)⟩
noncomputable def a5P:Sx.Spec:=⟨false,true,[.map,.list .wlk,.int .i64],[[none,none,some .srv,some .sto,some .int,some .int,some .row,some .msg,some .note]],fun _ _ ⟨m,l,v,_⟩ => .ret (oWld fun _=>z5 (m ()) (l ()) (v ()),fun _=>0)⟩
theorem a7S {α : Type} (x : α) (k:Nat):List.replicate (k+1) x=List.replicate k x ++ [x]:=by
 rw[List.replicate_succ',]
theorem b9s (m:PMap) (l:List Wlk) (k:Nat):(List.range (k+1)).map (fun(i:Nat)=>L3 m (i:Int) l)=(List.range k).map (fun(i:Nat)=>L3 m (i:Int) l) ++ [L3 m (k:Int) l]:=by
 rw[List.range_succ,List.map_append]
 rfl
theorem b9q (m:PMap) {l:List Wlk} {k:Nat} (h:k<l.length):(l.take (k+1)).map (a0i m)=(l.take k).map (a0i m) ++ [a0i m (nth .wlk l k)]:=by
 have h1:l.take (k+1)=l.take k ++ [nth .wlk l k]:=J7 .wlk h
 rw[h1,List.map_append]
 rfl
theorem b9X:b9 Tryz.prog 53 a7K:=j5 j3 (ss := []) trivial rfl rfl<|by
 intro(bs:Th (List Int)) (p:Th Int) u K _ _ ho h
 refine⟨noAnn,noAnn,20,?_⟩
 cbv
 repeat' first|((with_reducible intro _);cbv)|(with_reducible refine And.intro ?_ ?_)
 all_goals first|(refine retK h ?_;clear h;simp only[fin0])|(with_reducible refine Ob.mk ?_;clear h)|(clear h)
 all_goals(try simp only[eta0,RT.bytes]at *)
theorem c7Z:b9 Tryz.prog 63 a7K:=j5 j3 (ss := []) trivial rfl rfl<|by
 intro(bs:Th (List Int)) (p:Th Int) u K _ _ ho h
 refine⟨noAnn,noAnn,20,?_⟩
 cbv
 repeat' first|((with_reducible intro _);cbv)|(with_reducible refine And.intro ?_ ?_)
 all_goals first|(refine retK h ?_;clear h;simp only[fin0])|(with_reducible refine Ob.mk ?_;clear h)|(clear h)
 all_goals(try simp only[eta0,RT.bytes]at *)
theorem c8k:b9 Tryz.prog 61 b1f:=j5 j3 (ss := [(14,A5)]) ⟨F7,trivial⟩ rfl rfl<|by
 intro(bs:Th (List Int)) (p:Th Int) ⟨(m:Th PMap),u⟩ K _ _ ho h
 obtain⟨m,rfl⟩:=b6 m
 have hm := @n6 m
 refine⟨annL [(61,5,⟨Nat,[⟨.cell 4 0,some 500,.int⟩,⟨.cell 4 1,some 501,.int⟩],fun σ k=>((((((σ.fgs [500,501]).t 4 (vI fun _=>(k:Int))).u9 4 0 (.own 500 1)).u9 4 1 (.own 501 1)).row 500 1 .int (fun _=>List.replicate k (-1:Int))).row 501 1 .int (fun _=>List.replicate k (0:Int))),fun _ k _=>(k:Int)≤m.cells∧o9 m=true,fun _ k _=>m.cells.toNat-k⟩)],noAnn,20,?_⟩
 cbv
 repeat' first|((with_reducible refine fun(k:Nat) => ?_);cbv)|((with_reducible intro _);cbv)|(with_reducible refine And.intro ?_ ?_)
 all_goals try((first|(with_reducible refine LoopIn.mk ((0:Nat)) ?_ ?_)|(with_reducible refine LoopBack.mk ((k+1:Nat)) ?_ ?_ ?_)) )
 all_goals try((with_reducible show l9 _ _);cbv;(try simp only[and_true,true_and]))
 all_goals try(repeat' with_reducible refine And.intro ?_ ?_)
 all_goals first|(refine retK h ?_;clear h;simp only[fin0])|(with_reducible refine Ob.mk ?_;clear h)|(clear h)
 all_goals(try simp only[eta0,RT.bytes]at *)
 all_goals grind[j4,a7S,a0G]
theorem c8g:b9 Tryz.prog 62 b1d:=j5 j3 (ss := [(14,A5),(15,Z2),(117,B6)]) ⟨F7,a0n,N7,trivial⟩ rfl rfl<|by
 intro(bs:Th (List Int)) (p:Th Int) ⟨(m:Th PMap),(l:Th (List Wlk)),u⟩ K _ _ ho h
 obtain⟨m,rfl⟩:=b6 m;obtain⟨l,rfl⟩:=b6 l
 have hl:=okB (ho.2.1 _ (.head _))
 have hf := @b0Y m l
 refine⟨annL [(62,5,⟨Nat,[⟨.cell 6 0,some 500,.row⟩],fun σ k=>(((σ.fgs [500]).t 6 (vI fun _=>(k:Int))).u9 6 0 (.own 500 1)).row 500 1 .row (fun _=>(l.take k).map (a0i m)),fun _ k _=>k≤l.length,fun _ k _=>l.length-k⟩)],noAnn,20,?_⟩
 cbv
 repeat' first|((with_reducible refine fun(k:Nat) => ?_);cbv)|((with_reducible intro _);cbv)|(with_reducible refine And.intro ?_ ?_)
 all_goals try((first|(with_reducible refine LoopIn.mk ((0:Nat)) ?_ ?_)|(with_reducible refine LoopBack.mk ((k+1:Nat)) ?_ ?_ ?_)) )
 all_goals try((with_reducible show l9 _ _);cbv;(try simp only[and_true,true_and]))
 all_goals try(repeat' with_reducible refine And.intro ?_ ?_)
 all_goals first|(refine retK h ?_;clear h;simp only[fin0])|(with_reducible refine Ob.mk ?_;clear h)|(clear h)
 all_goals(try simp only[eta0,RT.bytes]at *)
 all_goals grind[j4,b9q,a7j,a0i,List.length_map,List.length_take]
theorem c8j:b9 Tryz.prog 118 b1e:=j5 j3 (ss := [(14,A5),(60,sIn),(15,Z2),(117,B6)]) ⟨F7,J5,a0n,N7,trivial⟩ rfl rfl<|by
 intro(bs:Th (List Int)) (p:Th Int) ⟨(m:Th PMap),(c:Th Int),(l:Th (List Wlk)),u⟩ K _ _ ho h
 obtain⟨m,rfl⟩:=b6 m;obtain⟨c,rfl⟩:=b6 c;obtain⟨l,rfl⟩:=b6 l
 have hl:=okB (ho.2.2.1 _ (.head _))
 have hn:=b2U m c l
 have hm := @n6 m
 refine⟨annL [(118,5,⟨Nat,[⟨.cell 8 1,some 500,.wlk⟩],fun σ k=>(((σ.fgs [29,30,500]).t 8 (vI fun _=>(k:Int))).u9 8 1 (.own 500 1)).row 500 1 .wlk (fun _=>L9 m c l k),fun _ k _=>k≤l.length,fun _ k _=>l.length-k⟩)],noAnn,20,?_⟩
 cbv
 repeat' first|((with_reducible refine fun(k:Nat) => ?_);cbv)|((with_reducible intro _);cbv)|(with_reducible refine And.intro ?_ ?_)
 all_goals try((first|(with_reducible refine LoopIn.mk ((0:Nat)) ?_ ?_)|(with_reducible refine LoopBack.mk ((k+1:Nat)) ?_ ?_ ?_)) )
 all_goals try((with_reducible show l9 _ _);cbv;(try simp only[and_true,true_and]))
 all_goals try(repeat' with_reducible refine And.intro ?_ ?_)
 all_goals first|(refine retK h ?_;clear h;simp only[fin0])|(with_reducible refine Ob.mk ?_;clear h)|(clear h)
 all_goals(try simp only[eta0,RT.bytes]at *)
 all_goals(try dsimp only[RT.ty]at *)
 all_goals grind(splits:=20) [j4,e9,b2T,b5E,b0J,W8,O1,inR,Z1]
theorem c8b:b9 Tryz.prog 64 b8Y:=j5 j3 (ss := [(118,b1e),(119,a2V)]) ⟨c8j,a5m,trivial⟩ rfl rfl<|by
 intro(bs:Th (List Int)) (p:Th Int) ⟨(m:Th PMap),(c:Th Int),(l:Th (List Wlk)),u⟩ K _ _ ho h
 obtain⟨m,rfl⟩:=b6 m;obtain⟨c,rfl⟩:=b6 c;obtain⟨l,rfl⟩:=b6 l
 refine⟨noAnn,noAnn,20,?_⟩
 cbv
 repeat' first|((with_reducible intro _);cbv)|(with_reducible refine And.intro ?_ ?_)
 all_goals first|(refine retK h ?_;clear h;simp only[fin0])|(with_reducible refine Ob.mk ?_;clear h)|(clear h)
 all_goals(try simp only[eta0,RT.bytes]at *)
 all_goals grind[b6B,L3,a1f,O1]
theorem a9C:b9 Tryz.prog 13 a5P:=j5 j3 (ss := [(14,A5),(15,Z2),(60,sIn),(61,b1f),(62,b1d),(63,a7K),(64,b8Y)]) ⟨F7,a0n,J5,c8k,c8g,c7Z,c8b,trivial⟩ rfl rfl<|by
 intro(bs:Th (List Int)) (p:Th Int) ⟨(m:Th PMap),(l:Th (List Wlk)),(v:Th Int),u⟩ K _ _ ho h
 obtain⟨m,rfl⟩:=b6 m;obtain⟨l,rfl⟩:=b6 l;obtain⟨v,rfl⟩:=b6 v
 have hm := @n6 m
 have hk:=fun(i:Int) => @b6c m i l
 refine⟨annL [(13,5,⟨Nat×Unit,[⟨.cell 8 2,some 500,.srv⟩],fun σ q=>(((σ.fgs [500]).t 8 (vI fun _=>(q.1:Int))).u9 8 2 (.own 500 1)).row 500 1 .srv (fun _=>List.replicate q.1 ⟨true,[],[]⟩),fun _ q _=>(q.1:Int)≤v∧o9 m=true∧x7 m l=true∧1≤v∧v≤3,fun _ q _=>v.toNat-q.1⟩),
  (13,9,⟨Nat,[⟨.cell 8 3,some 501,.sto⟩],fun σ k=>(((σ.fgs [501]).t 9 (vI fun _=>(k:Int))).u9 8 3 (.own 501 1)).row 501 1 .sto (fun _=>(List.range k).map fun(i:Nat)=>L3 m (i:Int) l),fun _ k _=>(k:Int)≤m.cells∧o9 m=true∧x7 m l=true∧1≤v∧v≤3,fun _ k _=>m.cells.toNat-k⟩)],noAnn,20,?_⟩
 cbv
 repeat' first|((with_reducible refine fun(k:Nat) => ?_);cbv)|((with_reducible refine fun(q:Nat×Unit) => ?_);obtain⟨s,_⟩:=q;cbv)|((with_reducible intro _);cbv)|(with_reducible refine And.intro ?_ ?_)
 all_goals try((first|(with_reducible refine LoopIn.mk (((0,()):Nat×Unit)) ?_ ?_)|(with_reducible refine LoopIn.mk ((0:Nat)) ?_ ?_)|(with_reducible refine LoopBack.mk ((k+1:Nat)) ?_ ?_ ?_)|(with_reducible refine LoopBack.mk (((s+1,()):Nat×Unit)) ?_ ?_ ?_)) )
 all_goals try((with_reducible show l9 _ _);cbv;(try simp only[and_true,true_and]))
 all_goals try(repeat' with_reducible refine And.intro ?_ ?_)
 all_goals first|(refine retK h ?_;clear h;simp only[fin0])|(with_reducible refine Ob.mk ?_;clear h)|(clear h)
 all_goals(try simp only[eta0,RT.bytes]at *)
 all_goals(try dsimp only[RT.ty]at *)
 all_goals(try grind(splits:=20) [j4,e9,inR,a7S,b9s,z5,M8,R4,b6B])
def a4T (m:PMap) (s:Srv) (t:Arb) (servers cell:Int):List Msg :=
 if C0 m s=true∧D0 m t servers=true∧z7 s cell=true then a3X m t (j6 s cell) 0++a3X m t (j6 s cell) 1 else[]
theorem b0m (m:PMap) (t:Arb) (h:Hld) (s:Int):(a3X m t h s).length≤8:=by
 unfold a3X
 split
 ·simp
 ·have h1:=b2f m t h s 4
  have h2:=b3c m t h s 4
  simp;omega
theorem b8J {m:PMap} {s:Srv} {cell:Int} (h:C0 m s=true) (h2:z7 s cell=true):V5 m (j6 s cell)=true:=by
 simp only[z7,decide_eq_true_eq]at h2
 have:=a2M s.holds cell
 rw[j6,if_pos h2]
 exact a6K h (by omega)
noncomputable def b8X:Sx.Spec:=⟨false,true,[.map,.row .srv,.arb,.int .i64,.int .i64],[[some .msg]],fun _ _ ⟨m,s,t,v,c,_⟩ => .ret (vW .msg fun _=>a4T (m ()) (s ()) (t ()) (v ()) (c ()),fun _=>0)⟩
theorem c2N:b9 Tryz.prog 219 b8X:=j5 j3 (ss := [(192,a9p),(144,a5a),(249,a4U),(250,b8W)]) ⟨b2o,a5n,b2p,b7v,trivial⟩ rfl rfl<|by
 intro(bs:Th (List Int)) (p:Th Int) ⟨(m:Th PMap),(s:Th Srv),(t:Th Arb),(v:Th Int),(c:Th Int),u⟩ K _ _ ho h
 obtain⟨m,rfl⟩:=b6 m;obtain⟨s,rfl⟩:=b6 s;obtain⟨t,rfl⟩:=b6 t;obtain⟨v,rfl⟩:=b6 v;obtain⟨c,rfl⟩:=b6 c
 have hq := @b8J m s c
 have h1:=b0m m t (j6 s c) 0
 have h2:=b0m m t (j6 s c) 1
 refine⟨noAnn,noAnn,20,?_⟩
 cbv
 repeat' first|((with_reducible intro _);cbv)|(with_reducible refine And.intro ?_ ?_)
 all_goals first|(refine retK h ?_;clear h;simp only[fin0])|(with_reducible refine Ob.mk ?_;clear h)|(clear h)
 all_goals(try simp only[eta0,RT.bytes]at *)
 all_goals grind[a4T]
noncomputable def nWld:List (Option RT) := [none,none,some .srv,some .sto,some .int,some .int,some .row,some .msg,some .note]
noncomputable def b6L:Sx.Spec:=⟨false,true,[.row .wld],[nWld],fun _ _ ⟨w,_⟩ => .ret (oWld w,fun _=>0)⟩
theorem c8p:b9 Tryz.prog 188 b6L:=j5 j3 (ss := [(221,a4Z),(222,a5S),(223,a7Q)]) ⟨b0z,a9F,b5v,trivial⟩ rfl rfl<|by
 intro(bs:Th (List Int)) (p:Th Int) ⟨(w:Th Wld),u⟩ K _ _ ho h
 obtain⟨w,rfl⟩:=b6 w
 have hb0:=okB (ho.1 _ (.tail _ (.tail _ (.head _))))
 have hb3:=okB (ho.1 _ (.tail _ (.tail _ (.tail _ (.tail _ (.head _))))))
 have hb4:=okB (ho.1 _ (.tail _ (.tail _ (.tail _ (.tail _ (.tail _ (.head _)))))))
 have hb6:=okB (ho.1 _ (.tail _ (.tail _ (.tail _ (.tail _ (.tail _ (.tail _ (.tail _ (.head _)))))))))
 have hb7:=okB (ho.1 _ (.tail _ (.tail _ (.tail _ (.tail _ (.tail _ (.tail _ (.tail _ (.tail _ (.head _))))))))))
 have hs:=fun k => @J7 .srv w.servers k
 have hz:=a0Z w.servers
 refine⟨annL [(188,4,⟨Nat,[⟨.cell 4 2,some 51,.srv⟩],fun σ k=>(((σ.fgs [51,14,18,23,28]).t 4 (vI fun _=>(k:Int))).u9 4 2 (.own 51 1)).row 51 1 .srv (fun _=>pre w.servers k),fun _ k _=>k≤w.servers.length,fun _ k _=>w.servers.length-k⟩)],noAnn,20,?_⟩
 cbv
 repeat' first|((with_reducible refine fun(k:Nat) => ?_);cbv)|((with_reducible intro _);cbv)|(with_reducible refine And.intro ?_ ?_)
 all_goals try((first|(with_reducible refine LoopIn.mk ((0:Nat)) ?_ ?_)|(with_reducible refine LoopBack.mk ((k+1:Nat)) ?_ ?_ ?_)) )
 all_goals try((with_reducible show l9 _ _);cbv;(try simp only[and_true,true_and]))
 all_goals try(repeat' with_reducible refine And.intro ?_ ?_)
 all_goals first|(refine retK h ?_;clear h;simp only[fin0])|(with_reducible refine Ob.mk ?_;clear h)|(clear h)
 all_goals(try simp only[eta0,RT.bytes]at *)
 all_goals(try grind[X4,a1a,j4])
theorem a9I (n:Nat):(NatCast.natCast n:Int)=(n:Int):=rfl
theorem a7C (m:PMap) (t:Arb) (h:Hld) (cell side:Int) (hc:h.state.cell=cell):a3X m t h side=D1 m t h cell side:=by
 subst hc
 rfl
theorem d4U {m:PMap} {s:Srv} {t:Arb} {v c:Int} (h1:C0 m s=true) (h2:D0 m t v=true):a4T m s t v c=E7 m s t c:=by
 simp only[a4T,E7,h1,h2,true_and]
 split
 ·rename_i hh
  have hcc:(j6 s c).state.cell=c:=by
   simp only[z7,decide_eq_true_eq]at hh
   rw[j6,if_pos hh]
   exact a3L hh
  rw[a7C m t _ c 0 hcc,a7C m t _ c 1 hcc]
 ·rfl
theorem b8T {l:List Msg} {n k:Nat} (h1:k≤l.length) (h2:n+k≤40) (h3:k<l.length → ¬n+k<40):l.take k=l.take (40-n):=by
 by_cases hk:k<l.length
 ·have:=h3 hk
  rw[show k=40-n by omega]
 ·rw[List.take_of_length_le (by omega),List.take_of_length_le (by omega)]
theorem a7H {a l:List Msg} {k:Nat} (h1:k≤l.length) (h2:a.length+k≤40) (h3:k<l.length → ¬(a.length+(l.take k).length)<40):a++l.take k=a++l.take (40-a.length):=by
 have h4:(l.take k).length=k:=by simp;omega
 rw[h4]at h3
 rw[b8T h1 h2 h3]
theorem c9z {l:List Msg} {i k:Nat} (h:k≤l.length) (h2 : ¬k<l.length):a1p l i k=l.eraseIdx i:=by
 rw[show k=l.length by omega]
 exact b6a l i
theorem d0L {l o:List Msg} {i k j:Nat} (hk:k≤l.length) (hk2 : ¬k<l.length) (h1:j≤o.length) (h2:(a1p l i k).length+j≤40) (h3:j<o.length → ¬((a1p l i k).length+(o.take j).length)<40):a1p l i k++o.take j=l.eraseIdx i++o.take (40-(l.eraseIdx i).length):=by
 rw[c9z hk hk2]at *
 exact a7H h1 h2 h3
theorem c7d {l:List Msg} {k:Nat} (h:k≤l.length):(l.take k).length=k:=by simp;omega
theorem c7c {l:List Msg} {k:Nat} (h:k<l.length):l.take (k+1)=l.take k ++ [nth .msg l k]:=J7 .msg h
theorem O2 {w:Wld} (h:m8 w=true):D0 w.map w.table w.servers.length=true∧B1 w.map w.stores=true∧C4 w.map w.rows=true∧w.net.length≤40∧w.notes.length≤150 ∧
  (∀i,i<w.net.length→y5 w.map w.servers.length (nth .msg w.net i)=true ∧ -1≤(nth .msg w.net i).dest∧(nth .msg w.net i).dest<w.servers.length)∧(∀i,i<w.servers.length→C0 w.map (nth .srv w.servers i)=true)∧1≤w.servers.length∧w.servers.length≤3:=by
 obtain⟨h1,h2,h3,h4,h5,h6,h7,h8,h9⟩:=q9.1 h
 have ha:=J4 h1
 refine⟨h1,h2,h3,h4,h5,fun i hi => ?_,fun i hi=>(h7 _ (s0 .srv hi)).1,by omega,by omega⟩
 have hm:=(h8 _ (s0 .msg hi)).1
 refine⟨hm,?_⟩
 simp only[y5,J2,decide_eq_true_eq]at hm
 omega
theorem c9a {m:PMap} {t:Arb} {v cell server:Int} (ht:D0 m t v=true) (hg:(T5 m t v cell server).ok=true):0≤cell∧cell<(T5 m t v cell server).t.ages.length:=by
 have:=J4 ht
 simp only[T5,if_pos ht]at hg ⊢
 unfold s6 at hg ⊢
 split at hg
 ·rename_i hc
  rw[if_pos hc]
  simp only[List.length_set]
  omega
 ·cases hg
theorem b7K (p:Int) (n:Nat) (hn:(n:Int)≤1000000):inR p 0 (IntKind.i64.wrap ((n:Int)-1))=decide (0≤p∧p<(n:Int)):=by
 rw[e9 (by omega) (by omega)]
 simp only[inR]
 congr 1
 simp only[eq_iff_iff]
 omega
section
variable {w:Wld} {e:Evt} (h:m8 w=true)
include h
theorem d7F (hk:e.kind=1):m4 w e=if(T5 w.map w.table w.servers.length e.pos e.dest).ok=true then⟨w.map,w.servers,w.stores,(T5 w.map w.table w.servers.length e.pos e.dest).t,w.rows,w.net++([⟨1,e.dest,e.pos,0,nth .int (T5 w.map w.table w.servers.length e.pos e.dest).t.ages e.pos.toNat,⟨0,0,0,0,0⟩,⟨0,0,⟨0,0,0,0,0⟩,0⟩,⟨0,0,⟨0,0,0,0,0⟩⟩⟩]:List Msg).take (40-w.net.length),w.notes⟩else w:=by
 have hF:=O2 h
 simp only[m4,y8,h,hk,if_true,T5,hF.1,x8,x6,A2,K0]
theorem d7E (hk:e.kind=2):m4 w e=⟨w.map,w.servers,w.stores,w.table,(a8J w.map w.rows e.pos e.what e.dest e.n).b,w.net,w.notes⟩:=by
 have hF:=O2 h
 simp[m4,y8,h,hk,a8J,hF.2.2.1]
theorem d7D (hk:e.kind=3):m4 w e=if(a6h w.map w.rows w.table w.servers.length e.pos).ok=true then⟨w.map,w.servers,w.stores,w.table,w.rows,w.net ++ [(a6h w.map w.rows w.table w.servers.length e.pos).x].take (40-w.net.length),w.notes⟩else w:=by
 have hF:=O2 h
 simp[m4,y8,h,hk,a6h,hF.1,hF.2.2.1,x8]
theorem c4u (hk:e.kind=4) (hn : ¬(0≤e.pos∧e.pos<(w.net.length:Int))):m4 w e=w:=by
 simp only[m4,y8,h,hk,if_true]
 rw[if_neg (by decide),if_neg (by decide),if_neg (by decide),if_pos (by decide),if_neg hn]
theorem d5a (hk:e.kind=4) (hn:0≤e.pos∧e.pos<(w.net.length:Int)) (hd:(nth .msg w.net e.pos.toNat).dest = -1):m4 w e=⟨w.map,w.servers,w.stores,w.table,(a2l w.map w.rows w.servers.length (nth .msg w.net e.pos.toNat)).b,w.net.eraseIdx e.pos.toNat,
  if(a2l w.map w.rows w.servers.length (nth .msg w.net e.pos.toNat)).ok=true∧w.notes.length<150 then w.notes ++ [⟨(nth .msg w.net e.pos.toNat).ord.who,(nth .msg w.net e.pos.toNat).ord.seq,(nth .msg w.net e.pos.toNat).n⟩]else w.notes⟩:=by
 have hF:=O2 h
 have hm:=(hF.2.2.2.2.2.1 e.pos.toNat (by omega)).1
 have hx:a2l w.map w.rows w.servers.length (nth .msg w.net e.pos.toNat)=B5 w.map w.rows (nth .msg w.net e.pos.toNat):=by rw[a2l,if_pos ⟨hF.2.2.1,hm⟩]
 rw[hx]
 simp only[m4,y8,h,hk,if_true]
 rw[if_neg (by decide),if_neg (by decide),if_neg (by decide),if_pos (by decide),if_pos hn]
 simp only[a0a,hd,if_true,a1W,wCut]
 rfl
theorem c4v (hk:e.kind=4) (hn:0≤e.pos∧e.pos<(w.net.length:Int)) (hd : ¬(nth .msg w.net e.pos.toNat).dest = -1):m4 w e=⟨w.map,w.servers.set (nth .msg w.net e.pos.toNat).dest.toNat (H5 w.map (nth .srv w.servers (nth .msg w.net e.pos.toNat).dest.toNat) w.stores w.table w.servers.length (nth .msg w.net e.pos.toNat)).srv,
  (H5 w.map (nth .srv w.servers (nth .msg w.net e.pos.toNat).dest.toNat) w.stores w.table w.servers.length (nth .msg w.net e.pos.toNat)).stores,w.table,w.rows,w.net.eraseIdx e.pos.toNat++(H5 w.map (nth .srv w.servers (nth .msg w.net e.pos.toNat).dest.toNat) w.stores w.table w.servers.length (nth .msg w.net e.pos.toNat)).out.take (40-(w.net.eraseIdx e.pos.toNat).length),w.notes⟩:=by
 have hF:=O2 h
 have hm:=hF.2.2.2.2.2.1 e.pos.toNat (by omega)
 have hs:=hF.2.2.2.2.2.2.1 (nth .msg w.net e.pos.toNat).dest.toNat (by omega)
 have hx:H5 w.map (nth .srv w.servers (nth .msg w.net e.pos.toNat).dest.toNat) w.stores w.table w.servers.length (nth .msg w.net e.pos.toNat)=r8 w.map (nth .srv w.servers (nth .msg w.net e.pos.toNat).dest.toNat) w.stores w.table (nth .msg w.net e.pos.toNat):=by rw[H5,if_pos ⟨hs,hF.2.1,hF.1,hm.1⟩]
 rw[hx]
 simp only[m4,y8,h,hk,if_true]
 rw[if_neg (by decide),if_neg (by decide),if_neg (by decide),if_pos (by decide),if_pos hn]
 simp only[a0a,hd,if_false,a3m,wCut,x8]
theorem d7C (hk:e.kind=5):m4 w e=if 0≤e.pos∧e.pos<(w.net.length:Int)then⟨w.map,w.servers,w.stores,w.table,w.rows,w.net.eraseIdx e.pos.toNat,w.notes⟩else w:=by
 simp only[m4,y8,h,hk,if_true]
 rw[if_neg (by decide),if_neg (by decide),if_neg (by decide),if_pos (by decide)]
 by_cases hp:0≤e.pos∧e.pos<(w.net.length:Int)
 ·rw[if_pos hp,if_pos hp,if_neg (by decide)]
  rfl
 ·rw[if_neg hp,if_neg hp]
theorem d0B (hk:e.kind=6):m4 w e=if 0≤e.pos∧e.pos<(w.net.length:Int)then⟨w.map,w.servers,w.stores,w.table,w.rows,w.net ++ [nth .msg w.net e.pos.toNat].take (40-w.net.length),w.notes⟩else w:=by
 simp only[m4,y8,h,hk,if_true]
 rw[if_neg (by decide),if_neg (by decide),if_neg (by decide),if_pos (by decide)]
 by_cases hp:0≤e.pos∧e.pos<(w.net.length:Int)
 ·rw[if_pos hp,if_pos hp,if_neg (by decide),if_neg (by decide)]
  rfl
 ·rw[if_neg hp,if_neg hp]
theorem d7B (hk:e.kind=7):m4 w e=if 0≤e.pos∧e.pos<(w.servers.length:Int)then⟨w.map,w.servers,w.stores,w.table,w.rows,w.net++(a4T w.map (nth .srv w.servers e.pos.toNat) w.table w.servers.length e.dest).take (40-w.net.length),w.notes⟩else w:=by
 have hF:=O2 h
 simp only[m4,y8,h,hk,if_true]
 rw[if_neg (by decide),if_neg (by decide),if_neg (by decide),if_neg (by decide),if_pos (by decide)]
 by_cases hp:0≤e.pos∧e.pos<(w.servers.length:Int)
 ·rw[if_pos hp,if_pos hp,d4U (hF.2.2.2.2.2.2.1 e.pos.toNat (by omega)) hF.1]
  rfl
 ·rw[if_neg hp,if_neg hp]
theorem d7A (hk:e.kind=8):m4 w e=if 0≤e.pos∧e.pos<(w.servers.length:Int)then⟨w.map,w.servers.set e.pos.toNat ⟨false,[],[]⟩,w.stores,w.table,w.rows,w.net,w.notes⟩else w:=by
 simp only[m4,y8,h,hk,if_true]
 rw[if_neg (by decide),if_neg (by decide),if_neg (by decide),if_neg (by decide),if_pos (by decide)]
 by_cases hp:0≤e.pos∧e.pos<(w.servers.length:Int)
 ·rw[if_pos hp,if_pos hp,if_neg (by decide)]
 ·rw[if_neg hp,if_neg hp]
theorem d0A (hk:e.kind=9):m4 w e=if 0≤e.pos∧e.pos<(w.servers.length:Int)∧(nth .srv w.servers e.pos.toNat).up=false then⟨w.map,w.servers.set e.pos.toNat ⟨true,[],[]⟩,w.stores,w.table,w.rows,w.net,w.notes⟩else w:=by
 simp only[m4,y8,h,hk,if_true]
 rw[if_neg (by decide),if_neg (by decide),if_neg (by decide),if_neg (by decide),if_pos (by decide)]
 by_cases hp:0≤e.pos∧e.pos<(w.servers.length:Int)
 ·rw[if_pos hp,if_neg (by decide),if_neg (by decide)]
  by_cases hu:(nth .srv w.servers e.pos.toNat).up=false
  ·rw[if_pos hu,if_pos ⟨hp.1,hp.2,hu⟩]
  ·rw[if_neg hu,if_neg (fun hq=>hu hq.2.2)]
 ·rw[if_neg hp,if_neg (fun hq=>hp ⟨hq.1,hq.2.1⟩)]
theorem d4Z (h1 : ¬e.kind=1) (h2 : ¬e.kind=2) (h3 : ¬e.kind=3) (h4 : ¬e.kind=4) (h5 : ¬e.kind=5) (h6 : ¬e.kind=6) (h7 : ¬e.kind=7) (h8 : ¬e.kind=8) (h9 : ¬e.kind=9):m4 w e=w:=by
 simp only[m4,y8,h,if_true]
 rw[if_neg h1,if_neg h2,if_neg h3,if_neg (by omega),if_neg (by omega)]
end
theorem b8H {w:Wld} {e:Evt} (h:m8 w=false):m4 w e=R4:=by simp[m4,h]
end Go.Proofs.YtmnapekfeenknaaGreat
namespace Go.Proofs.YtmnapekfeenknaaGreat
open Go.Sx Go.Proofs Go.Mo
noncomputable def c4N:Sx.Spec:=⟨false,true,[.map,.book,.arb,.int .i64,.int .i64],[[none,none,none,none,none,none,none,none,none,none,none,none,none,none,none,none,none,none,none,none,none,none,none,none,none],[none]],fun _ _ ⟨m,l,t,s,w,_⟩ => .ret (.tup [oMsg fun _=>(a6h (m ()) (l ()) (t ()) (s ()) (w ())).x,vB fun _=>(a6h (m ()) (l ()) (t ()) (s ()) (w ())).ok],fun _=>0)⟩
noncomputable def b4Z:Sx.Spec:=⟨false,true,[.map,.arb,.int .i64,.int .i64,.int .i64],[[some .int,some .int],[none]],fun _ _ ⟨m,t,s,c,v,_⟩ => .ret (.tup [oArb fun _=>(T5 (m ()) (t ()) (s ()) (c ()) (v ())).t,vB fun _=>(T5 (m ()) (t ()) (s ()) (c ()) (v ())).ok],fun _=>0)⟩
theorem b5K {m:PMap} {l:List Row} (h:C4 m l=true):2≤m.cells∧m.cells≤4 ∧ ∀k,k<l.length→0≤(nth .row l k).cell∧(nth .row l k).cell<m.cells:=by
 have hp:o9 m=true:=by
  unfold C4 at h
  rw[Bool.and_eq_true]at h
  exact h.1
 obtain⟨h1,h2,_,_⟩:=n6.1 hp
 refine⟨h1,h2,fun k hk => ?_⟩
 have:=(a9P h hk).1
 simp only[a0h,decide_eq_true_eq]at this
 exact⟨this.2.2.1,this.2.2.2.1⟩
theorem c1B {c n:Int} (h0:0≤c) (h1:c<n) (h2:n≤4):0≤(c+1).tmod n∧(c+1).tmod n≤4:=by
 constructor
 ·exact Int.tmod_nonneg _ (by omega)
 ·have:=Int.tmod_lt_of_pos (c+1) (show 0<n by omega)
  omega
theorem c8f:b9 Tryz.prog 215 c4N:=j5 j3 (ss := [(146,a6P),(144,a5a),(246,Z4),(190,L5)]) ⟨a8n,a5n,b7u,a0p,trivial⟩ rfl rfl<|by
 intro(bs:Th (List Int)) (p:Th Int) ⟨(m:Th PMap),(l:Th (List Row)),(t:Th Arb),(s:Th Int),(w:Th Int),u⟩ K _ _ ho h
 obtain⟨m,rfl⟩:=b6 m;obtain⟨l,rfl⟩:=b6 l;obtain⟨t,rfl⟩:=b6 t;obtain⟨s,rfl⟩:=b6 s;obtain⟨w,rfl⟩:=b6 w
 have hp:=a2W l w
 refine⟨noAnn,noAnn,20,?_⟩
 cbv
 repeat' first|((with_reducible intro _);cbv)|(with_reducible refine And.intro ?_ ?_)
 all_goals first|(refine retK h ?_;clear h;simp only[fin0])|(with_reducible refine Ob.mk ?_;clear h)|(clear h)
 all_goals(try simp only[eta0,RT.bytes]at *)
 all_goals grind(splits:=60) [a6h,Y9,Mo.rowAt,b6q,x6,A2,K0]
theorem c0g:b9 Tryz.prog 245 b4Z:=j5 j3 (ss := [(144,a5a),(60,sIn)]) ⟨a5n,J5,trivial⟩ rfl rfl<|by
 intro(bs:Th (List Int)) (p:Th Int) ⟨(m:Th PMap),(t:Th Arb),(s:Th Int),(c:Th Int),(v:Th Int),u⟩ K _ _ ho h
 obtain⟨m,rfl⟩:=b6 m;obtain⟨t,rfl⟩:=b6 t;obtain⟨s,rfl⟩:=b6 s;obtain⟨c,rfl⟩:=b6 c;obtain⟨v,rfl⟩:=b6 v
 have hl:=okB (ho.2.1 _ (.head _))
 have hl2:=okB (ho.2.1 _ (.tail _ (.head _)))
 have hc0:=fun(k:Nat) => @b3O m t s k
 have hcc:=hc0 c.toNat
 clear hc0
 refine⟨noAnn,noAnn,20,?_⟩
 cbv
 repeat' first|((with_reducible intro _);cbv)|(with_reducible refine And.intro ?_ ?_)
 all_goals first|(refine retK h ?_;clear h;simp only[fin0])|(with_reducible refine Ob.mk ?_;clear h)|(clear h)
 all_goals(try simp only[eta0,RT.bytes]at *)
 all_goals(try simp only[a6N,List.nil_append,List.set_set,List.length_set,b8v,b1x]at *)
 all_goals grind(splits:=40) [T5,s6,D0,a0H,a4K,inR,e9]
end Go.Proofs.YtmnapekfeenknaaGreat
namespace Go.Sx
def oneC (v:V):C:=match v with
 | .one c=>c
 |_ => .unk
def St.tmB (σ : St) (d:Nat):Th Bool:=asB (oneC (σ.tm.get d))
end Go.Sx
namespace Go.Proofs.YtmnapekfeenknaaGreat
open Go.Sx Go.Proofs Go.Mo
def d7j:Th Row:=fun _=>⟨0,0,false,⟨0,0,0,0,0⟩,0,0⟩
theorem d2f:b9 Tryz.prog 140 c4U:=j5 j3 (ss := [(48,U4),(189,c4Y)]) ⟨M4,c3d,trivial⟩ rfl rfl<|by
 intro(bs:Th (List Int)) (p:Th Int) ⟨(w:Th Wld),u⟩ K hb hp0 ho h
 obtain⟨w,rfl⟩:=b6 w;obtain⟨bs,rfl⟩:=b6 bs;obtain⟨p,rfl⟩:=b6 p
 obtain⟨hpre,h⟩:=h
 have hpre:True∧0≤p∧p≤999000000000:=hpre.out
 refine⟨noAnn,annL [(140,4,⟨Th Int×Th Int,[],fun σ g=>(σ.t 5 (.one (.att (.int .i64 g.1)))).u9 0 1 (.att (.int .i64 g.2)),fun _ g _=>Ob fun _=>p≤g.2 ()∧g.2 ()≤p+2,fun _ g _=>0⟩),
  (140,13,⟨Th Bool×Th Int,[],fun σ g => σ.t 37 (.one (.att (.bool (.of g.1)))),fun _ g _=>Ob fun _=>True,fun _ g _=>0⟩),
  (140,19,⟨Th Int×Th Bool,[],fun σ g => σ.t 47 (.one (.att (.bool (.of g.2)))),fun _ g _=>Ob fun _=>True,fun _ g _=>0⟩),
  (140,24,⟨Th Bool×Th Bool,[],fun σ g => σ.t 61 (.one (.att (.bool (.of g.1)))),fun _ g _=>Ob fun _=>True,fun _ g _=>0⟩),
  (140,28,⟨Th Bool×Th Row,[],fun σ g => σ.t 66 (.one (.att (.bool (.of g.1)))),fun _ g _=>Ob fun _=>True,fun _ g _=>0⟩)],20,?_⟩
 cbv
 repeat' first|((with_reducible refine fun(g:Th Int×Th Int) => ?_);obtain⟨i,q⟩:=g;obtain⟨i,rfl⟩:=b6 i;obtain⟨q,rfl⟩:=b6 q;(with_reducible refine ImpB.out ?_);cbv;(with_reducible refine ImpB.mk ?_);intro hq;obtain⟨hq⟩:=hq)|((with_reducible refine fun(g:Th Bool×Th Int) => ?_);obtain⟨b1,z1⟩:=g;obtain⟨b1,rfl⟩:=b6 b1;obtain⟨z1,rfl⟩:=b6 z1;(with_reducible refine ImpB.out ?_);cbv;(with_reducible refine ImpB.mk ?_);intro hq;obtain⟨hq⟩:=hq)|((with_reducible refine fun(g:Th Int×Th Bool) => ?_);obtain⟨z2,b2⟩:=g;obtain⟨z2,rfl⟩:=b6 z2;obtain⟨b2,rfl⟩:=b6 b2;(with_reducible refine ImpB.out ?_);cbv;(with_reducible refine ImpB.mk ?_);intro hq;obtain⟨hq⟩:=hq)|((with_reducible refine fun(g:Th Bool×Th Bool) => ?_);obtain⟨b3,z3⟩:=g;obtain⟨b3,rfl⟩:=b6 b3;obtain⟨z3,rfl⟩:=b6 z3;(with_reducible refine ImpB.out ?_);cbv;(with_reducible refine ImpB.mk ?_);intro hq;obtain⟨hq⟩:=hq)|((with_reducible refine fun(g:Th Bool×Th Row) => ?_);obtain⟨b4,z4⟩:=g;obtain⟨b4,rfl⟩:=b6 b4;obtain⟨z4,rfl⟩:=b6 z4;(with_reducible refine ImpB.out ?_);cbv;(with_reducible refine ImpB.mk ?_);intro hq;obtain⟨hq⟩:=hq)|((with_reducible intro _);cbv)|(with_reducible refine And.intro ?_ ?_)
 all_goals try((first|(with_reducible refine LoopIn.wf (fun σ => (σ.tmI 5,asI (σ.ce 0 1))) ?_ ?_)|(with_reducible refine LoopBack.wf (fun σ => (σ.tmI 5,asI (σ.ce 0 1))) ?_ ?_ ?_)|(with_reducible refine LoopIn.wf (fun σ => (σ.tmB 37,G8)) ?_ ?_)|(with_reducible refine LoopBack.wf (fun σ => (σ.tmB 37,G8)) ?_ ?_ ?_)|(with_reducible refine LoopIn.wf (fun σ => (G8,σ.tmB 47)) ?_ ?_)|(with_reducible refine LoopBack.wf (fun σ => (G8,σ.tmB 47)) ?_ ?_ ?_)|(with_reducible refine LoopIn.wf (fun σ => (σ.tmB 61,r7)) ?_ ?_)|(with_reducible refine LoopBack.wf (fun σ => (σ.tmB 61,r7)) ?_ ?_ ?_)|(with_reducible refine LoopIn.wf (fun σ => (σ.tmB 66,d7j)) ?_ ?_)|(with_reducible refine LoopBack.wf (fun σ => (σ.tmB 66,d7j)) ?_ ?_ ?_))<;>cbv)
 all_goals try(with_reducible show _∧_;(try simp only[and_true,true_and]))
 all_goals try(repeat' with_reducible refine And.intro ?_ ?_)
 all_goals try(with_reducible refine MeasB.mk ?_)
 all_goals first|(refine retK (h _ _ _ _ _ _ ?_) rfl;clear h)|(with_reducible refine Ob.mk ?_;clear h)|(clear h)
 all_goals(try simp only[eta0,RT.bytes]at *)
 all_goals(try dsimp only[RT.ty]at *)
 all_goals(try simp only[M0]at *)
 all_goals(first|rfl|omega|grind[e9])
end Go.Proofs.YtmnapekfeenknaaGreat
