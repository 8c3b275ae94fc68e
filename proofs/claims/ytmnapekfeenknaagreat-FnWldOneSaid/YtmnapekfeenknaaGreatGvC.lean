/-
  Contracts: the one world: is it ok, copies, who is where, j8.
-/
import Derived.Test.YtmnapekfeenknaaGreatGnE
import Derived.Test.YtmnapekfeenknaaGreatM2
import Derived.Test.YtmnapekfeenknaaGreatM3
import Derived.Test.YtmnapekfeenknaaGreatGnC
import Derived.Test.YtmnapekfeenknaaGreatFnI
import Derived.Test.YtmnapekfeenknaaGreatInsW
import Derived.Test.YtmnapekfeenknaaGreatM8
import Derived.Test.YtmnapekfeenknaaGreatM6
set_option linter.unusedVariables false
set_option linter.unusedSimpArgs false
set_option maxRecDepth 100000
set_option maxHeartbeats 8000000
namespace Go.Proofs.YtmnapekfeenknaaGreat
open Go.Sx Go.Proofs Go.Mo
def nOne:List (Option RT) := [none,none,some .ow,some .int,some .ints]
noncomputable def b9a:Sx.Spec:=⟨false,true,[.one],[[some .wlk]],fun _ _ ⟨o,_⟩ => .ret (vW .wlk fun _=>ows (o ()).wlks,fun _=>0)⟩
noncomputable def U5:Sx.Spec:=⟨false,true,[.one],[],fun _ _ ⟨o,_⟩ => .ret (vB fun _=>r6 (o ()),fun _=>0)⟩
noncomputable def a2A:Sx.Spec:=⟨false,true,[.one],[nOne],fun _ _ ⟨o,_⟩ => .ret (oOne o,fun _=>0)⟩
noncomputable def b1N:Sx.Spec:=⟨false,true,[.one,.int .i64],[],fun _ _ ⟨o,i,_⟩ => .ret (vI fun _=>b8 (o ()).wlks (i ()),fun _=>0)⟩
noncomputable def a4W:Sx.Spec:=⟨false,true,[.one,.int .i64],[nOne],fun _ _ ⟨o,i,_⟩ => .ret (oOne fun _=>B7 (o ()) (i ()),fun _=>0)⟩
noncomputable def a4X:Sx.Spec:=⟨false,true,[.one,.int .i64,.int .i64,.int .i64],[nOne],fun _ _ ⟨o,c,s,n,_⟩ => .ret (oOne fun _=>B3 (o ()) (c ()) (s ()) (n ()),fun _=>0)⟩
theorem c8l:b9 Tryz.prog 90 b9a:=j5 j3 (ss := []) trivial rfl rfl<|by
 intro(bs:Th (List Int)) (p:Th Int) ⟨(o:Th One),u⟩ K _ _ ho h
 obtain⟨o,rfl⟩:=b6 o
 have hl:=okB (ho.1 _ (.tail _ (.tail _ (.head _))))
 have hz:=c7J o.wlks
 refine⟨annL [(90,3,⟨Nat,[⟨.tmp 3 0,some 18,.wlk⟩],fun σ k=>((σ.t 9 (vI fun _=>(k:Int))).t 3 (vO 18 1)).row 18 1 .wlk (fun _=>a6z o.wlks k),fun _ k _=>k≤o.wlks.length,fun _ k _=>o.wlks.length-k⟩)],noAnn,20,?_⟩
 cbv
 repeat' first|((with_reducible refine fun(k:Nat) => ?_);cbv)|((with_reducible intro _);cbv)|(with_reducible refine And.intro ?_ ?_)
 all_goals try((first|(with_reducible refine LoopIn.mk ((0:Nat)) ?_ ?_)|(with_reducible refine LoopBack.mk ((k+1:Nat)) ?_ ?_ ?_)) )
 all_goals try((with_reducible show l9 _ _);cbv;(try simp only[and_true,true_and]))
 all_goals try(repeat' with_reducible refine And.intro ?_ ?_)
 all_goals first|(refine retK h ?_;clear h;simp only[fin0])|(with_reducible refine Ob.mk ?_;clear h)|(clear h)
 all_goals(try simp only[eta0,RT.bytes]at *)
 all_goals grind[c2I,c2J,c7K,j4]
theorem a6b:b9 Tryz.prog 31 U5:=j5 j3 (ss := [(66,A5),(90,b9a),(49,Z3),(50,sIn)]) ⟨K4,c8l,a1k,okIn,trivial⟩ rfl rfl<|by
 intro(bs:Th (List Int)) (p:Th Int) ⟨(o:Th One),u⟩ K _ _ ho h
 obtain⟨o,rfl⟩:=b6 o
 have hi := @N0 o
 have hk := @S8 o
 have hw:=c5k o.map o.wlks
 have hp := @n6 o.map
 refine⟨annL [(31,4,⟨Nat,[],fun σ k => σ.t 39 (vI fun _=>(k:Int)),fun _ k _=>k≤o.ground.length∧a2E o=true∧m9 o.wlks.length (owAt o.map o.wlks)=true∧m9 k (U8 o)=true,fun _ k _=>o.ground.length-k⟩)],noAnn,20,?_⟩
 cbv
 repeat' first|((with_reducible refine fun(k:Nat) => ?_);cbv)|((with_reducible intro _);cbv)|(with_reducible refine And.intro ?_ ?_)
 all_goals try((first|(with_reducible refine LoopIn.mk ((0:Nat)) ?_ ?_)|(with_reducible refine LoopBack.mk ((k+1:Nat)) ?_ ?_ ?_)) )
 all_goals try((with_reducible show l9 _ _);cbv;(try simp only[and_true,true_and]))
 all_goals try(repeat' with_reducible refine And.intro ?_ ?_)
 all_goals first|(refine retK h ?_;clear h;simp only[fin0])|(with_reducible refine Ob.mk ?_;clear h)|(clear h)
 all_goals(try simp only[eta0,RT.bytes]at *)
 all_goals grind(splits:=30) [j4,a1P,b5i,U8,n8,n5,inR]
theorem d1Y {l:List (List Int)} (h:OkA (.list .ints fun _=>l)) : ∀i,i<l.length→(nth .ints l i).length * 8≤140737488355328:=by
 cases h with
 |list _ _ _ g =>
  intro i hi
  have:=g i 0 _ hi rfl
  exact okB this
theorem b2z:b9 Tryz.prog 84 a2A:=j5 j3 (ss := []) trivial rfl rfl<|by
 intro(bs:Th (List Int)) (p:Th Int) ⟨(o:Th One),u⟩ K _ _ ho h
 obtain⟨o,rfl⟩:=b6 o
 have hl:=okB (ho.1 _ (.tail _ (.tail _ (.head _))))
 have hl2:=okB (ho.1 _ (.tail _ (.tail _ (.tail _ (.head _)))))
 have hl3:=okB (ho.1 _ (.tail _ (.tail _ (.tail _ (.tail _ (.head _))))))
 have hz:=a0Z o.air
 have hs:=fun k => @J7 .ints o.air k
 have hin:=d1Y (ho.1 _ (.tail _ (.tail _ (.tail _ (.tail _ (.head _))))))
 refine⟨annL [(84,3,⟨Nat,[⟨.cell 4 4,some 28,.ints⟩],fun σ k=>((σ.t 18 (vI fun _=>(k:Int))).u9 4 4 (.own 28 1)).row 28 1 .ints (fun _=>pre o.air k),fun _ k _=>k≤o.air.length,fun _ k _=>o.air.length-k⟩)],noAnn,20,?_⟩
 cbv
 repeat' first|((with_reducible refine fun(k:Nat) => ?_);cbv)|((with_reducible intro _);cbv)|(with_reducible refine And.intro ?_ ?_)
 all_goals try((first|(with_reducible refine LoopIn.mk ((0:Nat)) ?_ ?_)|(with_reducible refine LoopBack.mk ((k+1:Nat)) ?_ ?_ ?_)) )
 all_goals try((with_reducible show l9 _ _);cbv;(try simp only[and_true,true_and]))
 all_goals try(repeat' with_reducible refine And.intro ?_ ?_)
 all_goals first|(refine retK h ?_;clear h;simp only[fin0])|(with_reducible refine Ob.mk ?_;clear h)|(clear h)
 all_goals(try simp only[eta0,RT.bytes]at *)
 all_goals grind[X4,a1a,j4]
theorem b5t:b9 Tryz.prog 85 b1N:=j5 j3 (ss := []) trivial rfl rfl<|by
 intro(bs:Th (List Int)) (p:Th Int) ⟨(o:Th One),(i:Th Int),u⟩ K _ _ ho h
 obtain⟨o,rfl⟩:=b6 o;obtain⟨i,rfl⟩:=b6 i
 have hl:=okL (ho.1 _ (.tail _ (.tail _ (.head _))))
 refine⟨annL [(133,2,⟨Nat,[],fun σ k => σ.t 8 (vI fun _=>(k:Int)),fun _ k _=>k≤o.wlks.length∧m9 k (nOw o.wlks i)=true,fun _ k _=>o.wlks.length-k⟩)],noAnn,20,?_⟩
 cbv
 repeat' first|((with_reducible refine fun(k:Nat) => ?_);cbv)|((with_reducible intro _);cbv)|(with_reducible refine And.intro ?_ ?_)
 all_goals try((first|(with_reducible refine LoopIn.mk ((0:Nat)) ?_ ?_)|(with_reducible refine LoopBack.mk ((k+1:Nat)) ?_ ?_ ?_)) )
 all_goals try((with_reducible show l9 _ _);cbv;(try simp only[and_true,true_and]))
 all_goals try(repeat' with_reducible refine And.intro ?_ ?_)
 all_goals first|(refine retK h ?_;clear h;simp only[fin0])|(with_reducible refine Ob.mk ?_;clear h)|(clear h)
 all_goals(try simp only[eta0,RT.bytes]at *)
 all_goals grind[n8,n5,nOw,isOw,b9L,c5n,j4]
noncomputable def b1L:Sx.Spec:=⟨false,true,[.row .wld],[],fun _ _ ⟨w,_⟩ => .asrt (fun _=>D0 (w ()).map (w ()).table (w ()).servers.length=true) (.ret (vB fun _=>a9n (w ()),fun _=>0))⟩
noncomputable def d0S:Sx.Spec:=⟨false,true,[.row .wld],[],fun _ _ ⟨w,_⟩ => .asrt (fun _=>D0 (w ()).map (w ()).table (w ()).servers.length=true) (.ret (vB fun _=>b2E (w ()),fun _=>0))⟩
noncomputable def b9b:Sx.Spec:=⟨false,true,[.list .note],[],fun _ _ ⟨l,_⟩ => .ret (vB fun _=>a8w (l ()),fun _=>0)⟩
noncomputable def a2T:Sx.Spec:=⟨false,true,[.row .wld],[],fun _ _ ⟨w,_⟩ => .ret (vB fun _=>m8 (w ()),fun _=>0)⟩
theorem b9Y:b9 Tryz.prog 147 b1L:=j5 j3 (ss := [(192,a9p)]) ⟨b2o,trivial⟩ rfl rfl<|by
 intro(bs:Th (List Int)) (p:Th Int) ⟨(w:Th Wld),u⟩ K _ _ ho h
 obtain⟨w,rfl⟩:=b6 w
 obtain⟨ha,h⟩:=h
 have ha:=ha.out
 have ht:=J4 ha
 have hl:=okL (ho.1 _ (.tail _ (.tail _ (.head _))))
 have hn:=fun(k:Nat) => @b0Z w.map (nth .srv w.servers k)
 have hi:=fun(k j:Nat) => @c5T w.map (nth .srv w.servers k) j
 refine⟨annL [(147,2,⟨Nat×Unit,[],fun σ q => σ.t 3 (vI fun _=>(q.1:Int)),fun _ q _=>q.1≤w.servers.length∧m9 q.1 (a4I w)=true,fun _ q _=>w.servers.length-q.1⟩),
  (147,7,⟨Nat,[],fun σ k => σ.t 4 (vI fun _=>(k:Int)),fun σ k _=>k≤(nth .srv w.servers (σ.nat 3)).holds.length ∧ σ.nat 3<w.servers.length∧C0 w.map (nth .srv w.servers (σ.nat 3))=true∧m9 (σ.nat 3) (a4I w)=true∧m9 k (a5J w.table (nth .srv w.servers (σ.nat 3)).holds)=true,fun σ k _=>(nth .srv w.servers (σ.nat 3)).holds.length-k⟩)],noAnn,20,?_⟩
 cbv
 repeat' first|((with_reducible refine fun(k:Nat) => ?_);cbv)|((with_reducible refine fun(q:Nat×Unit) => ?_);obtain⟨s,_⟩:=q;cbv)|((with_reducible intro _);cbv)|(with_reducible refine And.intro ?_ ?_)
 all_goals try((first|(with_reducible refine LoopIn.mk (((0,()):Nat×Unit)) ?_ ?_)|(with_reducible refine LoopIn.mk ((0:Nat)) ?_ ?_)|(with_reducible refine LoopBack.mk ((k+1:Nat)) ?_ ?_ ?_)|(with_reducible refine LoopBack.mk (((s+1,()):Nat×Unit)) ?_ ?_ ?_)) )
 all_goals try((with_reducible show l9 _ _);cbv;(try simp only[and_true,true_and]))
 all_goals(try simp only[St.nat,St.int,Tr.get,Nat.reduceMod,Nat.reduceDiv,Nat.one_ne_zero,if_false,if_true,↓reduceIte]at *)
 all_goals try(repeat' with_reducible refine And.intro ?_ ?_)
 all_goals first|(refine retK h ?_;clear h;simp only[fin0])|(with_reducible refine Ob.mk ?_;clear h)|(clear h)
 all_goals(try simp only[eta0,RT.bytes]at *)
 all_goals grind(splits:=30) [j4,e9,a9n,b4K,b4J,b8M,a1V,n8,n5,a5J]
theorem d5C:b9 Tryz.prog 148 d0S:=j5 j3 (ss := [(193,a9r)]) ⟨b2t,trivial⟩ rfl rfl<|by
 intro(bs:Th (List Int)) (p:Th Int) ⟨(w:Th Wld),u⟩ K _ _ ho h
 obtain⟨w,rfl⟩:=b6 w
 obtain⟨ha,h⟩:=h
 have ha:=ha.out
 have ht:=J4 ha
 have hi:=fun(k:Nat) => @b2F w.map w.servers.length (nth .msg w.net k)
 refine⟨annL [(148,4,⟨Nat,[],fun σ k => σ.t 3 (vI fun _=>(k:Int)),fun _ k _=>k≤w.net.length∧w.net.length≤40∧m9 k (a8x w)=true,fun _ k _=>w.net.length-k⟩)],noAnn,20,?_⟩
 cbv
 repeat' first|((with_reducible refine fun(k:Nat) => ?_);cbv)|((with_reducible intro _);cbv)|(with_reducible refine And.intro ?_ ?_)
 all_goals try((first|(with_reducible refine LoopIn.mk ((0:Nat)) ?_ ?_)|(with_reducible refine LoopBack.mk ((k+1:Nat)) ?_ ?_ ?_)) )
 all_goals try((with_reducible show l9 _ _);cbv;(try simp only[and_true,true_and]))
 all_goals(try simp only[St.nat,St.int,Tr.get,Nat.reduceMod,Nat.reduceDiv,Nat.one_ne_zero,if_false,if_true,↓reduceIte]at *)
 all_goals try(repeat' with_reducible refine And.intro ?_ ?_)
 all_goals first|(refine retK h ?_;clear h;simp only[fin0])|(with_reducible refine Ob.mk ?_;clear h)|(clear h)
 all_goals(try simp only[eta0,RT.bytes]at *)
 all_goals grind(splits:=30) [j4,e9,b2E,c5I,a8x,a1V,n8,n5]
theorem c8m:b9 Tryz.prog 149 b9b:=j5 j3 (ss := [(60,sIn)]) ⟨J5,trivial⟩ rfl rfl<|by
 intro(bs:Th (List Int)) (p:Th Int) ⟨(l:Th (List Note)),u⟩ K _ _ ho h
 obtain⟨l,rfl⟩:=b6 l
 refine⟨annL [(149,4,⟨Nat,[],fun σ k => σ.t 3 (vI fun _=>(k:Int)),fun _ k _=>k≤l.length∧l.length≤150∧m9 k (a5q l)=true,fun _ k _=>l.length-k⟩)],noAnn,20,?_⟩
 cbv
 repeat' first|((with_reducible refine fun(k:Nat) => ?_);cbv)|((with_reducible intro _);cbv)|(with_reducible refine And.intro ?_ ?_)
 all_goals try((first|(with_reducible refine LoopIn.mk ((0:Nat)) ?_ ?_)|(with_reducible refine LoopBack.mk ((k+1:Nat)) ?_ ?_ ?_)) )
 all_goals try((with_reducible show l9 _ _);cbv;(try simp only[and_true,true_and]))
 all_goals(try simp only[St.nat,St.int,Tr.get,Nat.reduceMod,Nat.reduceDiv,Nat.one_ne_zero,if_false,if_true,↓reduceIte]at *)
 all_goals try(repeat' with_reducible refine And.intro ?_ ?_)
 all_goals first|(refine retK h ?_;clear h;simp only[fin0])|(with_reducible refine Ob.mk ?_;clear h)|(clear h)
 all_goals(try simp only[eta0,RT.bytes]at *)
 all_goals grind(splits:=30) [j4,e9,a8w,b5w,a5q,a7a,a1V,n8,n5,inR]
theorem b2n:b9 Tryz.prog 100 a2T:=j5 j3 (ss := [(14,A5),(144,a5a),(145,a7J),(146,a6P),(147,b1L),(148,d0S),(149,b9b)]) ⟨F7,a5n,b5q,a8n,b9Y,d5C,c8m,trivial⟩ rfl rfl<|by
 intro(bs:Th (List Int)) (p:Th Int) ⟨(w:Th Wld),u⟩ K _ _ ho h
 obtain⟨w,rfl⟩:=b6 w
 have ht := @J4 w.map w.table w.servers.length
 have hs := @a3n w.map w.stores
 have hs4 := @b1A w.map w.stores
 have he:=b4A w
 refine⟨annL [(100,4,⟨Nat,[],fun σ k => σ.t 3 (vI fun _=>(k:Int)),fun _ k _=>k≤w.stores.length∧D0 w.map w.table w.servers.length=true∧B1 w.map w.stores=true∧C4 w.map w.rows=true∧m9 k (a2r w)=true,fun _ k _=>w.stores.length-k⟩)],noAnn,20,?_⟩
 cbv
 repeat' first|((with_reducible refine fun(k:Nat) => ?_);cbv)|((with_reducible intro _);cbv)|(with_reducible refine And.intro ?_ ?_)
 all_goals try((first|(with_reducible refine LoopIn.mk ((0:Nat)) ?_ ?_)|(with_reducible refine LoopBack.mk ((k+1:Nat)) ?_ ?_ ?_)) )
 all_goals try((with_reducible show l9 _ _);cbv;(try simp only[and_true,true_and]))
 all_goals(try simp only[St.nat,St.int,Tr.get,Nat.reduceMod,Nat.reduceDiv,Nat.one_ne_zero,if_false,if_true,↓reduceIte]at *)
 all_goals try(repeat' with_reducible refine And.intro ?_ ?_)
 all_goals first|(refine retK h ?_;clear h;simp only[fin0])|(with_reducible refine Ob.mk ?_;clear h)|(clear h)
 all_goals(try simp only[eta0,RT.bytes]at *)
 all_goals grind(splits:=30) [j4,e9,a7A,b8A,a2r,a1V,n8,n5]
noncomputable def U4:Sx.Spec:=⟨true,false,[.int .i64],[],fun _ p ⟨n,_⟩ => .asrt (fun _=>0≤p ()∧p ()≤1000000001000) (.all Int fun x => .all Int fun q => .asm (fun _=>0≤x∧(1≤n ()→x<n ())∧(n ()<1→x=0)∧q=p ()+1) (.ret (vI fun _=>x,fun _=>q)))⟩
noncomputable def c2q:Sx.Spec:=⟨true,false,[],[],fun _ p _ => .asrt (fun _=>0≤p ()∧p ()≤1000000000900) (.all Int fun x0 => .all Int fun x1 => .all Int fun x2 => .all Int fun x3 => .all Int fun x4 => .all Int fun q => .asm (fun _=>p ()≤q∧q≤p ()+20) (.ret (.agg [cI x0,cI x1,cI x2,cI x3,cI x4],fun _=>q)))⟩
theorem M4:b9 Tryz.prog 48 U4:=j5 j3 (ss := []) trivial rfl rfl<|by
 intro(bs:Th (List Int)) (p:Th Int) ⟨(n:Th Int),u⟩ K hb hp0 ho h
 obtain⟨n,rfl⟩:=b6 n;obtain⟨bs,rfl⟩:=b6 bs;obtain⟨p,rfl⟩:=b6 p
 obtain⟨hpre,h⟩:=h
 have hpre:0≤p∧p≤1000000001000:=hpre.out
 have hbl:=okB hb
 have hby:=d8c hb
 have hw1:IntKind.i64.wrap (p+1)=p+1:=e9 (by omega) (by omega)
 have hw2:IntKind.i64.wrap (p+1-1)=p:=by rw[e9 (by omega) (by omega)];omega
 have hw3:IntKind.i64.wrap (IntKind.i64.wrap (p * 7)+3)=p * 7+3:=by rw[e9 (n:=p * 7) (by omega) (by omega),e9 (by omega) (by omega)]
 have hwb : ∀i,i<bs.length → @LE.le Int _ 0 (IntKind.i64.wrap (nth .byte bs i)) ∧ @LE.le Int _ (IntKind.i64.wrap (nth .byte bs i)) 255:=fun i hi=>by
  have h1:=hby i hi
  have h2:IntKind.i64.wrap (nth .byte bs i)=nth .byte bs i:=e9 (Int.le_trans (by decide) h1.1) (Int.le_trans h1.2 (by decide))
  rw[h2]
  exact h1
 have hA : ¬n<1→p<(bs.length:Int)→0≤(IntKind.i64.wrap (nth .byte bs p.toNat)).tmod n∧(IntKind.i64.wrap (nth .byte bs p.toNat)).tmod n<n:=fun hn hlt=>tm (hwb _ (by omega)).1 (by omega)
 have hC : ¬(bs.length:Int)=0→(0≤p.tmod bs.length∧p.tmod bs.length<bs.length)∧(0≤(p * 7+3).tmod bs.length∧(p * 7+3).tmod bs.length<bs.length):=fun h0=>⟨tm (by omega) (by omega),tm (by omega) (by omega)⟩
 have hF : ¬n<1 → ¬(bs.length:Int)=0→_:=fun hn h0 => @d1i bs.length p (IntKind.i64.wrap (nth .byte bs (p.tmod bs.length).toNat)) (IntKind.i64.wrap (nth .byte bs ((p * 7+3).tmod bs.length).toNat)) n (by omega) (by omega) (by omega)
  (hwb _ (by have:=(hC h0).1;omega)) (hwb _ (by have:=(hC h0).2;omega)) (by omega) _ rfl
 refine⟨noAnn,noAnn,20,?_⟩
 cbv
 repeat' first|((with_reducible intro _);cbv)|(with_reducible refine And.intro ?_ ?_)
 all_goals first|(refine retK (h _ _ ?_) rfl;clear h)|(with_reducible refine Ob.mk ?_;clear h)|(clear h)
 all_goals(try simp only[eta0,RT.bytes]at *)
 all_goals(try simp only[hw1,hw2,hw3])
 all_goals first|omega|exact(hC (by assumption)).1|exact(hC (by assumption)).2|exact⟨by omega,fun _=>by omega,fun _=>trivial,trivial⟩|exact⟨by omega,fun _=>by omega,fun _=>trivial⟩ |
  exact⟨(hA (by assumption) (by assumption)).1,fun _=>(hA (by assumption) (by assumption)).2,fun hh=>absurd hh (by assumption),trivial⟩|exact⟨(hF (by assumption) (by assumption)).1,fun _=>(hF (by assumption) (by assumption)).2,fun hh=>absurd hh (by assumption),trivial⟩|grind[e9,tm]
theorem c5x:b9 Tryz.prog 135 c2q:=j5 j3 (ss := [(48,U4)]) ⟨M4,trivial⟩ rfl rfl<|by
 intro(bs:Th (List Int)) (p:Th Int) u K hb hp0 ho h
 obtain⟨bs,rfl⟩:=b6 bs;obtain⟨p,rfl⟩:=b6 p
 obtain⟨hpre,h⟩:=h
 have hpre:0≤p∧p≤1000000000900:=hpre.out
 refine⟨noAnn,noAnn,20,?_⟩
 cbv
 repeat' first|((with_reducible intro _);cbv)|(with_reducible refine And.intro ?_ ?_)
 all_goals first|(refine retK (h _ _ _ _ _ _ ?_) rfl;clear h)|(with_reducible refine Ob.mk ?_;clear h)|(clear h)
 all_goals(try simp only[eta0,RT.bytes]at *)
 all_goals first|omega|grind[e9,tm]
noncomputable def d6Y:Sx.Spec:=⟨false,true,[.list .ow,.row .ow],[[some .ow]],fun _ _ ⟨l,w,_⟩ => .asrt (fun _=>(l ()).length≤100000) (.ret (vW .ow fun _=>putO (l ()) (w ()),fun _=>0))⟩
theorem d7Z:b9 Tryz.prog 108 d6Y:=j5 j3 (ss := []) trivial rfl rfl<|by
 intro(bs:Th (List Int)) (p:Th Int) ⟨(l:Th (List OW)),(w:Th OW),u⟩ K _ _ ho h
 obtain⟨l,rfl⟩:=b6 l;obtain⟨w,rfl⟩:=b6 w
 obtain⟨hpre,h⟩:=h
 have hl:l.length≤100000:=hpre.out
 have hz := @c2D l w
 refine⟨annL [(108,4,⟨Nat,[⟨.tmp 5 0,some 9,.ow⟩],fun σ k=>((((σ.fg 9).t 7 (vI fun _=>(k:Int))).t 5 (vO 9 1)).t 6 (vB fun _=>A1 l w k)).row 9 1 .ow (fun _=>P8 l w k),fun _ k _=>k≤l.length,fun _ k _=>l.length-k⟩)],noAnn,20,?_⟩
 cbv
 repeat' first|((with_reducible refine fun(k:Nat) => ?_);cbv)|((with_reducible intro _);cbv)|(with_reducible refine And.intro ?_ ?_)
 all_goals try((first|(with_reducible refine LoopIn.mk ((0:Nat)) ?_ ?_)|(with_reducible refine LoopBack.mk ((k+1:Nat)) ?_ ?_ ?_)) )
 all_goals try((with_reducible show l9 _ _);cbv;(try simp only[and_true,true_and]))
 all_goals try(repeat' with_reducible refine And.intro ?_ ?_)
 all_goals first|(refine retK h ?_;clear h;simp only[fin0])|(with_reducible refine Ob.mk ?_;clear h)|(clear h)
 all_goals(try simp only[eta0,RT.bytes]at *)
 all_goals grind[b9x,b4l,b1W,b1V,b1U,b2a,b1Z,b1Y,b9A,b9z,b9y,j4]
noncomputable def b8W:Sx.Spec:=⟨false,true,[.map,.arb,.row .hld,.int .i64],[[some .msg]],fun _ _ ⟨m,t,h,s,_⟩ => .asrt (fun _=>V5 (m ()) (h ())=true∧0≤s ()∧s ()≤1) (.ret (vW .msg fun _=>a3X (m ()) (t ()) (h ()) (s ()),fun _=>0))⟩
theorem b7v:b9 Tryz.prog 250 b8W:=j5 j3 (ss := [(138,E6),(190,L5),(269,d0Y)]) ⟨V3,a0p,d1L,trivial⟩ rfl rfl<|by
 intro(bs:Th (List Int)) (p:Th Int) ⟨(m:Th PMap),(t:Th Arb),(h0:Th Hld),(s:Th Int),u⟩ K _ _ ho h
 obtain⟨m,rfl⟩:=b6 m;obtain⟨t,rfl⟩:=b6 t;obtain⟨h0,rfl⟩:=b6 h0;obtain⟨s,rfl⟩:=b6 s
 obtain⟨ha,h⟩:=h
 have ha:=ha.out
 have hh:V5 m h0=true:=ha.1
 have hs0:0≤s:=ha.2.1
 have hs1:s≤1:=ha.2.2
 clear ha
 have hf:=o7 (C2.1 hh).2.2
 have hw:=e9 (n:=1-s) (by omega) (by omega)
 have hz:=b2f m t h0 s
 have hy:=b3c m t h0 s
 have e1:=fun k => @c2G m t h0 s k
 have e2:=fun k => @c3z m t h0 s k
 have s1:=fun k => @b9K m t h0 s k
 have s2:=fun k => @c0U m t h0 s k
 refine⟨annL [(250,7,⟨Nat,[⟨.tmp 9 0,some 16,.msg⟩],fun σ k=>(((σ.fg 16).t 12 (vI fun _=>(k:Int))).t 9 (vO 16 1)).row 16 1 .msg (fun _=>a2c m t h0 s k),fun _ k _=>k≤(nth .pcls h0.state.outs s.toNat).length∧k≤4,fun _ k _=>4-k⟩),(250,12,⟨Nat,[⟨.tmp 9 0,some 16,.msg⟩],fun σ k=>(((σ.fg 16).t 14 (vI fun _=>(k:Int))).t 9 (vO 16 1)).row 16 1 .msg (fun _=>a2c m t h0 s 4++a3c m t h0 s k),fun _ k _=>k≤(o8 m h0 s).length∧k≤4,fun _ k _=>4-k⟩)],noAnn,20,?_⟩
 cbv
 repeat' first|((with_reducible refine fun(k:Nat) => ?_);cbv)|((with_reducible intro _);cbv)|(with_reducible refine And.intro ?_ ?_)
 all_goals try((first|(with_reducible refine LoopIn.mk ((0:Nat)) ?_ ?_)|(with_reducible refine LoopBack.mk ((k+1:Nat)) ?_ ?_ ?_)) )
 all_goals try((with_reducible show l9 _ _);cbv;(try simp only[and_true,true_and]))
 all_goals try(repeat' with_reducible refine And.intro ?_ ?_)
 all_goals first|(refine retK h ?_;clear h;simp only[fin0])|(with_reducible refine Ob.mk ?_;clear h)|(clear h)
 all_goals(try simp only[eta0,RT.bytes]at *)
 all_goals(try simp only[hw,hh,if_true]at *)
 all_goals grind(splits:=30) [j4,e9,b9J,c0T,c2H,c3B,a3X,x6,A2,K0]
theorem M0 (n:Nat):(NatCast.natCast n:Int)=(n:Int):=rfl
theorem tmw {a n:Int} (ha:0≤a) (hb:a≤1000000000000000) (hn:1≤n):0≤(IntKind.i64.wrap (a+1)).tmod n∧(IntKind.i64.wrap (a+1)).tmod n<n:=by
 rw[e9 (by omega) (by omega)]
 exact tm (by omega) hn
noncomputable def c1m (p:Th Int) (pre:Th Prop) (B n:Int):Rn (V×Th Int) :=   .asrt (fun _=>pre ()∧0≤p ()∧p ()≤B) (.all Int fun x0 => .all Int fun x1 => .all Int fun x2 => .all Int fun x3 => .all Int fun x4 => .all Int fun q => .asm (fun _=>p ()≤q∧q≤p ()+n) (.ret (.agg [cI x0,cI x1,cI x2,cI x3,cI x4],fun _=>q)))
noncomputable def c4Y:Sx.Spec:=⟨true,false,[.row .wld],[],fun _ p ⟨w,_⟩=>c1m p (fun _=>True) 999000001000 40⟩
noncomputable def c4U:Sx.Spec:=⟨true,false,[.row .wld],[],fun _ p ⟨w,_⟩=>c1m p (fun _=>True) 999000000000 60⟩
noncomputable def c4E:Sx.Spec:=⟨true,false,[.row .wld,.int .i64,.int .i64],[],fun _ p ⟨w,_⟩=>c1m p (fun _=>True) 999000000000 60⟩
noncomputable def d0T:Sx.Spec:=⟨true,false,[.row .wld,.int .i64],[],fun _ p ⟨w,_⟩=>c1m p (fun _=>(w ()).rows.length≤20∧1≤(w ()).servers.length) 999000000000 100⟩
noncomputable def b9c:Sx.Spec:=⟨true,false,[.row .wld,.int .i64],[],fun _ p ⟨w,_⟩=>c1m p (fun _=>(w ()).stores.length≤20) 999000000000 100⟩
theorem c3d:b9 Tryz.prog 189 c4Y:=j5 j3 (ss := [(135,c2q),(48,U4)]) ⟨c5x,M4,trivial⟩ rfl rfl<|by
 intro(bs:Th (List Int)) (p:Th Int) ⟨(w:Th Wld),u⟩ K hb hp0 ho h
 obtain⟨w,rfl⟩:=b6 w;obtain⟨bs,rfl⟩:=b6 bs;obtain⟨p,rfl⟩:=b6 p
 obtain⟨hpre,h⟩:=h
 have hpre:True∧0≤p∧p≤999000001000:=hpre.out
 have hl:=okL (ho.1 _ (.tail _ (.tail _ (.tail _ (.tail _ (.tail _ (.tail _ (.head _))))))))
 refine⟨noAnn,noAnn,20,?_⟩
 cbv
 repeat' first|((with_reducible intro _);cbv)|(with_reducible refine And.intro ?_ ?_)
 all_goals first|(refine retK (h _ _ _ _ _ _ ?_) rfl;clear h)|(with_reducible refine Ob.mk ?_;clear h)|(clear h)
 all_goals(try simp only[eta0,RT.bytes]at *)
 all_goals first|omega|grind[e9]
theorem d1G:b9 Tryz.prog 142 c4E:=j5 j3 (ss := [(48,U4)]) ⟨M4,trivial⟩ rfl rfl<|by
 intro(bs:Th (List Int)) (p:Th Int) ⟨(w:Th Wld),(k:Th Int),(what:Th Int),u⟩ K hb hp0 ho h
 obtain⟨w,rfl⟩:=b6 w;obtain⟨k,rfl⟩:=b6 k;obtain⟨what,rfl⟩:=b6 what;obtain⟨bs,rfl⟩:=b6 bs;obtain⟨p,rfl⟩:=b6 p
 obtain⟨hpre,h⟩:=h
 have hpre:True∧0≤p∧p≤999000000000:=hpre.out
 refine⟨noAnn,noAnn,20,?_⟩
 cbv
 repeat' first|((with_reducible intro _);cbv)|(with_reducible refine And.intro ?_ ?_)
 all_goals first|(refine retK (h _ _ _ _ _ _ ?_) rfl;clear h)|(with_reducible refine Ob.mk ?_;clear h)|(clear h)
 all_goals(try simp only[eta0,RT.bytes]at *)
 all_goals first|omega|grind[e9]
theorem d5F:b9 Tryz.prog 141 d0T:=j5 j3 (ss := [(48,U4),(189,c4Y),(190,L5)]) ⟨M4,c3d,a0p,trivial⟩ rfl rfl<|by
 intro(bs:Th (List Int)) (p:Th Int) ⟨(w:Th Wld),(k:Th Int),u⟩ K hb hp0 ho h
 obtain⟨w,rfl⟩:=b6 w;obtain⟨k,rfl⟩:=b6 k;obtain⟨bs,rfl⟩:=b6 bs;obtain⟨p,rfl⟩:=b6 p
 obtain⟨hpre,h⟩:=h
 have hpre:(w.rows.length≤20∧1≤w.servers.length)∧0≤p∧p≤999000000000:=hpre.out
 have hl:=okL (ho.1 _ (.tail _ (.tail _ (.tail _ (.tail _ (.tail _ (.tail _ (.tail _ (.head _)))))))))
 refine⟨annL [(141,3,⟨Th Int×Th Row×Th Int,[],fun σ g=>((σ.t 8 (.one (.att (.int .i64 g.1)))).a4D 8 0 (b3s g.2.1)).u9 0 1 (.att (.int .i64 g.2.2)),
   fun _ g _=>Ob fun _=>0≤g.1 ()∧g.1 ()≤w.rows.length∧p≤g.2.2 ()∧g.2.2 ()≤p+g.1 (),fun _ g _=>w.rows.length-(g.1 ()).toNat⟩),
  (141,19,⟨Th Int×Th Bool,[],fun σ g => σ.t 9 (.one (.att (.int .i64 g.1))),fun _ g _=>Ob fun _=>0≤g.1 ()∧g.1 ()≤w.net.length,fun _ g _=>w.net.length-(g.1 ()).toNat⟩)],noAnn,20,?_⟩
 cbv
 repeat' first|((with_reducible refine fun(g:Th Int×Th Row×Th Int) => ?_);obtain⟨i,r,q⟩:=g;obtain⟨i,rfl⟩:=b6 i;obtain⟨r,rfl⟩:=b6 r;obtain⟨q,rfl⟩:=b6 q;(with_reducible refine ImpB.out ?_);cbv;(with_reducible refine ImpB.mk ?_);intro hq;obtain⟨hq⟩:=hq)|((with_reducible refine fun(g:Th Int×Th Bool) => ?_);obtain⟨j,z⟩:=g;obtain⟨j,rfl⟩:=b6 j;obtain⟨z,rfl⟩:=b6 z;(with_reducible refine ImpB.out ?_);cbv;(with_reducible refine ImpB.mk ?_);intro hq;obtain⟨hq⟩:=hq)|((with_reducible intro _);cbv)|(with_reducible refine And.intro ?_ ?_)
 all_goals try((first|(with_reducible refine LoopIn.wf (fun σ => (σ.tmI 8,d7f σ 8,asI (σ.ce 0 1))) ?_ ?_)|(with_reducible refine LoopBack.wf (fun σ => (σ.tmI 8,d7f σ 8,asI (σ.ce 0 1))) ?_ ?_ ?_)|(with_reducible refine LoopIn.wf (fun σ => (σ.tmI 9,r7)) ?_ ?_)|(with_reducible refine LoopBack.wf (fun σ => (σ.tmI 9,r7)) ?_ ?_ ?_))<;>cbv)
 all_goals try(with_reducible show _∧_;(try simp only[and_true,true_and]))
 all_goals try(repeat' with_reducible refine And.intro ?_ ?_)
 all_goals try(with_reducible refine MeasB.mk ?_)
 all_goals first|(refine retK (h _ _ _ _ _ _ ?_) rfl;clear h)|(with_reducible refine Ob.mk ?_;clear h)|(clear h)
 all_goals(try simp only[eta0,RT.bytes]at *)
 all_goals(first|rfl|omega|grind[e9,tm,tmw])
theorem c8n:b9 Tryz.prog 143 b9c:=j5 j3 (ss := [(189,c4Y),(48,U4),(190,L5)]) ⟨c3d,M4,a0p,trivial⟩ rfl rfl<|by
 intro(bs:Th (List Int)) (p:Th Int) ⟨(w:Th Wld),(k:Th Int),u⟩ K hb hp0 ho h
 obtain⟨w,rfl⟩:=b6 w;obtain⟨k,rfl⟩:=b6 k;obtain⟨bs,rfl⟩:=b6 bs;obtain⟨p,rfl⟩:=b6 p
 obtain⟨hpre,h⟩:=h
 have hpre:w.stores.length≤20∧0≤p∧p≤999000000000:=hpre.out
 have hl:=okL (ho.1 _ (.tail _ (.tail _ (.tail _ (.tail _ (.tail _ (.tail _ (.head _))))))))
 refine⟨annL [(143,8,⟨Th Int×Th Int,[],fun σ g=>(σ.t 7 (.one (.att (.int .i64 g.1)))).t 8 (.one (.att (.int .i64 g.2))),
   fun _ g _=>Ob fun _=>0≤g.1 ()∧g.1 ()<w.rows.length∧0≤g.2 ()∧g.2 ()≤w.rows.length,fun _ g _=>w.rows.length-(g.2 ()).toNat⟩),
  (143,16,⟨Th Int×Th Int×Th Int,[],fun σ g=>((σ.t 9 (.one (.att (.int .i64 g.1)))).t 10 (.one (.att (.int .i64 g.2.1)))).u9 0 1 (.att (.int .i64 g.2.2)),
   fun _ g _=>Ob fun _=>0≤g.1 ()∧(w.stores.length=0∨g.1 ()<w.stores.length)∧0≤g.2.1 ()∧g.2.1 ()≤w.stores.length∧p≤g.2.2 ()∧g.2.2 ()≤p+10+g.2.1 (),fun _ g _=>w.stores.length-(g.2.1 ()).toNat⟩)],noAnn,20,?_⟩
 cbv
 repeat' first|((with_reducible refine fun(g:Th Int×Th Int×Th Int) => ?_);obtain⟨c,n,q⟩:=g;obtain⟨c,rfl⟩:=b6 c;obtain⟨n,rfl⟩:=b6 n;obtain⟨q,rfl⟩:=b6 q;(with_reducible refine ImpB.out ?_);cbv;(with_reducible refine ImpB.mk ?_);intro hq;obtain⟨hq⟩:=hq)|((with_reducible refine fun(g:Th Int×Th Int) => ?_);obtain⟨i,n⟩:=g;obtain⟨i,rfl⟩:=b6 i;obtain⟨n,rfl⟩:=b6 n;(with_reducible refine ImpB.out ?_);cbv;(with_reducible refine ImpB.mk ?_);intro hq;obtain⟨hq⟩:=hq)|((with_reducible intro _);cbv)|(with_reducible refine And.intro ?_ ?_)
 all_goals try((first|(with_reducible refine LoopIn.wf (fun σ => (σ.tmI 9,σ.tmI 10,asI (σ.ce 0 1))) ?_ ?_)|(with_reducible refine LoopBack.wf (fun σ => (σ.tmI 9,σ.tmI 10,asI (σ.ce 0 1))) ?_ ?_ ?_)|(with_reducible refine LoopIn.wf (fun σ => (σ.tmI 7,σ.tmI 8)) ?_ ?_)|(with_reducible refine LoopBack.wf (fun σ => (σ.tmI 7,σ.tmI 8)) ?_ ?_ ?_))<;>cbv)
 all_goals try(with_reducible show _∧_;(try simp only[and_true,true_and]))
 all_goals try(repeat' with_reducible refine And.intro ?_ ?_)
 all_goals try(with_reducible refine MeasB.mk ?_)
 all_goals first|(refine retK (h _ _ _ _ _ _ ?_) rfl;clear h)|(with_reducible refine Ob.mk ?_;clear h)|(clear h)
 all_goals(try simp only[eta0,RT.bytes]at *)
 all_goals(try dsimp only[RT.ty]at *)
 all_goals(try simp only[M0]at *)
 all_goals(first|rfl|omega|grind[e9]|(have hq2 := @tmw i w.rows.length (by omega) (by omega) (by omega);have hw := @e9 (n+1) (by omega) (by omega);rw[hw];exact⟨hq2.1,hq2.2,by omega,by omega⟩) |
  (have hq2 := @tmw c w.stores.length (by omega) (by omega) (by omega);have hw := @e9 (n+1) (by omega) (by omega);rw[hw];exact⟨hq2.1,.inr hq2.2,by omega,by omega,by omega,by omega⟩))
end Go.Proofs.YtmnapekfeenknaaGreat
