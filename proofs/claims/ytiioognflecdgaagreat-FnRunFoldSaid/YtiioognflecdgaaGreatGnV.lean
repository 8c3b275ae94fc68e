/-
  Contracts: a server hears, the reference's way.
-/
import Derived.Test.YtiioognflecdgaaGreatGnC
import Derived.Test.YtiioognflecdgaaGreatGnJ
import Derived.Test.YtiioognflecdgaaGreatInsH
import Derived.Test.YtiioognflecdgaaGreatM2
import Derived.Test.YtiioognflecdgaaGreatM3
import Derived.Test.YtiioognflecdgaaGreatInsW
import Derived.Test.YtiioognflecdgaaGreatFnFb
set_option linter.unusedVariables false
set_option linter.unusedSimpArgs false
set_option maxRecDepth 100000
set_option maxHeartbeats 8000000
namespace Go.Proofs.YtiioognflecdgaaGreat
open Go.Sx Go.Proofs Go.Mo
noncomputable def b2e:Sx.Spec:=⟨false,false,[.map,.row .srv,.list .sto,.arb,.int .i64,.row .msg],[[none,some .hld,some .gst],[some .sto],[some .msg]],fun _ _ ⟨m,s,st,t,v,x,_⟩ =>
 .ret (.tup [rAs (a5j fun _=>(E4 (m ()) (s ()) (st ()) (t ()) (v ()) (x ())).srv),vL .sto fun _=>(E4 (m ()) (s ()) (st ()) (t ()) (v ()) (x ())).stores,vL .msg fun _=>(E4 (m ()) (s ()) (st ()) (t ()) (v ()) (x ())).out],fun _=>0)⟩
theorem b8D {t:RT} {l:Th (List t.ty)} {i:Th Int} {e:Th t.ty} {y:List t.ty}:(B5 t l i e=fun _=>y)↔(l ()).set (i ()).toNat (e ())=y:=⟨fun h=>congrFun h (),fun h=>by funext u;exact h⟩
theorem d2Y {m:PMap} {t:Arb} {x:Msg} {n:Int} (hs:x.side=0∨x.side=1) (hn:1≤n):gotS m t x.cell x.side n=R0 m t x n:=by
 have hw:IntKind.i64.wrap (1-x.side)=1-x.side:=b8 (by omega) (by omega)
 have h0 : ¬n=0:=by omega
 simp only[gotS,R0,hw,h0,or_false]
theorem b0G {m:PMap} {s:Srv} {st:List Sto} {v:Int} {x:Msg} (h1:A4 m s=true) (h2:z7 m st=true) (h4:u9 m v x=true) :
  s.holds.length≤9∧(∀h,a4o s.holds h=P0 s.holds h)∧0≤x.cell∧x.cell<st.length∧A3 m (nth .sto st x.cell.toNat)=true ∧
  (u5 s x.cell=true→P1 m (e9 s x.cell)=true∧(e9 s x.cell).state.cell=x.cell∧(e9 s x.cell).state.ins.length=2) ∧
  (x.kind=7→a6A m s.n6 x.gst=a2L s.n6 x.gst)∧(x.kind=1→1≤x.n∧x.n≤900)∧(x.kind=5→(x.side=0∨x.side=1)∧0≤x.pcl.n) ∧
  (u5 s x.cell=true→x.side=0∨x.side=1 → @LE.le Int _ 0 (nth .int (e9 s x.cell).state.ins x.side.toNat) ∧ @LE.le Int _ (nth .int (e9 s x.cell).state.ins x.side.toNat) 5000):=by
 have hm4:=h4
 have hf:=a5x h1
 have hs:=b0C h1
 simp only[u9,decide_eq_true_eq]at h4
 obtain⟨hm,_,_,hc0,hc1,hkd⟩:=h4
 unfold z7 at h2
 rw[Bool.and_eq_true]at h2
 obtain⟨ha,hb⟩:=h2
 simp only[decide_eq_true_eq]at ha
 have hcell:x.cell<st.length:=by rw[ha.2];exact hc1
 have hk:=(l6 _ _).1 hb x.cell.toNat (by omega)
 simp only[a1K,Bool.and_eq_true]at hk
 have hold:u5 s x.cell=true→P1 m (e9 s x.cell)=true∧(e9 s x.cell).state.cell=x.cell∧(e9 s x.cell).state.ins.length=2:=fun hh=>by
  simp only[u5,decide_eq_true_eq]at hh
  have hlt:=a1s s.holds x.cell
  have ho:=a4O h1 (k:=(j5 s.holds x.cell).toNat) (by omega)
  have hcc:=a2c hh
  have hff:=o7 (A6.1 ho).2.2
  rw[e9,if_pos hh]
  exact⟨ho,hcc,hff.2.2.2.2.2.2.2.2⟩
 refine⟨by omega,fun h=>b9O hs,hc0,hcell,hk.1,hold,fun hk7 => ?_,fun hk1 => ?_,fun hk5 => ?_,fun hh hsd => ?_⟩
 ·have hg:D2 m s.n6=true:=by
   simp only[A4,U1,Bool.and_eq_true]at h1
   exact h1.1.1.2
  have hx:a0o m x.gst=true:=by
   simp only[G8,decide_eq_true_eq]at hkd
   grind
  exact b9U hg hx
 ·simp only[G8,decide_eq_true_eq]at hkd
  grind
 ·have h5:=a1X hm4 (.inl hk5)
  have h6:=(I6 h5).1
  have h7:=c1O hm4 hk5
  refine⟨h6,?_⟩
  simp only[K0,decide_eq_true_eq]at h7
  omega
 ·exact b9I (A6.1 (hold hh).1).2.2 (by omega)
theorem b9i:b6 Tryz.prog 183 b2e:=j3 b9 (ss := [(100,a6Z),(50,a5G),(49,a3r),(101,a7b),(95,a4b),(93,a3q),(78,a0I),(233,a9q),(235,d1z),(209,b6d),(236,Z6),(238,b2j),(239,a9i),(237,sGot)]) ⟨a9Y,b2C,a3E,b0a,a7r,a8d,a4V,b0b,c3X,c3R,a2D,b6O,a6l,c7d,trivial⟩ rfl rfl<|by
 intro(bs:Th (List Int)) (p:Th Int) ⟨(m:Th PMap),(s:Th Srv),(st:Th (List Sto)),(t:Th Arb),(v:Th Int),(x:Th Msg),u⟩ K _ _ ho h
 obtain⟨m,rfl⟩:=a8 m;obtain⟨s,rfl⟩:=a8 s;obtain⟨st,rfl⟩:=a8 st;obtain⟨t,rfl⟩:=a8 t;obtain⟨v,rfl⟩:=a8 v;obtain⟨x,rfl⟩:=a8 x
 refine⟨noAnn,noAnn,20,?_⟩
 have hf := @b0G m s st v x
 cbv
 repeat' first|((with_reducible intro _);cbv)|(with_reducible refine And.intro ?_ ?_)
 all_goals first|(refine retK h ?_;clear h;simp only[fin0])|(with_reducible refine Ob.mk ?_;clear h)|(clear h)
 all_goals(try simp only[eta0,RT.bytes]at *)
 all_goals(try simp only[b8D]at *)
 all_goals(try clear bs p u K)
 all_goals(try simp only[Bool.not_eq_true',Bool.not_eq_false',bne_iff_ne,ne_eq]at *)
 all_goals(grind(splits:=40) [E4,n5,H5,V2,V1,B1,G9,a4k,a6q,A8,G5,u6,d2Y,b8,j4])
noncomputable def G0:Sx.Spec:=⟨true,false,[.int .i64],[],fun _ p ⟨n,_⟩ => .asrt (fun _=>0≤p ()∧p ()≤1000000001000) (.all Int fun x => .all Int fun q => .asm (fun _=>0≤x∧(1≤n ()→x<n ())∧(n ()<1→x=0)∧q=p ()+1) (.ret (vI fun _=>x,fun _=>q)))⟩
noncomputable def a7a:Sx.Spec:=⟨true,false,[],[],fun _ p _ => .asrt (fun _=>0≤p ()∧p ()≤1000000000900) (.all Int fun x0 => .all Int fun x1 => .all Int fun x2 => .all Int fun x3 => .all Int fun x4 => .all Int fun q => .asm (fun _=>p ()≤q∧q≤p ()+20) (.ret (.agg [cI x0,cI x1,cI x2,cI x3,cI x4],fun _=>q)))⟩
theorem C1:b6 Tryz.prog 21 G0:=j3 b9 (ss := []) trivial rfl rfl<|by
 intro(bs:Th (List Int)) (p:Th Int) ⟨(n:Th Int),u⟩ K hb hp0 ho h
 obtain⟨n,rfl⟩:=a8 n;obtain⟨bs,rfl⟩:=a8 bs;obtain⟨p,rfl⟩:=a8 p
 obtain⟨hpre,h⟩:=h
 have hpre:0≤p∧p≤1000000001000:=hpre.out
 have hbl:=okB hb
 have hby:=d2I hb
 have hw1:IntKind.i64.wrap (p+1)=p+1:=b8 (by omega) (by omega)
 have hw2:IntKind.i64.wrap (p+1-1)=p:=by rw[b8 (by omega) (by omega)];omega
 have hw3:IntKind.i64.wrap (IntKind.i64.wrap (p * 7)+3)=p * 7+3:=by rw[b8 (n:=p * 7) (by omega) (by omega),b8 (by omega) (by omega)]
 have hwb : ∀i,i<bs.length → @LE.le Int _ 0 (IntKind.i64.wrap (nth .byte bs i)) ∧ @LE.le Int _ (IntKind.i64.wrap (nth .byte bs i)) 255:=fun i hi=>by
  have h1:=hby i hi
  have h2:IntKind.i64.wrap (nth .byte bs i)=nth .byte bs i:=b8 (Int.le_trans (by decide) h1.1) (Int.le_trans h1.2 (by decide))
  rw[h2]
  exact h1
 have hA : ¬n<1→p<(bs.length:Int)→0≤(IntKind.i64.wrap (nth .byte bs p.toNat)).tmod n∧(IntKind.i64.wrap (nth .byte bs p.toNat)).tmod n<n:=fun hn hlt=>tm (hwb _ (by omega)).1 (by omega)
 have hC : ¬(bs.length:Int)=0→(0≤p.tmod bs.length∧p.tmod bs.length<bs.length)∧(0≤(p * 7+3).tmod bs.length∧(p * 7+3).tmod bs.length<bs.length):=fun h0=>⟨tm (by omega) (by omega),tm (by omega) (by omega)⟩
 have hF : ¬n<1 → ¬(bs.length:Int)=0→_:=fun hn h0 => @c6C bs.length p (IntKind.i64.wrap (nth .byte bs (p.tmod bs.length).toNat)) (IntKind.i64.wrap (nth .byte bs ((p * 7+3).tmod bs.length).toNat)) n (by omega) (by omega) (by omega)
  (hwb _ (by have:=(hC h0).1;omega)) (hwb _ (by have:=(hC h0).2;omega)) (by omega) _ rfl
 refine⟨noAnn,noAnn,20,?_⟩
 cbv
 repeat' first|((with_reducible intro _);cbv)|(with_reducible refine And.intro ?_ ?_)
 all_goals first|(refine retK (h _ _ ?_) rfl;clear h)|(with_reducible refine Ob.mk ?_;clear h)|(clear h)
 all_goals(try simp only[eta0,RT.bytes]at *)
 all_goals(try simp only[hw1,hw2,hw3])
 all_goals first|omega|exact(hC (by assumption)).1|exact(hC (by assumption)).2|exact⟨by omega,fun _=>by omega,fun _=>trivial,trivial⟩|exact⟨by omega,fun _=>by omega,fun _=>trivial⟩ |
  exact⟨(hA (by assumption) (by assumption)).1,fun _=>(hA (by assumption) (by assumption)).2,fun hh=>absurd hh (by assumption),trivial⟩|exact⟨(hF (by assumption) (by assumption)).1,fun _=>(hF (by assumption) (by assumption)).2,fun hh=>absurd hh (by assumption),trivial⟩|grind[b8,tm]
theorem a6j:b6 Tryz.prog 129 a7a:=j3 b9 (ss := [(21,G0)]) ⟨C1,trivial⟩ rfl rfl<|by
 intro(bs:Th (List Int)) (p:Th Int) u K hb hp0 ho h
 obtain⟨bs,rfl⟩:=a8 bs;obtain⟨p,rfl⟩:=a8 p
 obtain⟨hpre,h⟩:=h
 have hpre:0≤p∧p≤1000000000900:=hpre.out
 refine⟨noAnn,noAnn,20,?_⟩
 cbv
 repeat' first|((with_reducible intro _);cbv)|(with_reducible refine And.intro ?_ ?_)
 all_goals first|(refine retK (h _ _ _ _ _ _ ?_) rfl;clear h)|(with_reducible refine Ob.mk ?_;clear h)|(clear h)
 all_goals(try simp only[eta0,RT.bytes]at *)
 all_goals first|omega|grind[b8,tm]
noncomputable def b6c:Sx.Spec:=⟨false,true,[.map,.book,.int .i64,.row .msg],[[some .row],[none]],fun _ _ ⟨m,l,s,x,_⟩ => .ret (.tup [oAs [.list .row fun _=>(a0S (m ()) (l ()) (s ()) (x ())).b],vB fun _=>(a0S (m ()) (l ()) (s ()) (x ())).ok],fun _=>0)⟩
theorem b9k:b6 Tryz.prog 207 b6c:=j3 b9 (ss := [(51,a4R),(101,a7b),(94,a2A),(181,U4)]) ⟨a6h,b0a,a4j,b4u,trivial⟩ rfl rfl<|by
 intro(bs:Th (List Int)) (p:Th Int) ⟨(m:Th PMap),(l:Th (List Row)),(s:Th Int),(x:Th Msg),u⟩ K _ _ ho h
 obtain⟨m,rfl⟩:=a8 m;obtain⟨l,rfl⟩:=a8 l;obtain⟨s,rfl⟩:=a8 s;obtain⟨x,rfl⟩:=a8 x
 have hp:=a1A l x.ord.who
 have hlt0 : ¬k9 l x.ord.who = -1→(k9 l x.ord.who).toNat<l.length:=fun h=>by omega
 have hq:=fun(h:A7 m l=true)=>b2Q h
 have hr := @b8g (nth .row l (k9 l x.ord.who).toNat).cell m.cells
 refine⟨noAnn,noAnn,20,?_⟩
 cbv
 repeat' first|((with_reducible intro _);cbv)|(with_reducible refine And.intro ?_ ?_)
 all_goals first|(refine retK h ?_;clear h;simp only[fin0])|(with_reducible refine Ob.mk ?_;clear h)|(clear h)
 all_goals(try simp only[eta0,RT.bytes]at *)
 all_goals(try have hlt:=hlt0 (by assumption))
 all_goals(try(have hz:=hq (by assumption);obtain⟨hm1,hm2,hc⟩:=hz))
 all_goals(try have hw:=b8 (n:=(nth .row l (k9 l x.ord.who).toNat).cell+1) (by have:=hc _ hlt;omega) (by have:=hc _ hlt;omega))
 all_goals(try simp only[m6 .row hlt,List.set_set,List.length_set]at *)
 all_goals(try simp only[a4Q,m6 .row hlt,List.set_set,List.length_set,b5u,a8X]at *)
 all_goals(try simp only[hw]at *)
 all_goals(try simp only[a0S,z8,Mo.rowAt]at *)
 all_goals(try generalize ((nth RT.row l (k9 l x.ord.who).toNat).cell+1).tmod m.cells=q at *)
 all_goals grind[u6,a6c]
theorem M1 (n:Nat):(NatCast.natCast n:Int)=(n:Int):=rfl
theorem tmw {a n:Int} (ha:0≤a) (hb:a≤1000000000000000) (hn:1≤n):0≤(IntKind.i64.wrap (a+1)).tmod n∧(IntKind.i64.wrap (a+1)).tmod n<n:=by
 rw[b8 (by omega) (by omega)]
 exact tm (by omega) hn
noncomputable def b7X (p:Th Int) (pre:Th Prop) (B n:Int):Rn (V×Th Int) :=   .asrt (fun _=>pre ()∧0≤p ()∧p ()≤B) (.all Int fun x0 => .all Int fun x1 => .all Int fun x2 => .all Int fun x3 => .all Int fun x4 => .all Int fun q => .asm (fun _=>p ()≤q∧q≤p ()+n) (.ret (.agg [cI x0,cI x1,cI x2,cI x3,cI x4],fun _=>q)))
noncomputable def c1i:Sx.Spec:=⟨true,false,[.row .wld],[],fun _ p ⟨w,_⟩=>b7X p (fun _=>True) 999000001000 40⟩
noncomputable def b3S:Sx.Spec:=⟨true,false,[.row .wld],[],fun _ p ⟨w,_⟩=>b7X p (fun _=>True) 999000000000 60⟩
noncomputable def b3O:Sx.Spec:=⟨true,false,[.row .wld,.int .i64,.int .i64],[],fun _ p ⟨w,_⟩=>b7X p (fun _=>True) 999000000000 60⟩
noncomputable def b8H:Sx.Spec:=⟨true,false,[.row .wld,.int .i64],[],fun _ p ⟨w,_⟩=>b7X p (fun _=>(w ()).rows.length≤20∧1≤(w ()).servers.length) 999000000000 100⟩
noncomputable def a9o:Sx.Spec:=⟨true,false,[.row .wld,.int .i64],[],fun _ p ⟨w,_⟩=>b7X p (fun _=>(w ()).stores.length≤20) 999000000000 100⟩
theorem b9v:b6 Tryz.prog 108 c1i:=j3 b9 (ss := [(129,a7a),(21,G0)]) ⟨a6j,C1,trivial⟩ rfl rfl<|by
 intro(bs:Th (List Int)) (p:Th Int) ⟨(w:Th Wld),u⟩ K hb hp0 ho h
 obtain⟨w,rfl⟩:=a8 w;obtain⟨bs,rfl⟩:=a8 bs;obtain⟨p,rfl⟩:=a8 p
 obtain⟨hpre,h⟩:=h
 have hpre:True∧0≤p∧p≤999000001000:=hpre.out
 have hl:=okL (ho.1 _ (.tail _ (.tail _ (.tail _ (.tail _ (.tail _ (.tail _ (.head _))))))))
 refine⟨noAnn,noAnn,20,?_⟩
 cbv
 repeat' first|((with_reducible intro _);cbv)|(with_reducible refine And.intro ?_ ?_)
 all_goals first|(refine retK (h _ _ _ _ _ _ ?_) rfl;clear h)|(with_reducible refine Ob.mk ?_;clear h)|(clear h)
 all_goals(try simp only[eta0,RT.bytes]at *)
 all_goals first|omega|grind[b8]
theorem b6J:b6 Tryz.prog 60 b3O:=j3 b9 (ss := [(21,G0)]) ⟨C1,trivial⟩ rfl rfl<|by
 intro(bs:Th (List Int)) (p:Th Int) ⟨(w:Th Wld),(k:Th Int),(what:Th Int),u⟩ K hb hp0 ho h
 obtain⟨w,rfl⟩:=a8 w;obtain⟨k,rfl⟩:=a8 k;obtain⟨what,rfl⟩:=a8 what;obtain⟨bs,rfl⟩:=a8 bs;obtain⟨p,rfl⟩:=a8 p
 obtain⟨hpre,h⟩:=h
 have hpre:True∧0≤p∧p≤999000000000:=hpre.out
 refine⟨noAnn,noAnn,20,?_⟩
 cbv
 repeat' first|((with_reducible intro _);cbv)|(with_reducible refine And.intro ?_ ?_)
 all_goals first|(refine retK (h _ _ _ _ _ _ ?_) rfl;clear h)|(with_reducible refine Ob.mk ?_;clear h)|(clear h)
 all_goals(try simp only[eta0,RT.bytes]at *)
 all_goals first|omega|grind[b8]
theorem c1F:b6 Tryz.prog 59 b8H:=j3 b9 (ss := [(21,G0),(108,c1i),(77,E6)]) ⟨C1,b9v,Q3,trivial⟩ rfl rfl<|by
 intro(bs:Th (List Int)) (p:Th Int) ⟨(w:Th Wld),(k:Th Int),u⟩ K hb hp0 ho h
 obtain⟨w,rfl⟩:=a8 w;obtain⟨k,rfl⟩:=a8 k;obtain⟨bs,rfl⟩:=a8 bs;obtain⟨p,rfl⟩:=a8 p
 obtain⟨hpre,h⟩:=h
 have hpre:(w.rows.length≤20∧1≤w.servers.length)∧0≤p∧p≤999000000000:=hpre.out
 have hl:=okL (ho.1 _ (.tail _ (.tail _ (.tail _ (.tail _ (.tail _ (.tail _ (.tail _ (.head _)))))))))
 refine⟨annL [(59,3,⟨Th Int×Th Row×Th Int,[],fun σ g=>((σ.t 8 (.one (.att (.int .i64 g.1)))).a3Q 8 0 (b0V g.2.1)).v5 0 1 (.att (.int .i64 g.2.2)),
   fun _ g _=>Ob fun _=>0≤g.1 ()∧g.1 ()≤w.rows.length∧p≤g.2.2 ()∧g.2.2 ()≤p+g.1 (),fun _ g _=>w.rows.length-(g.1 ()).toNat⟩),
  (59,19,⟨Th Int×Th Bool,[],fun σ g => σ.t 9 (.one (.att (.int .i64 g.1))),fun _ g _=>Ob fun _=>0≤g.1 ()∧g.1 ()≤w.net.length,fun _ g _=>w.net.length-(g.1 ()).toNat⟩)],noAnn,20,?_⟩
 cbv
 repeat' first|((with_reducible refine fun(g:Th Int×Th Row×Th Int) => ?_);obtain⟨i,r,q⟩:=g;obtain⟨i,rfl⟩:=a8 i;obtain⟨r,rfl⟩:=a8 r;obtain⟨q,rfl⟩:=a8 q;(with_reducible refine ImpB.out ?_);cbv;(with_reducible refine ImpB.mk ?_);intro hq;obtain⟨hq⟩:=hq)|((with_reducible refine fun(g:Th Int×Th Bool) => ?_);obtain⟨j,z⟩:=g;obtain⟨j,rfl⟩:=a8 j;obtain⟨z,rfl⟩:=a8 z;(with_reducible refine ImpB.out ?_);cbv;(with_reducible refine ImpB.mk ?_);intro hq;obtain⟨hq⟩:=hq)|((with_reducible intro _);cbv)|(with_reducible refine And.intro ?_ ?_)
 all_goals try((first|(with_reducible refine LoopIn.wf (fun σ => (σ.tmI 8,d1J σ 8,asI (σ.ce 0 1))) ?_ ?_)|(with_reducible refine LoopBack.wf (fun σ => (σ.tmI 8,d1J σ 8,asI (σ.ce 0 1))) ?_ ?_ ?_)|(with_reducible refine LoopIn.wf (fun σ => (σ.tmI 9,B6)) ?_ ?_)|(with_reducible refine LoopBack.wf (fun σ => (σ.tmI 9,B6)) ?_ ?_ ?_))<;>cbv)
 all_goals try(with_reducible show _∧_;(try simp only[and_true,true_and]))
 all_goals try(repeat' with_reducible refine And.intro ?_ ?_)
 all_goals try(with_reducible refine MeasB.mk ?_)
 all_goals first|(refine retK (h _ _ _ _ _ _ ?_) rfl;clear h)|(with_reducible refine Ob.mk ?_;clear h)|(clear h)
 all_goals(try simp only[eta0,RT.bytes]at *)
 all_goals(first|rfl|omega|grind[b8,tm,tmw])
theorem b2E:b6 Tryz.prog 61 a9o:=j3 b9 (ss := [(108,c1i),(21,G0),(77,E6)]) ⟨b9v,C1,Q3,trivial⟩ rfl rfl<|by
 intro(bs:Th (List Int)) (p:Th Int) ⟨(w:Th Wld),(k:Th Int),u⟩ K hb hp0 ho h
 obtain⟨w,rfl⟩:=a8 w;obtain⟨k,rfl⟩:=a8 k;obtain⟨bs,rfl⟩:=a8 bs;obtain⟨p,rfl⟩:=a8 p
 obtain⟨hpre,h⟩:=h
 have hpre:w.stores.length≤20∧0≤p∧p≤999000000000:=hpre.out
 have hl:=okL (ho.1 _ (.tail _ (.tail _ (.tail _ (.tail _ (.tail _ (.tail _ (.head _))))))))
 refine⟨annL [(61,8,⟨Th Int×Th Int,[],fun σ g=>(σ.t 7 (.one (.att (.int .i64 g.1)))).t 8 (.one (.att (.int .i64 g.2))),
   fun _ g _=>Ob fun _=>0≤g.1 ()∧g.1 ()<w.rows.length∧0≤g.2 ()∧g.2 ()≤w.rows.length,fun _ g _=>w.rows.length-(g.2 ()).toNat⟩),
  (61,16,⟨Th Int×Th Int×Th Int,[],fun σ g=>((σ.t 9 (.one (.att (.int .i64 g.1)))).t 10 (.one (.att (.int .i64 g.2.1)))).v5 0 1 (.att (.int .i64 g.2.2)),
   fun _ g _=>Ob fun _=>0≤g.1 ()∧(w.stores.length=0∨g.1 ()<w.stores.length)∧0≤g.2.1 ()∧g.2.1 ()≤w.stores.length∧p≤g.2.2 ()∧g.2.2 ()≤p+10+g.2.1 (),fun _ g _=>w.stores.length-(g.2.1 ()).toNat⟩)],noAnn,20,?_⟩
 cbv
 repeat' first|((with_reducible refine fun(g:Th Int×Th Int×Th Int) => ?_);obtain⟨c,n,q⟩:=g;obtain⟨c,rfl⟩:=a8 c;obtain⟨n,rfl⟩:=a8 n;obtain⟨q,rfl⟩:=a8 q;(with_reducible refine ImpB.out ?_);cbv;(with_reducible refine ImpB.mk ?_);intro hq;obtain⟨hq⟩:=hq)|((with_reducible refine fun(g:Th Int×Th Int) => ?_);obtain⟨i,n⟩:=g;obtain⟨i,rfl⟩:=a8 i;obtain⟨n,rfl⟩:=a8 n;(with_reducible refine ImpB.out ?_);cbv;(with_reducible refine ImpB.mk ?_);intro hq;obtain⟨hq⟩:=hq)|((with_reducible intro _);cbv)|(with_reducible refine And.intro ?_ ?_)
 all_goals try((first|(with_reducible refine LoopIn.wf (fun σ => (σ.tmI 9,σ.tmI 10,asI (σ.ce 0 1))) ?_ ?_)|(with_reducible refine LoopBack.wf (fun σ => (σ.tmI 9,σ.tmI 10,asI (σ.ce 0 1))) ?_ ?_ ?_)|(with_reducible refine LoopIn.wf (fun σ => (σ.tmI 7,σ.tmI 8)) ?_ ?_)|(with_reducible refine LoopBack.wf (fun σ => (σ.tmI 7,σ.tmI 8)) ?_ ?_ ?_))<;>cbv)
 all_goals try(with_reducible show _∧_;(try simp only[and_true,true_and]))
 all_goals try(repeat' with_reducible refine And.intro ?_ ?_)
 all_goals try(with_reducible refine MeasB.mk ?_)
 all_goals first|(refine retK (h _ _ _ _ _ _ ?_) rfl;clear h)|(with_reducible refine Ob.mk ?_;clear h)|(clear h)
 all_goals(try simp only[eta0,RT.bytes]at *)
 all_goals(try dsimp only[RT.ty]at *)
 all_goals(try simp only[M1]at *)
 all_goals(first|rfl|omega|grind[b8]|(have hq2 := @tmw i w.rows.length (by omega) (by omega) (by omega);have hw := @b8 (n+1) (by omega) (by omega);rw[hw];exact⟨hq2.1,hq2.2,by omega,by omega⟩) |
  (have hq2 := @tmw c w.stores.length (by omega) (by omega) (by omega);have hw := @b8 (n+1) (by omega) (by omega);rw[hw];exact⟨hq2.1,.inr hq2.2,by omega,by omega,by omega,by omega⟩))
end Go.Proofs.YtiioognflecdgaaGreat
