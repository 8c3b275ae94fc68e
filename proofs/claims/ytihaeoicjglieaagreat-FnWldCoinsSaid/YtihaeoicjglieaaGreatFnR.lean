/-
  Contracts: a ghost put among others, the reference's way.
-/
import Derived.Test.YtihaeoicjglieaaGreatInsW
import Derived.Test.YtihaeoicjglieaaGreatM2
import Derived.Test.YtihaeoicjglieaaGreatGnC
import Derived.Test.YtihaeoicjglieaaGreatGrT
import Derived.Test.YtihaeoicjglieaaGreatM3
import Derived.Test.YtihaeoicjglieaaGreatFnQ
import Derived.Test.YtihaeoicjglieaaGreatFnYs
set_option linter.unusedVariables false
set_option linter.unusedSimpArgs false
set_option maxRecDepth 100000
set_option maxHeartbeats 8000000
namespace Go.Proofs.YtihaeoicjglieaaGreat
open Go.Sx Go.Proofs Go.Mo
noncomputable def b8n:Sx.Spec:=⟨false,true,[.map,.list .gst,.row .gst],[[some .gst]],fun _ _ ⟨m,l,g,_⟩ => .ret (vW .gst fun _=>a7V (m ()) (l ()) (g ()),fun _=>0)⟩
theorem c7a:b8 Tryz.prog 240 b8n:=j4 e9 (ss := [(205,b0W),(209,a6h),(245,a2U)]) ⟨b4t,b1C,b9n,trivial⟩ rfl rfl<|by
 intro(bs:Th (List Int)) (p:Th Int) ⟨(m:Th PMap),(l:Th (List Gst)),(g:Th Gst),u⟩ K _ _ ho h
 obtain⟨m,rfl⟩:=b6 m;obtain⟨l,rfl⟩:=b6 l;obtain⟨g,rfl⟩:=b6 g
 have hl:=okB (ho.2.1 _ (.head _))
 have hz:=d1R l g
 have hlong:20<l.length→D9 m l=false:=fun h=>a9b h
 refine⟨annL [(240,6,⟨Nat,[⟨.tmp 7 0,some 23,.gst⟩],fun σ k=>((((σ.fg 23).t 9 (vI fun _=>(k:Int))).t 7 (vO 23 1)).t 8 (vB fun _=>(gpTo l g k).d)).row 23 1 .gst (fun _=>(gpTo l g k).l),fun _ k _=>k≤l.length∧l.length≤20∧D9 m l=true∧a1d m g=true,fun _ k _=>l.length-k⟩)],noAnn,20,?_⟩
 cbv
 repeat' first|((with_reducible refine fun(k:Nat) => ?_);cbv)|((with_reducible intro _);cbv)|(with_reducible refine And.intro ?_ ?_)
 all_goals try((first|(with_reducible refine LoopIn.mk ((0:Nat)) ?_ ?_)|(with_reducible refine LoopBack.mk ((k+1:Nat)) ?_ ?_ ?_)) )
 all_goals try((with_reducible show m0 _ _);cbv;(try simp only[and_true,true_and]))
 all_goals try(repeat' with_reducible refine And.intro ?_ ?_)
 all_goals first|(refine retK h ?_;clear h;simp only[fin0])|(with_reducible refine Ob.mk ?_;clear h)|(clear h)
 all_goals(try simp only[eta0,RT.bytes]at *)
 all_goals grind(splits:=30) [j3,e8,c7X,a9d,T6,c5a,a7V]
def gotS (m:PMap) (t:Arb) (cell side n:Int):List Msg :=
 if o9 t (b7 m cell side) = -1∨n=0 then[]else[⟨6,o9 t (b7 m cell side),b7 m cell side,IntKind.i64.wrap (1-side),n,u5,y8,F8⟩]
noncomputable def sGot:Sx.Spec:=⟨false,true,[.map,.arb,.int .i64,.int .i64,.int .i64],[[some .msg]],fun _ _ ⟨m,t,c,s,n,_⟩ => .ret (vW .msg fun _=>gotS (m ()) (t ()) (c ()) (s ()) (n ()),fun _=>0)⟩
theorem d0H:b8 Tryz.prog 264 sGot:=j4 e9 (ss := [(119,G5),(165,M7)]) ⟨W5,Y9,trivial⟩ rfl rfl<|by
 intro(bs:Th (List Int)) (p:Th Int) ⟨(m:Th PMap),(t:Th Arb),(c:Th Int),(s:Th Int),(n:Th Int),u⟩ K _ _ ho h
 obtain⟨m,rfl⟩:=b6 m;obtain⟨t,rfl⟩:=b6 t;obtain⟨c,rfl⟩:=b6 c;obtain⟨s,rfl⟩:=b6 s;obtain⟨n,rfl⟩:=b6 n
 refine⟨noAnn,noAnn,20,?_⟩
 cbv
 repeat' first|((with_reducible intro _);cbv)|(with_reducible refine And.intro ?_ ?_)
 all_goals first|(refine retK h ?_;clear h;simp only[fin0])|(with_reducible refine Ob.mk ?_;clear h)|(clear h)
 all_goals(try simp only[eta0,RT.bytes]at *)
 all_goals grind[gotS,u5,y8,F8]
noncomputable def b0N:Sx.Spec:=⟨false,false,[.row .srv,.int .i64],[[none,some .hld,some .gst]],fun _ _ ⟨s,c,_⟩ => .asrt (fun _=>(s ()).holds.length≤9) (.ret (rAs (a6A fun _=>⟨(s ()).up,F6 (s ()).holds (c ()),(s ()).n9⟩),fun _=>0))⟩
noncomputable def d5u:Sx.Spec:=⟨false,false,[.row .srv,.row .hld],[[none,some .hld,some .gst]],fun _ _ ⟨s,h,_⟩ => .asrt (fun _=>(s ()).holds.length≤9) (.ret (rAs (a6A fun _=>⟨(s ()).up,a5v (s ()).holds (h ()),(s ()).n9⟩),fun _=>0))⟩
theorem a7C:b8 Tryz.prog 266 b0N:=j4 e9 (ss := []) trivial rfl rfl<|by
 intro(bs:Th (List Int)) (p:Th Int) ⟨(s:Th Srv),(c:Th Int),u⟩ K _ _ ho h
 obtain⟨s,rfl⟩:=b6 s;obtain⟨c,rfl⟩:=b6 c
 obtain⟨ha,h⟩:=h
 have ha:=ha.out
 have hl:=b6T s.holds c
 refine⟨annL [(266,3,⟨Nat,[⟨.tmp 5 0,some 1000000000000008,.hld⟩],fun σ k=>(((σ.fg 8).t 6 (vI fun _=>(k:Int))).t 5 (vO 8 1)).h 8 (1,.row false 0 .hld (fun _=>S9 s.holds c k)),fun _ k _=>k≤s.holds.length,fun _ k _=>s.holds.length-k⟩)],noAnn,20,?_⟩
 cbv
 repeat' first|((with_reducible refine fun(k:Nat) => ?_);cbv)|((with_reducible intro _);cbv)|(with_reducible refine And.intro ?_ ?_)
 all_goals try((first|(with_reducible refine LoopIn.mk ((0:Nat)) ?_ ?_)|(with_reducible refine LoopBack.mk ((k+1:Nat)) ?_ ?_ ?_)) )
 all_goals try((with_reducible show m0 _ _);cbv;(try simp only[and_true,true_and]))
 all_goals try(repeat' with_reducible refine And.intro ?_ ?_)
 all_goals first|(refine retK h ?_;clear h;simp only[fin0])|(with_reducible refine Ob.mk ?_;clear h)|(clear h)
 all_goals(try simp only[eta0,RT.bytes]at *)
 all_goals grind[j3,b3u,b6S,b9S,b6U]
theorem c7h:b8 Tryz.prog 263 d5u:=j4 e9 (ss := [(266,b0N)]) ⟨a7C,trivial⟩ rfl rfl<|by
 intro(bs:Th (List Int)) (p:Th Int) ⟨(s:Th Srv),(g:Th Hld),u⟩ K _ _ ho h
 obtain⟨s,rfl⟩:=b6 s;obtain⟨g,rfl⟩:=b6 g
 obtain⟨ha,h⟩:=h
 have ha:=ha.out
 have hd:=c2w s.holds g.state.cell
 have hl:=d1G (F6 s.holds g.state.cell) g
 refine⟨annL [(263,5,⟨Nat,[⟨.tmp 6 0,some 1000000000000016,.hld⟩],fun σ k=>((((σ.fg 16).t 8 (vI fun _=>(k:Int))).t 6 (vO 16 1)).t 7 (vB fun _=>(hpTo (F6 s.holds g.state.cell) g k).d)).h 16 (1,.row false 0 .hld (fun _=>(hpTo (F6 s.holds g.state.cell) g k).l)),fun _ k _=>k≤(F6 s.holds g.state.cell).length,fun _ k _=>(F6 s.holds g.state.cell).length-k⟩)],noAnn,20,?_⟩
 cbv
 repeat' first|((with_reducible refine fun(k:Nat) => ?_);cbv)|((with_reducible intro _);cbv)|(with_reducible refine And.intro ?_ ?_)
 all_goals try((first|(with_reducible refine LoopIn.mk ((0:Nat)) ?_ ?_)|(with_reducible refine LoopBack.mk ((k+1:Nat)) ?_ ?_ ?_)) )
 all_goals try((with_reducible show m0 _ _);cbv;(try simp only[and_true,true_and]))
 all_goals try(repeat' with_reducible refine And.intro ?_ ?_)
 all_goals first|(refine retK h ?_;clear h;simp only[fin0])|(with_reducible refine Ob.mk ?_;clear h)|(clear h)
 all_goals(try simp only[eta0,RT.bytes]at *)
 all_goals grind(splits:=30) [j3,c7M,a8X,a1M,c4U,a5v]
noncomputable def b3S:Sx.Spec:=⟨false,false,[.map,.row .srv,.list .sto,.arb,.int .i64,.row .msg],[[none,some .hld,some .gst],[some .sto],[some .msg]],fun _ _ ⟨m,s,st,t,v,x,_⟩ =>
 .ret (.tup [rAs (a6A fun _=>(G4 (m ()) (s ()) (st ()) (t ()) (v ()) (x ())).srv),vL .sto fun _=>(G4 (m ()) (s ()) (st ()) (t ()) (v ()) (x ())).stores,vL .msg fun _=>(G4 (m ()) (s ()) (st ()) (t ()) (v ()) (x ())).out],fun _=>0)⟩
theorem c1q {t:RT} {l:Th (List t.ty)} {i:Th Int} {e:Th t.ty} {y:List t.ty}:(C1 t l i e=fun _=>y)↔(l ()).set (i ()).toNat (e ())=y:=⟨fun h=>congrFun h (),fun h=>by funext u;exact h⟩
theorem d6P {m:PMap} {t:Arb} {x:Msg} {n:Int} (hs:x.side=0∨x.side=1) (hn:1≤n):gotS m t x.cell x.side n=U6 m t x n:=by
 have hw:IntKind.i64.wrap (1-x.side)=1-x.side:=e8 (by omega) (by omega)
 have h0 : ¬n=0:=by omega
 simp only[gotS,U6,hw,h0,or_false]
theorem b2f {m:PMap} {s:Srv} {st:List Sto} {v:Int} {x:Msg} (h1:B5 m s=true) (h2:A9 m st=true) (h4:y5 m v x=true) :
  s.holds.length≤9∧(∀h,a5v s.holds h=W7 s.holds h)∧0≤x.cell∧x.cell<st.length∧B1 m (nth .sto st x.cell.toNat)=true ∧
  (A6 s x.cell=true→S8 m (j6 s x.cell)=true∧(j6 s x.cell).state.cell=x.cell∧(j6 s x.cell).state.ins.length=2) ∧
  (x.kind=7→a7V m s.n9 x.gst=a2J s.n9 x.gst)∧(x.kind=1→1≤x.n∧x.n≤900)∧(x.kind=5→(x.side=0∨x.side=1)∧0≤x.pcl.n) ∧
  (A6 s x.cell=true→x.side=0∨x.side=1 → @LE.le Int _ 0 (nth .int (j6 s x.cell).state.ins x.side.toNat) ∧ @LE.le Int _ (nth .int (j6 s x.cell).state.ins x.side.toNat) 5000):=by
 have hm4:=h4
 have hf:=a6N h1
 have hs:=b2c h1
 simp only[y5,decide_eq_true_eq]at h4
 obtain⟨hm,_,_,hc0,hc1,hkd⟩:=h4
 unfold A9 at h2
 rw[Bool.and_eq_true]at h2
 obtain⟨ha,hb⟩:=h2
 simp only[decide_eq_true_eq]at ha
 have hcell:x.cell<st.length:=by rw[ha.2];exact hc1
 have hk:=(m4 _ _).1 hb x.cell.toNat (by omega)
 simp only[a2O,Bool.and_eq_true]at hk
 have hold:A6 s x.cell=true→S8 m (j6 s x.cell)=true∧(j6 s x.cell).state.cell=x.cell∧(j6 s x.cell).state.ins.length=2:=fun hh=>by
  simp only[A6,decide_eq_true_eq]at hh
  have hlt:=a3K s.holds x.cell
  have ho:=a6c h1 (k:=(j7 s.holds x.cell).toNat) (by omega)
  have hcc:=a3g hh
  have hff:=n5 (B7.1 ho).2.2
  rw[j6,if_pos hh]
  exact⟨ho,hcc,hff.2.2.2.2.2.2.2.2⟩
 refine⟨by omega,fun h=>c2v hs,hc0,hcell,hk.1,hold,fun hk7 => ?_,fun hk1 => ?_,fun hk5 => ?_,fun hh hsd => ?_⟩
 ·have hg:D9 m s.n9=true:=by
   simp only[B5,W9,Bool.and_eq_true]at h1
   exact h1.1.1.2
  have hx:a1d m x.gst=true:=by
   simp only[H7,decide_eq_true_eq]at hkd
   grind
  exact c2B hg hx
 ·simp only[H7,decide_eq_true_eq]at hkd
  grind
 ·have h5:=a3d hm4 (.inl hk5)
  have h6:=(z6 h5).1
  have h7:=c4O hm4 hk5
  refine⟨h6,?_⟩
  simp only[I8,decide_eq_true_eq]at h7
  omega
 ·exact c2o (B7.1 (hold hh).1).2.2 (by omega)
theorem c1T:b8 Tryz.prog 200 b3S:=j4 e9 (ss := [(156,a8z),(87,a6V),(86,a4r),(157,a8B),(154,a5g),(152,a4q),(201,b0Q),(262,b0V),(263,d5u),(240,b8n),(256,a0M),(265,b3W),(266,b0N),(264,sGot)]) ⟨b1v,b4s,a4E,b1z,a8P,a9I,b1w,b1A,c7h,c7a,a3D,b9g,a7C,d0H,trivial⟩ rfl rfl<|by
 intro(bs:Th (List Int)) (p:Th Int) ⟨(m:Th PMap),(s:Th Srv),(st:Th (List Sto)),(t:Th Arb),(v:Th Int),(x:Th Msg),u⟩ K _ _ ho h
 obtain⟨m,rfl⟩:=b6 m;obtain⟨s,rfl⟩:=b6 s;obtain⟨st,rfl⟩:=b6 st;obtain⟨t,rfl⟩:=b6 t;obtain⟨v,rfl⟩:=b6 v;obtain⟨x,rfl⟩:=b6 x
 refine⟨noAnn,noAnn,20,?_⟩
 have hf := @b2f m s st v x
 cbv
 repeat' first|((with_reducible intro _);cbv)|(with_reducible refine And.intro ?_ ?_)
 all_goals first|(refine retK h ?_;clear h;simp only[fin0])|(with_reducible refine Ob.mk ?_;clear h)|(clear h)
 all_goals(try simp only[eta0,RT.bytes]at *)
 all_goals(try simp only[c1q]at *)
 all_goals(try clear bs p u K)
 all_goals(try simp only[Bool.not_eq_true',Bool.not_eq_false',bne_iff_ne,ne_eq]at *)
 all_goals(grind(splits:=40) [G4,o6,M5,Y2,Y1,C0,J3,a2n,a7I,y8,F8,u5,d6P,e8,j3])
def St.rcll (σ : St) (k:Nat) (c:Th Cll):St:=(((((σ.u7 k 0 (.att (.int .i64 fun _=>(c ()).cell))).u7 k 1 (.att (.list .wlk fun _=>(c ()).wlks))).u7 k 2 (.att (.int .i64 fun _=>(c ()).ground))).u7 k 3 (.att (.list .pcls fun _=>(c ()).outs))).u7 k 4 (.att (.list .int fun _=>(c ()).next))).u7 k 5 (.att (.list .int fun _=>(c ()).ins))
def rC (a:Int) (b:List Wlk) (c:Int) (d:List (List Pcl)) (e f:List Int):V := .agg [cI a,.att (.list .wlk fun _=>b),cI c,.att (.list .pcls fun _=>d),.att (.list .int fun _=>e),.att (.list .int fun _=>f)]
noncomputable def b8o:Sx.Spec:=⟨false,false,[.map,.int .i64,.list .wlk],[nCll],fun _ _ ⟨m,c,l,_⟩ => .all Int fun a => .all (List Wlk) fun b => .all Int fun c => .all (List (List Pcl)) fun d => .all (List Int) fun e => .all (List Int) fun f => .asm (fun _=>(l ()).length≤10→small b d) (.ret (rC a b c d e f,fun _=>0))⟩
noncomputable def b8q:Sx.Spec:=⟨true,false,[.map,.row .cll],[nCll],fun _ p ⟨m,c0,_⟩ => .asrt (fun _=>small (c0 ()).wlks (c0 ()).outs∧0≤p ()∧p ()≤999999990000) (.all Int fun a => .all (List Wlk) fun b => .all Int fun c => .all (List (List Pcl)) fun d => .all (List Int) fun e => .all (List Int) fun f => .all Int fun q => .asm (fun _=>p ()≤q∧q≤p ()+100) (.ret (rC a b c d e f,fun _=>q)))⟩
theorem c1V:b8 Tryz.prog 212 b8o:=j4 e9 (ss := [(85,z7),(148,sIn),(160,X1),(189,D6)]) ⟨C7,I5,Y8,K8,trivial⟩ rfl rfl<|by
 intro(bs:Th (List Int)) (p:Th Int) ⟨(m:Th PMap),(c:Th Int),(l:Th (List Wlk)),u⟩ K hb hp0 ho h
 obtain⟨m,rfl⟩:=b6 m;obtain⟨c,rfl⟩:=b6 c;obtain⟨l,rfl⟩:=b6 l
 have hl:=okB (ho.2.2.1 _ (.head _))
 refine⟨annL [(212,5,⟨List Wlk×Nat,[⟨.cell 8 1,some 500,.wlk⟩],fun σ g=>(((σ.fgs [29,30,500]).t 8 (vI fun _=>(g.2:Int))).u7 8 1 (.own 500 1)).row 500 1 .wlk (fun _=>g.1),fun _ g _=>g.1.length≤g.2∧g.2≤l.length,fun _ g _=>l.length-g.2⟩)],noAnn,20,?_⟩
 cbv
 repeat' first|((with_reducible refine fun(k:Nat) => ?_);cbv)|((with_reducible refine fun(g:List Wlk×Nat) => ?_);obtain⟨gl,gk⟩:=g;cbv)|((with_reducible intro _);cbv)|(with_reducible refine And.intro ?_ ?_)
 all_goals try(first|(with_reducible refine LoopIn.mk (([],0):List Wlk×Nat) ?_ ?_) |
  (rename_i hc;have hc:decide (l8 m (nth .wlk l gk).pos=c)=true:=(by first|exact hc|exact decide_eq_true hc);obtain⟨L,hL⟩ : ∃L,L=gl ++ [nth .wlk l gk]:=⟨_,rfl⟩;with_reducible refine LoopBack.mk ((L,gk+1):List Wlk×Nat) ?_ ?_ ?_) |
  (with_reducible refine LoopBack.mk ((gl,gk+1):List Wlk×Nat) ?_ ?_ ?_))
 all_goals try((first|(with_reducible refine LoopIn.mk ((0:Nat)) ?_ ?_)|(with_reducible refine LoopBack.mk ((0:Nat)) ?_ ?_ ?_)) )
 all_goals try((with_reducible show m0 _ _);cbv;(try simp only[and_true,true_and]))
 all_goals try(repeat' with_reducible refine And.intro ?_ ?_)
 all_goals first|(refine retK (h _ _ _ _ _ _ ?_) rfl;clear h)|(refine retK (h _ _ _ _ _ _ ?_) rfl)|(with_reducible refine Ob.mk ?_;clear h)|(clear h)
 all_goals(try simp only[eta0,RT.bytes]at *)
 all_goals grind[j3,a5d,c6r]
theorem c7p:b8 Tryz.prog 259 b8q:=j4 e9 (ss := [(46,J4),(181,R0),(260,a6U),(237,a6X),(261,a1E)]) ⟨D2,a0R,a7v,a7z,a2l,trivial⟩ rfl rfl<|by
 intro(bs:Th (List Int)) (p:Th Int) ⟨(m:Th PMap),(c:Th Cll),u⟩ K hb hp0 ho h
 obtain⟨m,rfl⟩:=b6 m;obtain⟨c,rfl⟩:=b6 c;obtain⟨bs,rfl⟩:=b6 bs;obtain⟨p,rfl⟩:=b6 p
 obtain⟨hpre,h⟩:=h
 have hpre:small c.wlks c.outs∧0≤p∧p≤999999990000:=hpre.out
 have hsm:=hpre.1.2
 have hsw:=hpre.1.1
 obtain⟨hw,hou,hoi,hn,hi,_,_⟩:=a9J ho.2.1
 refine⟨noAnn,noAnn,20,?_⟩
 cbv
 repeat' first|((with_reducible intro _);cbv)|(with_reducible refine And.intro ?_ ?_)
 all_goals first|(refine retK (h _ _ _ _ _ _ _ ?_) rfl;clear h)|(with_reducible refine Ob.mk ?_;clear h)|(clear h)
 all_goals(try simp only[eta0,RT.bytes]at *)
 all_goals(try simp only[B3,List.length_set]at *)
 all_goals first|omega|grind[e8]
end Go.Proofs.YtihaeoicjglieaaGreat
