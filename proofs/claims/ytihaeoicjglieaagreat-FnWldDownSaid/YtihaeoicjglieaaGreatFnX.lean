/-
  Contracts: n9 and messages drawn.
-/
import Derived.Test.YtihaeoicjglieaaGreatMx
import Derived.Test.YtihaeoicjglieaaGreatGnX
import Derived.Test.YtihaeoicjglieaaGreatFnR
set_option linter.unusedVariables false
set_option linter.unusedSimpArgs false
set_option maxRecDepth 100000
set_option maxHeartbeats 8000000
namespace Go.Proofs.YtihaeoicjglieaaGreat
open Go.Sx Go.Proofs Go.Mo
noncomputable def b0i:Sx.Spec:=⟨true,false,[.map],[],fun _ p ⟨m,_⟩ => .asrt (fun _=>(True)∧0≤p ()∧p ()≤999000000000) (.all Int fun x0 => .all Int fun x1 => .all Int fun x2 => .all Int fun x3 => .all Int fun x4 => .all Int fun x5 => .all Int fun x6 => .all Int fun q => .asm (fun _=>p ()≤q∧q≤p ()+60) (.ret (.agg [cI x0,cI x1,cI x2,cI x3,cI x4,cI x5,cI x6],fun _=>q)))⟩
noncomputable def b3T:Sx.Spec:=⟨true,false,[.row .wld],[],fun _ p ⟨w,_⟩ => .asrt (fun _=>(True)∧0≤p ()∧p ()≤998000000000) (.all Int fun x0 => .all Int fun x1 => .all Int fun x2 => .all Int fun x3 => .all Int fun x4 => .all Int fun x5 => .all Int fun x6 => .all Int fun x7 => .all Int fun x8 => .all Int fun x9 => .all Int fun x10 => .all Int fun x11 => .all Int fun x12 => .all Int fun x13 => .all Int fun x14 => .all Int fun x15 => .all Int fun x16 => .all Int fun x17 => .all Int fun x18 => .all Int fun x19 => .all Int fun x20 => .all Int fun x21 => .all Int fun x22 => .all Int fun x23 => .all Int fun x24 => .all Int fun q => .asm (fun _=>p ()≤q∧q≤p ()+200) (.ret (.agg [cI x0,cI x1,cI x2,cI x3,cI x4,cI x5,cI x6,cI x7,cI x8,cI x9,cI x10,cI x11,cI x12,cI x13,cI x14,cI x15,cI x16,cI x17,cI x18,cI x19,cI x20,cI x21,cI x22,cI x23,cI x24],fun _=>q)))⟩
noncomputable def b8p:Sx.Spec:=⟨true,false,[.row .wld,.row .msg],[],fun _ p ⟨w,x,_⟩ => .asrt (fun _=>(True)∧0≤p ()∧p ()≤998000000000) (.all Int fun x0 => .all Int fun x1 => .all Int fun x2 => .all Int fun x3 => .all Int fun x4 => .all Int fun x5 => .all Int fun x6 => .all Int fun x7 => .all Int fun x8 => .all Int fun x9 => .all Int fun x10 => .all Int fun x11 => .all Int fun x12 => .all Int fun x13 => .all Int fun x14 => .all Int fun x15 => .all Int fun x16 => .all Int fun x17 => .all Int fun x18 => .all Int fun x19 => .all Int fun x20 => .all Int fun x21 => .all Int fun x22 => .all Int fun x23 => .all Int fun x24 => .all Int fun q => .asm (fun _=>p ()≤q∧q≤p ()+200) (.ret (.agg [cI x0,cI x1,cI x2,cI x3,cI x4,cI x5,cI x6,cI x7,cI x8,cI x9,cI x10,cI x11,cI x12,cI x13,cI x14,cI x15,cI x16,cI x17,cI x18,cI x19,cI x20,cI x21,cI x22,cI x23,cI x24],fun _=>q)))⟩
theorem b1G:b8 Tryz.prog 234 b0i:=j4 e9 (ss := [(260,a6U),(85,z7),(46,J4),(189,D6),(261,a1E)]) ⟨a7v,C7,D2,K8,a2l,trivial⟩ rfl rfl<|by
 intro(bs:Th (List Int)) (p:Th Int) ⟨(m:Th PMap),u⟩ K hb hp0 ho h
 obtain⟨m,rfl⟩:=b6 m;obtain⟨bs,rfl⟩:=b6 bs;obtain⟨p,rfl⟩:=b6 p
 obtain⟨hpre,h⟩:=h
 have hpre:True∧0≤p∧p≤999000000000:=hpre.out
 refine⟨noAnn,noAnn,20,?_⟩
 cbv
 repeat' first|((with_reducible intro _);cbv)|(with_reducible refine And.intro ?_ ?_)
 all_goals first|(refine retK (h _ _ _ _ _ _ _ _ ?_) rfl;clear h)|(with_reducible refine Ob.mk ?_;clear h)|(clear h)
 all_goals(try simp only[eta0,RT.bytes]at *)
 all_goals(try dsimp only[RT.ty]at *)
 all_goals(try simp only[S6]at *)
 all_goals(first|rfl|omega|grind[e8])
theorem c1X:b8 Tryz.prog 195 b3T:=j4 e9 (ss := [(46,J4),(192,a8A),(237,a6X),(234,b0i)]) ⟨D2,a7A,a7z,b1G,trivial⟩ rfl rfl<|by
 intro(bs:Th (List Int)) (p:Th Int) ⟨(w:Th Wld),u⟩ K hb hp0 ho h
 obtain⟨w,rfl⟩:=b6 w;obtain⟨bs,rfl⟩:=b6 bs;obtain⟨p,rfl⟩:=b6 p
 obtain⟨hpre,h⟩:=h
 have hpre:True∧0≤p∧p≤998000000000:=hpre.out
 refine⟨noAnn,noAnn,20,?_⟩
 cbv
 repeat' first|((with_reducible intro _);cbv)|(with_reducible refine And.intro ?_ ?_)
 all_goals first|(refine retK (h _ _ _ _ _ _ _ _ _ _ _ _ _ _ _ _ _ _ _ _ _ _ _ _ _ _ ?_) rfl;clear h)|(with_reducible refine Ob.mk ?_;clear h)|(clear h)
 all_goals(try simp only[eta0,RT.bytes]at *)
 all_goals(try dsimp only[RT.ty]at *)
 all_goals(try simp only[S6]at *)
 all_goals(first|rfl|omega|grind[e8])
theorem c7o:b8 Tryz.prog 194 b8p:=j4 e9 (ss := [(46,J4),(235,a8I),(236,b0Y),(234,b0i)]) ⟨D2,b1I,b9w,b1G,trivial⟩ rfl rfl<|by
 intro(bs:Th (List Int)) (p:Th Int) ⟨(w:Th Wld),(x:Th Msg),u⟩ K hb hp0 ho h
 obtain⟨w,rfl⟩:=b6 w;obtain⟨x,rfl⟩:=b6 x;obtain⟨bs,rfl⟩:=b6 bs;obtain⟨p,rfl⟩:=b6 p
 obtain⟨hpre,h⟩:=h
 have hpre:True∧0≤p∧p≤998000000000:=hpre.out
 refine⟨noAnn,noAnn,20,?_⟩
 cbv
 repeat' first|((with_reducible intro _);cbv)|(with_reducible refine And.intro ?_ ?_)
 all_goals first|(refine retK (h _ _ _ _ _ _ _ _ _ _ _ _ _ _ _ _ _ _ _ _ _ _ _ _ _ _ ?_) rfl;clear h)|(with_reducible refine Ob.mk ?_;clear h)|(clear h)
 all_goals(try simp only[eta0,RT.bytes]at *)
 all_goals(try dsimp only[RT.ty]at *)
 all_goals(try simp only[S6]at *)
 all_goals(first|rfl|omega|grind[e8])
noncomputable def b5M:Sx.Spec:=⟨true,true,[.map,.row .cll,.int .i64],[[some .rcd],nCll],fun _ p ⟨m,c0,n,_⟩ => .asrt (fun _=>0≤p ()∧p ()≤999999990000∧n ()≤30) (.all (List Sx.Rec) fun l => .all Int fun a => .all (List Wlk) fun b => .all Int fun c => .all (List (List Pcl)) fun d => .all (List Int) fun e => .all (List Int) fun f => .all Int fun q => .asm (fun _=>p ()≤q∧q≤p ()+1800∧l.length≤30∧(small (c0 ()).wlks (c0 ()).outs→small b d)) (.ret (.tup [vW .rcd fun _=>l,rC a b c d e f],fun _=>q)))⟩
theorem b9i:b8 Tryz.prog 280 b5M:=j4 e9 (ss := [(180,a1D),(290,sRec),(283,a8D)]) ⟨a1J,d7k,a9H,trivial⟩ rfl rfl<|by
 intro(bs:Th (List Int)) (p:Th Int) ⟨(m:Th PMap),(c:Th Cll),(n:Th Int),u⟩ K hb hp0 ho h
 obtain⟨m,rfl⟩:=b6 m;obtain⟨c,rfl⟩:=b6 c;obtain⟨n,rfl⟩:=b6 n;obtain⟨bs,rfl⟩:=b6 bs;obtain⟨p,rfl⟩:=b6 p
 obtain⟨hpre,h⟩:=h
 have hpre:0≤p∧p≤999999990000∧n≤30:=hpre.out
 refine⟨annL [(280,2,⟨List Sx.Rec×Cll×Int×Int,[⟨.tmp 10 0,some 16,.rcd⟩,⟨.cell 7 1,none,.wlk⟩,⟨.cell 7 3,none,.pcls⟩,⟨.cell 7 4,none,.int⟩,⟨.cell 7 5,none,.int⟩],
  fun σ g=>St.rcll ((((((σ.fgs [16]).t 3 (vI fun _=>g.2.2.1)).t 10 (vO 16 1)).row 16 1 .rcd (fun _=>g.1)).u7 0 1 (.att (.int .i64 fun _=>g.2.2.2)))) 7 (fun _=>g.2.1),
  fun _ g _=>g.2.2.1≤30∧(small c.wlks c.outs→small g.2.1.wlks g.2.1.outs)∧(g.2.2.1<0∧g.1.length=0∧g.2.2.2=p∨0≤g.2.2.1∧(g.1.length:Int)≤30-g.2.2.1∧p≤g.2.2.2∧g.2.2.2≤p+60 * (30-g.2.2.1)),fun _ g _=>g.2.2.1.toNat⟩)],noAnn,20,?_⟩
 cbv
 repeat' first|((with_reducible refine fun(k:Nat) => ?_);cbv)|((with_reducible refine fun(g:List Sx.Rec×Cll×Int×Int) => ?_);obtain⟨gl,gc,gn,gq⟩:=g;cbv)|((with_reducible intro _);cbv)|(with_reducible refine And.intro ?_ ?_)
 all_goals try(first|(with_reducible refine LoopIn.mk (([],c,n,p):List Sx.Rec×Cll×Int×Int) ?_ ?_) |
  (rename_i r0 r1 r2 r3 r4 r5 r6 r7 r8 r9 r10 r11 r12 r13 r14 r15 q1 hq hok;have hok:(F5 m gc ⟨r0,⟨r1,r2,r3,r4,r5⟩,r6,⟨r7,r8,⟨r9,r10,r11,r12,r13⟩,r14⟩,r15⟩).ok=true:=hok;obtain⟨L,hL⟩ : ∃L,L=gl ++ [(⟨r0,⟨r1,r2,r3,r4,r5⟩,r6,⟨r7,r8,⟨r9,r10,r11,r12,r13⟩,r14⟩,r15⟩:Sx.Rec)]:=⟨_,rfl⟩;obtain⟨X,hX⟩ : ∃X,X=(F5 m gc ⟨r0,⟨r1,r2,r3,r4,r5⟩,r6,⟨r7,r8,⟨r9,r10,r11,r12,r13⟩,r14⟩,r15⟩).c:=⟨_,rfl⟩;obtain⟨g1,hg1⟩ : ∃g1,g1=gn-1:=⟨_,rfl⟩;with_reducible refine LoopBack.mk ((L,X,g1,q1):List Sx.Rec×Cll×Int×Int) ?_ ?_ ?_) |
  (rename_i r0 r1 r2 r3 r4 r5 r6 r7 r8 r9 r10 r11 r12 r13 r14 r15 q1 hq hok;obtain⟨g1,hg1⟩ : ∃g1,g1=gn-1:=⟨_,rfl⟩;with_reducible refine LoopBack.mk ((gl,gc,g1,q1):List Sx.Rec×Cll×Int×Int) ?_ ?_ ?_))
 all_goals try((first|(with_reducible refine LoopIn.mk ((0:Nat)) ?_ ?_)|(with_reducible refine LoopBack.mk ((0:Nat)) ?_ ?_ ?_)) )
 all_goals try((with_reducible show m0 _ _);cbv;(try simp only[and_true,true_and]))
 all_goals try(repeat' with_reducible refine And.intro ?_ ?_)
 all_goals first|(refine retK (h _ _ _ _ _ _ _ _ ?_) rfl;clear h)|(with_reducible refine Ob.mk ?_;clear h)|(clear h)
 all_goals(try simp only[eta0,RT.bytes]at *)
 all_goals(try subst hL)
 all_goals(try subst hX)
 all_goals first|omega|rfl|grind[e8,b7U]
end Go.Proofs.YtihaeoicjglieaaGreat
