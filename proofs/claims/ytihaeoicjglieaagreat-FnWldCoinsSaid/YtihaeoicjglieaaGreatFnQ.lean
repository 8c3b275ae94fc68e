/-
  Contracts: what is drawn: numbers, walkers, orders, parcels.
-/
import Derived.Test.YtihaeoicjglieaaGreatInsW
import Derived.Test.YtihaeoicjglieaaGreatGnF
import Derived.Test.YtihaeoicjglieaaGreatM3
import Derived.Test.YtihaeoicjglieaaGreatM1
set_option linter.unusedVariables false
set_option linter.unusedSimpArgs false
set_option maxRecDepth 100000
set_option maxHeartbeats 8000000
namespace Go.Proofs.YtihaeoicjglieaaGreat
open Go.Sx Go.Proofs Go.Mo
noncomputable def J4:Sx.Spec:=⟨true,false,[.int .i64],[],fun _ p ⟨n,_⟩ => .asrt (fun _=>0≤p ()∧p ()≤1000000001000) (.all Int fun x => .all Int fun q => .asm (fun _=>0≤x∧(1≤n ()→x<n ())∧(n ()<1→x=0)∧q=p ()+1) (.ret (vI fun _=>x,fun _=>q)))⟩
noncomputable def sMap:Sx.Spec:=⟨true,false,[],[],fun _ p _ => .asrt (fun _=>0≤p ()∧p ()≤1000000000900) (.all Int fun x0 => .all Int fun x1 => .all Int fun q => .asm (fun _=>p ()≤q∧q≤p ()+10) (.ret (.agg [cI x0,cI x1],fun _=>q)))⟩
noncomputable def a6U:Sx.Spec:=⟨true,false,[.map],[],fun _ p ⟨m,_⟩ => .asrt (fun _=>0≤p ()∧p ()≤1000000000900) (.all Int fun x0 => .all Int fun x1 => .all Int fun x2 => .all Int fun x3 => .all Int fun x4 => .all Int fun q => .asm (fun _=>p ()≤q∧q≤p ()+10) (.ret (.agg [cI x0,cI x1,cI x2,cI x3,cI x4],fun _=>q)))⟩
noncomputable def a1E:Sx.Spec:=⟨true,false,[.row .wlk],[],fun _ p ⟨m,_⟩ => .asrt (fun _=>0≤p ()∧p ()≤1000000000900) (.all Int fun x0 => .all Int fun x1 => .all Int fun x2 => .all Int fun x3 => .all Int fun x4 => .all Int fun q => .asm (fun _=>p ()≤q∧q≤p ()+10) (.ret (.agg [cI x0,cI x1,cI x2,cI x3,cI x4],fun _=>q)))⟩
noncomputable def a8A:Sx.Spec:=⟨true,false,[],[],fun _ p _ => .asrt (fun _=>0≤p ()∧p ()≤1000000000900) (.all Int fun x0 => .all Int fun x1 => .all Int fun x2 => .all Int fun x3 => .all Int fun x4 => .all Int fun q => .asm (fun _=>p ()≤q∧q≤p ()+20) (.ret (.agg [cI x0,cI x1,cI x2,cI x3,cI x4],fun _=>q)))⟩
noncomputable def a8I:Sx.Spec:=⟨true,false,[.int .i64],[],fun _ p ⟨n,_⟩ => .asrt (fun _=>0≤p ()∧p ()≤1000000000800) (.all Int fun x0 => .all Int fun x1 => .all Int fun x2 => .all Int fun x3 => .all Int fun x4 => .all Int fun q => .asm (fun _=>p ()≤q∧q≤p ()+30) (.ret (.agg [cI x0,cI x1,cI x2,cI x3,cI x4],fun _=>q)))⟩
noncomputable def a6X:Sx.Spec:=⟨true,false,[.map],[],fun _ p ⟨m,_⟩ => .asrt (fun _=>0≤p ()∧p ()≤1000000000800) (.all Int fun x0 => .all Int fun x1 => .all Int fun x2 => .all Int fun x3 => .all Int fun x4 => .all Int fun x5 => .all Int fun x6 => .all Int fun x7 => .all Int fun q => .asm (fun _=>p ()≤q∧q≤p ()+20) (.ret (.agg [cI x0,cI x1,cI x2,cI x3,cI x4,cI x5,cI x6,cI x7],fun _=>q)))⟩
noncomputable def b0Y:Sx.Spec:=⟨true,false,[.map,.int .i64],[],fun _ p ⟨m,_⟩ => .asrt (fun _=>0≤p ()∧p ()≤1000000000700) (.all Int fun x0 => .all Int fun x1 => .all Int fun x2 => .all Int fun x3 => .all Int fun x4 => .all Int fun x5 => .all Int fun x6 => .all Int fun x7 => .all Int fun q => .asm (fun _=>p ()≤q∧q≤p ()+40) (.ret (.agg [cI x0,cI x1,cI x2,cI x3,cI x4,cI x5,cI x6,cI x7],fun _=>q)))⟩
noncomputable def c9D:Sx.Spec:=⟨true,false,[.map,.int .i64],[[some .wlk]],fun _ p ⟨m,_⟩ => .asrt (fun _=>0≤p ()∧p ()≤1000000000700) (.all (List Wlk) fun x => .all Int fun q => .asm (fun _=>p ()≤q∧q≤p ()+90∧x.length≤10) (.ret (vL .wlk fun _=>x,fun _=>q)))⟩
theorem D2:b8 Tryz.prog 46 J4:=j4 e9 (ss := []) trivial rfl rfl<|by
 intro(bs:Th (List Int)) (p:Th Int) ⟨(n:Th Int),u⟩ K hb hp0 ho h
 obtain⟨n,rfl⟩:=b6 n;obtain⟨bs,rfl⟩:=b6 bs;obtain⟨p,rfl⟩:=b6 p
 obtain⟨hpre,h⟩:=h
 have hpre:0≤p∧p≤1000000001000:=hpre.out
 have hbl:=okB hb
 have hby:=d6y hb
 have hw1:IntKind.i64.wrap (p+1)=p+1:=e8 (by omega) (by omega)
 have hw2:IntKind.i64.wrap (p+1-1)=p:=by rw[e8 (by omega) (by omega)];omega
 have hw3:IntKind.i64.wrap (IntKind.i64.wrap (p * 7)+3)=p * 7+3:=by rw[e8 (n:=p * 7) (by omega) (by omega),e8 (by omega) (by omega)]
 have hwb : ∀i,i<bs.length → @LE.le Int _ 0 (IntKind.i64.wrap (nth .byte bs i)) ∧ @LE.le Int _ (IntKind.i64.wrap (nth .byte bs i)) 255:=fun i hi=>by
  have h1:=hby i hi
  have h2:IntKind.i64.wrap (nth .byte bs i)=nth .byte bs i:=e8 (Int.le_trans (by decide) h1.1) (Int.le_trans h1.2 (by decide))
  rw[h2]
  exact h1
 have hA : ¬n<1→p<(bs.length:Int)→0≤(IntKind.i64.wrap (nth .byte bs p.toNat)).tmod n∧(IntKind.i64.wrap (nth .byte bs p.toNat)).tmod n<n:=fun hn hlt=>tm (hwb _ (by omega)).1 (by omega)
 have hC : ¬(bs.length:Int)=0→(0≤p.tmod bs.length∧p.tmod bs.length<bs.length)∧(0≤(p * 7+3).tmod bs.length∧(p * 7+3).tmod bs.length<bs.length):=fun h0=>⟨tm (by omega) (by omega),tm (by omega) (by omega)⟩
 have hF : ¬n<1 → ¬(bs.length:Int)=0→_:=fun hn h0 => @d0a bs.length p (IntKind.i64.wrap (nth .byte bs (p.tmod bs.length).toNat)) (IntKind.i64.wrap (nth .byte bs ((p * 7+3).tmod bs.length).toNat)) n (by omega) (by omega) (by omega)
  (hwb _ (by have:=(hC h0).1;omega)) (hwb _ (by have:=(hC h0).2;omega)) (by omega) _ rfl
 refine⟨noAnn,noAnn,20,?_⟩
 cbv
 repeat' first|((with_reducible intro _);cbv)|(with_reducible refine And.intro ?_ ?_)
 all_goals first|(refine retK (h _ _ ?_) rfl;clear h)|(with_reducible refine Ob.mk ?_;clear h)|(clear h)
 all_goals(try simp only[eta0,RT.bytes]at *)
 all_goals(try simp only[hw1,hw2,hw3])
 all_goals first|omega|exact(hC (by assumption)).1|exact(hC (by assumption)).2|exact⟨by omega,fun _=>by omega,fun _=>trivial,trivial⟩|exact⟨by omega,fun _=>by omega,fun _=>trivial⟩ |
  exact⟨(hA (by assumption) (by assumption)).1,fun _=>(hA (by assumption) (by assumption)).2,fun hh=>absurd hh (by assumption),trivial⟩|exact⟨(hF (by assumption) (by assumption)).1,fun _=>(hF (by assumption) (by assumption)).2,fun hh=>absurd hh (by assumption),trivial⟩|grind[e8,tm]
theorem d5E:b8 Tryz.prog 190 sMap:=j4 e9 (ss := [(46,J4)]) ⟨D2,trivial⟩ rfl rfl<|by
 intro(bs:Th (List Int)) (p:Th Int) u K hb hp0 ho h
 obtain⟨bs,rfl⟩:=b6 bs;obtain⟨p,rfl⟩:=b6 p
 obtain⟨hpre,h⟩:=h
 have hpre:0≤p∧p≤1000000000900:=hpre.out
 refine⟨noAnn,noAnn,20,?_⟩
 cbv
 repeat' first|((with_reducible intro _);cbv)|(with_reducible refine And.intro ?_ ?_)
 all_goals first|(refine retK (h _ _ _ ?_) rfl;clear h)|(with_reducible refine Ob.mk ?_;clear h)|(clear h)
 all_goals(try simp only[eta0,RT.bytes]at *)
 all_goals first|omega|grind[e8,tm]
theorem a7v:b8 Tryz.prog 260 a6U:=j4 e9 (ss := [(46,J4),(85,z7)]) ⟨D2,C7,trivial⟩ rfl rfl<|by
 intro(bs:Th (List Int)) (p:Th Int) ⟨(m:Th PMap),u⟩ K hb hp0 ho h
 obtain⟨m,rfl⟩:=b6 m;obtain⟨bs,rfl⟩:=b6 bs;obtain⟨p,rfl⟩:=b6 p
 obtain⟨hpre,h⟩:=h
 have hpre:0≤p∧p≤1000000000900:=hpre.out
 refine⟨noAnn,noAnn,20,?_⟩
 cbv
 repeat' first|((with_reducible intro _);cbv)|(with_reducible refine And.intro ?_ ?_)
 all_goals first|(refine retK (h _ _ _ _ _ _ ?_) rfl;clear h)|(with_reducible refine Ob.mk ?_;clear h)|(clear h)
 all_goals(try simp only[eta0,RT.bytes]at *)
 all_goals first|omega|grind[e8,tm]
theorem a2l:b8 Tryz.prog 261 a1E:=j4 e9 (ss := [(46,J4)]) ⟨D2,trivial⟩ rfl rfl<|by
 intro(bs:Th (List Int)) (p:Th Int) ⟨(w:Th Wlk),u⟩ K hb hp0 ho h
 obtain⟨w,rfl⟩:=b6 w;obtain⟨bs,rfl⟩:=b6 bs;obtain⟨p,rfl⟩:=b6 p
 obtain⟨hpre,h⟩:=h
 have hpre:0≤p∧p≤1000000000900:=hpre.out
 refine⟨noAnn,noAnn,20,?_⟩
 cbv
 repeat' first|((with_reducible intro _);cbv)|(with_reducible refine And.intro ?_ ?_)
 all_goals first|(refine retK (h _ _ _ _ _ _ ?_) rfl;clear h)|(with_reducible refine Ob.mk ?_;clear h)|(clear h)
 all_goals(try simp only[eta0,RT.bytes]at *)
 all_goals first|omega|grind[e8,tm]
theorem a7A:b8 Tryz.prog 192 a8A:=j4 e9 (ss := [(46,J4)]) ⟨D2,trivial⟩ rfl rfl<|by
 intro(bs:Th (List Int)) (p:Th Int) u K hb hp0 ho h
 obtain⟨bs,rfl⟩:=b6 bs;obtain⟨p,rfl⟩:=b6 p
 obtain⟨hpre,h⟩:=h
 have hpre:0≤p∧p≤1000000000900:=hpre.out
 refine⟨noAnn,noAnn,20,?_⟩
 cbv
 repeat' first|((with_reducible intro _);cbv)|(with_reducible refine And.intro ?_ ?_)
 all_goals first|(refine retK (h _ _ _ _ _ _ ?_) rfl;clear h)|(with_reducible refine Ob.mk ?_;clear h)|(clear h)
 all_goals(try simp only[eta0,RT.bytes]at *)
 all_goals first|omega|grind[e8,tm]
theorem b1I:b8 Tryz.prog 235 a8I:=j4 e9 (ss := [(46,J4),(192,a8A)]) ⟨D2,a7A,trivial⟩ rfl rfl<|by
 intro(bs:Th (List Int)) (p:Th Int) ⟨(n:Th Int),u⟩ K hb hp0 ho h
 obtain⟨n,rfl⟩:=b6 n;obtain⟨bs,rfl⟩:=b6 bs;obtain⟨p,rfl⟩:=b6 p
 obtain⟨hpre,h⟩:=h
 have hpre:0≤p∧p≤1000000000800:=hpre.out
 refine⟨noAnn,noAnn,20,?_⟩
 cbv
 repeat' first|((with_reducible intro _);cbv)|(with_reducible refine And.intro ?_ ?_)
 all_goals first|(refine retK (h _ _ _ _ _ _ ?_) rfl;clear h)|(with_reducible refine Ob.mk ?_;clear h)|(clear h)
 all_goals(try simp only[eta0,RT.bytes]at *)
 all_goals first|omega|grind[e8,tm]
theorem a7z:b8 Tryz.prog 237 a6X:=j4 e9 (ss := [(46,J4),(260,a6U)]) ⟨D2,a7v,trivial⟩ rfl rfl<|by
 intro(bs:Th (List Int)) (p:Th Int) ⟨(m:Th PMap),u⟩ K hb hp0 ho h
 obtain⟨m,rfl⟩:=b6 m;obtain⟨bs,rfl⟩:=b6 bs;obtain⟨p,rfl⟩:=b6 p
 obtain⟨hpre,h⟩:=h
 have hpre:0≤p∧p≤1000000000800:=hpre.out
 refine⟨noAnn,noAnn,20,?_⟩
 cbv
 repeat' first|((with_reducible intro _);cbv)|(with_reducible refine And.intro ?_ ?_)
 all_goals first|(refine retK (h _ _ _ _ _ _ _ _ _ ?_) rfl;clear h)|(with_reducible refine Ob.mk ?_;clear h)|(clear h)
 all_goals(try simp only[eta0,RT.bytes]at *)
 all_goals first|omega|grind[e8,tm]
theorem b9w:b8 Tryz.prog 236 b0Y:=j4 e9 (ss := [(46,J4),(237,a6X),(261,a1E)]) ⟨D2,a7z,a2l,trivial⟩ rfl rfl<|by
 intro(bs:Th (List Int)) (p:Th Int) ⟨(m:Th PMap),(n:Th Int),u⟩ K hb hp0 ho h
 obtain⟨m,rfl⟩:=b6 m;obtain⟨n,rfl⟩:=b6 n;obtain⟨bs,rfl⟩:=b6 bs;obtain⟨p,rfl⟩:=b6 p
 obtain⟨hpre,h⟩:=h
 have hpre:0≤p∧p≤1000000000700:=hpre.out
 refine⟨noAnn,noAnn,20,?_⟩
 cbv
 repeat' first|((with_reducible intro _);cbv)|(with_reducible refine And.intro ?_ ?_)
 all_goals first|(refine retK (h _ _ _ _ _ _ _ _ _ ?_) rfl;clear h)|(with_reducible refine Ob.mk ?_;clear h)|(clear h)
 all_goals(try simp only[eta0,RT.bytes]at *)
 all_goals first|omega|grind[e8,tm]
noncomputable def sRec:Sx.Spec:=⟨true,false,[.map,.row .cll],[],fun _ p ⟨m,c,_⟩ => .asrt (fun _=>s6 (m ()) (c ())=true∧0≤p ()∧p ()≤1000000000700) (.all Int fun x0 => .all Int fun x1 => .all Int fun x2 => .all Int fun x3 => .all Int fun x4 => .all Int fun x5 => .all Int fun x6 => .all Int fun x7 => .all Int fun x8 => .all Int fun x9 => .all Int fun x10 => .all Int fun x11 => .all Int fun x12 => .all Int fun x13 => .all Int fun x14 => .all Int fun x15 => .all Int fun q => .asm (fun _=>p ()≤q∧q≤p ()+60) (.ret (.agg [cI x0,cI x1,cI x2,cI x3,cI x4,cI x5,cI x6,cI x7,cI x8,cI x9,cI x10,cI x11,cI x12,cI x13,cI x14,cI x15],fun _=>q)))⟩
theorem d3Z:b8 Tryz.prog 289 c9D:=j4 e9 (ss := [(46,J4),(260,a6U),(261,a1E),(95,a0D)]) ⟨D2,a7v,a2l,a3a,trivial⟩ rfl rfl<|by
 intro(bs:Th (List Int)) (p:Th Int) ⟨(m:Th PMap),(n:Th Int),u⟩ K hb hp0 ho h
 obtain⟨m,rfl⟩:=b6 m;obtain⟨n,rfl⟩:=b6 n;obtain⟨bs,rfl⟩:=b6 bs;obtain⟨p,rfl⟩:=b6 p
 obtain⟨hpre,h⟩:=h
 have hpre:0≤p∧p≤1000000000700:=hpre.out
 refine⟨annL [(289,3,⟨List Wlk×Int×Int,[⟨.tmp 7 0,some 11,.wlk⟩],fun σ g=>((((σ.fgs [11]).t 8 (vI fun _=>g.2.1)).t 7 (vO 11 1)).row 11 1 .wlk (fun _=>g.1)).u7 0 1 (.att (.int .i64 fun _=>g.2.2)),
  fun _ g _=>0≤g.2.1∧g.2.1≤5∧(g.1.length:Int)≤5-g.2.1∧p≤g.2.2∧g.2.2≤p+1+10 * (5-g.2.1),fun _ g _=>g.2.1.toNat⟩)],noAnn,20,?_⟩
 cbv
 repeat' first|((with_reducible refine fun(k:Nat) => ?_);cbv)|((with_reducible refine fun(g:List Wlk×Int×Int) => ?_);obtain⟨gl,gk,gq⟩:=g;cbv)|((with_reducible intro _);cbv)|(with_reducible refine And.intro ?_ ?_)
 all_goals try(first|(rename_i w1 w2 w3 w4 w5 q1 hq;obtain⟨L,hL⟩ : ∃L,L=M4 gl ⟨w1,w2,w3,w4,w5⟩:=⟨_,rfl⟩;obtain⟨g1,hg1⟩ : ∃g1,g1=gk-1:=⟨_,rfl⟩;with_reducible refine LoopBack.mk ((L,g1,q1):List Wlk×Int×Int) ?_ ?_ ?_)|(rename_i x1 q1 hq;with_reducible refine LoopIn.mk (([],x1,q1):List Wlk×Int×Int) ?_ ?_))
 all_goals try((first|(with_reducible refine LoopIn.mk ((0:Nat)) ?_ ?_)|(with_reducible refine LoopBack.mk ((0:Nat)) ?_ ?_ ?_)) )
 all_goals try((with_reducible show m0 _ _);cbv;(try simp only[and_true,true_and]))
 all_goals try(repeat' with_reducible refine And.intro ?_ ?_)
 all_goals first|(refine retK (h _ _ ?_) rfl;clear h)|(with_reducible refine Ob.mk ?_;clear h)|(clear h)
 all_goals(try simp only[eta0,RT.bytes]at *)
 all_goals(try simp only[B3,List.length_set]at *)
 all_goals first|omega|grind[e8,a5X]
theorem d7k:b8 Tryz.prog 290 sRec:=j4 e9 (ss := [(46,J4),(237,a6X),(192,a8A),(85,z7)]) ⟨D2,a7z,a7A,C7,trivial⟩ rfl rfl<|by
 intro(bs:Th (List Int)) (p:Th Int) ⟨(m:Th PMap),(c:Th Cll),u⟩ K hb hp0 ho h
 obtain⟨m,rfl⟩:=b6 m;obtain⟨c,rfl⟩:=b6 c;obtain⟨bs,rfl⟩:=b6 bs;obtain⟨p,rfl⟩:=b6 p
 obtain⟨hpre,h⟩:=h
 have hpre:s6 m c=true∧0≤p∧p≤1000000000700:=hpre.out
 have hf:=n5 hpre.1
 have hlen:=Q3 hpre.1
 refine⟨noAnn,noAnn,20,?_⟩
 cbv
 repeat' first|((with_reducible intro _);cbv)|(with_reducible refine And.intro ?_ ?_)
 all_goals first|(refine retK (h _ _ _ _ _ _ _ _ _ _ _ _ _ _ _ _ _ ?_) rfl;clear h)|(with_reducible refine Ob.mk ?_;clear h)|(clear h)
 all_goals(try simp only[eta0,RT.bytes]at *)
 all_goals first|omega|grind[e8,tm]
end Go.Proofs.YtihaeoicjglieaaGreat
