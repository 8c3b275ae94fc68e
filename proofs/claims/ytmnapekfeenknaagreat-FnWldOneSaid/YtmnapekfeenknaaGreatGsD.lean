/-
  Contracts: an order done in a cell.
-/
import Derived.Test.YtmnapekfeenknaaGreatFy
import Derived.Test.YtmnapekfeenknaaGreatMy
import Derived.Test.YtmnapekfeenknaaGreatInsW
import Derived.Test.YtmnapekfeenknaaGreatM1
import Derived.Test.YtmnapekfeenknaaGreatTok
import Derived.Test.YtmnapekfeenknaaGreatS5
import Derived.Test.YtmnapekfeenknaaGreatGnE
import Derived.Test.YtmnapekfeenknaaGreatGnC
import Derived.Test.YtmnapekfeenknaaGreatM8
import Derived.Test.YtmnapekfeenknaaGreatM3
import Derived.Test.YtmnapekfeenknaaGreatGnX
import Derived.Test.YtmnapekfeenknaaGreatM7
set_option linter.unusedVariables false
set_option linter.unusedSimpArgs false
set_option maxRecDepth 100000
set_option maxHeartbeats 8000000
namespace Go.Proofs.YtmnapekfeenknaaGreat
open Go.Sx Go.Proofs Go.Mo
theorem d5L:b9 Tryz.prog 42 d0Z:=j5 j3 (ss := [(103,a2V),(92,Y5),(104,R6),(164,a9q),(121,a2y),(36,B6),(166,a1C),(168,O5)]) ⟨b7y,a6a,a3G,a8o,a2f,M7,a5l,a0Q,trivial⟩ rfl rfl<|by
 intro(bs:Th (List Int)) (p:Th Int) ⟨(m:Th PMap),(c:Th Cll),(o:Th Sx.Ord),u⟩ K _ _ ho h
 obtain⟨m,rfl⟩:=b6 m;obtain⟨c,rfl⟩:=b6 c;obtain⟨o,rfl⟩:=b6 o
 refine⟨noAnn,noAnn,20,?_⟩
 cbv
 repeat' first|((with_reducible intro _);cbv)|(with_reducible refine And.intro ?_ ?_)
 all_goals first|(refine retK h ?_;clear h;simp only[fin0])|(with_reducible refine Ob.mk ?_;clear h)|(clear h)
 all_goals(try simp only[eta0,RT.bytes]at *)
 all_goals(try have hlt:=F6 (l:=c.wlks) (id:=o.who) (by assumption))
 all_goals(try simp only[z8,j9 .wlk hlt,List.set_set,List.length_set,a3z]at *)
 all_goals have hf := @o7 m c
 all_goals have hoi := @G6 o
 all_goals have hwk := @K9 m c
 all_goals have hsd := @E1 m c
 all_goals have hpd:=Q0 c.wlks o.dest
 all_goals(try have hwr:=a5O (m:=m) (c:=c) (o:=o) (by assumption) hlt (by assumption) (by assumption))
 all_goals(try simp only[hwr]at *)
 all_goals(try have hld:=F6 (l:=c.wlks) (id:=o.dest) (by assumption))
 all_goals(try have hne:=a3A (l:=c.wlks) (a:=o.who) (b:=o.dest) (by assumption) (by assumption) (a0l (by assumption) (by assumption)))
 all_goals(try simp only[a2a hne,m5 .wlk hne,m5 .wlk hne.symm,j9 .wlk hlt,j9 .wlk hld]at *)
 all_goals grind[a4C,I8,S1,a0z,a0B,a0C,a0A,U0,I1,D2,H7,O1,e9,Q0,F6]
end Go.Proofs.YtmnapekfeenknaaGreat
namespace Go.Proofs.YtmnapekfeenknaaGreat
open Go.Sx Go.Proofs Go.RowKit
theorem c9v:(Tryz.prog.info? 134).map (fun i=>(i.zero,i.size,i.bytes))=some (some (.agg #[.int .i64 0,.int .i64 0,.int .i64 0,.int .i64 0,.int .i64 0,.int .i64 0,.int .i64 0,.int .i64 0,.int .i64 0,.int .i64 0,.int .i64 0,.int .i64 0,.int .i64 0,.int .i64 0,.int .i64 0,.int .i64 0,.int .i64 0,.int .i64 0,.int .i64 0,.int .i64 0,.int .i64 0,.int .i64 0,.int .i64 0,.int .i64 0,.int .i64 0]),25,200):=by kernel_rfl
theorem d3W (w:World) (n b c:Nat) (cs:Array Value) (T i:Nat) (hh:w.heap[b]? = some (.cells cs T (0,0))) (hnc:n≤c) (hc:c≤maxLen) (hs:cs.size=c * 25) (hi:i<n) (h1c : ∀u∈cs.toList.take (n * 25),one u) :
  Calls Tryz.prog 159 #[.slice (some ⟨b,0,none⟩) n c,.int .i64 i,.int .i64 ((i:Int)+1)] w fun e w' => ∃v cs',e = .returned v∧DelE w w' 25 v n i b c cs T cs':=by
 obtain⟨inf,hinf,hz,hsz,hby⟩:=info_parts c9v
 obtain⟨Z,hZ⟩ : ∃Z:Value,Z = .agg #[.int .i64 0,.int .i64 0,.int .i64 0,.int .i64 0,.int .i64 0,.int .i64 0,.int .i64 0,.int .i64 0,.int .i64 0,.int .i64 0,.int .i64 0,.int .i64 0,.int .i64 0,.int .i64 0,.int .i64 0,.int .i64 0,.int .i64 0,.int .i64 0,.int .i64 0,.int .i64 0,.int .i64 0,.int .i64 0,.int .i64 0,.int .i64 0,.int .i64 0]:=⟨_,rfl⟩
 rw[←hZ]at hz
 have hzc:(Value.cells Z).size=25:=by rw[hZ];rfl
 have hzv : ∀w,(zeroValue 134).run Tryz.prog w = .ok Z w:=fun w=>by simp[zeroValue,typeInfo,hinf,hz]
 have hz1 : ∀u∈(Value.cells Z).toList,one u:=by
  intro u hu
  rw[hZ]at hu
  simp[Value.cells]at hu
  first|(subst hu;rfl)|(rcases hu with rfl|rfl|rfl|rfl<;>rfl)
 clear hZ
 have u25:=run_underlying Tryz.underlying36
 have z38 : ∀w,(sizeOf 134).run Tryz.prog w = .ok 25 w:=fun w=>by simp[sizeOf,typeInfo,hinf,hsz]
 have mixed:=j3.mix
 have hc63:c≤9223372036854775807:=hc
 obtain⟨e1,e2,e3,e4,e5,e6,e7⟩:=b0Q (cs:=cs) (zs:=(Value.cells Z).toList) hs hnc hi (by rw[Array.length_toList];exact hzc)
 obtain⟨us,hus⟩ : ∃us,us=(cs.toList.take (n * 25)).drop ((i+1) * 25):=⟨_,rfl⟩
 rw[←hus]at e1 e2 e3
 obtain⟨A,hA,hsrc⟩ : ∃A:Addr,(if c=i+1 then some (⟨b,0,none⟩:Addr)else some ⟨b,(i+1) * 25,none⟩)=some A∧(∀j v,us[j]? = some v→w.drew.cell? (A.add j)=some v):=by
  by_cases h:c=i+1
  ·refine⟨⟨b,0,none⟩,by simp[h],fun j v hj => ?_⟩
   have h0:us.length=0:=by rw[e1,show n-(i+1)=0 by omega,Nat.zero_mul]
   rw[List.length_eq_zero_iff.1 h0]at hj
   simp at hj
  ·refine⟨⟨b,(i+1) * 25,none⟩,by simp[h],fun j v hj => ?_⟩
   rw[hus,List.getElem?_drop,List.getElem?_take]at hj
   rw[A6,show w.drew.cell? ⟨b,(i+1) * 25+j,none⟩=w.cell? ⟨b,(i+1) * 25+j,none⟩from rfl,u0 hh]
   split at hj
   ·simpa using hj
   ·cases hj
 have h1u : ∀u∈us,one u:=fun u hu=>h1c u (by rw[hus]at hu;exact List.mem_of_mem_drop hu)
 obtain⟨W1,hW1⟩ : ∃W1,W1=wrote w.drew b (i * 25) cs us:=⟨_,rfl⟩
 have hap : ∀ty,(Builtin.append_ #[36,36] ty #[.slice (some ⟨b,0,none⟩) i c,.slice (some A) (n-(i+1)) (c-(i+1))]).run Tryz.prog w.drew = .ok (.slice (some ⟨b,0,none⟩) (i+(n-(i+1))) c) W1:=fun ty=>by
  have:=a6u (P:=Tryz.prog) (w:=w.drew) (ty:=ty) (T:=36) (b:=b) (n:=i) (cap:=c) (m:=n-(i+1)) (capx:=c-(i+1)) (a:=A) (cs:=cs) (us:=us) (T0:=T) Tryz.underlying36 hinf hh (by rw[hsz];exact e1) hsrc (by omega) (by rw[hsz];exact hs) h1u
  rw[this,hsz,hW1]
 have hh1:W1.heap[b]? = some (.cells (putAt cs.toList (i * 25) us).toArray T (0,0)):=by rw[hW1];exact A8 hh
 have hin:i+(n-(i+1))=n-1:=by omega
 rw[hin]at hap
 have hcl : ∀(W:World),W.heap=W1.heap → ∀ty cc,(Builtin.clear_ #[36] ty #[.slice (some ⟨b,(n-1) * 25,none⟩) 1 cc]).run Tryz.prog W = .ok (.tuple #[]) (wrote W b ((n-1) * 25) (putAt cs.toList (i * 25) us).toArray (Value.cells Z).toList):=fun W hW ty cc =>
  a6t (T0:=T) Tryz.underlying36 hzv (by rw[hW];exact hh1) (by rw[e3];rw[Array.length_toList]at e4;exact e4) hz1
 have hend : ∀W:World,W.heap=(wrote W1 b ((n-1) * 25) (putAt cs.toList (i * 25) us).toArray (Value.cells Z).toList).heap→W.os=w.os→W.tape=w.tape→W.output=w.output→DelE w W 25 (.slice (some ⟨b,0,none⟩) (n-1) c) n i b c cs T (closed cs 25 n i (Value.cells Z).toList):=fun W hW g1 g2 g3=>by
  refine⟨rfl,?_,e5,e6,e7,g1,g2,g3,?_,fun x hx => ?_⟩
  ·rw[hW,A8 hh1,closed,←hus]
  ·rw[hW,hW1];simp[wrote,World.setRow]
  ·rw[hW,u7 hx,hW1,u7 hx];rfl
 have hw2:IntKind.i64.wrap ((i:Int)+1)=((i+1:Nat):Int):=by rw[IntKind.wrap_i64];omega
 have hci : ¬(c=n-1):=by omega
 have hne : ¬((i:Int)=(i:Int)+1):=by omega
 have htn:((i:Int)+1).toNat=i+1:=by omega
 have hb1:(0:Int)≤(i:Int)+1:=by omega
 have hb2:(i:Int)+1≤(n:Int):=by omega
 have hb3:(i:Int)+1≤(c:Int):=by omega
 have hb4:i≤c:=by omega
 have hb5:(i:Int)≤(i:Int)+1:=by omega
 have hb6:n-(n-1)=1:=by omega
 have hb7:n-1≤n:=by omega
 have g1:W1.os=w.os:=by rw[hW1];rfl
 have g2:W1.tape=w.tape:=by rw[hW1];rfl
 have g3:W1.output=w.output:=by rw[hW1];rfl
 obtain⟨zs,hzs⟩ : ∃zs,zs=(Value.cells Z).toList:=⟨_,rfl⟩
 rw[←hzs]at hcl hend
 clear hzs hzv hz1 hzc hW1
 clear hinf hz hby e1 e2 e3 e4 e5 e6 e7 h1u hsrc hh1 h1c hus
 go_enter Tryz.func159,Tryz.ntmps159
 go_wp2_with fail
 go_region_law_o (refine a3p rfl (.tmp 22) (.tmp 25) 36 rfl _ _ (by simp[Act.eval,Act.put]) (by simp[Act.eval,Act.put]) (hap _) ?_)
 go_wp2_with (at_builtin;refine a2w _ rfl _ 36 rfl _ rfl (hcl _ rfl _ _) ?_)
 all_goals go_ret
 all_goals exact⟨.slice (some ⟨b,0,none⟩) (n-1) c,_,rfl,hend _ rfl g1 g2 g3⟩
theorem d8H:c6S Tryz.prog 159 .msg:=fun w n b cap cs T i hh h1 h2 h3 h4 h5 _=>d3W w n b cap cs T i hh h1 h2 h3 h4 h5
theorem c8x:b9 Tryz.prog 159 (.raw (delM .msg)) :=
 d3U ⟨_,_,Tryz.func159,by kernel_rfl,rfl⟩ d8H
end Go.Proofs.YtmnapekfeenknaaGreat
namespace Go.Proofs.YtmnapekfeenknaaGreat
open Go.Sx Go.Proofs Go.Mo
noncomputable def d6X:Sx.Spec:=⟨false,true,[.row .srv,.map,.arb,.int .i64],[[some .msg]],fun _ _ ⟨s,m,t,c,_⟩ => .asrt (fun _=>C0 (m ()) (s ())=true) (.ret (vW .msg fun _=>E7 (m ()) (s ()) (t ()) (c ()),fun _=>0))⟩
theorem d7y {α : Type} (l:List α):List.drop (Int.toNat 0) (List.take (if(l.length:Int)<4 then(l.length:Int)else 4).toNat l)=l.take 4:=by
 show List.drop 0 _=_
 rw[List.drop_zero]
 by_cases h:(l.length:Int)<4
 ·rw[if_pos h,Int.toNat_natCast,List.take_of_length_le (by omega),List.take_of_length_le (by omega)]
 ·rw[if_neg h];rfl
theorem a9H {t:RT} {l:List t.ty} {k:Nat} (h:k<4):nth t (l.take 4) k=nth t l k:=by
 unfold nth
 grind
theorem c7b {m:PMap} {s:Srv} {t:Arb} {c:Int} (ha:C0 m s=true) (hz : ¬(k8 s.holds c<0)):(nth .hld s.holds (k8 s.holds c).toNat).state.outs.length=2∧(nth .hld s.holds (k8 s.holds c).toNat).state.wlks.length≤9∧tkTo m t (nth .hld s.holds (k8 s.holds c).toNat) c 2=E7 m s t c:=by
 have hp:=a2M s.holds c
 have h1:z7 s c=true:=by simp[z7];omega
 have h2:j6 s c=nth .hld s.holds (k8 s.holds c).toNat:=by unfold j6;rw[if_pos (by omega)]
 have h3:=o7 (C2.1 (a6K ha (show(k8 s.holds c).toNat<s.holds.length by omega))).2.2
 refine⟨h3.2.2.2.2.2.2.1,Z7 (C2.1 (a6K ha (show(k8 s.holds c).toNat<s.holds.length by omega))).2.2,?_⟩
 ·rw[←h2];exact b8r h1
theorem c7a {m:PMap} {s:Srv} {t:Arb} {c:Int} (hz:k8 s.holds c<0):E7 m s t c = []:=by
 have h1:z7 s c=false:=by simp[z7];omega
 unfold E7
 rw[h1];rfl
theorem d8j (n:Nat):(NatCast.natCast n:Int)=(n:Int):=rfl
theorem d0a {k:Nat} (h:k≤1000):(IntKind.i64.wrap ((k:Int)+1)).toNat=k+1:=by rw[j4 (by omega)];rfl
theorem d4N {m:PMap} {t:Arb} {h:Hld} {c:Int} {T:List Msg} {i j:Nat} (hj:j<(List.take 4 (nth .pcls h.state.outs i)).length):T++tkP m t h c (i:Int) j ++ [(⟨5,n7 t (b7 m c i),b7 m c i,1-(i:Int),0,⟨0,0,0,0,0⟩,nth .pcl (List.take 4 (nth .pcls h.state.outs i)) j,⟨0,0,⟨0,0,0,0,0⟩⟩⟩:Msg)]=T++tkP m t h c (i:Int) (j+1):=by
 have h2:j<4∧j<(nth .pcls h.state.outs i).length:=by rw[List.length_take]at hj;omega
 have h3:j<(nth .pcls h.state.outs (i:Int).toNat).length:=h2.2
 rw[b8s h3,List.append_assoc,a9H h2.1]
 rfl
theorem d4Q {m:PMap} {t:Arb} {h:Hld} {c:Int} {T:List Msg} {i j:Nat} (hj:j<(List.take 4 (o8 m h (i:Int))).length):T++tkG m t h c (i:Int) j ++ [(⟨7,n7 t (b7 m c i),b7 m c i,1-(i:Int),0,⟨0,0,0,0,0⟩,⟨0,0,⟨0,0,0,0,0⟩,0⟩,nth .gst (List.take 4 (o8 m h (i:Int))) j⟩:Msg)]=T++tkG m t h c (i:Int) (j+1):=by
 have h2:j<4∧j<(o8 m h (i:Int)).length:=by rw[List.length_take]at hj;omega
 rw[b8t h2.2,List.append_assoc,a9H h2.1]
 rfl
theorem d7Y:b9 Tryz.prog 160 d6X:=j5 j3 (ss := [(185,a4d),(68,E6),(129,L5),(199,c4R)]) ⟨b2x,S9,a2F,d2d,trivial⟩ rfl rfl<|by
 intro(bs:Th (List Int)) (p:Th Int) ⟨(s:Th Srv),(m:Th PMap),(t:Th Arb),(c:Th Int),u⟩ K _ _ ho h
 obtain⟨s,rfl⟩:=b6 s;obtain⟨m,rfl⟩:=b6 m;obtain⟨t,rfl⟩:=b6 t;obtain⟨c,rfl⟩:=b6 c
 obtain⟨ha,h⟩:=h
 have ha:C0 m s=true:=ha.out
 have hp:=a2M s.holds c
 have hz : ¬(k8 s.holds c<0)→(nth .hld s.holds (k8 s.holds c).toNat).state.outs.length=2∧(nth .hld s.holds (k8 s.holds c).toNat).state.wlks.length≤9∧tkTo m t (nth .hld s.holds (k8 s.holds c).toNat) c 2=E7 m s t c:=fun hz=>c7b ha hz
 have hz0:k8 s.holds c<0→E7 m s t c = []:=fun hz=>c7a hz
 have hn : ∀k:Nat,(k:Int)<2→IntKind.i64.wrap (1-(k:Int))=1-(k:Int):=fun k hk=>e9 (by omega) (by omega)
 refine⟨annL [(160,7,⟨Th Int×Th Bool,[⟨.tmp 11 0,some 500,.msg⟩],fun σ g=>(fun(H:Th Hld)=>(((σ.only [3,4,5,6,8,10]).t 33 (.one (.att (.int .i64 g.1)))).t 11 (vO 500 1)).row 500 1 .msg (fun _=>tkTo m t (nth .hld s.holds (k8 s.holds c).toNat) c (g.1 ()).toNat)) (fun _=>a3k),fun _ g _=>Ob fun _=>0≤g.1 ()∧g.1 ()≤2∧0≤k8 s.holds c,fun _ g _=>2-(g.1 ()).toNat⟩),
  (160,14,⟨Th Bool×Th Int,[⟨.tmp 11 0,some 500,.msg⟩],fun σ g=>(fun(S:Th Int)=>(((σ.only [3,4,5,6,8,10,12,13,14,15,33,68,69]).t 70 (.one (.att (.int .i64 g.2)))).t 11 (vO 500 1)).row 500 1 .msg (fun _=>tkTo m t (nth .hld s.holds (k8 s.holds c).toNat) c (S ()).toNat++tkP m t (nth .hld s.holds (k8 s.holds c).toNat) c (S ()) (g.2 ()).toNat)) (σ.tmI 12),fun σ g _=>Ob ((fun(S:Th Int)=>fun _=>0≤g.2 ()∧g.2 ()≤4∧g.2 ()≤(nth .pcls (nth .hld s.holds (k8 s.holds c).toNat).state.outs (S ()).toNat).length) (σ.tmI 12)),fun _ g _=>5-(g.2 ()).toNat⟩),
  (160,22,⟨Th Int×Th Int,[⟨.tmp 11 0,some 500,.msg⟩],fun σ g=>(fun(S:Th Int)=>(((σ.only [3,4,5,6,8,10,12,13,14,15,33,91,92]).t 93 (.one (.att (.int .i64 g.1)))).t 11 (vO 500 1)).row 500 1 .msg (fun _=>tkTo m t (nth .hld s.holds (k8 s.holds c).toNat) c (S ()).toNat++tkP m t (nth .hld s.holds (k8 s.holds c).toNat) c (S ()) 4++tkG m t (nth .hld s.holds (k8 s.holds c).toNat) c (S ()) (g.1 ()).toNat)) (σ.tmI 12),fun σ g _=>Ob ((fun(S:Th Int)=>fun _=>0≤g.1 ()∧g.1 ()≤4∧g.1 ()≤(o8 m (nth .hld s.holds (k8 s.holds c).toNat) (S ())).length) (σ.tmI 12)),fun _ g _=>5-(g.1 ()).toNat⟩)],noAnn,20,?_⟩
 cbv
 repeat' first|((with_reducible refine fun(g:Th Int×Th Bool) => ?_);obtain⟨i,z⟩:=g;obtain⟨i,rfl⟩:=b6 i;obtain⟨z,rfl⟩:=b6 z;(with_reducible refine ImpB.out ?_);cbv;(with_reducible refine ImpB.mk ?_);intro hq;obtain⟨hq⟩:=hq;have hq0:=hq.1;obtain⟨i,rfl⟩:=Int.eq_ofNat_of_zero_le hq0;clear hq0)|((with_reducible refine fun(g:Th Bool×Th Int) => ?_);obtain⟨z,j⟩:=g;obtain⟨z,rfl⟩:=b6 z;obtain⟨j,rfl⟩:=b6 j;(with_reducible refine ImpB.out ?_);cbv;(with_reducible refine ImpB.mk ?_);intro hq;obtain⟨hq⟩:=hq;have hq0:=hq.1;obtain⟨j,rfl⟩:=Int.eq_ofNat_of_zero_le hq0;clear hq0)|((with_reducible refine fun(g:Th Int×Th Int) => ?_);obtain⟨k,z⟩:=g;obtain⟨k,rfl⟩:=b6 k;obtain⟨z,rfl⟩:=b6 z;(with_reducible refine ImpB.out ?_);cbv;(with_reducible refine ImpB.mk ?_);intro hq;obtain⟨hq⟩:=hq;have hq0:=hq.1;obtain⟨k,rfl⟩:=Int.eq_ofNat_of_zero_le hq0;clear hq0)|((with_reducible intro _);cbv)|(with_reducible refine And.intro ?_ ?_)
 all_goals try((first|(with_reducible refine LoopIn.wf (fun σ => (σ.tmI 33,r7)) ?_ ?_)|(with_reducible refine LoopBack.wf (fun σ => (σ.tmI 33,r7)) ?_ ?_ ?_)|(with_reducible refine LoopIn.wf (fun σ => (r7,σ.tmI 70)) ?_ ?_)|(with_reducible refine LoopBack.wf (fun σ => (r7,σ.tmI 70)) ?_ ?_ ?_)|(with_reducible refine LoopIn.wf (fun σ => (σ.tmI 93,G8)) ?_ ?_)|(with_reducible refine LoopBack.wf (fun σ => (σ.tmI 93,G8)) ?_ ?_ ?_))<;>cbv)
 all_goals try(with_reducible show _∧_;(try simp only[and_true,true_and]))
 all_goals try(repeat' with_reducible refine And.intro ?_ ?_)
 all_goals try(with_reducible refine MeasB.mk ?_)
 all_goals first|(refine retK h ?_;clear h;simp only[fin0])|(with_reducible refine Ob.mk ?_;clear h)|(clear h)
 all_goals(try simp only[eta0,RT.bytes]at *)
 all_goals(try dsimp only[RT.ty]at *)
 all_goals(try simp only[d7y,Int.toNat_natCast]at *)
 all_goals(try simp only[d8j]at *)
 all_goals(try simp(disch:=assumption) only[hn])
 all_goals(first|omega|(simp(disch:=omega) only[d0a];first|exact d4N ‹_› | exact d4Q ‹_›)|grind[j4,c6Y,c6Z,d0m,d0n,b8s,d4P,d0o,b8t,d4S,d4O,d4R,b1w,x6,A2,K0,a9H])
end Go.Proofs.YtmnapekfeenknaaGreat
namespace Go.Mo
open Go.Sx
def d7s (a b:Th Int) (l:Th (List Wlk)) (k q:Th Int) (p:Int):Th Prop:=fun _=>o9 ⟨a (),b ()⟩=true∧x7 ⟨a (),b ()⟩ (l ())=true∧0≤k ()∧k ()≤5∧p≤q ()∧q ()≤p+3+2 * (5-k ())∧(∀v∈l (),v.seq=0∧v.last=0)∧(l ()).length+k ()≤5
theorem c7z {l:List Wlk} {k x y:Int} (h : ∀v∈l,v.seq=0∧v.last=0) : ∀v∈N3 l ⟨k,x,y,0,0⟩,v.seq=0∧v.last=0:=fun v hv=>by
 rcases b6W hv with hx|rfl
 ·exact h v hx
 ·exact⟨rfl,rfl⟩
end Go.Mo
namespace Go.Proofs.YtmnapekfeenknaaGreat
open Go.Sx Go.Proofs Go.Mo
noncomputable def c4X:Sx.Spec:=⟨true,false,[],[nWld],fun _ p _ => .asrt (fun _=>0≤p ()∧p ()≤980000000000) (.all Int fun a => .all Int fun b => .all (List Srv) fun c => .all (List Sto) fun d => .all (List Int) fun e => .all (List Int) fun f => .all (List Row) fun g => .all (List Msg) fun h => .all (List Note) fun i => .all Int fun q => .asm (fun _=>p ()≤q∧q≤p ()+100∧BegE ⟨⟨a,b⟩,c,d,⟨e,f⟩,g,h,i⟩) (.ret (rWld a b c d e f g h i,fun _=>q)))⟩
theorem d2l:b9 Tryz.prog 98 c4X:=j5 j3 (ss := [(48,U4),(110,a0X),(13,a5P),(139,a5R)]) ⟨M4,a3E,a9C,a6Y,trivial⟩ rfl rfl<|by
 intro(bs:Th (List Int)) (p:Th Int) u K hb hp0 ho h
 obtain⟨bs,rfl⟩:=b6 bs;obtain⟨p,rfl⟩:=b6 p
 obtain⟨hpre,h⟩:=h
 have hpre:0≤p∧p≤980000000000:=hpre.out
 refine⟨annL [(98,4,⟨Th (List Wlk)×Th Int×Th Int,[⟨.tmp 4 0,some 16,.wlk⟩],fun σ g=>((((σ.fgs [16]).t 5 (.one (.att (.int .i64 g.2.1)))).t 4 (vO 16 1)).h 16 (1,.row true 0 .wlk g.1)).u9 0 1 (.att (.int .i64 g.2.2)),
   fun σ g _=>Ob (d7s (asI (σ.ce 4 0)) (asI (σ.ce 4 1)) g.1 g.2.1 g.2.2 p),fun _ g _=>(g.2.1 ()).toNat⟩),
  (98,9,⟨Th Wld×Th Int×Th Int,[⟨.cell 7 2,none,.srv⟩,⟨.cell 7 3,none,.sto⟩,⟨.cell 7 4,none,.int⟩,⟨.cell 7 5,none,.int⟩,⟨.cell 7 6,none,.row⟩,⟨.cell 7 7,none,.msg⟩,⟨.cell 7 8,none,.note⟩],fun σ g=>((((St.kill σ [23810,23811,23812,23813,23814,23815,23816]).only [0,2,3,6]).t 7 (.one (.att (.int .i64 g.2.1)))).a4D 7 0 (a3e g.1)).u9 0 1 (.att (.int .i64 g.2.2)),
   fun _ g _=>Ob fun _=>BegE (g.1 ())∧0≤g.2.1 ()∧g.2.1 ()≤4∧p≤g.2.2 ()∧g.2.2 ()≤p+20+2 * g.2.1 (),fun _ g _=>(4-g.2.1 ()).toNat⟩)],noAnn,20,?_⟩
 cbv
 repeat' first|((with_reducible refine fun(g:Th (List Wlk)×Th Int×Th Int) => ?_);obtain⟨l,k,q⟩:=g;obtain⟨l,rfl⟩:=b6 l;obtain⟨k,rfl⟩:=b6 k;obtain⟨q,rfl⟩:=b6 q;(with_reducible refine ImpB.out ?_);cbv;(with_reducible refine ImpB.mk ?_);intro hq;obtain⟨hq⟩:=hq)|((with_reducible refine fun(g:Th Wld×Th Int×Th Int) => ?_);obtain⟨w,c,q⟩:=g;obtain⟨w,rfl⟩:=b6 w;obtain⟨c,rfl⟩:=b6 c;obtain⟨q,rfl⟩:=b6 q;(with_reducible refine ImpB.out ?_);cbv;(with_reducible refine ImpB.mk ?_);intro hq;obtain⟨hq⟩:=hq)|((with_reducible intro _);cbv)|(with_reducible refine And.intro ?_ ?_)
 all_goals try((first|(with_reducible refine LoopIn.wf (fun σ => (σ.rowL .wlk 16,σ.tmI 5,asI (σ.ce 0 1))) ?_ ?_)|(with_reducible refine LoopBack.wf (fun σ => (σ.rowL .wlk 16,σ.tmI 5,asI (σ.ce 0 1))) ?_ ?_ ?_)|(with_reducible refine LoopIn.wf (fun σ => (b0r σ 7,σ.tmI 7,asI (σ.ce 0 1))) ?_ ?_)|(with_reducible refine LoopBack.wf (fun σ => (b0r σ 7,σ.tmI 7,asI (σ.ce 0 1))) ?_ ?_ ?_))<;>cbv)
 all_goals try(with_reducible show _∧_;(try simp only[and_true,true_and]))
 all_goals try(repeat' with_reducible refine And.intro ?_ ?_)
 all_goals try(with_reducible refine MeasB.mk ?_)
 all_goals first|(refine retK (h _ _ _ _ _ _ _ _ _ _ ?_) rfl;clear h)|(with_reducible refine Ob.mk ?_;clear h)|(clear h)
 all_goals(try simp only[eta0,RT.bytes]at *)
 all_goals(try simp only[d7s]at *)
 all_goals(try dsimp only[RT.ty]at *)
 all_goals(try simp only[M0]at *)
 all_goals(try(have hfew:=b0Y hq.2.1))
 all_goals(try(first|omega|rfl|exact⟨by omega,by omega,hq.1⟩))
 ·rename_i x5 x4 ha x3 x2 hb1 x1 x0 hc
  have hw:IntKind.i64.wrap (1+x1)=1+x1:=e9 (by omega) (by omega)
  rw[hw]
  exact⟨c6J ⟨ha.1,ha.2.1⟩ ⟨hb1.1,hb1.2.1⟩,by simp[x7,m9],by omega,by omega,by omega,by omega,(by intro v hv;cases hv),by simp only[List.length_nil];omega⟩
 ·rename_i x3 x2 ha x1 x0 hb1 hk
  have hw:IntKind.i64.wrap (k-1)=k-1:=e9 (by omega) (by omega)
  rw[hw]
  have hpl:=a6H l ⟨k,x3,nth .int [0,3,10,40,95,99] x1.toNat,0,0⟩
  exact⟨hq.1,c6I hq.1 hq.2.1 hk (by omega) ⟨ha.1,ha.2.1⟩ ⟨hb1.1,hb1.2.1⟩,by omega,by omega,by omega,by omega,c7z hq.2.2.2.2.2.2.1,by omega⟩
 ·have hw:IntKind.i64.wrap (k-1)=k-1:=e9 (by omega) (by omega)
  rw[hw]
  omega
 ·rename_i x1 x0 hc hk
  have hw:IntKind.i64.wrap (1+x1)=1+x1:=e9 (by omega) (by omega)
  exact⟨⟨l,@d6F ⟨_,_⟩ l (IntKind.i64.wrap (1+x1)) hq.1 hq.2.1 (by rw[hw];omega) (by rw[hw];omega) hq.2.2.2.2.2.2.1 (by omega)⟩,by omega,by omega,by omega,by omega⟩
 ·refine⟨c9K hq.1 _ _,?_⟩
  grind[e9]
 ·grind[e9]
noncomputable def b9k:Sx.Spec:=⟨false,false,[.list .byte],[nWld,[some .evt]],fun _ _ _ => .all Int fun a => .all Int fun b => .all (List Srv) fun c => .all (List Sto) fun d => .all (List Int) fun e => .all (List Int) fun f => .all (List Row) fun g => .all (List Msg) fun h => .all (List Note) fun i => .all (List Evt) fun l => .asm (fun _=>BegE ⟨⟨a,b⟩,c,d,⟨e,f⟩,g,h,i⟩∧l.length≤149) (.ret (.tup [rWld a b c d e f g h i,vL .evt fun _=>l],fun _=>0))⟩
theorem c8w:b9 Tryz.prog 37 b9k:=j5 j3 (ss := [(98,c4X),(48,U4),(99,b6N)]) ⟨d2l,M4,c0h,trivial⟩ rfl rfl<|by
 intro(bs:Th (List Int)) (p:Th Int) ⟨(l:Th (List Int)),u⟩ K hb hp0 ho h
 obtain⟨l,rfl⟩:=b6 l
 have hk : ∀w:Wld,BegE w→w.rows.length≤9∧w.stores.length≤4:=fun w h=>⟨(b2l (c6M h)).1,(b2l (c6M h)).2.1⟩
 refine⟨noAnn,noAnn,20,?_⟩
 cbv
 repeat' first|((with_reducible intro _);cbv)|(with_reducible refine And.intro ?_ ?_)
 all_goals first|(refine retK (h _ _ _ _ _ _ _ _ _ _ ?_) rfl;clear h)|(refine retK (h _ _ _ _ _ _ _ _ _ _ ?_) rfl)|(with_reducible refine Ob.mk ?_;clear h)|(clear h)
 all_goals(try simp only[eta0,RT.bytes]at *)
 all_goals(try dsimp only[RT.ty]at *)
 all_goals(try simp only[M0]at *)
 all_goals(first|rfl|omega|grind[e9])
end Go.Proofs.YtmnapekfeenknaaGreat
