/-
  Contracts: a world in new memory, the reference's way.
-/
import Derived.Test.YtihaeoicjglieaaGreatGrT
import Derived.Test.YtihaeoicjglieaaGreatInsG
import Derived.Test.YtihaeoicjglieaaGreatM3
import Derived.Test.YtihaeoicjglieaaGreatGnC
import Derived.Test.YtihaeoicjglieaaGreatGnF
set_option linter.unusedVariables false
set_option linter.unusedSimpArgs false
set_option maxRecDepth 100000
set_option maxHeartbeats 8000000
namespace Go.Proofs.YtihaeoicjglieaaGreat
open Go.Sx Go.Proofs Go.Mo
noncomputable def nWld:List (Option RT) := [none,none,some .srv,some .sto,some .int,some .int,some .row,some .msg,some .note]
noncomputable def b0O:Sx.Spec:=⟨false,true,[.row .wld],[nWld],fun _ _ ⟨w,_⟩ => .ret (oWld w,fun _=>0)⟩
theorem b4u:b8 Tryz.prog 84 b0O:=j4 e9 (ss := [(152,a4q),(153,a3z),(154,a5g)]) ⟨a9I,a5t,a8P,trivial⟩ rfl rfl<|by
 intro(bs:Th (List Int)) (p:Th Int) ⟨(w:Th Wld),u⟩ K _ _ ho h
 obtain⟨w,rfl⟩:=b6 w
 have hb0:=okB (ho.1 _ (.tail _ (.tail _ (.head _))))
 have hb3:=okB (ho.1 _ (.tail _ (.tail _ (.tail _ (.tail _ (.head _))))))
 have hb4:=okB (ho.1 _ (.tail _ (.tail _ (.tail _ (.tail _ (.tail _ (.head _)))))))
 have hb6:=okB (ho.1 _ (.tail _ (.tail _ (.tail _ (.tail _ (.tail _ (.tail _ (.tail _ (.head _)))))))))
 have hb7:=okB (ho.1 _ (.tail _ (.tail _ (.tail _ (.tail _ (.tail _ (.tail _ (.tail _ (.tail _ (.head _))))))))))
 have hs:=fun k => @M0 .srv w.servers k
 have hz:=a2f w.servers
 refine⟨annL [(84,4,⟨Nat,[⟨.cell 4 2,some 51,.srv⟩],fun σ k=>(((σ.fgs [51,14,18,23,28]).t 4 (vI fun _=>(k:Int))).u7 4 2 (.own 51 1)).row 51 1 .srv (fun _=>pre w.servers k),fun _ k _=>k≤w.servers.length,fun _ k _=>w.servers.length-k⟩)],noAnn,20,?_⟩
 cbv
 repeat' first|((with_reducible refine fun(k:Nat) => ?_);cbv)|((with_reducible intro _);cbv)|(with_reducible refine And.intro ?_ ?_)
 all_goals try((first|(with_reducible refine LoopIn.mk ((0:Nat)) ?_ ?_)|(with_reducible refine LoopBack.mk ((k+1:Nat)) ?_ ?_ ?_)) )
 all_goals try((with_reducible show m0 _ _);cbv;(try simp only[and_true,true_and]))
 all_goals try(repeat' with_reducible refine And.intro ?_ ?_)
 all_goals first|(refine retK h ?_;clear h;simp only[fin0])|(with_reducible refine Ob.mk ?_;clear h)|(clear h)
 all_goals(try simp only[eta0,RT.bytes]at *)
 all_goals(try grind[a0Q,a2g,j3])
theorem a6r (n:Nat):(NatCast.natCast n:Int)=(n:Int):=rfl
theorem a6L (m:PMap) (t:Arb) (h:Hld) (cell side:Int) (hc:h.state.cell=cell):a2a m t h side=C4 m t h cell side:=by
 subst hc
 rfl
theorem d3u {m:PMap} {s:Srv} {t:Arb} {v c:Int} (h1:B5 m s=true) (h2:C2 m t v=true):a4l m s t v c=D7 m s t c:=by
 simp only[a4l,D7,h1,h2,true_and]
 split
 ·rename_i hh
  have hcc:(j6 s c).state.cell=c:=by
   simp only[A6,decide_eq_true_eq]at hh
   rw[j6,if_pos hh]
   exact a3g hh
  rw[a6L m t _ c 0 hcc,a6L m t _ c 1 hcc]
 ·rfl
theorem b7Y {l:List Msg} {n k:Nat} (h1:k≤l.length) (h2:n+k≤40) (h3:k<l.length → ¬n+k<40):l.take k=l.take (40-n):=by
 by_cases hk:k<l.length
 ·have:=h3 hk
  rw[show k=40-n by omega]
 ·rw[List.take_of_length_le (by omega),List.take_of_length_le (by omega)]
theorem a6S {a l:List Msg} {k:Nat} (h1:k≤l.length) (h2:a.length+k≤40) (h3:k<l.length → ¬(a.length+(l.take k).length)<40):a++l.take k=a++l.take (40-a.length):=by
 have h4:(l.take k).length=k:=by simp;omega
 rw[h4]at h3
 rw[b7Y h1 h2 h3]
theorem c8t {l:List Msg} {i k:Nat} (h:k≤l.length) (h2 : ¬k<l.length):a0X l i k=l.eraseIdx i:=by
 rw[show k=l.length by omega]
 exact b4W l i
theorem c9C {l o:List Msg} {i k j:Nat} (hk:k≤l.length) (hk2 : ¬k<l.length) (h1:j≤o.length) (h2:(a0X l i k).length+j≤40) (h3:j<o.length → ¬((a0X l i k).length+(o.take j).length)<40):a0X l i k++o.take j=l.eraseIdx i++o.take (40-(l.eraseIdx i).length):=by
 rw[c8t hk hk2]at *
 exact a6S h1 h2 h3
theorem c6c {l:List Msg} {k:Nat} (h:k≤l.length):(l.take k).length=k:=by simp;omega
theorem c6b {l:List Msg} {k:Nat} (h:k<l.length):l.take (k+1)=l.take k ++ [nth .msg l k]:=M0 .msg h
theorem L5 {w:Wld} (h:j8 w=true):C2 w.map w.table w.servers.length=true∧A9 w.map w.stores=true∧B9 w.map w.rows=true∧w.net.length≤40∧w.notes.length≤150 ∧
  (∀i,i<w.net.length→y5 w.map w.servers.length (nth .msg w.net i)=true ∧ -1≤(nth .msg w.net i).dest∧(nth .msg w.net i).dest<w.servers.length)∧(∀i,i<w.servers.length→B5 w.map (nth .srv w.servers i)=true)∧1≤w.servers.length∧w.servers.length≤3:=by
 obtain⟨h1,h2,h3,h4,h5,h6,h7,h8,h9⟩:=n0.1 h
 have ha:=E9 h1
 refine⟨h1,h2,h3,h4,h5,fun i hi => ?_,fun i hi=>(h7 _ (s4 .srv hi)).1,by omega,by omega⟩
 have hm:=(h8 _ (s4 .msg hi)).1
 refine⟨hm,?_⟩
 simp only[y5,H7,decide_eq_true_eq]at hm
 omega
theorem c7V {m:PMap} {t:Arb} {v cell server:Int} (ht:C2 m t v=true) (hg:(Q4 m t v cell server).ok=true):0≤cell∧cell<(Q4 m t v cell server).t.ages.length:=by
 have:=E9 ht
 simp only[Q4,if_pos ht]at hg ⊢
 unfold p9 at hg ⊢
 split at hg
 ·rename_i hc
  rw[if_pos hc]
  simp only[List.length_set]
  omega
 ·cases hg
theorem b6R (p:Int) (n:Nat) (hn:(n:Int)≤1000000):inR p 0 (IntKind.i64.wrap ((n:Int)-1))=decide (0≤p∧p<(n:Int)):=by
 rw[e8 (by omega) (by omega)]
 simp only[inR]
 congr 1
 simp only[eq_iff_iff]
 omega
section
variable {w:Wld} {e:Evt} (h:j8 w=true)
include h
theorem d6c (hk:e.kind=1):b9 w e=if(Q4 w.map w.table w.servers.length e.pos e.dest).ok=true then⟨w.map,w.servers,w.stores,(Q4 w.map w.table w.servers.length e.pos e.dest).t,w.rows,w.net++([⟨1,e.dest,e.pos,0,nth .int (Q4 w.map w.table w.servers.length e.pos e.dest).t.ages e.pos.toNat,⟨0,0,0,0,0⟩,⟨0,0,⟨0,0,0,0,0⟩,0⟩,⟨0,0,⟨0,0,0,0,0⟩⟩⟩]:List Msg).take (40-w.net.length),w.notes⟩else w:=by
 have hF:=L5 h
 simp only[b9,v5,h,hk,if_true,Q4,hF.1,v7,u5,y8,F8]
theorem d6b (hk:e.kind=2):b9 w e=⟨w.map,w.servers,w.stores,w.table,(a7U w.map w.rows e.pos e.what e.dest e.n).b,w.net,w.notes⟩:=by
 have hF:=L5 h
 simp[b9,v5,h,hk,a7U,hF.2.2.1]
theorem d6a (hk:e.kind=3):b9 w e=if(a5y w.map w.rows w.table w.servers.length e.pos).ok=true then⟨w.map,w.servers,w.stores,w.table,w.rows,w.net ++ [(a5y w.map w.rows w.table w.servers.length e.pos).x].take (40-w.net.length),w.notes⟩else w:=by
 have hF:=L5 h
 simp[b9,v5,h,hk,a5y,hF.1,hF.2.2.1,v7]
theorem c3s (hk:e.kind=4) (hn : ¬(0≤e.pos∧e.pos<(w.net.length:Int))):b9 w e=w:=by
 simp only[b9,v5,h,hk,if_true]
 rw[if_neg (by decide),if_neg (by decide),if_neg (by decide),if_pos (by decide),if_neg hn]
theorem d3B (hk:e.kind=4) (hn:0≤e.pos∧e.pos<(w.net.length:Int)) (hd:(nth .msg w.net e.pos.toNat).dest = -1):b9 w e=⟨w.map,w.servers,w.stores,w.table,(a1N w.map w.rows w.servers.length (nth .msg w.net e.pos.toNat)).b,w.net.eraseIdx e.pos.toNat,
  if(a1N w.map w.rows w.servers.length (nth .msg w.net e.pos.toNat)).ok=true∧w.notes.length<150 then w.notes ++ [⟨(nth .msg w.net e.pos.toNat).ord.who,(nth .msg w.net e.pos.toNat).ord.seq,(nth .msg w.net e.pos.toNat).n⟩]else w.notes⟩:=by
 have hF:=L5 h
 have hm:=(hF.2.2.2.2.2.1 e.pos.toNat (by omega)).1
 have hx:a1N w.map w.rows w.servers.length (nth .msg w.net e.pos.toNat)=B2 w.map w.rows (nth .msg w.net e.pos.toNat):=by rw[a1N,if_pos ⟨hF.2.2.1,hm⟩]
 rw[hx]
 simp only[b9,v5,h,hk,if_true]
 rw[if_neg (by decide),if_neg (by decide),if_neg (by decide),if_pos (by decide),if_pos hn]
 simp only[V8,hd,if_true,a1y,wCut]
 rfl
theorem c3t (hk:e.kind=4) (hn:0≤e.pos∧e.pos<(w.net.length:Int)) (hd : ¬(nth .msg w.net e.pos.toNat).dest = -1):b9 w e=⟨w.map,w.servers.set (nth .msg w.net e.pos.toNat).dest.toNat (G4 w.map (nth .srv w.servers (nth .msg w.net e.pos.toNat).dest.toNat) w.stores w.table w.servers.length (nth .msg w.net e.pos.toNat)).srv,
  (G4 w.map (nth .srv w.servers (nth .msg w.net e.pos.toNat).dest.toNat) w.stores w.table w.servers.length (nth .msg w.net e.pos.toNat)).stores,w.table,w.rows,w.net.eraseIdx e.pos.toNat++(G4 w.map (nth .srv w.servers (nth .msg w.net e.pos.toNat).dest.toNat) w.stores w.table w.servers.length (nth .msg w.net e.pos.toNat)).out.take (40-(w.net.eraseIdx e.pos.toNat).length),w.notes⟩:=by
 have hF:=L5 h
 have hm:=hF.2.2.2.2.2.1 e.pos.toNat (by omega)
 have hs:=hF.2.2.2.2.2.2.1 (nth .msg w.net e.pos.toNat).dest.toNat (by omega)
 have hx:G4 w.map (nth .srv w.servers (nth .msg w.net e.pos.toNat).dest.toNat) w.stores w.table w.servers.length (nth .msg w.net e.pos.toNat)=o6 w.map (nth .srv w.servers (nth .msg w.net e.pos.toNat).dest.toNat) w.stores w.table (nth .msg w.net e.pos.toNat):=by rw[G4,if_pos ⟨hs,hF.2.1,hF.1,hm.1⟩]
 rw[hx]
 simp only[b9,v5,h,hk,if_true]
 rw[if_neg (by decide),if_neg (by decide),if_neg (by decide),if_pos (by decide),if_pos hn]
 simp only[V8,hd,if_false,a1Z,wCut,v7]
theorem d5Z (hk:e.kind=5):b9 w e=if 0≤e.pos∧e.pos<(w.net.length:Int)then⟨w.map,w.servers,w.stores,w.table,w.rows,w.net.eraseIdx e.pos.toNat,w.notes⟩else w:=by
 simp only[b9,v5,h,hk,if_true]
 rw[if_neg (by decide),if_neg (by decide),if_neg (by decide),if_pos (by decide)]
 by_cases hp:0≤e.pos∧e.pos<(w.net.length:Int)
 ·rw[if_pos hp,if_pos hp,if_neg (by decide)]
  rfl
 ·rw[if_neg hp,if_neg hp]
theorem c9r (hk:e.kind=6):b9 w e=if 0≤e.pos∧e.pos<(w.net.length:Int)then⟨w.map,w.servers,w.stores,w.table,w.rows,w.net ++ [nth .msg w.net e.pos.toNat].take (40-w.net.length),w.notes⟩else w:=by
 simp only[b9,v5,h,hk,if_true]
 rw[if_neg (by decide),if_neg (by decide),if_neg (by decide),if_pos (by decide)]
 by_cases hp:0≤e.pos∧e.pos<(w.net.length:Int)
 ·rw[if_pos hp,if_pos hp,if_neg (by decide),if_neg (by decide)]
  rfl
 ·rw[if_neg hp,if_neg hp]
theorem d5Y (hk:e.kind=7):b9 w e=if 0≤e.pos∧e.pos<(w.servers.length:Int)then⟨w.map,w.servers,w.stores,w.table,w.rows,w.net++(a4l w.map (nth .srv w.servers e.pos.toNat) w.table w.servers.length e.dest).take (40-w.net.length),w.notes⟩else w:=by
 have hF:=L5 h
 simp only[b9,v5,h,hk,if_true]
 rw[if_neg (by decide),if_neg (by decide),if_neg (by decide),if_neg (by decide),if_pos (by decide)]
 by_cases hp:0≤e.pos∧e.pos<(w.servers.length:Int)
 ·rw[if_pos hp,if_pos hp,d3u (hF.2.2.2.2.2.2.1 e.pos.toNat (by omega)) hF.1]
  rfl
 ·rw[if_neg hp,if_neg hp]
theorem d5X (hk:e.kind=8):b9 w e=if 0≤e.pos∧e.pos<(w.servers.length:Int)then⟨w.map,w.servers.set e.pos.toNat ⟨false,[],[]⟩,w.stores,w.table,w.rows,w.net,w.notes⟩else w:=by
 simp only[b9,v5,h,hk,if_true]
 rw[if_neg (by decide),if_neg (by decide),if_neg (by decide),if_neg (by decide),if_pos (by decide)]
 by_cases hp:0≤e.pos∧e.pos<(w.servers.length:Int)
 ·rw[if_pos hp,if_pos hp,if_neg (by decide)]
 ·rw[if_neg hp,if_neg hp]
theorem c9q (hk:e.kind=9):b9 w e=if 0≤e.pos∧e.pos<(w.servers.length:Int)∧(nth .srv w.servers e.pos.toNat).up=false then⟨w.map,w.servers.set e.pos.toNat ⟨true,[],[]⟩,w.stores,w.table,w.rows,w.net,w.notes⟩else w:=by
 simp only[b9,v5,h,hk,if_true]
 rw[if_neg (by decide),if_neg (by decide),if_neg (by decide),if_neg (by decide),if_pos (by decide)]
 by_cases hp:0≤e.pos∧e.pos<(w.servers.length:Int)
 ·rw[if_pos hp,if_neg (by decide),if_neg (by decide)]
  by_cases hu:(nth .srv w.servers e.pos.toNat).up=false
  ·rw[if_pos hu,if_pos ⟨hp.1,hp.2,hu⟩]
  ·rw[if_neg hu,if_neg (fun hq=>hu hq.2.2)]
 ·rw[if_neg hp,if_neg (fun hq=>hp ⟨hq.1,hq.2.1⟩)]
theorem d3A (h1 : ¬e.kind=1) (h2 : ¬e.kind=2) (h3 : ¬e.kind=3) (h4 : ¬e.kind=4) (h5 : ¬e.kind=5) (h6 : ¬e.kind=6) (h7 : ¬e.kind=7) (h8 : ¬e.kind=8) (h9 : ¬e.kind=9):b9 w e=w:=by
 simp only[b9,v5,h,if_true]
 rw[if_neg h1,if_neg h2,if_neg h3,if_neg (by omega),if_neg (by omega)]
end
theorem L9 {w:Wld} {e:Evt} (h:j8 w=false):b9 w e=a1f:=by simp[b9,h]
end Go.Proofs.YtihaeoicjglieaaGreat
namespace Go.Proofs.YtihaeoicjglieaaGreat
open Go.Sx Go.Proofs Go.Mo
noncomputable def b8m:Sx.Spec:=⟨false,true,[.map,.book,.int .i64,.row .msg],[[some .row],[none]],fun _ _ ⟨m,l,s,x,_⟩ => .ret (.tup [oAs [.list .row fun _=>(a1N (m ()) (l ()) (s ()) (x ())).b],vB fun _=>(a1N (m ()) (l ()) (s ()) (x ())).ok],fun _=>0)⟩
theorem c1U:b8 Tryz.prog 238 b8m:=j4 e9 (ss := [(88,a6g),(157,a8B),(153,a3z),(197,X2)]) ⟨a7y,b1z,a5t,b6A,trivial⟩ rfl rfl<|by
 intro(bs:Th (List Int)) (p:Th Int) ⟨(m:Th PMap),(l:Th (List Row)),(s:Th Int),(x:Th Msg),u⟩ K _ _ ho h
 obtain⟨m,rfl⟩:=b6 m;obtain⟨l,rfl⟩:=b6 l;obtain⟨s,rfl⟩:=b6 s;obtain⟨x,rfl⟩:=b6 x
 have hp:=a2C l x.ord.who
 have hlt0 : ¬m5 l x.ord.who = -1→(m5 l x.ord.who).toNat<l.length:=fun h=>by omega
 have hq:=fun(h:B9 m l=true)=>b4G h
 have hr := @c0D (nth .row l (m5 l x.ord.who).toNat).cell m.cells
 refine⟨noAnn,noAnn,20,?_⟩
 cbv
 repeat' first|((with_reducible intro _);cbv)|(with_reducible refine And.intro ?_ ?_)
 all_goals first|(refine retK h ?_;clear h;simp only[fin0])|(with_reducible refine Ob.mk ?_;clear h)|(clear h)
 all_goals(try simp only[eta0,RT.bytes]at *)
 all_goals(try have hlt:=hlt0 (by assumption))
 all_goals(try(have hz:=hq (by assumption);obtain⟨hm1,hm2,hc⟩:=hz))
 all_goals(try have hw:=e8 (n:=(nth .row l (m5 l x.ord.who).toNat).cell+1) (by have:=hc _ hlt;omega) (by have:=hc _ hlt;omega))
 all_goals(try simp only[l9 .row hlt,List.set_set,List.length_set]at *)
 all_goals(try simp only[a6e,l9 .row hlt,List.set_set,List.length_set,b7z,b0C]at *)
 all_goals(try simp only[hw]at *)
 all_goals(try simp only[a1N,B2,Mo.rowAt]at *)
 all_goals(try generalize ((nth RT.row l (m5 l x.ord.who).toNat).cell+1).tmod m.cells=q at *)
 all_goals grind[u5,a7r]
noncomputable def b0R:Sx.Spec:=⟨false,true,[.row .wld],[],fun _ _ ⟨w,_⟩ => .asrt (fun _=>C2 (w ()).map (w ()).table (w ()).servers.length=true) (.ret (vB fun _=>a8w (w ()),fun _=>0))⟩
noncomputable def c9H:Sx.Spec:=⟨false,true,[.row .wld],[],fun _ _ ⟨w,_⟩ => .asrt (fun _=>C2 (w ()).map (w ()).table (w ()).servers.length=true) (.ret (vB fun _=>b1N (w ()),fun _=>0))⟩
noncomputable def b8g:Sx.Spec:=⟨false,true,[.list .note],[],fun _ _ ⟨l,_⟩ => .ret (vB fun _=>a7G (l ()),fun _=>0)⟩
noncomputable def Q5:Sx.Spec:=⟨false,true,[.row .wld],[],fun _ _ ⟨w,_⟩ => .ret (vB fun _=>j8 (w ()),fun _=>0)⟩
theorem b9a:b8 Tryz.prog 89 b0R:=j4 e9 (ss := [(156,a8z)]) ⟨b1v,trivial⟩ rfl rfl<|by
 intro(bs:Th (List Int)) (p:Th Int) ⟨(w:Th Wld),u⟩ K _ _ ho h
 obtain⟨w,rfl⟩:=b6 w
 obtain⟨ha,h⟩:=h
 have ha:=ha.out
 have ht:=E9 ha
 have hl:=okL (ho.1 _ (.tail _ (.tail _ (.head _))))
 have hn:=fun(k:Nat) => @a6N w.map (nth .srv w.servers k)
 have hi:=fun(k j:Nat) => @c4W w.map (nth .srv w.servers k) j
 refine⟨annL [(89,2,⟨Nat×Unit,[],fun σ q => σ.t 3 (vI fun _=>(q.1:Int)),fun _ q _=>q.1≤w.servers.length∧m8 q.1 (a4a w)=true,fun _ q _=>w.servers.length-q.1⟩),
  (89,7,⟨Nat,[],fun σ k => σ.t 4 (vI fun _=>(k:Int)),fun σ k _=>k≤(nth .srv w.servers (σ.nat 3)).holds.length ∧ σ.nat 3<w.servers.length∧B5 w.map (nth .srv w.servers (σ.nat 3))=true∧m8 (σ.nat 3) (a4a w)=true∧m8 k (a4W w.table (nth .srv w.servers (σ.nat 3)).holds)=true,fun σ k _=>(nth .srv w.servers (σ.nat 3)).holds.length-k⟩)],noAnn,20,?_⟩
 cbv
 repeat' first|((with_reducible refine fun(k:Nat) => ?_);cbv)|((with_reducible refine fun(q:Nat×Unit) => ?_);obtain⟨s,_⟩:=q;cbv)|((with_reducible intro _);cbv)|(with_reducible refine And.intro ?_ ?_)
 all_goals try((first|(with_reducible refine LoopIn.mk (((0,()):Nat×Unit)) ?_ ?_)|(with_reducible refine LoopIn.mk ((0:Nat)) ?_ ?_)|(with_reducible refine LoopBack.mk ((k+1:Nat)) ?_ ?_ ?_)|(with_reducible refine LoopBack.mk (((s+1,()):Nat×Unit)) ?_ ?_ ?_)) )
 all_goals try((with_reducible show m0 _ _);cbv;(try simp only[and_true,true_and]))
 all_goals(try simp only[St.nat,St.int,Tr.get,Nat.reduceMod,Nat.reduceDiv,Nat.one_ne_zero,if_false,if_true,↓reduceIte]at *)
 all_goals try(repeat' with_reducible refine And.intro ?_ ?_)
 all_goals first|(refine retK h ?_;clear h;simp only[fin0])|(with_reducible refine Ob.mk ?_;clear h)|(clear h)
 all_goals(try simp only[eta0,RT.bytes]at *)
 all_goals grind(splits:=30) [j3,e8,a8w,b3N,b3M,b7P,a1w,n7,n4,a4W]
theorem d4e:b8 Tryz.prog 90 c9H:=j4 e9 (ss := [(157,a8B)]) ⟨b1z,trivial⟩ rfl rfl<|by
 intro(bs:Th (List Int)) (p:Th Int) ⟨(w:Th Wld),u⟩ K _ _ ho h
 obtain⟨w,rfl⟩:=b6 w
 obtain⟨ha,h⟩:=h
 have ha:=ha.out
 have ht:=E9 ha
 have hi:=fun(k:Nat) => @b1O w.map w.servers.length (nth .msg w.net k)
 refine⟨annL [(90,4,⟨Nat,[],fun σ k => σ.t 3 (vI fun _=>(k:Int)),fun _ k _=>k≤w.net.length∧w.net.length≤40∧m8 k (a7H w)=true,fun _ k _=>w.net.length-k⟩)],noAnn,20,?_⟩
 cbv
 repeat' first|((with_reducible refine fun(k:Nat) => ?_);cbv)|((with_reducible intro _);cbv)|(with_reducible refine And.intro ?_ ?_)
 all_goals try((first|(with_reducible refine LoopIn.mk ((0:Nat)) ?_ ?_)|(with_reducible refine LoopBack.mk ((k+1:Nat)) ?_ ?_ ?_)) )
 all_goals try((with_reducible show m0 _ _);cbv;(try simp only[and_true,true_and]))
 all_goals(try simp only[St.nat,St.int,Tr.get,Nat.reduceMod,Nat.reduceDiv,Nat.one_ne_zero,if_false,if_true,↓reduceIte]at *)
 all_goals try(repeat' with_reducible refine And.intro ?_ ?_)
 all_goals first|(refine retK h ?_;clear h;simp only[fin0])|(with_reducible refine Ob.mk ?_;clear h)|(clear h)
 all_goals(try simp only[eta0,RT.bytes]at *)
 all_goals grind(splits:=30) [j3,e8,b1N,c4M,a7H,a1w,n7,n4]
theorem c7e:b8 Tryz.prog 91 b8g:=j4 e9 (ss := [(148,sIn)]) ⟨I5,trivial⟩ rfl rfl<|by
 intro(bs:Th (List Int)) (p:Th Int) ⟨(l:Th (List Note)),u⟩ K _ _ ho h
 obtain⟨l,rfl⟩:=b6 l
 refine⟨annL [(91,4,⟨Nat,[],fun σ k => σ.t 3 (vI fun _=>(k:Int)),fun _ k _=>k≤l.length∧l.length≤150∧m8 k (a4G l)=true,fun _ k _=>l.length-k⟩)],noAnn,20,?_⟩
 cbv
 repeat' first|((with_reducible refine fun(k:Nat) => ?_);cbv)|((with_reducible intro _);cbv)|(with_reducible refine And.intro ?_ ?_)
 all_goals try((first|(with_reducible refine LoopIn.mk ((0:Nat)) ?_ ?_)|(with_reducible refine LoopBack.mk ((k+1:Nat)) ?_ ?_ ?_)) )
 all_goals try((with_reducible show m0 _ _);cbv;(try simp only[and_true,true_and]))
 all_goals(try simp only[St.nat,St.int,Tr.get,Nat.reduceMod,Nat.reduceDiv,Nat.one_ne_zero,if_false,if_true,↓reduceIte]at *)
 all_goals try(repeat' with_reducible refine And.intro ?_ ?_)
 all_goals first|(refine retK h ?_;clear h;simp only[fin0])|(with_reducible refine Ob.mk ?_;clear h)|(clear h)
 all_goals(try simp only[eta0,RT.bytes]at *)
 all_goals grind(splits:=30) [j3,e8,a7G,b4w,a4G,a6p,a1w,n7,n4,inR]
theorem V2:b8 Tryz.prog 33 Q5:=j4 e9 (ss := [(85,z7),(86,a4r),(87,a6V),(88,a6g),(89,b0R),(90,c9H),(91,b8g)]) ⟨C7,a4E,b4s,a7y,b9a,d4e,c7e,trivial⟩ rfl rfl<|by
 intro(bs:Th (List Int)) (p:Th Int) ⟨(w:Th Wld),u⟩ K _ _ ho h
 obtain⟨w,rfl⟩:=b6 w
 have ht := @E9 w.map w.table w.servers.length
 have hs := @a1A w.map w.stores
 have hs4 := @b0F w.map w.stores
 have he:=b3C w
 refine⟨annL [(33,4,⟨Nat,[],fun σ k => σ.t 3 (vI fun _=>(k:Int)),fun _ k _=>k≤w.stores.length∧C2 w.map w.table w.servers.length=true∧A9 w.map w.stores=true∧B9 w.map w.rows=true∧m8 k (a1U w)=true,fun _ k _=>w.stores.length-k⟩)],noAnn,20,?_⟩
 cbv
 repeat' first|((with_reducible refine fun(k:Nat) => ?_);cbv)|((with_reducible intro _);cbv)|(with_reducible refine And.intro ?_ ?_)
 all_goals try((first|(with_reducible refine LoopIn.mk ((0:Nat)) ?_ ?_)|(with_reducible refine LoopBack.mk ((k+1:Nat)) ?_ ?_ ?_)) )
 all_goals try((with_reducible show m0 _ _);cbv;(try simp only[and_true,true_and]))
 all_goals(try simp only[St.nat,St.int,Tr.get,Nat.reduceMod,Nat.reduceDiv,Nat.one_ne_zero,if_false,if_true,↓reduceIte]at *)
 all_goals try(repeat' with_reducible refine And.intro ?_ ?_)
 all_goals first|(refine retK h ?_;clear h;simp only[fin0])|(with_reducible refine Ob.mk ?_;clear h)|(clear h)
 all_goals(try simp only[eta0,RT.bytes]at *)
 all_goals grind(splits:=30) [j3,e8,a6K,b7E,a1U,a1w,n7,n4]
end Go.Proofs.YtihaeoicjglieaaGreat
namespace Go.Sx
def St.tmL (t:RT) (σ : St) (d:Nat):Th (List t.ty):=match σ.tm.get d with
 | .one (.att (.list t' l))=>if h:t'=t then U5 h l else a6q t
 |_=>a6q t
end Go.Sx
namespace Go.Proofs.YtihaeoicjglieaaGreat
open Go.Sx Go.Proofs Go.Mo
theorem b6I (n:Nat):(NatCast.natCast n:Int)=(n:Int):=rfl
theorem c5U {k:Nat} (h:k≤1000):(IntKind.i64.wrap ((k:Int)+1)).toNat=k+1:=by rw[j3 (by omega)];rfl
theorem a5r:b8 Tryz.prog 21 Q5:=j4 e9 (ss := [(61,a4r),(62,a6V),(63,a6g),(64,a8z),(67,a8B),(70,a2T),(57,sIn)]) ⟨d4q,d0t,d4n,d4d,d4f,a3F,okIn,trivial⟩ rfl rfl<|by
 intro(bs:Th (List Int)) (p:Th Int) ⟨(w:Th Wld),u⟩ K _ _ ho h
 obtain⟨w,rfl⟩:=b6 w
 have ht := @E9 w.map w.table w.servers.length
 have hs := @a1A w.map w.stores
 have hs4 := @b0F w.map w.stores
 have he:=b3C w
 have hi:=fun(k j:Nat) => @c4W w.map (nth .srv w.servers k) j
 have hi2:=fun(k:Nat) => @b1O w.map w.servers.length (nth .msg w.net k)
 have hn:=fun(k:Nat) => @a6N w.map (nth .srv w.servers k)
 refine⟨annL [(21,5,⟨Th Int×Th Bool,[],fun σ g=>(σ.only [1,3,47,48]).t 49 (.one (.att (.int .i64 g.1))),fun _ g _=>Ob fun _=>0≤g.1 ()∧g.1 ()≤w.stores.length∧w.stores.length≤4∧C2 w.map w.table w.servers.length=true∧A9 w.map w.stores=true∧B9 w.map w.rows=true∧w.net.length≤40∧w.notes.length≤150∧m8 (g.1 ()).toNat (a1U w)=true,fun _ g _=>5-(g.1 ()).toNat⟩),
  (21,11,⟨Th Bool×Th Int,[],fun σ g=>(σ.only [1,3,65,66]).t 67 (.one (.att (.int .i64 g.2))),fun _ g _=>Ob fun _=>0≤g.2 ()∧g.2 ()≤w.servers.length∧w.servers.length≤3∧m8 w.stores.length (a1U w)=true∧m8 (g.2 ()).toNat (a4a w)=true,fun _ g _=>4-(g.2 ()).toNat⟩),
  (123,2,⟨Th Int×Th Int,[],fun σ g => σ.t 8 (.one (.att (.int .i64 g.1))),fun σ g _=>Ob ((fun(L:Th (List Hld))=>fun _=>0≤g.1 ()∧g.1 ()≤(L ()).length∧(L ()).length≤4∧m8 (g.1 ()).toNat (a4W w.table (L ()))=true) (σ.tmL .hld 0)),fun _ g _=>5-(g.1 ()).toNat⟩),
  (21,17,⟨Th Bool×Th Int×Th Int,[],fun σ g=>(σ.only [1,3,83,84]).t 85 (.one (.att (.int .i64 g.2.1))),fun _ g _=>Ob fun _=>0≤g.2.1 ()∧g.2.1 ()≤w.net.length∧m8 w.stores.length (a1U w)=true∧a8w w=true∧m8 (g.2.1 ()).toNat (a7H w)=true,fun _ g _=>41-(g.2.1 ()).toNat⟩),
  (126,2,⟨Th Bool×Th Bool×Th Int,[],fun σ g => σ.t 8 (.one (.att (.int .i64 g.2.2))),fun σ g _=>Ob fun _=>0≤g.2.2 ()∧g.2.2 ()≤w.notes.length∧m8 (g.2.2 ()).toNat (a4G w.notes)=true,fun _ g _=>151-(g.2.2 ()).toNat⟩)],annL [(65,1,⟨Th Bool×Th Bool,[],fun σ _ => σ,fun _ _ _=>Ob fun _=>True,fun _ _ _=>0⟩),(68,1,⟨Th Bool×Th Bool,[],fun σ _ => σ,fun _ _ _=>Ob fun _=>True,fun _ _ _=>0⟩)],20,?_⟩
 cbv
 repeat' first|((with_reducible refine fun(g:Th Int×Th Bool) => ?_);obtain⟨i,z⟩:=g;obtain⟨i,rfl⟩:=b6 i;obtain⟨z,rfl⟩:=b6 z;(with_reducible refine ImpB.out ?_);cbv;(with_reducible refine ImpB.mk ?_);intro hq;obtain⟨hq⟩:=hq;have hq0:=hq.1;obtain⟨i,rfl⟩:=Int.eq_ofNat_of_zero_le hq0;clear hq0)|((with_reducible refine fun(g:Th Bool×Th Int) => ?_);obtain⟨z,i⟩:=g;obtain⟨z,rfl⟩:=b6 z;obtain⟨i,rfl⟩:=b6 i;(with_reducible refine ImpB.out ?_);cbv;(with_reducible refine ImpB.mk ?_);intro hq;obtain⟨hq⟩:=hq;have hq0:=hq.1;obtain⟨i,rfl⟩:=Int.eq_ofNat_of_zero_le hq0;clear hq0)|((with_reducible refine fun(g:Th Int×Th Int) => ?_);obtain⟨j,z⟩:=g;obtain⟨j,rfl⟩:=b6 j;obtain⟨z,rfl⟩:=b6 z;(with_reducible refine ImpB.out ?_);cbv;(with_reducible refine ImpB.mk ?_);intro hq;obtain⟨hq⟩:=hq;have hq0:=hq.1;obtain⟨j,rfl⟩:=Int.eq_ofNat_of_zero_le hq0;clear hq0)|((with_reducible refine fun(g:Th Bool×Th Int×Th Int) => ?_);obtain⟨z,i,y⟩:=g;obtain⟨z,rfl⟩:=b6 z;obtain⟨i,rfl⟩:=b6 i;obtain⟨y,rfl⟩:=b6 y;(with_reducible refine ImpB.out ?_);cbv;(with_reducible refine ImpB.mk ?_);intro hq;obtain⟨hq⟩:=hq;have hq0:=hq.1;obtain⟨i,rfl⟩:=Int.eq_ofNat_of_zero_le hq0;clear hq0)|((with_reducible refine fun(g:Th Bool×Th Bool×Th Int) => ?_);obtain⟨z,y,i⟩:=g;obtain⟨z,rfl⟩:=b6 z;obtain⟨y,rfl⟩:=b6 y;obtain⟨i,rfl⟩:=b6 i;(with_reducible refine ImpB.out ?_);cbv;(with_reducible refine ImpB.mk ?_);intro hq;obtain⟨hq⟩:=hq;have hq0:=hq.1;obtain⟨i,rfl⟩:=Int.eq_ofNat_of_zero_le hq0;clear hq0)|((with_reducible refine fun(g:Th Bool×Th Bool) => ?_);obtain⟨z,y⟩:=g;obtain⟨z,rfl⟩:=b6 z;obtain⟨y,rfl⟩:=b6 y;(with_reducible refine ImpB.out ?_);cbv;(with_reducible refine ImpB.mk ?_);intro hq;obtain⟨hq⟩:=hq)|((with_reducible intro _);cbv)|(with_reducible refine And.intro ?_ ?_)
 all_goals try((first|(with_reducible refine LoopIn.wf (fun σ => (σ.tmI 49,s5)) ?_ ?_)|(with_reducible refine LoopBack.wf (fun σ => (σ.tmI 49,s5)) ?_ ?_ ?_)|(with_reducible refine LoopIn.wf (fun σ => (s5,σ.tmI 67)) ?_ ?_)|(with_reducible refine LoopBack.wf (fun σ => (s5,σ.tmI 67)) ?_ ?_ ?_)|(with_reducible refine LoopIn.wf (fun σ => (σ.tmI 8,L0)) ?_ ?_)|(with_reducible refine LoopBack.wf (fun σ => (σ.tmI 8,L0)) ?_ ?_ ?_)|(with_reducible refine LoopIn.wf (fun σ => (s5,σ.tmI 85,L0)) ?_ ?_)|(with_reducible refine LoopBack.wf (fun σ => (s5,σ.tmI 85,L0)) ?_ ?_ ?_)|(with_reducible refine LoopIn.wf (fun σ => (s5,s5,σ.tmI 8)) ?_ ?_)|(with_reducible refine LoopBack.wf (fun σ => (s5,s5,σ.tmI 8)) ?_ ?_ ?_)|(with_reducible refine LoopIn.wf (fun _=>(s5,s5)) ?_ ?_)|(with_reducible refine LoopBack.wf (fun _=>(s5,s5)) ?_ ?_ ?_))<;>cbv)
 all_goals try(with_reducible show _∧_;(try simp only[and_true,true_and]))
 all_goals try(repeat' with_reducible refine And.intro ?_ ?_)
 all_goals try(with_reducible refine MeasB.mk ?_)
 all_goals first|(refine retK h ?_;clear h;simp only[fin0])|(with_reducible refine Ob.mk ?_;clear h)|(clear h)
 all_goals(try simp only[eta0,RT.bytes]at *)
 all_goals(try dsimp only[RT.ty]at *)
 all_goals(try simp only[Int.toNat_natCast,Int.toNat_zero]at *)
 all_goals(try simp only[b6I]at *)
 all_goals(try simp(disch:=omega) only[c5U,j3,Int.toNat_natCast])
 all_goals(first|omega|grind(splits:=30) [j3,e8,a6K,a8w,b1N,a7G,b3N,b3M,b7P,b7E,a1U,a4W,c4M,a7H,b4w,a4G,a6p,a1w,n7,n4,inR])
end Go.Proofs.YtihaeoicjglieaaGreat
