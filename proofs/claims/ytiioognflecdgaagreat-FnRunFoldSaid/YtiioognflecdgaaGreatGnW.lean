/-
  Contracts: what a server says of a cell, the reference's way.
-/
import Derived.Test.YtiioognflecdgaaGreatGnVe
import Derived.Test.YtiioognflecdgaaGreatM3
import Derived.Test.YtiioognflecdgaaGreatInsH
import Derived.Test.YtiioognflecdgaaGreatGnE
import Derived.Test.YtiioognflecdgaaGreatM2
import Derived.Test.YtiioognflecdgaaGreatGrT
import Derived.Test.YtiioognflecdgaaGreatGnC
set_option linter.unusedVariables false
set_option linter.unusedSimpArgs false
set_option maxRecDepth 100000
set_option maxHeartbeats 8000000
namespace Go.Proofs.YtiioognflecdgaaGreat
open Go.Sx Go.Proofs Go.Mo
def a3m (m:PMap) (s:Srv) (t:Arb) (servers cell:Int):List Msg :=
 if A4 m s=true∧B8 m t servers=true∧u5 s cell=true then a2t m t (e9 s cell) 0++a2t m t (e9 s cell) 1 else[]
theorem a7Q (m:PMap) (t:Arb) (h:Hld) (s:Int):(a2t m t h s).length≤8:=by
 unfold a2t
 split
 ·simp
 ·have h1:=a9P m t h s 4
  have h2:=b0J m t h s 4
  simp;omega
theorem b5G {m:PMap} {s:Srv} {cell:Int} (h:A4 m s=true) (h2:u5 s cell=true):P1 m (e9 s cell)=true:=by
 simp only[u5,decide_eq_true_eq]at h2
 have:=a1s s.holds cell
 rw[e9,if_pos h2]
 exact a4O h (by omega)
noncomputable def b5U:Sx.Spec:=⟨false,true,[.map,.row .srv,.arb,.int .i64,.int .i64],[[some .msg]],fun _ _ ⟨m,s,t,v,c,_⟩ => .ret (vW .msg fun _=>a3m (m ()) (s ()) (t ()) (v ()) (c ()),fun _=>0)⟩
theorem b9h:b6 Tryz.prog 144 b5U:=j3 b9 (ss := [(100,a6Z),(49,a3r),(78,a0I),(184,b5S)]) ⟨a9Y,a3E,a4V,b4v,trivial⟩ rfl rfl<|by
 intro(bs:Th (List Int)) (p:Th Int) ⟨(m:Th PMap),(s:Th Srv),(t:Th Arb),(v:Th Int),(c:Th Int),u⟩ K _ _ ho h
 obtain⟨m,rfl⟩:=a8 m;obtain⟨s,rfl⟩:=a8 s;obtain⟨t,rfl⟩:=a8 t;obtain⟨v,rfl⟩:=a8 v;obtain⟨c,rfl⟩:=a8 c
 have hq := @b5G m s c
 have h1:=a7Q m t (e9 s c) 0
 have h2:=a7Q m t (e9 s c) 1
 refine⟨noAnn,noAnn,20,?_⟩
 cbv
 repeat' first|((with_reducible intro _);cbv)|(with_reducible refine And.intro ?_ ?_)
 all_goals first|(refine retK h ?_;clear h;simp only[fin0])|(with_reducible refine Ob.mk ?_;clear h)|(clear h)
 all_goals(try simp only[eta0,RT.bytes]at *)
 all_goals grind[a3m]
theorem c7z (n:Nat):(NatCast.natCast n:Int)=(n:Int):=rfl
theorem a5v (m:PMap) (t:Arb) (h:Hld) (cell side:Int) (hc:h.state.cell=cell):a2t m t h side=B9 m t h cell side:=by
 subst hc
 rfl
theorem c9E {m:PMap} {s:Srv} {t:Arb} {v c:Int} (h1:A4 m s=true) (h2:B8 m t v=true):a3m m s t v c=D1 m s t c:=by
 simp only[a3m,D1,h1,h2,true_and]
 split
 ·rename_i hh
  have hcc:(e9 s c).state.cell=c:=by
   simp only[u5,decide_eq_true_eq]at hh
   rw[e9,if_pos hh]
   exact a2c hh
  rw[a5v m t _ c 0 hcc,a5v m t _ c 1 hcc]
 ·rfl
theorem b5R {l:List Msg} {n k:Nat} (h1:k≤l.length) (h2:n+k≤40) (h3:k<l.length → ¬n+k<40):l.take k=l.take (40-n):=by
 by_cases hk:k<l.length
 ·have:=h3 hk
  rw[show k=40-n by omega]
 ·rw[List.take_of_length_le (by omega),List.take_of_length_le (by omega)]
theorem a5D {a l:List Msg} {k:Nat} (h1:k≤l.length) (h2:a.length+k≤40) (h3:k<l.length → ¬(a.length+(l.take k).length)<40):a++l.take k=a++l.take (40-a.length):=by
 have h4:(l.take k).length=k:=by simp;omega
 rw[h4]at h3
 rw[b5R h1 h2 h3]
theorem c5h {l:List Msg} {i k:Nat} (h:k≤l.length) (h2 : ¬k<l.length):a0d l i k=l.eraseIdx i:=by
 rw[show k=l.length by omega]
 exact b3b l i
theorem c6f {l o:List Msg} {i k j:Nat} (hk:k≤l.length) (hk2 : ¬k<l.length) (h1:j≤o.length) (h2:(a0d l i k).length+j≤40) (h3:j<o.length → ¬((a0d l i k).length+(o.take j).length)<40):a0d l i k++o.take j=l.eraseIdx i++o.take (40-(l.eraseIdx i).length):=by
 rw[c5h hk hk2]at *
 exact a5D h1 h2 h3
theorem c2W {l:List Msg} {k:Nat} (h:k≤l.length):(l.take k).length=k:=by simp;omega
theorem c2V {l:List Msg} {k:Nat} (h:k<l.length):l.take (k+1)=l.take k ++ [nth .msg l k]:=J1 .msg h
theorem I5 {w:Wld} (h:j6 w=true):B8 w.map w.table w.servers.length=true∧z7 w.map w.stores=true∧A7 w.map w.rows=true∧w.net.length≤40∧w.notes.length≤150 ∧
  (∀i,i<w.net.length→u9 w.map w.servers.length (nth .msg w.net i)=true ∧ -1≤(nth .msg w.net i).dest∧(nth .msg w.net i).dest<w.servers.length)∧(∀i,i<w.servers.length→A4 w.map (nth .srv w.servers i)=true)∧1≤w.servers.length∧w.servers.length≤3:=by
 obtain⟨h1,h2,h3,h4,h5,h6,h7,h8,h9⟩:=m7.1 h
 have ha:=B7 h1
 refine⟨h1,h2,h3,h4,h5,fun i hi => ?_,fun i hi=>(h7 _ (s7 .srv hi)).1,by omega,by omega⟩
 have hm:=(h8 _ (s7 .msg hi)).1
 refine⟨hm,?_⟩
 simp only[u9,G8,decide_eq_true_eq]at hm
 omega
theorem c4M {m:PMap} {t:Arb} {v cell server:Int} (ht:B8 m t v=true) (hg:(N5 m t v cell server).ok=true):0≤cell∧cell<(N5 m t v cell server).t.ages.length:=by
 have:=B7 ht
 simp only[N5,if_pos ht]at hg ⊢
 unfold n4 at hg ⊢
 split at hg
 ·rename_i hc
  rw[if_pos hc]
  simp only[List.length_set]
  omega
 ·cases hg
theorem b4L (p:Int) (n:Nat) (hn:(n:Int)≤1000000):inR p 0 (IntKind.i64.wrap ((n:Int)-1))=decide (0≤p∧p<(n:Int)):=by
 rw[b8 (by omega) (by omega)]
 simp only[inR]
 congr 1
 simp only[eq_iff_iff]
 omega
section
variable {w:Wld} {e:Evt} (h:j6 w=true)
include h
theorem d2j (hk:e.kind=1):m0 w e=if(N5 w.map w.table w.servers.length e.pos e.dest).ok=true then⟨w.map,w.servers,w.stores,(N5 w.map w.table w.servers.length e.pos e.dest).t,w.rows,w.net++([⟨1,e.dest,e.pos,0,nth .int (N5 w.map w.table w.servers.length e.pos e.dest).t.ages e.pos.toNat,⟨0,0,0,0,0⟩,⟨0,0,⟨0,0,0,0,0⟩,0⟩,⟨0,0,⟨0,0,0,0,0⟩⟩⟩]:List Msg).take (40-w.net.length),w.notes⟩else w:=by
 have hF:=I5 h
 simp only[m0,m9,h,hk,if_true,N5,hF.1,u7,u6,A8,G5]
theorem d2i (hk:e.kind=2):m0 w e=⟨w.map,w.servers,w.stores,w.table,(a6z w.map w.rows e.pos e.what e.dest e.n).b,w.net,w.notes⟩:=by
 have hF:=I5 h
 simp[m0,m9,h,hk,a6z,hF.2.2.1]
theorem d2h (hk:e.kind=3):m0 w e=if(a4q w.map w.rows w.table w.servers.length e.pos).ok=true then⟨w.map,w.servers,w.stores,w.table,w.rows,w.net ++ [(a4q w.map w.rows w.table w.servers.length e.pos).x].take (40-w.net.length),w.notes⟩else w:=by
 have hF:=I5 h
 simp[m0,m9,h,hk,a4q,hF.1,hF.2.2.1,u7]
theorem c0I (hk:e.kind=4) (hn : ¬(0≤e.pos∧e.pos<(w.net.length:Int))):m0 w e=w:=by
 simp only[m0,m9,h,hk,if_true]
 rw[if_neg (by decide),if_neg (by decide),if_neg (by decide),if_pos (by decide),if_neg hn]
theorem c9L (hk:e.kind=4) (hn:0≤e.pos∧e.pos<(w.net.length:Int)) (hd:(nth .msg w.net e.pos.toNat).dest = -1):m0 w e=⟨w.map,w.servers,w.stores,w.table,(a0S w.map w.rows w.servers.length (nth .msg w.net e.pos.toNat)).b,w.net.eraseIdx e.pos.toNat,
  if(a0S w.map w.rows w.servers.length (nth .msg w.net e.pos.toNat)).ok=true∧w.notes.length<150 then w.notes ++ [⟨(nth .msg w.net e.pos.toNat).ord.who,(nth .msg w.net e.pos.toNat).ord.seq,(nth .msg w.net e.pos.toNat).n⟩]else w.notes⟩:=by
 have hF:=I5 h
 have hm:=(hF.2.2.2.2.2.1 e.pos.toNat (by omega)).1
 have hx:a0S w.map w.rows w.servers.length (nth .msg w.net e.pos.toNat)=z8 w.map w.rows (nth .msg w.net e.pos.toNat):=by rw[a0S,if_pos ⟨hF.2.2.1,hm⟩]
 rw[hx]
 simp only[m0,m9,h,hk,if_true]
 rw[if_neg (by decide),if_neg (by decide),if_neg (by decide),if_pos (by decide),if_pos hn]
 simp only[J7,hd,if_true,a3f,wCut]
 rfl
theorem c0J (hk:e.kind=4) (hn:0≤e.pos∧e.pos<(w.net.length:Int)) (hd : ¬(nth .msg w.net e.pos.toNat).dest = -1):m0 w e=⟨w.map,w.servers.set (nth .msg w.net e.pos.toNat).dest.toNat (E4 w.map (nth .srv w.servers (nth .msg w.net e.pos.toNat).dest.toNat) w.stores w.table w.servers.length (nth .msg w.net e.pos.toNat)).srv,
  (E4 w.map (nth .srv w.servers (nth .msg w.net e.pos.toNat).dest.toNat) w.stores w.table w.servers.length (nth .msg w.net e.pos.toNat)).stores,w.table,w.rows,w.net.eraseIdx e.pos.toNat++(E4 w.map (nth .srv w.servers (nth .msg w.net e.pos.toNat).dest.toNat) w.stores w.table w.servers.length (nth .msg w.net e.pos.toNat)).out.take (40-(w.net.eraseIdx e.pos.toNat).length),w.notes⟩:=by
 have hF:=I5 h
 have hm:=hF.2.2.2.2.2.1 e.pos.toNat (by omega)
 have hs:=hF.2.2.2.2.2.2.1 (nth .msg w.net e.pos.toNat).dest.toNat (by omega)
 have hx:E4 w.map (nth .srv w.servers (nth .msg w.net e.pos.toNat).dest.toNat) w.stores w.table w.servers.length (nth .msg w.net e.pos.toNat)=n5 w.map (nth .srv w.servers (nth .msg w.net e.pos.toNat).dest.toNat) w.stores w.table (nth .msg w.net e.pos.toNat):=by rw[E4,if_pos ⟨hs,hF.2.1,hF.1,hm.1⟩]
 rw[hx]
 simp only[m0,m9,h,hk,if_true]
 rw[if_neg (by decide),if_neg (by decide),if_neg (by decide),if_pos (by decide),if_pos hn]
 simp only[J7,hd,if_false,a0G,wCut,u7]
theorem d2g (hk:e.kind=5):m0 w e=if 0≤e.pos∧e.pos<(w.net.length:Int)then⟨w.map,w.servers,w.stores,w.table,w.rows,w.net.eraseIdx e.pos.toNat,w.notes⟩else w:=by
 simp only[m0,m9,h,hk,if_true]
 rw[if_neg (by decide),if_neg (by decide),if_neg (by decide),if_pos (by decide)]
 by_cases hp:0≤e.pos∧e.pos<(w.net.length:Int)
 ·rw[if_pos hp,if_pos hp,if_neg (by decide)]
  rfl
 ·rw[if_neg hp,if_neg hp]
theorem c5Y (hk:e.kind=6):m0 w e=if 0≤e.pos∧e.pos<(w.net.length:Int)then⟨w.map,w.servers,w.stores,w.table,w.rows,w.net ++ [nth .msg w.net e.pos.toNat].take (40-w.net.length),w.notes⟩else w:=by
 simp only[m0,m9,h,hk,if_true]
 rw[if_neg (by decide),if_neg (by decide),if_neg (by decide),if_pos (by decide)]
 by_cases hp:0≤e.pos∧e.pos<(w.net.length:Int)
 ·rw[if_pos hp,if_pos hp,if_neg (by decide),if_neg (by decide)]
  rfl
 ·rw[if_neg hp,if_neg hp]
theorem d2f (hk:e.kind=7):m0 w e=if 0≤e.pos∧e.pos<(w.servers.length:Int)then⟨w.map,w.servers,w.stores,w.table,w.rows,w.net++(a3m w.map (nth .srv w.servers e.pos.toNat) w.table w.servers.length e.dest).take (40-w.net.length),w.notes⟩else w:=by
 have hF:=I5 h
 simp only[m0,m9,h,hk,if_true]
 rw[if_neg (by decide),if_neg (by decide),if_neg (by decide),if_neg (by decide),if_pos (by decide)]
 by_cases hp:0≤e.pos∧e.pos<(w.servers.length:Int)
 ·rw[if_pos hp,if_pos hp,c9E (hF.2.2.2.2.2.2.1 e.pos.toNat (by omega)) hF.1]
  rfl
 ·rw[if_neg hp,if_neg hp]
theorem d2e (hk:e.kind=8):m0 w e=if 0≤e.pos∧e.pos<(w.servers.length:Int)then⟨w.map,w.servers.set e.pos.toNat ⟨false,[],[]⟩,w.stores,w.table,w.rows,w.net,w.notes⟩else w:=by
 simp only[m0,m9,h,hk,if_true]
 rw[if_neg (by decide),if_neg (by decide),if_neg (by decide),if_neg (by decide),if_pos (by decide)]
 by_cases hp:0≤e.pos∧e.pos<(w.servers.length:Int)
 ·rw[if_pos hp,if_pos hp,if_neg (by decide)]
 ·rw[if_neg hp,if_neg hp]
theorem c5X (hk:e.kind=9):m0 w e=if 0≤e.pos∧e.pos<(w.servers.length:Int)∧(nth .srv w.servers e.pos.toNat).up=false then⟨w.map,w.servers.set e.pos.toNat ⟨true,[],[]⟩,w.stores,w.table,w.rows,w.net,w.notes⟩else w:=by
 simp only[m0,m9,h,hk,if_true]
 rw[if_neg (by decide),if_neg (by decide),if_neg (by decide),if_neg (by decide),if_pos (by decide)]
 by_cases hp:0≤e.pos∧e.pos<(w.servers.length:Int)
 ·rw[if_pos hp,if_neg (by decide),if_neg (by decide)]
  by_cases hu:(nth .srv w.servers e.pos.toNat).up=false
  ·rw[if_pos hu,if_pos ⟨hp.1,hp.2,hu⟩]
  ·rw[if_neg hu,if_neg (fun hq=>hu hq.2.2)]
 ·rw[if_neg hp,if_neg (fun hq=>hp ⟨hq.1,hq.2.1⟩)]
theorem c9K (h1 : ¬e.kind=1) (h2 : ¬e.kind=2) (h3 : ¬e.kind=3) (h4 : ¬e.kind=4) (h5 : ¬e.kind=5) (h6 : ¬e.kind=6) (h7 : ¬e.kind=7) (h8 : ¬e.kind=8) (h9 : ¬e.kind=9):m0 w e=w:=by
 simp only[m0,m9,h,if_true]
 rw[if_neg h1,if_neg h2,if_neg h3,if_neg (by omega),if_neg (by omega)]
end
theorem b5F {w:Wld} {e:Evt} (h:j6 w=false):m0 w e=K4:=by simp[m0,h]
end Go.Proofs.YtiioognflecdgaaGreat
namespace Go.Mo
open Go.Sx
theorem c0K {a b:Srv}:a=b↔a.up=b.up∧a.holds=b.holds∧a.n6=b.n6:=by
 cases a;cases b;simp
end Go.Mo
namespace Go.Proofs.YtiioognflecdgaaGreat
open Go.Sx Go.Proofs Go.Mo
def b3E (m:PMap) (c:Int) (l:List Wlk):Sto:=if p9 m (Y5 m c l)=true then M7 m c l else Z5
noncomputable def c1g:Sx.Spec:=⟨false,true,[.map,.int .i64,.list .wlk],[nCll],fun _ _ ⟨m,c,l,_⟩ => .ret (oCll fun _=>Y5 (m ()) (c ()) (l ()),fun _=>0)⟩
noncomputable def b5W:Sx.Spec:=⟨false,true,[.map,.int .i64,.list .wlk],[nSto],fun _ _ ⟨m,c,l,_⟩ => .ret (oSto fun _=>b3E (m ()) (c ()) (l ()),fun _=>0)⟩
noncomputable def c1j:Sx.Spec:=⟨false,true,[.map],[[some .int,some .int]],fun _ _ ⟨m,_⟩ => .ret (oArb fun _=>a0W (m ()),fun _=>0)⟩
noncomputable def c0Z:Sx.Spec:=⟨false,true,[.map,.list .wlk],[[some .row]],fun _ _ ⟨m,l,_⟩ => .ret (oAs [.list .row fun _=>a7D (m ()) (l ())],fun _=>0)⟩
noncomputable def a8D:Sx.Spec:=⟨false,true,[],[[none,some .hld,some .gst]],fun _ _ _ => .ret (oSrv fun _=>⟨true,[],[]⟩,fun _=>0)⟩
noncomputable def b3N:Sx.Spec:=⟨false,true,[.map,.list .wlk,.int .i64],[[none,none,some .srv,some .sto,some .int,some .int,some .row,some .msg,some .note]],fun _ _ ⟨m,l,v,_⟩ => .ret (oWld fun _=>a2r (m ()) (l ()) (v ()),fun _=>0)⟩
theorem b6s {α : Type} (x : α) (k:Nat):List.replicate (k+1) x=List.replicate k x ++ [x]:=by
 rw[List.replicate_succ',]
theorem c6w (m:PMap) (l:List Wlk) (k:Nat):(List.range (k+1)).map (fun(i:Nat)=>M7 m (i:Int) l)=(List.range k).map (fun(i:Nat)=>M7 m (i:Int) l) ++ [M7 m (k:Int) l]:=by
 rw[List.range_succ,List.map_append]
 rfl
theorem c6u (m:PMap) {l:List Wlk} {k:Nat} (h:k<l.length):(l.take (k+1)).map (a0h m)=(l.take k).map (a0h m) ++ [a0h m (nth .wlk l k)]:=by
 have h1:l.take (k+1)=l.take k ++ [nth .wlk l k]:=J1 .wlk h
 rw[h1,List.map_append]
 rfl
theorem c6S:b6 Tryz.prog 73 a8D:=j3 b9 (ss := []) trivial rfl rfl<|by
 intro(bs:Th (List Int)) (p:Th Int) u K _ _ ho h
 refine⟨noAnn,noAnn,20,?_⟩
 cbv
 repeat' first|((with_reducible intro _);cbv)|(with_reducible refine And.intro ?_ ?_)
 all_goals first|(refine retK h ?_;clear h;simp only[fin0])|(with_reducible refine Ob.mk ?_;clear h)|(clear h)
 all_goals(try simp only[eta0,RT.bytes]at *)
theorem c3J:b6 Tryz.prog 106 a8D:=j3 b9 (ss := []) trivial rfl rfl<|by
 intro(bs:Th (List Int)) (p:Th Int) u K _ _ ho h
 refine⟨noAnn,noAnn,20,?_⟩
 cbv
 repeat' first|((with_reducible intro _);cbv)|(with_reducible refine And.intro ?_ ?_)
 all_goals first|(refine retK h ?_;clear h;simp only[fin0])|(with_reducible refine Ob.mk ?_;clear h)|(clear h)
 all_goals(try simp only[eta0,RT.bytes]at *)
theorem c3T:b6 Tryz.prog 104 c1j:=j3 b9 (ss := [(48,A9)]) ⟨C9,trivial⟩ rfl rfl<|by
 intro(bs:Th (List Int)) (p:Th Int) ⟨(m:Th PMap),u⟩ K _ _ ho h
 obtain⟨m,rfl⟩:=a8 m
 have hm := @s0 m
 refine⟨annL [(104,5,⟨Nat,[⟨.cell 4 0,some 500,.int⟩,⟨.cell 4 1,some 501,.int⟩],fun σ k=>((((((σ.fgs [500,501]).t 4 (vI fun _=>(k:Int))).v5 4 0 (.own 500 1)).v5 4 1 (.own 501 1)).row 500 1 .int (fun _=>List.replicate k (-1:Int))).row 501 1 .int (fun _=>List.replicate k (0:Int))),fun _ k _=>(k:Int)≤m.cells∧p7 m=true,fun _ k _=>m.cells.toNat-k⟩)],noAnn,20,?_⟩
 cbv
 repeat' first|((with_reducible refine fun(k:Nat) => ?_);cbv)|((with_reducible intro _);cbv)|(with_reducible refine And.intro ?_ ?_)
 all_goals try((first|(with_reducible refine LoopIn.mk ((0:Nat)) ?_ ?_)|(with_reducible refine LoopBack.mk ((k+1:Nat)) ?_ ?_ ?_)) )
 all_goals try((with_reducible show l8 _ _);cbv;(try simp only[and_true,true_and]))
 all_goals try(repeat' with_reducible refine And.intro ?_ ?_)
 all_goals first|(refine retK h ?_;clear h;simp only[fin0])|(with_reducible refine Ob.mk ?_;clear h)|(clear h)
 all_goals(try simp only[eta0,RT.bytes]at *)
 all_goals grind[j4,b6s,a0W]
theorem c3P:b6 Tryz.prog 105 c0Z:=j3 b9 (ss := [(48,A9),(103,U3),(156,C8)]) ⟨C9,V8,I0,trivial⟩ rfl rfl<|by
 intro(bs:Th (List Int)) (p:Th Int) ⟨(m:Th PMap),(l:Th (List Wlk)),u⟩ K _ _ ho h
 obtain⟨m,rfl⟩:=a8 m;obtain⟨l,rfl⟩:=a8 l
 have hl:=okB (ho.2.1 _ (.head _))
 have hf := @b3t m l
 refine⟨annL [(105,5,⟨Nat,[⟨.cell 6 0,some 500,.row⟩],fun σ k=>(((σ.fgs [500]).t 6 (vI fun _=>(k:Int))).v5 6 0 (.own 500 1)).row 500 1 .row (fun _=>(l.take k).map (a0h m)),fun _ k _=>k≤l.length,fun _ k _=>l.length-k⟩)],noAnn,20,?_⟩
 cbv
 repeat' first|((with_reducible refine fun(k:Nat) => ?_);cbv)|((with_reducible intro _);cbv)|(with_reducible refine And.intro ?_ ?_)
 all_goals try((first|(with_reducible refine LoopIn.mk ((0:Nat)) ?_ ?_)|(with_reducible refine LoopBack.mk ((k+1:Nat)) ?_ ?_ ?_)) )
 all_goals try((with_reducible show l8 _ _);cbv;(try simp only[and_true,true_and]))
 all_goals try(repeat' with_reducible refine And.intro ?_ ?_)
 all_goals first|(refine retK h ?_;clear h;simp only[fin0])|(with_reducible refine Ob.mk ?_;clear h)|(clear h)
 all_goals(try simp only[eta0,RT.bytes]at *)
 all_goals grind[j4,c6u,a7D,a0h,List.length_map,List.length_take]
theorem c3S:b6 Tryz.prog 157 c1g:=j3 b9 (ss := [(48,A9),(97,sIn),(103,U3),(156,C8)]) ⟨C9,G7,V8,I0,trivial⟩ rfl rfl<|by
 intro(bs:Th (List Int)) (p:Th Int) ⟨(m:Th PMap),(c:Th Int),(l:Th (List Wlk)),u⟩ K _ _ ho h
 obtain⟨m,rfl⟩:=a8 m;obtain⟨c,rfl⟩:=a8 c;obtain⟨l,rfl⟩:=a8 l
 have hl:=okB (ho.2.2.1 _ (.head _))
 have hn:=b9L m c l
 have hm := @s0 m
 refine⟨annL [(157,5,⟨Nat,[⟨.cell 8 1,some 500,.wlk⟩],fun σ k=>(((σ.fgs [29,30,500]).t 8 (vI fun _=>(k:Int))).v5 8 1 (.own 500 1)).row 500 1 .wlk (fun _=>R1 m c l k),fun _ k _=>k≤l.length,fun _ k _=>l.length-k⟩)],noAnn,20,?_⟩
 cbv
 repeat' first|((with_reducible refine fun(k:Nat) => ?_);cbv)|((with_reducible intro _);cbv)|(with_reducible refine And.intro ?_ ?_)
 all_goals try((first|(with_reducible refine LoopIn.mk ((0:Nat)) ?_ ?_)|(with_reducible refine LoopBack.mk ((k+1:Nat)) ?_ ?_ ?_)) )
 all_goals try((with_reducible show l8 _ _);cbv;(try simp only[and_true,true_and]))
 all_goals try(repeat' with_reducible refine And.intro ?_ ?_)
 all_goals first|(refine retK h ?_;clear h;simp only[fin0])|(with_reducible refine Ob.mk ?_;clear h)|(clear h)
 all_goals(try simp only[eta0,RT.bytes]at *)
 all_goals(try dsimp only[RT.ty]at *)
 all_goals grind(splits:=20) [j4,b8,b9K,c4y,b7w,Y5,Q7,inR,a0x]
theorem c3M:b6 Tryz.prog 107 b5W:=j3 b9 (ss := [(157,c1g),(146,a0J)]) ⟨c3S,a0N,trivial⟩ rfl rfl<|by
 intro(bs:Th (List Int)) (p:Th Int) ⟨(m:Th PMap),(c:Th Int),(l:Th (List Wlk)),u⟩ K _ _ ho h
 obtain⟨m,rfl⟩:=a8 m;obtain⟨c,rfl⟩:=a8 c;obtain⟨l,rfl⟩:=a8 l
 refine⟨noAnn,noAnn,20,?_⟩
 cbv
 repeat' first|((with_reducible intro _);cbv)|(with_reducible refine And.intro ?_ ?_)
 all_goals first|(refine retK h ?_;clear h;simp only[fin0])|(with_reducible refine Ob.mk ?_;clear h)|(clear h)
 all_goals(try simp only[eta0,RT.bytes]at *)
 all_goals grind[b3E,M7,Z5,Q7]
theorem b2B:b6 Tryz.prog 57 b3N:=j3 b9 (ss := [(48,A9),(103,U3),(97,sIn),(104,c1j),(105,c0Z),(106,a8D),(107,b5W)]) ⟨C9,V8,G7,c3T,c3P,c3J,c3M,trivial⟩ rfl rfl<|by
 intro(bs:Th (List Int)) (p:Th Int) ⟨(m:Th PMap),(l:Th (List Wlk)),(v:Th Int),u⟩ K _ _ ho h
 obtain⟨m,rfl⟩:=a8 m;obtain⟨l,rfl⟩:=a8 l;obtain⟨v,rfl⟩:=a8 v
 have hm := @s0 m
 have hk:=fun(i:Int) => @b3e m i l
 refine⟨annL [(57,5,⟨Nat×Unit,[⟨.cell 8 2,some 500,.srv⟩],fun σ q=>(((σ.fgs [500]).t 8 (vI fun _=>(q.1:Int))).v5 8 2 (.own 500 1)).row 500 1 .srv (fun _=>List.replicate q.1 ⟨true,[],[]⟩),fun _ q _=>(q.1:Int)≤v∧p7 m=true∧z6 m l=true∧1≤v∧v≤3,fun _ q _=>v.toNat-q.1⟩),
  (57,9,⟨Nat,[⟨.cell 8 3,some 501,.sto⟩],fun σ k=>(((σ.fgs [501]).t 9 (vI fun _=>(k:Int))).v5 8 3 (.own 501 1)).row 501 1 .sto (fun _=>(List.range k).map fun(i:Nat)=>M7 m (i:Int) l),fun _ k _=>(k:Int)≤m.cells∧p7 m=true∧z6 m l=true∧1≤v∧v≤3,fun _ k _=>m.cells.toNat-k⟩)],noAnn,20,?_⟩
 cbv
 repeat' first|((with_reducible refine fun(k:Nat) => ?_);cbv)|((with_reducible refine fun(q:Nat×Unit) => ?_);obtain⟨s,_⟩:=q;cbv)|((with_reducible intro _);cbv)|(with_reducible refine And.intro ?_ ?_)
 all_goals try((first|(with_reducible refine LoopIn.mk (((0,()):Nat×Unit)) ?_ ?_)|(with_reducible refine LoopIn.mk ((0:Nat)) ?_ ?_)|(with_reducible refine LoopBack.mk ((k+1:Nat)) ?_ ?_ ?_)|(with_reducible refine LoopBack.mk (((s+1,()):Nat×Unit)) ?_ ?_ ?_)) )
 all_goals try((with_reducible show l8 _ _);cbv;(try simp only[and_true,true_and]))
 all_goals try(repeat' with_reducible refine And.intro ?_ ?_)
 all_goals first|(refine retK h ?_;clear h;simp only[fin0])|(with_reducible refine Ob.mk ?_;clear h)|(clear h)
 all_goals(try simp only[eta0,RT.bytes]at *)
 all_goals(try dsimp only[RT.ty]at *)
 all_goals(try grind(splits:=20) [j4,b8,inR,b6s,c6w,a2r,O2,K4,b3E])
noncomputable def a9l:Sx.Spec:=⟨false,true,[.row .wld],[],fun _ _ ⟨w,_⟩ => .asrt (fun _=>B8 (w ()).map (w ()).table (w ()).servers.length=true) (.ret (vB fun _=>a6X (w ()),fun _=>0))⟩
noncomputable def c6j:Sx.Spec:=⟨false,true,[.row .wld],[],fun _ _ ⟨w,_⟩ => .asrt (fun _=>B8 (w ()).map (w ()).table (w ()).servers.length=true) (.ret (vB fun _=>b0m (w ()),fun _=>0))⟩
noncomputable def b5Z:Sx.Spec:=⟨false,true,[.list .note],[],fun _ _ ⟨l,_⟩ => .ret (vB fun _=>a6o (l ()),fun _=>0)⟩
noncomputable def X9:Sx.Spec:=⟨false,true,[.row .wld],[],fun _ _ ⟨w,_⟩ => .ret (vB fun _=>j6 (w ()),fun _=>0)⟩
theorem b6K:b6 Tryz.prog 52 a9l:=j3 b9 (ss := [(100,a6Z)]) ⟨a9Y,trivial⟩ rfl rfl<|by
 intro(bs:Th (List Int)) (p:Th Int) ⟨(w:Th Wld),u⟩ K _ _ ho h
 obtain⟨w,rfl⟩:=a8 w
 obtain⟨ha,h⟩:=h
 have ha:=ha.out
 have ht:=B7 ha
 have hl:=okL (ho.1 _ (.tail _ (.tail _ (.head _))))
 have hn:=fun(k:Nat) => @a5x w.map (nth .srv w.servers k)
 have hi:=fun(k j:Nat) => @c1V w.map (nth .srv w.servers k) j
 refine⟨annL [(52,2,⟨Nat×Unit,[],fun σ q => σ.t 3 (vI fun _=>(q.1:Int)),fun _ q _=>q.1≤w.servers.length∧l9 q.1 (a2T w)=true,fun _ q _=>w.servers.length-q.1⟩),
  (52,7,⟨Nat,[],fun σ k => σ.t 4 (vI fun _=>(k:Int)),fun σ k _=>k≤(nth .srv w.servers (σ.nat 3)).holds.length ∧ σ.nat 3<w.servers.length∧A4 w.map (nth .srv w.servers (σ.nat 3))=true∧l9 (σ.nat 3) (a2T w)=true∧l9 k (a3T w.table (nth .srv w.servers (σ.nat 3)).holds)=true,fun σ k _=>(nth .srv w.servers (σ.nat 3)).holds.length-k⟩)],noAnn,20,?_⟩
 cbv
 repeat' first|((with_reducible refine fun(k:Nat) => ?_);cbv)|((with_reducible refine fun(q:Nat×Unit) => ?_);obtain⟨s,_⟩:=q;cbv)|((with_reducible intro _);cbv)|(with_reducible refine And.intro ?_ ?_)
 all_goals try((first|(with_reducible refine LoopIn.mk (((0,()):Nat×Unit)) ?_ ?_)|(with_reducible refine LoopIn.mk ((0:Nat)) ?_ ?_)|(with_reducible refine LoopBack.mk ((k+1:Nat)) ?_ ?_ ?_)|(with_reducible refine LoopBack.mk (((s+1,()):Nat×Unit)) ?_ ?_ ?_)) )
 all_goals try((with_reducible show l8 _ _);cbv;(try simp only[and_true,true_and]))
 all_goals(try simp only[St.nat,St.int,Tr.get,Nat.reduceMod,Nat.reduceDiv,Nat.one_ne_zero,if_false,if_true,↓reduceIte]at *)
 all_goals try(repeat' with_reducible refine And.intro ?_ ?_)
 all_goals first|(refine retK h ?_;clear h;simp only[fin0])|(with_reducible refine Ob.mk ?_;clear h)|(clear h)
 all_goals(try simp only[eta0,RT.bytes]at *)
 all_goals grind(splits:=30) [j4,b8,a6X,b1W,b1V,b5J,a2k,n8,n3,a3T]
theorem d0q:b6 Tryz.prog 53 c6j:=j3 b9 (ss := [(101,a7b)]) ⟨b0a,trivial⟩ rfl rfl<|by
 intro(bs:Th (List Int)) (p:Th Int) ⟨(w:Th Wld),u⟩ K _ _ ho h
 obtain⟨w,rfl⟩:=a8 w
 obtain⟨ha,h⟩:=h
 have ha:=ha.out
 have ht:=B7 ha
 have hi:=fun(k:Nat) => @b0n w.map w.servers.length (nth .msg w.net k)
 refine⟨annL [(53,4,⟨Nat,[],fun σ k => σ.t 3 (vI fun _=>(k:Int)),fun _ k _=>k≤w.net.length∧w.net.length≤40∧l9 k (a6p w)=true,fun _ k _=>w.net.length-k⟩)],noAnn,20,?_⟩
 cbv
 repeat' first|((with_reducible refine fun(k:Nat) => ?_);cbv)|((with_reducible intro _);cbv)|(with_reducible refine And.intro ?_ ?_)
 all_goals try((first|(with_reducible refine LoopIn.mk ((0:Nat)) ?_ ?_)|(with_reducible refine LoopBack.mk ((k+1:Nat)) ?_ ?_ ?_)) )
 all_goals try((with_reducible show l8 _ _);cbv;(try simp only[and_true,true_and]))
 all_goals(try simp only[St.nat,St.int,Tr.get,Nat.reduceMod,Nat.reduceDiv,Nat.one_ne_zero,if_false,if_true,↓reduceIte]at *)
 all_goals try(repeat' with_reducible refine And.intro ?_ ?_)
 all_goals first|(refine retK h ?_;clear h;simp only[fin0])|(with_reducible refine Ob.mk ?_;clear h)|(clear h)
 all_goals(try simp only[eta0,RT.bytes]at *)
 all_goals grind(splits:=30) [j4,b8,b0m,c1M,a6p,a2k,n8,n3]
theorem c3V:b6 Tryz.prog 54 b5Z:=j3 b9 (ss := [(97,sIn)]) ⟨G7,trivial⟩ rfl rfl<|by
 intro(bs:Th (List Int)) (p:Th Int) ⟨(l:Th (List Note)),u⟩ K _ _ ho h
 obtain⟨l,rfl⟩:=a8 l
 refine⟨annL [(54,4,⟨Nat,[],fun σ k => σ.t 3 (vI fun _=>(k:Int)),fun _ k _=>k≤l.length∧l.length≤150∧l9 k (a3F l)=true,fun _ k _=>l.length-k⟩)],noAnn,20,?_⟩
 cbv
 repeat' first|((with_reducible refine fun(k:Nat) => ?_);cbv)|((with_reducible intro _);cbv)|(with_reducible refine And.intro ?_ ?_)
 all_goals try((first|(with_reducible refine LoopIn.mk ((0:Nat)) ?_ ?_)|(with_reducible refine LoopBack.mk ((k+1:Nat)) ?_ ?_ ?_)) )
 all_goals try((with_reducible show l8 _ _);cbv;(try simp only[and_true,true_and]))
 all_goals(try simp only[St.nat,St.int,Tr.get,Nat.reduceMod,Nat.reduceDiv,Nat.one_ne_zero,if_false,if_true,↓reduceIte]at *)
 all_goals try(repeat' with_reducible refine And.intro ?_ ?_)
 all_goals first|(refine retK h ?_;clear h;simp only[fin0])|(with_reducible refine Ob.mk ?_;clear h)|(clear h)
 all_goals(try simp only[eta0,RT.bytes]at *)
 all_goals grind(splits:=30) [j4,b8,a6o,b2F,a3F,a4Z,a2k,n8,n3,inR]
theorem a3D:b6 Tryz.prog 16 X9:=j3 b9 (ss := [(48,A9),(49,a3r),(50,a5G),(51,a4R),(52,a9l),(53,c6j),(54,b5Z)]) ⟨C9,a3E,b2C,a6h,b6K,d0q,c3V,trivial⟩ rfl rfl<|by
 intro(bs:Th (List Int)) (p:Th Int) ⟨(w:Th Wld),u⟩ K _ _ ho h
 obtain⟨w,rfl⟩:=a8 w
 have ht := @B7 w.map w.table w.servers.length
 have hs := @a3j w.map w.stores
 have hs4 := @a9a w.map w.stores
 have he:=b1L w
 refine⟨annL [(16,4,⟨Nat,[],fun σ k => σ.t 3 (vI fun _=>(k:Int)),fun _ k _=>k≤w.stores.length∧B8 w.map w.table w.servers.length=true∧z7 w.map w.stores=true∧A7 w.map w.rows=true∧l9 k (a0Y w)=true,fun _ k _=>w.stores.length-k⟩)],noAnn,20,?_⟩
 cbv
 repeat' first|((with_reducible refine fun(k:Nat) => ?_);cbv)|((with_reducible intro _);cbv)|(with_reducible refine And.intro ?_ ?_)
 all_goals try((first|(with_reducible refine LoopIn.mk ((0:Nat)) ?_ ?_)|(with_reducible refine LoopBack.mk ((k+1:Nat)) ?_ ?_ ?_)) )
 all_goals try((with_reducible show l8 _ _);cbv;(try simp only[and_true,true_and]))
 all_goals(try simp only[St.nat,St.int,Tr.get,Nat.reduceMod,Nat.reduceDiv,Nat.one_ne_zero,if_false,if_true,↓reduceIte]at *)
 all_goals try(repeat' with_reducible refine And.intro ?_ ?_)
 all_goals first|(refine retK h ?_;clear h;simp only[fin0])|(with_reducible refine Ob.mk ?_;clear h)|(clear h)
 all_goals(try simp only[eta0,RT.bytes]at *)
 all_goals grind(splits:=30) [j4,b8,a5u,b5y,a0Y,a2k,n8,n3]
end Go.Proofs.YtiioognflecdgaaGreat
namespace Go.Sx
def St.tmL (t:RT) (σ : St) (d:Nat):Th (List t.ty):=match σ.tm.get d with
 | .one (.att (.list t' l))=>if h:t'=t then Q9 h l else a5a t
 |_=>a5a t
end Go.Sx
namespace Go.Proofs.YtiioognflecdgaaGreat
open Go.Sx Go.Proofs Go.Mo
theorem b9z (n:Nat):(NatCast.natCast n:Int)=(n:Int):=rfl
theorem c2N {k:Nat} (h:k≤1000):(IntKind.i64.wrap ((k:Int)+1)).toNat=k+1:=by rw[j4 (by omega)];rfl
theorem a4i:b6 Tryz.prog 11 X9:=j3 b9 (ss := [(28,a3r),(29,a5G),(30,a4R),(31,a6Z),(34,a7b),(37,a1Q),(38,sIn)]) ⟨d0z,c6Q,d0w,d0p,d0r,a2E,okIn,trivial⟩ rfl rfl<|by
 intro(bs:Th (List Int)) (p:Th Int) ⟨(w:Th Wld),u⟩ K _ _ ho h
 obtain⟨w,rfl⟩:=a8 w
 have ht := @B7 w.map w.table w.servers.length
 have hs := @a3j w.map w.stores
 have hs4 := @a9a w.map w.stores
 have he:=b1L w
 have hi:=fun(k j:Nat) => @c1V w.map (nth .srv w.servers k) j
 have hi2:=fun(k:Nat) => @b0n w.map w.servers.length (nth .msg w.net k)
 have hn:=fun(k:Nat) => @a5x w.map (nth .srv w.servers k)
 refine⟨annL [(11,5,⟨Th Int×Th Bool,[],fun σ g=>(σ.only [1,3,47,48]).t 49 (.one (.att (.int .i64 g.1))),fun _ g _=>Ob fun _=>0≤g.1 ()∧g.1 ()≤w.stores.length∧w.stores.length≤4∧B8 w.map w.table w.servers.length=true∧z7 w.map w.stores=true∧A7 w.map w.rows=true∧w.net.length≤40∧w.notes.length≤150∧l9 (g.1 ()).toNat (a0Y w)=true,fun _ g _=>5-(g.1 ()).toNat⟩),
  (11,11,⟨Th Bool×Th Int,[],fun σ g=>(σ.only [1,3,65,66]).t 67 (.one (.att (.int .i64 g.2))),fun _ g _=>Ob fun _=>0≤g.2 ()∧g.2 ()≤w.servers.length∧w.servers.length≤3∧l9 w.stores.length (a0Y w)=true∧l9 (g.2 ()).toNat (a2T w)=true,fun _ g _=>4-(g.2 ()).toNat⟩),
  (84,2,⟨Th Int×Th Int,[],fun σ g => σ.t 8 (.one (.att (.int .i64 g.1))),fun σ g _=>Ob ((fun(L:Th (List Hld))=>fun _=>0≤g.1 ()∧g.1 ()≤(L ()).length∧(L ()).length≤4∧l9 (g.1 ()).toNat (a3T w.table (L ()))=true) (σ.tmL .hld 0)),fun _ g _=>5-(g.1 ()).toNat⟩),
  (11,17,⟨Th Bool×Th Int×Th Int,[],fun σ g=>(σ.only [1,3,83,84]).t 85 (.one (.att (.int .i64 g.2.1))),fun _ g _=>Ob fun _=>0≤g.2.1 ()∧g.2.1 ()≤w.net.length∧l9 w.stores.length (a0Y w)=true∧a6X w=true∧l9 (g.2.1 ()).toNat (a6p w)=true,fun _ g _=>41-(g.2.1 ()).toNat⟩),
  (88,2,⟨Th Bool×Th Bool×Th Int,[],fun σ g => σ.t 8 (.one (.att (.int .i64 g.2.2))),fun σ g _=>Ob fun _=>0≤g.2.2 ()∧g.2.2 ()≤w.notes.length∧l9 (g.2.2 ()).toNat (a3F w.notes)=true,fun _ g _=>151-(g.2.2 ()).toNat⟩)],annL [(32,1,⟨Th Bool×Th Bool,[],fun σ _ => σ,fun _ _ _=>Ob fun _=>True,fun _ _ _=>0⟩),(35,1,⟨Th Bool×Th Bool,[],fun σ _ => σ,fun _ _ _=>Ob fun _=>True,fun _ _ _=>0⟩)],20,?_⟩
 cbv
 repeat' first|((with_reducible refine fun(g:Th Int×Th Bool) => ?_);obtain⟨i,z⟩:=g;obtain⟨i,rfl⟩:=a8 i;obtain⟨z,rfl⟩:=a8 z;(with_reducible refine ImpB.out ?_);cbv;(with_reducible refine ImpB.mk ?_);intro hq;obtain⟨hq⟩:=hq;have hq0:=hq.1;obtain⟨i,rfl⟩:=Int.eq_ofNat_of_zero_le hq0;clear hq0)|((with_reducible refine fun(g:Th Bool×Th Int) => ?_);obtain⟨z,i⟩:=g;obtain⟨z,rfl⟩:=a8 z;obtain⟨i,rfl⟩:=a8 i;(with_reducible refine ImpB.out ?_);cbv;(with_reducible refine ImpB.mk ?_);intro hq;obtain⟨hq⟩:=hq;have hq0:=hq.1;obtain⟨i,rfl⟩:=Int.eq_ofNat_of_zero_le hq0;clear hq0)|((with_reducible refine fun(g:Th Int×Th Int) => ?_);obtain⟨j,z⟩:=g;obtain⟨j,rfl⟩:=a8 j;obtain⟨z,rfl⟩:=a8 z;(with_reducible refine ImpB.out ?_);cbv;(with_reducible refine ImpB.mk ?_);intro hq;obtain⟨hq⟩:=hq;have hq0:=hq.1;obtain⟨j,rfl⟩:=Int.eq_ofNat_of_zero_le hq0;clear hq0)|((with_reducible refine fun(g:Th Bool×Th Int×Th Int) => ?_);obtain⟨z,i,y⟩:=g;obtain⟨z,rfl⟩:=a8 z;obtain⟨i,rfl⟩:=a8 i;obtain⟨y,rfl⟩:=a8 y;(with_reducible refine ImpB.out ?_);cbv;(with_reducible refine ImpB.mk ?_);intro hq;obtain⟨hq⟩:=hq;have hq0:=hq.1;obtain⟨i,rfl⟩:=Int.eq_ofNat_of_zero_le hq0;clear hq0)|((with_reducible refine fun(g:Th Bool×Th Bool×Th Int) => ?_);obtain⟨z,y,i⟩:=g;obtain⟨z,rfl⟩:=a8 z;obtain⟨y,rfl⟩:=a8 y;obtain⟨i,rfl⟩:=a8 i;(with_reducible refine ImpB.out ?_);cbv;(with_reducible refine ImpB.mk ?_);intro hq;obtain⟨hq⟩:=hq;have hq0:=hq.1;obtain⟨i,rfl⟩:=Int.eq_ofNat_of_zero_le hq0;clear hq0)|((with_reducible refine fun(g:Th Bool×Th Bool) => ?_);obtain⟨z,y⟩:=g;obtain⟨z,rfl⟩:=a8 z;obtain⟨y,rfl⟩:=a8 y;(with_reducible refine ImpB.out ?_);cbv;(with_reducible refine ImpB.mk ?_);intro hq;obtain⟨hq⟩:=hq)|((with_reducible intro _);cbv)|(with_reducible refine And.intro ?_ ?_)
 all_goals try((first|(with_reducible refine LoopIn.wf (fun σ => (σ.tmI 49,B6)) ?_ ?_)|(with_reducible refine LoopBack.wf (fun σ => (σ.tmI 49,B6)) ?_ ?_ ?_)|(with_reducible refine LoopIn.wf (fun σ => (B6,σ.tmI 67)) ?_ ?_)|(with_reducible refine LoopBack.wf (fun σ => (B6,σ.tmI 67)) ?_ ?_ ?_)|(with_reducible refine LoopIn.wf (fun σ => (σ.tmI 8,a0n)) ?_ ?_)|(with_reducible refine LoopBack.wf (fun σ => (σ.tmI 8,a0n)) ?_ ?_ ?_)|(with_reducible refine LoopIn.wf (fun σ => (B6,σ.tmI 85,a0n)) ?_ ?_)|(with_reducible refine LoopBack.wf (fun σ => (B6,σ.tmI 85,a0n)) ?_ ?_ ?_)|(with_reducible refine LoopIn.wf (fun σ => (B6,B6,σ.tmI 8)) ?_ ?_)|(with_reducible refine LoopBack.wf (fun σ => (B6,B6,σ.tmI 8)) ?_ ?_ ?_)|(with_reducible refine LoopIn.wf (fun _=>(B6,B6)) ?_ ?_)|(with_reducible refine LoopBack.wf (fun _=>(B6,B6)) ?_ ?_ ?_))<;>cbv)
 all_goals try(with_reducible show _∧_;(try simp only[and_true,true_and]))
 all_goals try(repeat' with_reducible refine And.intro ?_ ?_)
 all_goals try(with_reducible refine MeasB.mk ?_)
 all_goals first|(refine retK h ?_;clear h;simp only[fin0])|(with_reducible refine Ob.mk ?_;clear h)|(clear h)
 all_goals(try simp only[eta0,RT.bytes]at *)
 all_goals(try dsimp only[RT.ty]at *)
 all_goals(try simp only[Int.toNat_natCast,Int.toNat_zero]at *)
 all_goals(try simp only[b9z]at *)
 all_goals(try simp(disch:=omega) only[c2N,j4,Int.toNat_natCast])
 all_goals(first|omega|grind(splits:=30) [j4,b8,a5u,a6X,b0m,a6o,b1W,b1V,b5J,b5y,a0Y,a3T,c1M,a6p,b2F,a3F,a4Z,a2k,n8,n3,inR])
end Go.Proofs.YtiioognflecdgaaGreat
