/-
  Contracts: a message brought, the program's way.
-/
import Derived.Test.YtmnapekfeenknaaGreatFy
import Derived.Test.YtmnapekfeenknaaGreatMy
import Derived.Test.YtmnapekfeenknaaGreatGnQf
import Derived.Test.YtmnapekfeenknaaGreatGnVe
import Derived.Test.YtmnapekfeenknaaGreatGnE
set_option linter.unusedVariables false
set_option linter.unusedSimpArgs false
set_option maxRecDepth 100000
set_option maxHeartbeats 16000000
namespace Go.Sx
def St.d7w (σ : St):St:=⟨σ.tm,σ.hp,σ.up.map b6w⟩
end Go.Sx
namespace Go.Proofs.YtmnapekfeenknaaGreat
open Go.Sx Go.Proofs Go.Mo
theorem d3k {w:Wld} (hok:m8 w=true) {i:Nat} (hi:i<w.net.length) (hd : ¬(nth .msg w.net i).dest = -1) :
  H5 w.map (nth .srv w.servers (nth .msg w.net i).dest.toNat) w.stores w.table w.servers.length (nth .msg w.net i)=r8 w.map (nth .srv w.servers (nth .msg w.net i).dest.toNat) w.stores w.table (nth .msg w.net i):=by
 have hF:=O2 hok
 have hm:=hF.2.2.2.2.2.1 i hi
 have hs:=hF.2.2.2.2.2.2.1 (nth .msg w.net i).dest.toNat (by omega)
 rw[H5,if_pos ⟨hs,hF.2.1,hF.1,hm.1⟩]
theorem c1C {w:Wld} (hok:m8 w=true) {i:Nat} (hi:i<w.net.length) (hd : ¬(nth .msg w.net i).dest = -1) {s:Srv} {st:List Sto} {out:List Msg}
  (h1 : @Eq Srv (H5 w.map (nth .srv w.servers (nth .msg w.net i).dest.toNat) w.stores w.table w.servers.length (nth .msg w.net i)).srv s) (h2 : @Eq (List Sto) (H5 w.map (nth .srv w.servers (nth .msg w.net i).dest.toNat) w.stores w.table w.servers.length (nth .msg w.net i)).stores st)
  (h3 : @Eq (List Msg) (H5 w.map (nth .srv w.servers (nth .msg w.net i).dest.toNat) w.stores w.table w.servers.length (nth .msg w.net i)).out out) :
  x8 ⟨w.map,w.servers.set (nth .msg w.net i).dest.toNat s,st,w.table,w.rows,w.net.eraseIdx i,w.notes⟩ out=a0a w i:=by
 rw[←h1,←h2,←h3,d3k hok hi hd]
 unfold a0a
 simp only
 rw[if_neg hd]
 rfl
theorem c9F {w:Wld} (hok:m8 w=true) {i:Nat} (hi:i<w.net.length) (hd : ¬(nth .msg w.net i).dest = -1) {st:List Sto} {out:List Msg}
  (h1 : @Eq Srv (H5 w.map (nth .srv w.servers (nth .msg w.net i).dest.toNat) w.stores w.table w.servers.length (nth .msg w.net i)).srv (nth .srv w.servers (nth .msg w.net i).dest.toNat)) (h2 : @Eq (List Sto) (H5 w.map (nth .srv w.servers (nth .msg w.net i).dest.toNat) w.stores w.table w.servers.length (nth .msg w.net i)).stores st)
  (h3 : @Eq (List Msg) (H5 w.map (nth .srv w.servers (nth .msg w.net i).dest.toNat) w.stores w.table w.servers.length (nth .msg w.net i)).out out) :
  x8 ⟨w.map,w.servers,st,w.table,w.rows,w.net.eraseIdx i,w.notes⟩ out=a0a w i:=by
 have:=c1C hok hi hd h1 h2 h3
 have hs:w.servers.set (nth .msg w.net i).dest.toNat (nth .srv w.servers (nth .msg w.net i).dest.toNat)=w.servers:=by
  apply List.ext_getElem (by simp)
  intro j h1 h2
  rw[List.getElem_set]
  split
  ·rename_i e
   subst e
   rw[k9 .srv _ _ h2]
  ·rfl
 rw[hs]at this
 exact this
theorem d6p {w:Wld} {i:Nat} (hd:(nth .msg w.net i).dest = -1):a0a w i=⟨w.map,w.servers,w.stores,w.table,(B5 w.map w.rows (nth .msg w.net i)).b,w.net.eraseIdx i,if(B5 w.map w.rows (nth .msg w.net i)).ok=true∧w.notes.length<150 then w.notes ++ [⟨(nth .msg w.net i).ord.who,(nth .msg w.net i).ord.seq,(nth .msg w.net i).n⟩]else w.notes⟩:=by
 unfold a0a
 simp only
 rw[if_pos hd]
 rfl
theorem d6C {w:Wld} (hok:m8 w=true) (i:Nat):(w.net.eraseIdx i).length≤40:=Nat.le_trans (List.length_eraseIdx_le ..) (O2 hok).2.2.2.1
noncomputable def c4W:Sx.Io:=⟨.row .wld,true,[.int .i64],[],fun w ⟨i,_⟩ => .asrt (fun _=>m8 (w ())=true∧0≤i ()∧i ()<(w ()).net.length) (.ret (.tup [],fun _=>a0a (w ()) (i ()).toNat))⟩
theorem d2k:b9 Tryz.prog 158 (ioX c4W):=io1 j3 (ss := [(159,a9v),(185,a4d),(67,b6M),(255,b4V),(232,c4I),(242,a1h),(194,a2z),(104,R6),(274,(ioX d7e)),(180,(ioX c4Z)),(258,b4X),(68,E6),(129,L5),(155,(ioX c2p)),(198,(ioX d0X))]) ⟨b2y,b2x,b7n,c2Y,d1N,b5o,c0r,a3G,d8f,d2n,c3a,S9,a2F,c5w,d5J,trivial⟩ rfl rfl<|by
 intro(w:Th Wld) ⟨(i:Th Int),u⟩ K _ ho h
 obtain⟨w,rfl⟩:=b6 w;obtain⟨i,rfl⟩:=b6 i
 obtain⟨ha,h⟩:=h
 have ha:=ha.out
 have ha:m8 w=true∧0≤i∧i<w.net.length:=ha
 obtain⟨hok,hi0,hi1⟩:=ha
 have hF:=O2 hok
 have hw1:IntKind.i64.wrap (i+1)=i+1:=e9 (by have:=hF.2.2.2.1;dsimp only at *;omega) (by have:=hF.2.2.2.1;dsimp only at *;omega)
 refine⟨annL [(231,5,⟨Nat,[],fun σ k=>(σ.d7w.only [0,2,5,7,9,10]).t 8 (vI fun _=>(k:Int)),fun _ k _=>k≤(nth .srv w.servers (nth .msg w.net i.toNat).dest.toNat).holds.length∧m9 k (a5G (nth .srv w.servers (nth .msg w.net i.toNat).dest.toNat).holds (nth .msg w.net i.toNat).cell)=true,fun _ k _=>(nth .srv w.servers (nth .msg w.net i.toNat).dest.toNat).holds.length-k⟩)],noAnn,20,?_⟩
 cbv
 repeat' first|((with_reducible refine fun(k:Nat) => ?_);cbv)|((with_reducible intro _);cbv)|(with_reducible refine And.intro ?_ ?_)
 all_goals try((first|(with_reducible refine LoopIn.mk ((0:Nat)) ?_ ?_)|(with_reducible refine LoopBack.mk ((k+1:Nat)) ?_ ?_ ?_)) )
 all_goals try((with_reducible show l9 _ _);cbv;(try simp only[and_true,true_and]))
 all_goals try(repeat' with_reducible refine And.intro ?_ ?_)
 all_goals first|refine ioK h ?_ ?_|(with_reducible refine Ob.mk ?_;clear h)|(clear h)
 all_goals(try clear h)
 all_goals(try clear K)
 all_goals(try simp only[fin0])
 all_goals(try simp only[eta0,RT.bytes]at *)
 all_goals(try dsimp only[RT.ty]at *)
 all_goals(try simp only[d8k]at *)
 all_goals(try simp only[c2m]at *)
 all_goals(try simp only[z8]at *)
 all_goals(try clear ho ha)
 all_goals(try have hcf:=d6C hok i.toNat)
 all_goals first|omega|exact⟨by omega,by omega⟩|exact j4 (by omega)|exact⟨hcf,by simp⟩|skip
 all_goals(try simp only[Classical.not_not]at *)
 all_goals(try have hge:=d6p (by assumption:(nth .msg w.net i.toNat).dest = -1))
 all_goals(try have hM:=hF.2.2.2.2.2.1 i.toNat (by omega))
 all_goals(try have hS:=hF.2.2.2.2.2.2.1 (nth .msg w.net i.toNat).dest.toNat (by omega))
 all_goals(try have hF2:=c0O hS hF.2.1 hM.1)
 all_goals(try(have hd2:(nth .msg w.net i.toNat).dest.toNat<w.servers.length:=by omega);simp only[j9 .srv hd2,List.set_set])
 all_goals first|refine c1C hok (by omega) (by assumption) ?_ ?_ ?_|refine c9F hok (by omega) (by assumption) ?_ ?_ ?_|skip
 all_goals(try dsimp only[RT.ty]at *)
 all_goals(try generalize nth .srv w.servers (nth .msg w.net i.toNat).dest.toNat=s at *)
 all_goals(try generalize nth .msg w.net i.toNat=x at *)
 all_goals(try rw[j9 .sto (by omega)]at *)
 all_goals(try(have hlt:(k8 s.holds x.cell).toNat<s.holds.length:=by omega);simp only[j9 .hld hlt,List.set_set])
 all_goals first|omega|rfl|grind(splits:=40) [H5,r8,N4,a0f,a0e,C7,x9,j6,z7,a2G,a8y,A2,K0,x6,W7,e9,j4,b6C,d6Q,a0T,n8,n5,a5G,c4w]
end Go.Proofs.YtmnapekfeenknaaGreat
