/-
  The data of the symbolic executor: plain structures for the program's types, sealed contents, symbolic cells.
-/
import GoSem.Core.World
set_option linter.unusedVariables false
set_option linter.unusedSimpArgs false
namespace Go.Sx
abbrev Th (α : Type):=Unit → α
structure PMap where
 cells:Int
 width:Int
 deriving DecidableEq,Inhabited
structure Wlk where
 id:Int
 pos:Int
 n0:Int
 seq:Int
 last:Int
 deriving DecidableEq,Inhabited
structure Ord where
 who:Int
 seq:Int
 kind:Int
 dest:Int
 n:Int
 deriving DecidableEq,Inhabited
structure Pcl where
 n:Int
 kind:Int
 wlk:Wlk
 n0:Int
 deriving DecidableEq,Inhabited
structure Cll where
 cell:Int
 wlks:List Wlk
 ground:Int
 outs:List (List Pcl)
 next:List Int
 ins:List Int
 deriving DecidableEq,Inhabited
structure Rec where
 kind:Int
 ord:Ord
 side:Int
 pcl:Pcl
 n:Int
 deriving DecidableEq,Inhabited
structure Sto where
 age:Int
 base:Cll
 recs:List Rec
 deriving DecidableEq,Inhabited
structure Hld where
 age:Int
 count:Int
 state:Cll
 deriving DecidableEq,Inhabited
structure Gst where
 src:Int
 count:Int
 wlk:Wlk
 deriving DecidableEq,Inhabited
structure Arb where
 servers:List Int
 ages:List Int
 deriving DecidableEq,Inhabited
structure Msg where
 kind:Int
 dest:Int
 cell:Int
 side:Int
 n:Int
 ord:Ord
 pcl:Pcl
 gst:Gst
 deriving DecidableEq,Inhabited
structure Srv where
 up:Bool
 holds:List Hld
 n6:List Gst
 deriving DecidableEq,Inhabited
structure Row where
 who:Int
 cell:Int
 busy:Bool
 ord:Ord
 seq:Int
 code:Int
 deriving DecidableEq,Inhabited
structure Note where
 who:Int
 seq:Int
 code:Int
 deriving DecidableEq,Inhabited
structure Wld where
 map:PMap
 servers:List Srv
 stores:List Sto
 table:Arb
 rows:List Row
 net:List Msg
 notes:List Note
 deriving DecidableEq,Inhabited
structure Evt where
 kind:Int
 pos:Int
 what:Int
 dest:Int
 n:Int
 deriving DecidableEq,Inhabited
structure OW where
 wlk:Wlk
 here:Bool
 deriving DecidableEq,Inhabited
structure One where
 map:PMap
 wlks:List OW
 ground:List Int
 air:List (List Int)
 deriving DecidableEq,Inhabited
structure LCll where
 cell:Int
 wlks:List Unit
 ground:Int
 outs:List (List Unit)
 next:List Unit
 ins:List Unit
 deriving DecidableEq,Inhabited
structure LSto where
 age:Int
 base:LCll
 recs:List Unit
 deriving DecidableEq,Inhabited
structure LHld where
 age:Int
 count:Int
 state:LCll
 deriving DecidableEq,Inhabited
inductive RT where
 |byte|int|wlk|pcl|pcls|ints|rcd|cll|sto|hld|gst|msg|srv|row|note|evt|ow|wld|long|longs|lcll|lsto|lhld
 deriving DecidableEq,Inhabited
abbrev RT.ty:RT→Type
 | .byte=>Int
 | .int=>Int
 | .wlk=>Wlk
 | .pcl=>Pcl
 | .pcls=>List Pcl
 | .ints=>List Int
 | .rcd=>Rec
 | .cll=>Cll
 | .sto=>Sto
 | .hld=>Hld
 | .gst=>Gst
 | .msg=>Msg
 | .srv=>Srv
 | .row=>Row
 | .note=>Note
 | .evt=>Evt
 | .ow=>OW
 | .wld=>Wld
 | .long=>Unit
 | .longs=>List Unit
 | .lcll=>LCll
 | .lsto=>LSto
 | .lhld=>LHld
inductive SB where
 |tt|ff
 |of (f:Th Bool)
def SB.val:SB→Bool
 | .tt=>true
 | .ff=>false
 | .of f=>f ()
inductive A where
 |int (k:IntKind) (n:Th Int)
 |bool (b:SB)
 |list (t:RT) (l:Th (List t.ty))
def RT.size:RT→Nat
 | .byte=>1
 | .int=>1
 | .wlk=>5
 | .pcl=>8
 | .pcls=>1
 | .ints=>1
 | .rcd=>16
 | .cll=>6
 | .sto=>8
 | .hld=>8
 | .gst=>7
 | .msg=>25
 | .srv=>3
 | .row=>10
 | .note=>3
 | .evt=>5
 | .ow=>6
 | .wld=>9
 | .long=>0
 | .longs=>1
 | .lcll=>6
 | .lsto=>8
 | .lhld=>8
abbrev i64 (n:Th Int):A := .int .i64 n
def b0Y (e:Th PMap):List A := [i64 fun _=>(e ()).cells,i64 fun _=>(e ()).width]
def b4S (e:Th Wlk):List A := [i64 fun _=>(e ()).id,i64 fun _=>(e ()).pos,i64 fun _=>(e ()).n0,i64 fun _=>(e ()).seq,i64 fun _=>(e ()).last]
def b0W (e:Th Ord):List A := [i64 fun _=>(e ()).who,i64 fun _=>(e ()).seq,i64 fun _=>(e ()).kind,i64 fun _=>(e ()).dest,i64 fun _=>(e ()).n]
def b4V (e:Th Pcl):List A :=
 [i64 fun _=>(e ()).n,i64 fun _=>(e ()).kind,i64 fun _=>(e ()).wlk.id,i64 fun _=>(e ()).wlk.pos,i64 fun _=>(e ()).wlk.n0,i64 fun _=>(e ()).wlk.seq,i64 fun _=>(e ()).wlk.last,i64 fun _=>(e ()).n0]
def b0Z (e:Th Cll):List A :=
 [i64 fun _=>(e ()).cell,.list .wlk fun _=>(e ()).wlks,i64 fun _=>(e ()).ground,.list .pcls fun _=>(e ()).outs,.list .int fun _=>(e ()).next,.list .int fun _=>(e ()).ins]
def b4U (e:Th Rec):List A :=
 [i64 fun _=>(e ()).kind,i64 fun _=>(e ()).ord.who,i64 fun _=>(e ()).ord.seq,i64 fun _=>(e ()).ord.kind,i64 fun _=>(e ()).ord.dest,i64 fun _=>(e ()).ord.n,i64 fun _=>(e ()).side,
  i64 fun _=>(e ()).pcl.n,i64 fun _=>(e ()).pcl.kind,i64 fun _=>(e ()).pcl.wlk.id,i64 fun _=>(e ()).pcl.wlk.pos,i64 fun _=>(e ()).pcl.wlk.n0,i64 fun _=>(e ()).pcl.wlk.seq,i64 fun _=>(e ()).pcl.wlk.last,i64 fun _=>(e ()).pcl.n0,
  i64 fun _=>(e ()).n]
def b4T (e:Th Sto):List A :=
 [i64 fun _=>(e ()).age,i64 fun _=>(e ()).base.cell,.list .wlk fun _=>(e ()).base.wlks,i64 fun _=>(e ()).base.ground,.list .pcls fun _=>(e ()).base.outs,.list .int fun _=>(e ()).base.next,.list .int fun _=>(e ()).base.ins,
  .list .rcd fun _=>(e ()).recs]
def b4X (e:Th Hld):List A :=
 [i64 fun _=>(e ()).age,i64 fun _=>(e ()).count,i64 fun _=>(e ()).state.cell,.list .wlk fun _=>(e ()).state.wlks,i64 fun _=>(e ()).state.ground,.list .pcls fun _=>(e ()).state.outs,.list .int fun _=>(e ()).state.next,.list .int fun _=>(e ()).state.ins]
def b4Y (e:Th Gst):List A :=
 [i64 fun _=>(e ()).src,i64 fun _=>(e ()).count,i64 fun _=>(e ()).wlk.id,i64 fun _=>(e ()).wlk.pos,i64 fun _=>(e ()).wlk.n0,i64 fun _=>(e ()).wlk.seq,i64 fun _=>(e ()).wlk.last]
def b1a (e:Th Arb):List A := [.list .int fun _=>(e ()).servers,.list .int fun _=>(e ()).ages]
def b4W (e:Th Msg):List A :=
 [i64 fun _=>(e ()).kind,i64 fun _=>(e ()).dest,i64 fun _=>(e ()).cell,i64 fun _=>(e ()).side,i64 fun _=>(e ()).n,
  i64 fun _=>(e ()).ord.who,i64 fun _=>(e ()).ord.seq,i64 fun _=>(e ()).ord.kind,i64 fun _=>(e ()).ord.dest,i64 fun _=>(e ()).ord.n,
  i64 fun _=>(e ()).pcl.n,i64 fun _=>(e ()).pcl.kind,i64 fun _=>(e ()).pcl.wlk.id,i64 fun _=>(e ()).pcl.wlk.pos,i64 fun _=>(e ()).pcl.wlk.n0,i64 fun _=>(e ()).pcl.wlk.seq,i64 fun _=>(e ()).pcl.wlk.last,i64 fun _=>(e ()).pcl.n0,
  i64 fun _=>(e ()).gst.src,i64 fun _=>(e ()).gst.count,i64 fun _=>(e ()).gst.wlk.id,i64 fun _=>(e ()).gst.wlk.pos,i64 fun _=>(e ()).gst.wlk.n0,i64 fun _=>(e ()).gst.wlk.seq,i64 fun _=>(e ()).gst.wlk.last]
def a5j (e:Th Srv):List A := [.bool (.of fun _=>(e ()).up),.list .hld fun _=>(e ()).holds,.list .gst fun _=>(e ()).n6]
def b0V (e:Th Row):List A :=
 [i64 fun _=>(e ()).who,i64 fun _=>(e ()).cell,.bool (.of fun _=>(e ()).busy),i64 fun _=>(e ()).ord.who,i64 fun _=>(e ()).ord.seq,i64 fun _=>(e ()).ord.kind,i64 fun _=>(e ()).ord.dest,i64 fun _=>(e ()).ord.n,i64 fun _=>(e ()).seq,i64 fun _=>(e ()).code]
def a8O (e:Th Note):List A := [i64 fun _=>(e ()).who,i64 fun _=>(e ()).seq,i64 fun _=>(e ()).code]
def b4Z (e:Th Evt):List A := [i64 fun _=>(e ()).kind,i64 fun _=>(e ()).pos,i64 fun _=>(e ()).what,i64 fun _=>(e ()).dest,i64 fun _=>(e ()).n]
def c2u (e:Th OW):List A := [i64 fun _=>(e ()).wlk.id,i64 fun _=>(e ()).wlk.pos,i64 fun _=>(e ()).wlk.n0,i64 fun _=>(e ()).wlk.seq,i64 fun _=>(e ()).wlk.last,.bool (.of fun _=>(e ()).here)]
def b0X (e:Th One):List A := [i64 fun _=>(e ()).map.cells,i64 fun _=>(e ()).map.width,.list .ow fun _=>(e ()).wlks,.list .int fun _=>(e ()).ground,.list .ints fun _=>(e ()).air]
def W7 (e:Th Wld):List A :=
 [i64 fun _=>(e ()).map.cells,i64 fun _=>(e ()).map.width,.list .srv fun _=>(e ()).servers,.list .sto fun _=>(e ()).stores,.list .int fun _=>(e ()).table.servers,.list .int fun _=>(e ()).table.ages,
  .list .row fun _=>(e ()).rows,.list .msg fun _=>(e ()).net,.list .note fun _=>(e ()).notes]
def d1h (e:Th LCll):List A :=
 [i64 fun _=>(e ()).cell,.list .long fun _=>(e ()).wlks,i64 fun _=>(e ()).ground,.list .longs fun _=>(e ()).outs,.list .long fun _=>(e ()).next,.list .long fun _=>(e ()).ins]
def d1f (e:Th LSto):List A :=
 [i64 fun _=>(e ()).age,i64 fun _=>(e ()).base.cell,.list .long fun _=>(e ()).base.wlks,i64 fun _=>(e ()).base.ground,.list .longs fun _=>(e ()).base.outs,.list .long fun _=>(e ()).base.next,.list .long fun _=>(e ()).base.ins,
  .list .long fun _=>(e ()).recs]
def d1g (e:Th LHld):List A :=
 [i64 fun _=>(e ()).age,i64 fun _=>(e ()).count,i64 fun _=>(e ()).state.cell,.list .long fun _=>(e ()).state.wlks,i64 fun _=>(e ()).state.ground,.list .longs fun _=>(e ()).state.outs,.list .long fun _=>(e ()).state.next,.list .long fun _=>(e ()).state.ins]
def enc:(t:RT)→Th t.ty→List A
 | .byte,e => [.int .u8 e]
 | .int,e => [.int .i64 e]
 | .wlk,e=>b4S e
 | .pcl,e=>b4V e
 | .pcls,e => [.list .pcl e]
 | .ints,e => [.list .int e]
 | .rcd,e=>b4U e
 | .cll,e=>b0Z e
 | .sto,e=>b4T e
 | .hld,e=>b4X e
 | .gst,e=>b4Y e
 | .msg,e=>b4W e
 | .srv,e=>a5j e
 | .row,e=>b0V e
 | .note,e=>a8O e
 | .evt,e=>b4Z e
 | .ow,e=>c2u e
 | .wld,e=>W7 e
 | .long,_ => []
 | .longs,e => [.list .long e]
 | .lcll,e=>d1h e
 | .lsto,e=>d1f e
 | .lhld,e=>d1g e
def c0h:List A→Option (Th PMap)
 |[.int .i64 a,.int .i64 b]=>some fun _=>⟨a (),b ()⟩
 |_=>none
def c8G:List A→Option (Th Wlk)
 |[.int .i64 a,.int .i64 b,.int .i64 c,.int .i64 d,.int .i64 e]=>some fun _=>⟨a (),b (),c (),d (),e ()⟩
 |_=>none
def c0f:List A→Option (Th Ord)
 |[.int .i64 a,.int .i64 b,.int .i64 c,.int .i64 d,.int .i64 e]=>some fun _=>⟨a (),b (),c (),d (),e ()⟩
 |_=>none
def c8M:List A→Option (Th Pcl)
 |[.int .i64 n,.int .i64 k,.int .i64 a,.int .i64 b,.int .i64 c,.int .i64 d,.int .i64 e,.int .i64 m]=>some fun _=>⟨n (),k (),⟨a (),b (),c (),d (),e ()⟩,m ()⟩
 |_=>none
def c8R:List A→Option (Th Cll)
 |[.int .i64 c,.list .wlk w,.int .i64 g,.list .pcls o,.list .int n,.list .int i]=>some fun _=>⟨c (),w (),g (),o (),n (),i ()⟩
 |_=>none
def c8L:List A→Option (Th Rec)
 |[.int .i64 k,.int .i64 o1,.int .i64 o2,.int .i64 o3,.int .i64 o4,.int .i64 o5,.int .i64 s,.int .i64 p1,.int .i64 p2,.int .i64 a,.int .i64 b,.int .i64 c,.int .i64 d,.int .i64 e,.int .i64 p8,.int .i64 n] =>
  some fun _=>⟨k (),⟨o1 (),o2 (),o3 (),o4 (),o5 ()⟩,s (),⟨p1 (),p2 (),⟨a (),b (),c (),d (),e ()⟩,p8 ()⟩,n ()⟩
 |_=>none
def c8I:List A→Option (Th Sto)
 |[.int .i64 a,.int .i64 c,.list .wlk w,.int .i64 g,.list .pcls o,.list .int n,.list .int i,.list .rcd r]=>some fun _=>⟨a (),⟨c (),w (),g (),o (),n (),i ()⟩,r ()⟩
 |_=>none
def c8O:List A→Option (Th Hld)
 |[.int .i64 a,.int .i64 k,.int .i64 c,.list .wlk w,.int .i64 g,.list .pcls o,.list .int n,.list .int i]=>some fun _=>⟨a (),k (),⟨c (),w (),g (),o (),n (),i ()⟩⟩
 |_=>none
def c8P:List A→Option (Th Gst)
 |[.int .i64 f,.int .i64 k,.int .i64 a,.int .i64 b,.int .i64 c,.int .i64 d,.int .i64 e]=>some fun _=>⟨f (),k (),⟨a (),b (),c (),d (),e ()⟩⟩
 |_=>none
def c0i:List A→Option (Th Arb)
 |[.list .int s,.list .int a]=>some fun _=>⟨s (),a ()⟩
 |_=>none
def c8N:List A→Option (Th Msg)
 |[.int .i64 x1,.int .i64 x2,.int .i64 x3,.int .i64 x4,.int .i64 x5,.int .i64 o1,.int .i64 o2,.int .i64 o3,.int .i64 o4,.int .i64 o5,.int .i64 p1,.int .i64 p2,.int .i64 a,.int .i64 b,.int .i64 c,.int .i64 d,.int .i64 e,.int .i64 p8,
   .int .i64 g1,.int .i64 g2,.int .i64 a2,.int .i64 b2,.int .i64 c2,.int .i64 d2,.int .i64 e2] =>
  some fun _=>⟨x1 (),x2 (),x3 (),x4 (),x5 (),⟨o1 (),o2 (),o3 (),o4 (),o5 ()⟩,⟨p1 (),p2 (),⟨a (),b (),c (),d (),e ()⟩,p8 ()⟩,⟨g1 (),g2 (),⟨a2 (),b2 (),c2 (),d2 (),e2 ()⟩⟩⟩
 |_=>none
def c8J:List A→Option (Th Srv)
 |[.bool u,.list .hld h,.list .gst g]=>some fun _=>⟨u.val,h (),g ()⟩
 |_=>none
def c8K:List A→Option (Th Row)
 |[.int .i64 w,.int .i64 c,.bool b,.int .i64 o1,.int .i64 o2,.int .i64 o3,.int .i64 o4,.int .i64 o5,.int .i64 s,.int .i64 k]=>some fun _=>⟨w (),c (),b.val,⟨o1 (),o2 (),o3 (),o4 (),o5 ()⟩,s (),k ()⟩
 |_=>none
def c2w:List A→Option (Th Note)
 |[.int .i64 a,.int .i64 b,.int .i64 c]=>some fun _=>⟨a (),b (),c ()⟩
 |_=>none
def c8Q:List A→Option (Th Evt)
 |[.int .i64 a,.int .i64 b,.int .i64 c,.int .i64 d,.int .i64 e]=>some fun _=>⟨a (),b (),c (),d (),e ()⟩
 |_=>none
def d1V:List A→Option (Th OW)
 |[.int .i64 a,.int .i64 b,.int .i64 c,.int .i64 d,.int .i64 e,.bool h]=>some fun _=>⟨⟨a (),b (),c (),d (),e ()⟩,h.val⟩
 |_=>none
def c0g:List A→Option (Th One)
 |[.int .i64 a,.int .i64 b,.list .ow w,.list .int g,.list .ints r]=>some fun _=>⟨⟨a (),b ()⟩,w (),g (),r ()⟩
 |_=>none
def c8H:List A→Option (Th Wld)
 |[.int .i64 a,.int .i64 b,.list .srv s,.list .sto t,.list .int ts,.list .int ta,.list .row r,.list .msg n,.list .note o]=>some fun _=>⟨⟨a (),b ()⟩,s (),t (),⟨ts (),ta ()⟩,r (),n (),o ()⟩
 |_=>none
def c2z:List A→Option (Th LCll)
 |[.int .i64 c,.list .long w,.int .i64 g,.list .longs o,.list .long n,.list .long i]=>some fun _=>⟨c (),w (),g (),o (),n (),i ()⟩
 |_=>none
def c2x:List A→Option (Th LSto)
 |[.int .i64 a,.int .i64 c,.list .long w,.int .i64 g,.list .longs o,.list .long n,.list .long i,.list .long r]=>some fun _=>⟨a (),⟨c (),w (),g (),o (),n (),i ()⟩,r ()⟩
 |_=>none
def c2y:List A→Option (Th LHld)
 |[.int .i64 a,.int .i64 k,.int .i64 c,.list .long w,.int .i64 g,.list .longs o,.list .long n,.list .long i]=>some fun _=>⟨a (),k (),⟨c (),w (),g (),o (),n (),i ()⟩⟩
 |_=>none
def dec:(t:RT)→List A→Option (Th t.ty)
 | .byte,l=>match l with
  |[.int .u8 e]=>some e
  |_=>none
 | .int,l=>match l with
  |[.int .i64 e]=>some e
  |_=>none
 | .wlk,l=>c8G l
 | .pcl,l=>c8M l
 | .pcls,l=>match l with
  |[.list .pcl e]=>some e
  |_=>none
 | .ints,l=>match l with
  |[.list .int e]=>some e
  |_=>none
 | .rcd,l=>c8L l
 | .cll,l=>c8R l
 | .sto,l=>c8I l
 | .hld,l=>c8O l
 | .gst,l=>c8P l
 | .msg,l=>c8N l
 | .srv,l=>c8J l
 | .row,l=>c8K l
 | .note,l=>c2w l
 | .evt,l=>c8Q l
 | .ow,l=>d1V l
 | .wld,l=>c8H l
 | .long,l=>match l with
  |[]=>some fun _=>()
  |_=>none
 | .longs,l=>match l with
  |[.list .long e]=>some e
  |_=>none
 | .lcll,l=>c2z l
 | .lsto,l=>c2x l
 | .lhld,l=>c2y l
def A.isAtom:A→Bool
 | .list _ _=>false
 |_=>true
inductive A.same:A→A→Prop
 |int (k:IntKind) (m n:Th Int):m ()=n ()→A.same (.int k m) (.int k n)
 |bool (b c:SB):b.val=c.val→A.same (.bool b) (.bool c)
 |list (t:RT) (l m:Th (List t.ty)):l ()=m ()→A.same (.list t l) (.list t m)
theorem A.same.refl (a:A):A.same a a:=by
 cases a<;>constructor<;>rfl
theorem A.same.symm {a b:A} (h:A.same a b):A.same b a:=by
 cases h<;>constructor<;>simp_all
theorem A.same.trans {a b c:A} (h:A.same a b) (h':A.same b c):A.same a c:=by
 cases h<;>cases h'<;>constructor<;>simp_all
theorem D8 (t:RT) (e:Th t.ty):(enc t e).length=t.size:=by
 cases t<;>rfl
def RT.O8:RT→Bool
 | .long=>true
 | .longs=>true
 | .lcll=>true
 | .lsto=>true
 | .lhld=>true
 |_=>false
theorem size_pos (t:RT) (h:t.O8=false):0<t.size:=by
 cases t<;>first|decide|cases h
inductive Same:List A→List A→Prop
 |nil:Same [] []
 |cons {a b:A} {l m:List A}:A.same a b→Same l m→Same (a::l) (b::m)
theorem Same.refl:(l:List A)→Same l l
 |[] => .nil
 |a::l => .cons (A.same.refl a) (Same.refl l)
theorem Same.symm {l m:List A} (h:Same l m):Same m l:=by
 induction h with
 |nil=>exact .nil
 |cons h _ ih=>exact .cons h.symm ih
theorem Same.trans {l m n:List A} (h:Same l m) (h':Same m n):Same l n:=by
 induction h generalizing n with
 |nil=>exact h'
 |cons h _ ih=>cases h' with
  |cons h1 h2=>exact .cons (h.trans h1) (ih h2)
theorem Same.length {l m:List A} (h:Same l m):l.length=m.length:=by
 induction h with
 |nil=>rfl
 |cons _ _ ih=>simp[ih]
theorem Same.get {l m:List A} (h:Same l m) (j:Nat) {a:A} (ha:l[j]? = some a) : ∃b,m[j]? = some b∧A.same a b:=by
 induction h generalizing j with
 |nil=>simp at ha
 |cons h _ ih=>cases j with
  |zero=>simp at ha;subst ha;exact⟨_,rfl,h⟩
  |succ j=>simp at ha;simpa using ih j ha
theorem Same.append {l m l' m':List A} (h:Same l m) (h':Same l' m'):Same (l++l') (m++m'):=by
 induction h with
 |nil=>exact h'
 |cons h _ ih=>exact .cons h ih
theorem Same.set {l m:List A} (h:Same l m) (j:Nat) {a b:A} (hab:A.same a b):Same (l.set j a) (m.set j b):=by
 induction h generalizing j with
 |nil=>exact .nil
 |cons h ht ih=>cases j with
  |zero=>exact .cons hab ht
  |succ j=>exact .cons h (ih j)
theorem X1 (t:RT) (l:List A) (e:Th t.ty) (h:dec t l=some e):Same l (enc t e):=by
 cases t
 case byte=>simp only[dec]at h;split at h<;>cases h;exact Same.refl _
 case int=>simp only[dec]at h;split at h<;>cases h;exact Same.refl _
 case pcls=>simp only[dec]at h;split at h<;>cases h;exact Same.refl _
 case ints=>simp only[dec]at h;split at h<;>cases h;exact Same.refl _
 case wlk=>simp only[dec,c8G]at h;split at h<;>cases h;exact Same.refl _
 case pcl=>simp only[dec,c8M]at h;split at h<;>cases h;exact Same.refl _
 case rcd=>simp only[dec,c8L]at h;split at h<;>cases h;exact Same.refl _
 case cll=>simp only[dec,c8R]at h;split at h<;>cases h;exact Same.refl _
 case sto=>simp only[dec,c8I]at h;split at h<;>cases h;exact Same.refl _
 case hld=>simp only[dec,c8O]at h;split at h<;>cases h;exact Same.refl _
 case gst=>simp only[dec,c8P]at h;split at h<;>cases h;exact Same.refl _
 case msg=>simp only[dec,c8N]at h;split at h<;>cases h;exact Same.refl _
 case srv=>simp only[dec,c8J]at h;split at h<;>cases h;exact .cons (.bool _ _ rfl) (Same.refl _)
 case row=>simp only[dec,c8K]at h;split at h<;>cases h;exact .cons (.int _ _ _ rfl) (.cons (.int _ _ _ rfl) (.cons (.bool _ _ rfl) (Same.refl _)))
 case note=>simp only[dec,c2w]at h;split at h<;>cases h;exact Same.refl _
 case evt=>simp only[dec,c8Q]at h;split at h<;>cases h;exact Same.refl _
 case ow=>simp only[dec,d1V]at h;split at h<;>cases h;exact .cons (.int _ _ _ rfl) (.cons (.int _ _ _ rfl) (.cons (.int _ _ _ rfl) (.cons (.int _ _ _ rfl) (.cons (.int _ _ _ rfl) (.cons (.bool _ _ rfl) .nil)))))
 case wld=>simp only[dec,c8H]at h;split at h<;>cases h;exact Same.refl _
 case long=>simp only[dec]at h;split at h<;>cases h;exact Same.refl _
 case longs=>simp only[dec]at h;split at h<;>cases h;exact Same.refl _
 case lcll=>simp only[dec,c2z]at h;split at h<;>cases h;exact Same.refl _
 case lsto=>simp only[dec,c2x]at h;split at h<;>cases h;exact Same.refl _
 case lhld=>simp only[dec,c2y]at h;split at h<;>cases h;exact Same.refl _
theorem b8b (l:List A) (e:Th PMap) (h:c0h l=some e):Same l (b0Y e):=by
 simp only[c0h]at h;split at h<;>cases h;exact Same.refl _
theorem b7Z (l:List A) (e:Th Ord) (h:c0f l=some e):Same l (b0W e):=by
 simp only[c0f]at h;split at h<;>cases h;exact Same.refl _
theorem b8c (l:List A) (e:Th Arb) (h:c0i l=some e):Same l (b1a e):=by
 simp only[c0i]at h;split at h<;>cases h;exact Same.refl _
theorem b8a (l:List A) (e:Th One) (h:c0g l=some e):Same l (b0X e):=by
 simp only[c0g]at h;split at h<;>cases h;exact Same.refl _
def RT.dflt:(t:RT)→t.ty
 | .byte=>0
 | .int=>0
 | .wlk=>default
 | .pcl=>default
 | .pcls => []
 | .ints => []
 | .rcd=>default
 | .cll=>default
 | .sto=>default
 | .hld=>default
 | .gst=>default
 | .msg=>default
 | .srv=>default
 | .row=>default
 | .note=>default
 | .evt=>default
 | .ow=>default
 | .wld=>default
 | .long=>()
 | .longs => []
 | .lcll=>default
 | .lsto=>default
 | .lhld=>default
def nth (t:RT) (l:List t.ty) (i:Nat):t.ty:=l.getD i t.dflt
theorem l7 (t:RT) (l:List t.ty) (i:Nat) (h:i<l.length):nth t l i=l[i]:=by
 simp[nth,List.getD,h]
end Go.Sx
