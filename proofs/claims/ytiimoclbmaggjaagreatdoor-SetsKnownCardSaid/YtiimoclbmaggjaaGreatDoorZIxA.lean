/- 'index.New': what holds while its blocks are laid, in whatever order. -/
import Derived.Test.YtiimoclbmaggjaaGreatDoorZMdWk
import Derived.Test.YtiimoclbmaggjaaGreatDoorZIxP
import Derived.Laws.MakeOwn
namespace Go.Proofs
open Go.RowKit Go.Lx Go.Md
set_option linter.unusedVariables false
structure Bk (N:Nat) (w:World) (u val:Value) (B:Nat) (ob:Obj):Prop where
 is:u=val
 lo:N<=B
 hi:B<w.heap.size
 ob:w.heap[B]? = some ob
theorem Bk.zf {N:Nat} {w w':World} {u val:Value} {B:Nat} {ob:Obj} (h:Bk N w u val B ob) (g:Bl w w'):Bk N w' u val B ob:=⟨h.is,h.lo,Nat.lt_of_lt_of_le h.hi g.size,(g.block B h.hi).trans h.ob⟩
theorem Bk.far {N:Nat} {w w':World} {u val:Value} {B B':Nat} {ob:Obj} (h:Bk N w u val B ob) (hs:w.heap.size<=w'.heap.size) (hk:∀ b,b≠B'->b<w.heap.size->w'.heap[b]? = w.heap[b]?) (hb:B≠B'):Bk N w' u val B ob:=⟨h.is,h.lo,Nat.lt_of_lt_of_le h.hi hs,(hk B hb h.hi).trans h.ob⟩
theorem Bk.new (N:Nat) (w:World) (val:Value) (ob:Obj) (h:N<=w.heap.size):Bk N (w.alloc ob) val val w.heap.size ob:=⟨rfl,h,by simp,zB w ob⟩
def placeZ:Array Value:=#[.int .i64 0,.int .i64 0,.int .i64 0,.bool false,.bool false,.slice none 0 0,.slice none 0 0]
def placesO (n:Nat):Obj:=.cells (madeCells placeZ (n * 7)) 108
def kidsO (n:Nat):Obj:=.cells (madeCells #[.slice none 0 0] (n * 1)) 31
def idxO (PB KB MO MP np nk:Nat):Obj:=.cells #[.slice (some ⟨PB,0,none⟩) np np,.slice (some ⟨KB,0,none⟩) nk nk,.map (some MO),.map (some MP)] 113
structure J4 (W:World) (m:MdlD) (p:Ph) (H PB KB MO MP IB XB:Nat) (l0 l1 l2 l3 l4 l5 l6 l7 l8 l9 l10 l11 l12 l13:Bool) (u27 u28 u29 u30 u31 u32 u33 u34 u35 u36 u37 u38 u7:Value) (w:World):Prop where
 bel:Bl W w
 v0:l0=true->u27=.pointer (some ⟨H,4,none⟩)
 v1:l1=true->u28=.slice p.a4 m.zc.length p.c4
 v2:l2=true->u29=.int .i64 m.zc.length
 v4:l4=true->u31=.pointer (some ⟨H,3,none⟩)
 v5:l5=true->u32=.slice p.a3 m.zb.length p.c3
 v6:l6=true->u33=.int .i64 m.zb.length
 v10:l10=true->u37=.agg #[.slice (some ⟨PB,0,none⟩) m.zc.length m.zc.length,.slice (some ⟨KB,0,none⟩) m.zb.length m.zb.length,.map (some MO),.map (some MP)]
 x3:l3=true->Bk W.heap.size w u30 (.slice (some ⟨PB,0,none⟩) m.zc.length m.zc.length) PB (placesO m.zc.length)
 x7:l7=true->Bk W.heap.size w u34 (.slice (some ⟨KB,0,none⟩) m.zb.length m.zb.length) KB (kidsO m.zb.length)
 x8:l8=true->Bk W.heap.size w u35 (.map (some MO)) MO (.map #[] 0)
 x9:l9=true->Bk W.heap.size w u36 (.map (some MP)) MP (.map #[] 0)
 x11:l11=true->Bk W.heap.size w u38 (.pointer (some ⟨IB,0,none⟩)) IB (idxO PB KB MO MP m.zc.length m.zb.length)
 x12:l12=true->l13=false->Bk W.heap.size w u7 (.pointer (some ⟨XB,0,none⟩)) XB (.cells #[.pointer none] 45 (0,0))
 x13:l13=true->Bk W.heap.size w u7 (.pointer (some ⟨XB,0,none⟩)) XB (.cells #[.pointer (some ⟨IB,0,none⟩)] 45 (0,0))
 n3_7:l3=true->l7=true->PB≠KB
 n3_8:l3=true->l8=true->PB≠MO
 n3_9:l3=true->l9=true->PB≠MP
 n3_11:l3=true->l11=true->PB≠IB
 n3_12:l3=true->l12=true->PB≠XB
 n7_8:l7=true->l8=true->KB≠MO
 n7_9:l7=true->l9=true->KB≠MP
 n7_11:l7=true->l11=true->KB≠IB
 n7_12:l7=true->l12=true->KB≠XB
 n8_9:l8=true->l9=true->MO≠MP
 n8_11:l8=true->l11=true->MO≠IB
 n8_12:l8=true->l12=true->MO≠XB
 n9_11:l9=true->l11=true->MP≠IB
 n9_12:l9=true->l12=true->MP≠XB
 n11_12:l11=true->l12=true->IB≠XB
 d10:l10=true->l3=true/\l7=true/\l8=true/\l9=true
 d11:l11=true->l10=true
 d13:l13=true->l12=true/\l11=true
theorem J4.read0 {W:World} {m:MdlD} {p:Ph} {H PB KB MO MP IB XB:Nat} {l0 l1 l2 l3 l4 l5 l6 l7 l8 l9 l10 l11 l12 l13:Bool} {u27 u28 u29 u30 u31 u32 u33 u34 u35 u36 u37 u38 u7:Value} {w:World} (h:J4 W m p H PB KB MO MP IB XB l0 l1 l2 l3 l4 l5 l6 l7 l8 l9 l10 l11 l12 l13 u27 u28 u29 u30 u31 u32 u33 u34 u35 u36 u37 u38 u7 w):J4 W m p H PB KB MO MP IB XB true l1 l2 l3 l4 l5 l6 l7 l8 l9 l10 l11 l12 l13 (.pointer (some ⟨H,4,none⟩)) u28 u29 u30 u31 u32 u33 u34 u35 u36 u37 u38 u7 w :=
 ⟨h.bel,(fun _=>rfl),h.v1,h.v2,h.v4,h.v5,h.v6,h.v10,h.x3,h.x7,h.x8,h.x9,h.x11,h.x12,h.x13,h.n3_7,h.n3_8,h.n3_9,h.n3_11,h.n3_12,h.n7_8,h.n7_9,h.n7_11,h.n7_12,h.n8_9,h.n8_11,h.n8_12,h.n9_11,h.n9_12,h.n11_12,h.d10,h.d11,h.d13⟩
theorem J4.read1 {W:World} {m:MdlD} {p:Ph} {H PB KB MO MP IB XB:Nat} {l0 l1 l2 l3 l4 l5 l6 l7 l8 l9 l10 l11 l12 l13:Bool} {u27 u28 u29 u30 u31 u32 u33 u34 u35 u36 u37 u38 u7:Value} {w:World} (h:J4 W m p H PB KB MO MP IB XB l0 l1 l2 l3 l4 l5 l6 l7 l8 l9 l10 l11 l12 l13 u27 u28 u29 u30 u31 u32 u33 u34 u35 u36 u37 u38 u7 w):J4 W m p H PB KB MO MP IB XB l0 true l2 l3 l4 l5 l6 l7 l8 l9 l10 l11 l12 l13 u27 (.slice p.a4 m.zc.length p.c4) u29 u30 u31 u32 u33 u34 u35 u36 u37 u38 u7 w :=
 ⟨h.bel,h.v0,(fun _=>rfl),h.v2,h.v4,h.v5,h.v6,h.v10,h.x3,h.x7,h.x8,h.x9,h.x11,h.x12,h.x13,h.n3_7,h.n3_8,h.n3_9,h.n3_11,h.n3_12,h.n7_8,h.n7_9,h.n7_11,h.n7_12,h.n8_9,h.n8_11,h.n8_12,h.n9_11,h.n9_12,h.n11_12,h.d10,h.d11,h.d13⟩
theorem J4.read2 {W:World} {m:MdlD} {p:Ph} {H PB KB MO MP IB XB:Nat} {l0 l1 l2 l3 l4 l5 l6 l7 l8 l9 l10 l11 l12 l13:Bool} {u27 u28 u29 u30 u31 u32 u33 u34 u35 u36 u37 u38 u7:Value} {w:World} (h:J4 W m p H PB KB MO MP IB XB l0 l1 l2 l3 l4 l5 l6 l7 l8 l9 l10 l11 l12 l13 u27 u28 u29 u30 u31 u32 u33 u34 u35 u36 u37 u38 u7 w):J4 W m p H PB KB MO MP IB XB l0 l1 true l3 l4 l5 l6 l7 l8 l9 l10 l11 l12 l13 u27 u28 (.int .i64 m.zc.length) u30 u31 u32 u33 u34 u35 u36 u37 u38 u7 w :=
 ⟨h.bel,h.v0,h.v1,(fun _=>rfl),h.v4,h.v5,h.v6,h.v10,h.x3,h.x7,h.x8,h.x9,h.x11,h.x12,h.x13,h.n3_7,h.n3_8,h.n3_9,h.n3_11,h.n3_12,h.n7_8,h.n7_9,h.n7_11,h.n7_12,h.n8_9,h.n8_11,h.n8_12,h.n9_11,h.n9_12,h.n11_12,h.d10,h.d11,h.d13⟩
theorem J4.read4 {W:World} {m:MdlD} {p:Ph} {H PB KB MO MP IB XB:Nat} {l0 l1 l2 l3 l4 l5 l6 l7 l8 l9 l10 l11 l12 l13:Bool} {u27 u28 u29 u30 u31 u32 u33 u34 u35 u36 u37 u38 u7:Value} {w:World} (h:J4 W m p H PB KB MO MP IB XB l0 l1 l2 l3 l4 l5 l6 l7 l8 l9 l10 l11 l12 l13 u27 u28 u29 u30 u31 u32 u33 u34 u35 u36 u37 u38 u7 w):J4 W m p H PB KB MO MP IB XB l0 l1 l2 l3 true l5 l6 l7 l8 l9 l10 l11 l12 l13 u27 u28 u29 u30 (.pointer (some ⟨H,3,none⟩)) u32 u33 u34 u35 u36 u37 u38 u7 w :=
 ⟨h.bel,h.v0,h.v1,h.v2,(fun _=>rfl),h.v5,h.v6,h.v10,h.x3,h.x7,h.x8,h.x9,h.x11,h.x12,h.x13,h.n3_7,h.n3_8,h.n3_9,h.n3_11,h.n3_12,h.n7_8,h.n7_9,h.n7_11,h.n7_12,h.n8_9,h.n8_11,h.n8_12,h.n9_11,h.n9_12,h.n11_12,h.d10,h.d11,h.d13⟩
theorem J4.read5 {W:World} {m:MdlD} {p:Ph} {H PB KB MO MP IB XB:Nat} {l0 l1 l2 l3 l4 l5 l6 l7 l8 l9 l10 l11 l12 l13:Bool} {u27 u28 u29 u30 u31 u32 u33 u34 u35 u36 u37 u38 u7:Value} {w:World} (h:J4 W m p H PB KB MO MP IB XB l0 l1 l2 l3 l4 l5 l6 l7 l8 l9 l10 l11 l12 l13 u27 u28 u29 u30 u31 u32 u33 u34 u35 u36 u37 u38 u7 w):J4 W m p H PB KB MO MP IB XB l0 l1 l2 l3 l4 true l6 l7 l8 l9 l10 l11 l12 l13 u27 u28 u29 u30 u31 (.slice p.a3 m.zb.length p.c3) u33 u34 u35 u36 u37 u38 u7 w :=
 ⟨h.bel,h.v0,h.v1,h.v2,h.v4,(fun _=>rfl),h.v6,h.v10,h.x3,h.x7,h.x8,h.x9,h.x11,h.x12,h.x13,h.n3_7,h.n3_8,h.n3_9,h.n3_11,h.n3_12,h.n7_8,h.n7_9,h.n7_11,h.n7_12,h.n8_9,h.n8_11,h.n8_12,h.n9_11,h.n9_12,h.n11_12,h.d10,h.d11,h.d13⟩
theorem J4.read6 {W:World} {m:MdlD} {p:Ph} {H PB KB MO MP IB XB:Nat} {l0 l1 l2 l3 l4 l5 l6 l7 l8 l9 l10 l11 l12 l13:Bool} {u27 u28 u29 u30 u31 u32 u33 u34 u35 u36 u37 u38 u7:Value} {w:World} (h:J4 W m p H PB KB MO MP IB XB l0 l1 l2 l3 l4 l5 l6 l7 l8 l9 l10 l11 l12 l13 u27 u28 u29 u30 u31 u32 u33 u34 u35 u36 u37 u38 u7 w):J4 W m p H PB KB MO MP IB XB l0 l1 l2 l3 l4 l5 true l7 l8 l9 l10 l11 l12 l13 u27 u28 u29 u30 u31 u32 (.int .i64 m.zb.length) u34 u35 u36 u37 u38 u7 w :=
 ⟨h.bel,h.v0,h.v1,h.v2,h.v4,h.v5,(fun _=>rfl),h.v10,h.x3,h.x7,h.x8,h.x9,h.x11,h.x12,h.x13,h.n3_7,h.n3_8,h.n3_9,h.n3_11,h.n3_12,h.n7_8,h.n7_9,h.n7_11,h.n7_12,h.n8_9,h.n8_11,h.n8_12,h.n9_11,h.n9_12,h.n11_12,h.d10,h.d11,h.d13⟩
theorem J4.build {W:World} {m:MdlD} {p:Ph} {H PB KB MO MP IB XB:Nat} {l0 l1 l2 l3 l4 l5 l6 l7 l8 l9 l10 l11 l12 l13:Bool} {u27 u28 u29 u30 u31 u32 u33 u34 u35 u36 u37 u38 u7:Value} {w:World} (h:J4 W m p H PB KB MO MP IB XB l0 l1 l2 l3 l4 l5 l6 l7 l8 l9 l10 l11 l12 l13 u27 u28 u29 u30 u31 u32 u33 u34 u35 u36 u37 u38 u7 w) (hd:l3=true/\l7=true/\l8=true/\l9=true):J4 W m p H PB KB MO MP IB XB l0 l1 l2 l3 l4 l5 l6 l7 l8 l9 true l11 l12 l13 u27 u28 u29 u30 u31 u32 u33 u34 u35 u36 (.agg #[.slice (some ⟨PB,0,none⟩) m.zc.length m.zc.length,.slice (some ⟨KB,0,none⟩) m.zb.length m.zb.length,.map (some MO),.map (some MP)]) u38 u7 w :=
 ⟨h.bel,h.v0,h.v1,h.v2,h.v4,h.v5,h.v6,(fun _=>rfl),h.x3,h.x7,h.x8,h.x9,h.x11,h.x12,h.x13,h.n3_7,h.n3_8,h.n3_9,h.n3_11,h.n3_12,h.n7_8,h.n7_9,h.n7_11,h.n7_12,h.n8_9,h.n8_11,h.n8_12,h.n9_11,h.n9_12,h.n11_12,(fun _=>hd),(fun _=>rfl),h.d13⟩
theorem J4.hi12 {W:World} {m:MdlD} {p:Ph} {H PB KB MO MP IB XB:Nat} {l0 l1 l2 l3 l4 l5 l6 l7 l8 l9 l10 l11 l12 l13:Bool} {u27 u28 u29 u30 u31 u32 u33 u34 u35 u36 u37 u38 u7:Value} {w:World} (h:J4 W m p H PB KB MO MP IB XB l0 l1 l2 l3 l4 l5 l6 l7 l8 l9 l10 l11 l12 l13 u27 u28 u29 u30 u31 u32 u33 u34 u35 u36 u37 u38 u7 w) (k:l12=true):XB<w.heap.size:=by
 cases hl:l13 with
 | true=>exact (h.x13 hl).hi
 | false=>exact (h.x12 k hl).hi
theorem J4.lo12 {W:World} {m:MdlD} {p:Ph} {H PB KB MO MP IB XB:Nat} {l0 l1 l2 l3 l4 l5 l6 l7 l8 l9 l10 l11 l12 l13:Bool} {u27 u28 u29 u30 u31 u32 u33 u34 u35 u36 u37 u38 u7:Value} {w:World} (h:J4 W m p H PB KB MO MP IB XB l0 l1 l2 l3 l4 l5 l6 l7 l8 l9 l10 l11 l12 l13 u27 u28 u29 u30 u31 u32 u33 u34 u35 u36 u37 u38 u7 w) (k:l12=true):W.heap.size<=XB:=by
 cases hl:l13 with
 | true=>exact (h.x13 hl).lo
 | false=>exact (h.x12 k hl).lo
theorem J4.hi3 {W:World} {m:MdlD} {p:Ph} {H PB KB MO MP IB XB:Nat} {l0 l1 l2 l3 l4 l5 l6 l7 l8 l9 l10 l11 l12 l13:Bool} {u27 u28 u29 u30 u31 u32 u33 u34 u35 u36 u37 u38 u7:Value} {w:World} (h:J4 W m p H PB KB MO MP IB XB l0 l1 l2 l3 l4 l5 l6 l7 l8 l9 l10 l11 l12 l13 u27 u28 u29 u30 u31 u32 u33 u34 u35 u36 u37 u38 u7 w) (k:l3=true):PB<w.heap.size:=(h.x3 k).hi
theorem J4.hi7 {W:World} {m:MdlD} {p:Ph} {H PB KB MO MP IB XB:Nat} {l0 l1 l2 l3 l4 l5 l6 l7 l8 l9 l10 l11 l12 l13:Bool} {u27 u28 u29 u30 u31 u32 u33 u34 u35 u36 u37 u38 u7:Value} {w:World} (h:J4 W m p H PB KB MO MP IB XB l0 l1 l2 l3 l4 l5 l6 l7 l8 l9 l10 l11 l12 l13 u27 u28 u29 u30 u31 u32 u33 u34 u35 u36 u37 u38 u7 w) (k:l7=true):KB<w.heap.size:=(h.x7 k).hi
theorem J4.hi8 {W:World} {m:MdlD} {p:Ph} {H PB KB MO MP IB XB:Nat} {l0 l1 l2 l3 l4 l5 l6 l7 l8 l9 l10 l11 l12 l13:Bool} {u27 u28 u29 u30 u31 u32 u33 u34 u35 u36 u37 u38 u7:Value} {w:World} (h:J4 W m p H PB KB MO MP IB XB l0 l1 l2 l3 l4 l5 l6 l7 l8 l9 l10 l11 l12 l13 u27 u28 u29 u30 u31 u32 u33 u34 u35 u36 u37 u38 u7 w) (k:l8=true):MO<w.heap.size:=(h.x8 k).hi
theorem J4.hi9 {W:World} {m:MdlD} {p:Ph} {H PB KB MO MP IB XB:Nat} {l0 l1 l2 l3 l4 l5 l6 l7 l8 l9 l10 l11 l12 l13:Bool} {u27 u28 u29 u30 u31 u32 u33 u34 u35 u36 u37 u38 u7:Value} {w:World} (h:J4 W m p H PB KB MO MP IB XB l0 l1 l2 l3 l4 l5 l6 l7 l8 l9 l10 l11 l12 l13 u27 u28 u29 u30 u31 u32 u33 u34 u35 u36 u37 u38 u7 w) (k:l9=true):MP<w.heap.size:=(h.x9 k).hi
theorem J4.hi11 {W:World} {m:MdlD} {p:Ph} {H PB KB MO MP IB XB:Nat} {l0 l1 l2 l3 l4 l5 l6 l7 l8 l9 l10 l11 l12 l13:Bool} {u27 u28 u29 u30 u31 u32 u33 u34 u35 u36 u37 u38 u7:Value} {w:World} (h:J4 W m p H PB KB MO MP IB XB l0 l1 l2 l3 l4 l5 l6 l7 l8 l9 l10 l11 l12 l13 u27 u28 u29 u30 u31 u32 u33 u34 u35 u36 u37 u38 u7 w) (k:l11=true):IB<w.heap.size:=(h.x11 k).hi
theorem J4.alloc3 {W:World} {m:MdlD} {p:Ph} {H PB KB MO MP IB XB:Nat} {l0 l1 l2 l3 l4 l5 l6 l7 l8 l9 l10 l11 l12 l13:Bool} {u27 u28 u29 u30 u31 u32 u33 u34 u35 u36 u37 u38 u7:Value} {w:World} (h:J4 W m p H PB KB MO MP IB XB l0 l1 l2 l3 l4 l5 l6 l7 l8 l9 l10 l11 l12 l13 u27 u28 u29 u30 u31 u32 u33 u34 u35 u36 u37 u38 u7 w) (hl:l3=false):J4 W m p H w.heap.size KB MO MP IB XB l0 l1 l2 true l4 l5 l6 l7 l8 l9 l10 l11 l12 l13 u27 u28 u29 (.slice (some ⟨w.heap.size,0,none⟩) m.zc.length m.zc.length) u31 u32 u33 u34 u35 u36 u37 u38 u7 (w.alloc (placesO m.zc.length)) :=
 ⟨(h.bel.trans ((zg w _).mono h.bel.size)),h.v0,h.v1,h.v2,h.v4,h.v5,h.v6,(fun k=>absurd (h.d10 k).1 (by rw [hl];decide)),(fun _=>Bk.new _ w _ _ h.bel.size),(fun k=>(h.x7 k).zf (zg w _)),(fun k=>(h.x8 k).zf (zg w _)),(fun k=>(h.x9 k).zf (zg w _)),(fun k=>absurd (h.d10 (h.d11 k)).1 (by rw [hl];decide)),(fun k k2=>(h.x12 k k2).zf (zg w _)),(fun k=>absurd (h.d10 (h.d11 (h.d13 k).2)).1 (by rw [hl];decide)),(fun _ k=>(Nat.ne_of_lt (h.hi7 k)).symm),(fun _ k=>(Nat.ne_of_lt (h.hi8 k)).symm),(fun _ k=>(Nat.ne_of_lt (h.hi9 k)).symm),(fun _ k=>(Nat.ne_of_lt (h.hi11 k)).symm),(fun _ k=>(Nat.ne_of_lt (h.hi12 k)).symm),h.n7_8,h.n7_9,h.n7_11,h.n7_12,h.n8_9,h.n8_11,h.n8_12,h.n9_11,h.n9_12,h.n11_12,(fun k=>by obtain ⟨a,b,c,e⟩:=h.d10 k;exact ⟨rfl,b,c,e⟩),h.d11,h.d13⟩
theorem J4.alloc7 {W:World} {m:MdlD} {p:Ph} {H PB KB MO MP IB XB:Nat} {l0 l1 l2 l3 l4 l5 l6 l7 l8 l9 l10 l11 l12 l13:Bool} {u27 u28 u29 u30 u31 u32 u33 u34 u35 u36 u37 u38 u7:Value} {w:World} (h:J4 W m p H PB KB MO MP IB XB l0 l1 l2 l3 l4 l5 l6 l7 l8 l9 l10 l11 l12 l13 u27 u28 u29 u30 u31 u32 u33 u34 u35 u36 u37 u38 u7 w) (hl:l7=false):J4 W m p H PB w.heap.size MO MP IB XB l0 l1 l2 l3 l4 l5 l6 true l8 l9 l10 l11 l12 l13 u27 u28 u29 u30 u31 u32 u33 (.slice (some ⟨w.heap.size,0,none⟩) m.zb.length m.zb.length) u35 u36 u37 u38 u7 (w.alloc (kidsO m.zb.length)) :=
 ⟨(h.bel.trans ((zg w _).mono h.bel.size)),h.v0,h.v1,h.v2,h.v4,h.v5,h.v6,(fun k=>absurd (h.d10 k).2.1 (by rw [hl];decide)),(fun k=>(h.x3 k).zf (zg w _)),(fun _=>Bk.new _ w _ _ h.bel.size),(fun k=>(h.x8 k).zf (zg w _)),(fun k=>(h.x9 k).zf (zg w _)),(fun k=>absurd (h.d10 (h.d11 k)).2.1 (by rw [hl];decide)),(fun k k2=>(h.x12 k k2).zf (zg w _)),(fun k=>absurd (h.d10 (h.d11 (h.d13 k).2)).2.1 (by rw [hl];decide)),(fun k _=>Nat.ne_of_lt (h.hi3 k)),h.n3_8,h.n3_9,h.n3_11,h.n3_12,(fun _ k=>(Nat.ne_of_lt (h.hi8 k)).symm),(fun _ k=>(Nat.ne_of_lt (h.hi9 k)).symm),(fun _ k=>(Nat.ne_of_lt (h.hi11 k)).symm),(fun _ k=>(Nat.ne_of_lt (h.hi12 k)).symm),h.n8_9,h.n8_11,h.n8_12,h.n9_11,h.n9_12,h.n11_12,(fun k=>by obtain ⟨a,b,c,e⟩:=h.d10 k;exact ⟨a,rfl,c,e⟩),h.d11,h.d13⟩
theorem J4.alloc8 {W:World} {m:MdlD} {p:Ph} {H PB KB MO MP IB XB:Nat} {l0 l1 l2 l3 l4 l5 l6 l7 l8 l9 l10 l11 l12 l13:Bool} {u27 u28 u29 u30 u31 u32 u33 u34 u35 u36 u37 u38 u7:Value} {w:World} (h:J4 W m p H PB KB MO MP IB XB l0 l1 l2 l3 l4 l5 l6 l7 l8 l9 l10 l11 l12 l13 u27 u28 u29 u30 u31 u32 u33 u34 u35 u36 u37 u38 u7 w) (hl:l8=false):J4 W m p H PB KB w.heap.size MP IB XB l0 l1 l2 l3 l4 l5 l6 l7 true l9 l10 l11 l12 l13 u27 u28 u29 u30 u31 u32 u33 u34 (.map (some w.heap.size)) u36 u37 u38 u7 (w.alloc (.map #[] 0)) :=
 ⟨(h.bel.trans ((zg w _).mono h.bel.size)),h.v0,h.v1,h.v2,h.v4,h.v5,h.v6,(fun k=>absurd (h.d10 k).2.2.1 (by rw [hl];decide)),(fun k=>(h.x3 k).zf (zg w _)),(fun k=>(h.x7 k).zf (zg w _)),(fun _=>Bk.new _ w _ _ h.bel.size),(fun k=>(h.x9 k).zf (zg w _)),(fun k=>absurd (h.d10 (h.d11 k)).2.2.1 (by rw [hl];decide)),(fun k k2=>(h.x12 k k2).zf (zg w _)),(fun k=>absurd (h.d10 (h.d11 (h.d13 k).2)).2.2.1 (by rw [hl];decide)),h.n3_7,(fun k _=>Nat.ne_of_lt (h.hi3 k)),h.n3_9,h.n3_11,h.n3_12,(fun k _=>Nat.ne_of_lt (h.hi7 k)),h.n7_9,h.n7_11,h.n7_12,(fun _ k=>(Nat.ne_of_lt (h.hi9 k)).symm),(fun _ k=>(Nat.ne_of_lt (h.hi11 k)).symm),(fun _ k=>(Nat.ne_of_lt (h.hi12 k)).symm),h.n9_11,h.n9_12,h.n11_12,(fun k=>by obtain ⟨a,b,c,e⟩:=h.d10 k;exact ⟨a,b,rfl,e⟩),h.d11,h.d13⟩
theorem J4.alloc9 {W:World} {m:MdlD} {p:Ph} {H PB KB MO MP IB XB:Nat} {l0 l1 l2 l3 l4 l5 l6 l7 l8 l9 l10 l11 l12 l13:Bool} {u27 u28 u29 u30 u31 u32 u33 u34 u35 u36 u37 u38 u7:Value} {w:World} (h:J4 W m p H PB KB MO MP IB XB l0 l1 l2 l3 l4 l5 l6 l7 l8 l9 l10 l11 l12 l13 u27 u28 u29 u30 u31 u32 u33 u34 u35 u36 u37 u38 u7 w) (hl:l9=false):J4 W m p H PB KB MO w.heap.size IB XB l0 l1 l2 l3 l4 l5 l6 l7 l8 true l10 l11 l12 l13 u27 u28 u29 u30 u31 u32 u33 u34 u35 (.map (some w.heap.size)) u37 u38 u7 (w.alloc (.map #[] 0)) :=
 ⟨(h.bel.trans ((zg w _).mono h.bel.size)),h.v0,h.v1,h.v2,h.v4,h.v5,h.v6,(fun k=>absurd (h.d10 k).2.2.2 (by rw [hl];decide)),(fun k=>(h.x3 k).zf (zg w _)),(fun k=>(h.x7 k).zf (zg w _)),(fun k=>(h.x8 k).zf (zg w _)),(fun _=>Bk.new _ w _ _ h.bel.size),(fun k=>absurd (h.d10 (h.d11 k)).2.2.2 (by rw [hl];decide)),(fun k k2=>(h.x12 k k2).zf (zg w _)),(fun k=>absurd (h.d10 (h.d11 (h.d13 k).2)).2.2.2 (by rw [hl];decide)),h.n3_7,h.n3_8,(fun k _=>Nat.ne_of_lt (h.hi3 k)),h.n3_11,h.n3_12,h.n7_8,(fun k _=>Nat.ne_of_lt (h.hi7 k)),h.n7_11,h.n7_12,(fun k _=>Nat.ne_of_lt (h.hi8 k)),h.n8_11,h.n8_12,(fun _ k=>(Nat.ne_of_lt (h.hi11 k)).symm),(fun _ k=>(Nat.ne_of_lt (h.hi12 k)).symm),h.n11_12,(fun k=>by obtain ⟨a,b,c,e⟩:=h.d10 k;exact ⟨a,b,c,rfl⟩),h.d11,h.d13⟩
theorem J4.alloc11 {W:World} {m:MdlD} {p:Ph} {H PB KB MO MP IB XB:Nat} {l0 l1 l2 l3 l4 l5 l6 l7 l8 l9 l10 l11 l12 l13:Bool} {u27 u28 u29 u30 u31 u32 u33 u34 u35 u36 u37 u38 u7:Value} {w:World} (h:J4 W m p H PB KB MO MP IB XB l0 l1 l2 l3 l4 l5 l6 l7 l8 l9 l10 l11 l12 l13 u27 u28 u29 u30 u31 u32 u33 u34 u35 u36 u37 u38 u7 w) (hl:l11=false) (hd:l10=true):J4 W m p H PB KB MO MP w.heap.size XB l0 l1 l2 l3 l4 l5 l6 l7 l8 l9 l10 true l12 l13 u27 u28 u29 u30 u31 u32 u33 u34 u35 u36 u37 (.pointer (some ⟨w.heap.size,0,none⟩)) u7 (w.alloc (idxO PB KB MO MP m.zc.length m.zb.length)) :=
 ⟨(h.bel.trans ((zg w _).mono h.bel.size)),h.v0,h.v1,h.v2,h.v4,h.v5,h.v6,h.v10,(fun k=>(h.x3 k).zf (zg w _)),(fun k=>(h.x7 k).zf (zg w _)),(fun k=>(h.x8 k).zf (zg w _)),(fun k=>(h.x9 k).zf (zg w _)),(fun _=>Bk.new _ w _ _ h.bel.size),(fun k k2=>(h.x12 k k2).zf (zg w _)),(fun k=>absurd (h.d13 k).2 (by rw [hl];decide)),h.n3_7,h.n3_8,h.n3_9,(fun k _=>Nat.ne_of_lt (h.hi3 k)),h.n3_12,h.n7_8,h.n7_9,(fun k _=>Nat.ne_of_lt (h.hi7 k)),h.n7_12,h.n8_9,(fun k _=>Nat.ne_of_lt (h.hi8 k)),h.n8_12,(fun k _=>Nat.ne_of_lt (h.hi9 k)),h.n9_12,(fun _ k=>(Nat.ne_of_lt (h.hi12 k)).symm),h.d10,(fun _=>hd),(fun k=>⟨(h.d13 k).1,rfl⟩)⟩
theorem J4.alloc12 {W:World} {m:MdlD} {p:Ph} {H PB KB MO MP IB XB:Nat} {l0 l1 l2 l3 l4 l5 l6 l7 l8 l9 l10 l11 l12 l13:Bool} {u27 u28 u29 u30 u31 u32 u33 u34 u35 u36 u37 u38 u7:Value} {w:World} (h:J4 W m p H PB KB MO MP IB XB l0 l1 l2 l3 l4 l5 l6 l7 l8 l9 l10 l11 l12 l13 u27 u28 u29 u30 u31 u32 u33 u34 u35 u36 u37 u38 u7 w) (hl:l12=false):J4 W m p H PB KB MO MP IB w.heap.size l0 l1 l2 l3 l4 l5 l6 l7 l8 l9 l10 l11 true l13 u27 u28 u29 u30 u31 u32 u33 u34 u35 u36 u37 u38 (.pointer (some ⟨w.heap.size,0,none⟩)) (w.alloc ((.cells #[.pointer none] 45 (0,0)))) :=
 ⟨(h.bel.trans ((zg w _).mono h.bel.size)),h.v0,h.v1,h.v2,h.v4,h.v5,h.v6,h.v10,(fun k=>(h.x3 k).zf (zg w _)),(fun k=>(h.x7 k).zf (zg w _)),(fun k=>(h.x8 k).zf (zg w _)),(fun k=>(h.x9 k).zf (zg w _)),(fun k=>(h.x11 k).zf (zg w _)),(fun _ _=>Bk.new _ w _ _ h.bel.size),(fun k=>absurd (h.d13 k).1 (by rw [hl];decide)),h.n3_7,h.n3_8,h.n3_9,h.n3_11,(fun k _=>Nat.ne_of_lt (h.hi3 k)),h.n7_8,h.n7_9,h.n7_11,(fun k _=>Nat.ne_of_lt (h.hi7 k)),h.n8_9,h.n8_11,(fun k _=>Nat.ne_of_lt (h.hi8 k)),h.n9_11,(fun k _=>Nat.ne_of_lt (h.hi9 k)),(fun k _=>Nat.ne_of_lt (h.hi11 k)),h.d10,h.d11,(fun k=>⟨rfl,(h.d13 k).2⟩)⟩
theorem J4.store {W:World} {m:MdlD} {p:Ph} {H PB KB MO MP IB XB:Nat} {l0 l1 l2 l3 l4 l5 l6 l7 l8 l9 l10 l11 l12 l13:Bool} {u27 u28 u29 u30 u31 u32 u33 u34 u35 u36 u37 u38 u7:Value} {w:World} (h:J4 W m p H PB KB MO MP IB XB l0 l1 l2 l3 l4 l5 l6 l7 l8 l9 l10 l11 l12 l13 u27 u28 u29 u30 u31 u32 u33 u34 u35 u36 u37 u38 u7 w) (hb:l12=true) (hc:l11=true) {w1:World} (he:w1.os=w.os/\w1.tape=w.tape/\w1.output=w.output) (hs:w.heap.size<=w1.heap.size) (hk:∀ b,b≠XB->b<w.heap.size->w1.heap[b]? = w.heap[b]?) (hx:Bk W.heap.size w1 u7 (.pointer (some ⟨XB,0,none⟩)) XB (.cells #[.pointer (some ⟨IB,0,none⟩)] 45 (0,0))):J4 W m p H PB KB MO MP IB XB l0 l1 l2 l3 l4 l5 l6 l7 l8 l9 l10 l11 l12 true u27 u28 u29 u30 u31 u32 u33 u34 u35 u36 u37 u38 u7 w1 :=
 ⟨⟨he.1.trans h.bel.os,he.2.1.trans h.bel.tape,he.2.2.trans h.bel.output,Nat.le_trans h.bel.size hs,fun j hj=>(hk j (fun e=>by have:=h.lo12 hb;omega) (Nat.lt_of_lt_of_le hj h.bel.size)).trans (h.bel.block j hj)⟩,h.v0,h.v1,h.v2,h.v4,h.v5,h.v6,h.v10,(fun k=>(h.x3 k).far hs hk (h.n3_12 k hb)),(fun k=>(h.x7 k).far hs hk (h.n7_12 k hb)),(fun k=>(h.x8 k).far hs hk (h.n8_12 k hb)),(fun k=>(h.x9 k).far hs hk (h.n9_12 k hb)),(fun k=>(h.x11 k).far hs hk (h.n11_12 k hb)),(fun _ k=>by cases k),(fun _=>hx),h.n3_7,h.n3_8,h.n3_9,h.n3_11,h.n3_12,h.n7_8,h.n7_9,h.n7_11,h.n7_12,h.n8_9,h.n8_11,h.n8_12,h.n9_11,h.n9_12,h.n11_12,h.d10,h.d11,(fun _=>⟨hb,hc⟩)⟩
structure R4 (W:World) (m:MdlD) (PB KB MO MP IB XB:Nat) (w:World):Prop where
 bel:Bl W w
 pb:w.heap[PB]? = some (placesO m.zc.length)
 kb:w.heap[KB]? = some (kidsO m.zb.length)
 mo:w.heap[MO]? = some (.map #[] 0)
 mp:w.heap[MP]? = some (.map #[] 0)
 ib:w.heap[IB]? = some (idxO PB KB MO MP m.zc.length m.zb.length)
 xb:w.heap[XB]? = some (.cells #[.pointer (some ⟨IB,0,none⟩)] 45 (0,0))
 lo:W.heap.size<=PB/\W.heap.size<=KB/\W.heap.size<=MO/\W.heap.size<=MP/\W.heap.size<=IB/\W.heap.size<=XB
 ne1:PB≠KB/\PB≠MO/\PB≠MP/\PB≠IB/\PB≠XB
 ne2:KB≠MO/\KB≠MP/\KB≠IB/\KB≠XB
 ne3:MO≠MP/\MO≠IB/\MO≠XB
 ne4:MP≠IB/\MP≠XB
 ne5:IB≠XB
def R4S (W:World) (m:MdlD) (s7:Value) (w:World):Prop:=∃ PB KB MO MP IB XB,R4 W m PB KB MO MP IB XB w/\s7=.pointer (some ⟨XB,0,none⟩)
end Go.Proofs
