/- Walks: 'Door', made. -/
import Derived.Test.YtfladiadgkfebaaGreatDoorKMdRSm
import Derived.RangeFuncRecord
import Derived.KernelRfl
namespace Go.Proofs
open Go.RowKit Go.Lx Go.Md Go.Shelf
set_option maxRecDepth 100000
set_option maxHeartbeats 0
set_option linter.unusedVariables false
def allocs:List Obj->World->World
 | [],w=>w
 | o :: l,w=>allocs l (w.alloc o)
theorem allocs_below:∀ (l:List Obj) (w:World),Bl w (allocs l w)
 | [],w=>Below.refl _ w
 | o :: l,w=>(below_al1 w o).trans ((allocs_below l (w.alloc o)).mono (by simp))
theorem allocs_at:∀ (l:List Obj) (w:World) (i:Nat) (h:i<l.length),(allocs l w).heap[w.heap.size+i]? = some l[i]
 | [],_,_,h=>absurd h (by simp)
 | o :: l,w,0,_=>((allocs_below l (w.alloc o)).block w.heap.size (by simp)).trans (World.alloc_heap_new w o)
 | o :: l,w,i+1,h=>by
   have:=allocs_at l (w.alloc o) i (by simpa using h)
   rw [World.size_alloc,Nat.add_right_comm] at this
   exact this
def doorM:MdlD where
 nm:=⟨#[68,111,111,114]⟩
 vars:=[⟨⟨#[110]⟩,0⟩,⟨⟨#[109,111,115,116]⟩,3⟩]
 evs:=[⟨#[111,112,101,110]⟩,⟨#[99,108,111,115,101]⟩,⟨#[108,111,99,107]⟩]
 regs:=[⟨⟨#[116,111,112]⟩,-1⟩,⟨⟨#[108,101,97,102]⟩,1⟩,⟨⟨#[98,111,108,116]⟩,1⟩]
 vers:=[⟨⟨#[]⟩,3,0,-1,⟨#[]⟩,⟨#[]⟩,[],⟨#[]⟩⟩,⟨⟨#[68,111,111,114]⟩,1,0,-1,⟨#[110,32,58,61,32,48,59]⟩,⟨#[]⟩,[⟨#[108,111,99,107]⟩],⟨#[]⟩⟩,⟨⟨#[]⟩,3,1,-1,⟨#[]⟩,⟨#[]⟩,[],⟨#[]⟩⟩,⟨⟨#[83,104,117,116]⟩,1,1,-1,⟨#[]⟩,⟨#[110,32,58,61,32,110,32,43,32,49,59]⟩,[],⟨#[]⟩⟩,⟨⟨#[87,105,100,101]⟩,1,1,-1,⟨#[]⟩,⟨#[]⟩,[],⟨#[]⟩⟩,⟨⟨#[]⟩,3,2,-1,⟨#[]⟩,⟨#[]⟩,[],⟨#[]⟩⟩,⟨⟨#[70,114,101,101]⟩,1,2,-1,⟨#[]⟩,⟨#[]⟩,[],⟨#[]⟩⟩,⟨⟨#[103,111,110,101]⟩,2,2,-1,⟨#[]⟩,⟨#[]⟩,[],⟨#[]⟩⟩,⟨⟨#[]⟩,8,1,-1,⟨#[]⟩,⟨#[]⟩,[],⟨#[]⟩⟩,⟨⟨#[105,110]⟩,10,-1,1,⟨#[]⟩,⟨#[]⟩,[],⟨#[]⟩⟩,⟨⟨#[69,110,100]⟩,2,0,-1,⟨#[]⟩,⟨#[]⟩,[],⟨#[]⟩⟩]
 trns:=[⟨⟨#[]⟩,0,1,[],0,⟨#[]⟩,⟨#[]⟩,1⟩,⟨⟨#[]⟩,2,3,[],0,⟨#[]⟩,⟨#[]⟩,1⟩,⟨⟨#[]⟩,3,4,[⟨#[111,112,101,110]⟩],0,⟨#[110,32,60,32,109,111,115,116]⟩,⟨#[]⟩,1⟩,⟨⟨#[]⟩,4,3,[⟨#[99,108,111,115,101]⟩],0,⟨#[]⟩,⟨#[101,109,105,116,32,108,111,99,107,40,110,41,59]⟩,1⟩,⟨⟨#[]⟩,5,6,[],0,⟨#[]⟩,⟨#[]⟩,1⟩,⟨⟨#[]⟩,6,7,[⟨#[108,111,99,107]⟩],0,⟨#[]⟩,⟨#[]⟩,1⟩,⟨⟨#[108,97,116,101]⟩,4,10,[],5,⟨#[]⟩,⟨#[]⟩,1⟩,⟨⟨#[]⟩,1,1,[⟨#[111,112,101,110]⟩],0,⟨#[102,97,108,115,101]⟩,⟨#[]⟩,3⟩]
theorem at11_1 (w:World) (a0 a1 a2 a3 a4 a5 a6 a7 a8 a9 a10:Obj):(((((((((((w.alloc a0).alloc a1).alloc a2).alloc a3).alloc a4).alloc a5).alloc a6).alloc a7).alloc a8).alloc a9).alloc a10).heap[w.heap.size+1]? = some a1:=allocs_at [a0,a1,a2,a3,a4,a5,a6,a7,a8,a9,a10] w 1 (by simp)
theorem at11_2 (w:World) (a0 a1 a2 a3 a4 a5 a6 a7 a8 a9 a10:Obj):(((((((((((w.alloc a0).alloc a1).alloc a2).alloc a3).alloc a4).alloc a5).alloc a6).alloc a7).alloc a8).alloc a9).alloc a10).heap[w.heap.size+2]? = some a2:=allocs_at [a0,a1,a2,a3,a4,a5,a6,a7,a8,a9,a10] w 2 (by simp)
theorem at11_3 (w:World) (a0 a1 a2 a3 a4 a5 a6 a7 a8 a9 a10:Obj):(((((((((((w.alloc a0).alloc a1).alloc a2).alloc a3).alloc a4).alloc a5).alloc a6).alloc a7).alloc a8).alloc a9).alloc a10).heap[w.heap.size+3]? = some a3:=allocs_at [a0,a1,a2,a3,a4,a5,a6,a7,a8,a9,a10] w 3 (by simp)
theorem at11_4 (w:World) (a0 a1 a2 a3 a4 a5 a6 a7 a8 a9 a10:Obj):(((((((((((w.alloc a0).alloc a1).alloc a2).alloc a3).alloc a4).alloc a5).alloc a6).alloc a7).alloc a8).alloc a9).alloc a10).heap[w.heap.size+4]? = some a4:=allocs_at [a0,a1,a2,a3,a4,a5,a6,a7,a8,a9,a10] w 4 (by simp)
theorem at11_5 (w:World) (a0 a1 a2 a3 a4 a5 a6 a7 a8 a9 a10:Obj):(((((((((((w.alloc a0).alloc a1).alloc a2).alloc a3).alloc a4).alloc a5).alloc a6).alloc a7).alloc a8).alloc a9).alloc a10).heap[w.heap.size+5]? = some a5:=allocs_at [a0,a1,a2,a3,a4,a5,a6,a7,a8,a9,a10] w 5 (by simp)
theorem at11_6 (w:World) (a0 a1 a2 a3 a4 a5 a6 a7 a8 a9 a10:Obj):(((((((((((w.alloc a0).alloc a1).alloc a2).alloc a3).alloc a4).alloc a5).alloc a6).alloc a7).alloc a8).alloc a9).alloc a10).heap[w.heap.size+6]? = some a6:=allocs_at [a0,a1,a2,a3,a4,a5,a6,a7,a8,a9,a10] w 6 (by simp)
theorem at11_7 (w:World) (a0 a1 a2 a3 a4 a5 a6 a7 a8 a9 a10:Obj):(((((((((((w.alloc a0).alloc a1).alloc a2).alloc a3).alloc a4).alloc a5).alloc a6).alloc a7).alloc a8).alloc a9).alloc a10).heap[w.heap.size+7]? = some a7:=allocs_at [a0,a1,a2,a3,a4,a5,a6,a7,a8,a9,a10] w 7 (by simp)
theorem at11_8 (w:World) (a0 a1 a2 a3 a4 a5 a6 a7 a8 a9 a10:Obj):(((((((((((w.alloc a0).alloc a1).alloc a2).alloc a3).alloc a4).alloc a5).alloc a6).alloc a7).alloc a8).alloc a9).alloc a10).heap[w.heap.size+8]? = some a8:=allocs_at [a0,a1,a2,a3,a4,a5,a6,a7,a8,a9,a10] w 8 (by simp)
theorem at11_9 (w:World) (a0 a1 a2 a3 a4 a5 a6 a7 a8 a9 a10:Obj):(((((((((((w.alloc a0).alloc a1).alloc a2).alloc a3).alloc a4).alloc a5).alloc a6).alloc a7).alloc a8).alloc a9).alloc a10).heap[w.heap.size+9]? = some a9:=allocs_at [a0,a1,a2,a3,a4,a5,a6,a7,a8,a9,a10] w 9 (by simp)
theorem at11_10 (w:World) (a0 a1 a2 a3 a4 a5 a6 a7 a8 a9 a10:Obj):(((((((((((w.alloc a0).alloc a1).alloc a2).alloc a3).alloc a4).alloc a5).alloc a6).alloc a7).alloc a8).alloc a9).alloc a10).heap[w.heap.size+10]? = some a10:=allocs_at [a0,a1,a2,a3,a4,a5,a6,a7,a8,a9,a10] w 10 (by simp)
def bkD (N:Nat):Nat->Nat
 | 0=>N+1
 | 1=>N+2
 | 2=>N+3
 | 3=>N+5
 | _=>N+10
theorem frz_door {w:World} {b:Nat} {cs:Array Value} {T:TypeId} (h:w.heap[b]? = some (.cells cs T (0,0))) (k:Nat):w.frozen? ⟨b,k,none⟩=false:=by
 unfold World.frozen?;simp [h]
def doorP (N:Nat):Ph:=⟨some ⟨N+1,0,none⟩,2,some ⟨N+2,0,none⟩,3,some ⟨N+3,0,none⟩,3,some ⟨N+5,0,none⟩,11,some ⟨N+10,0,none⟩,8⟩
def doorQ (N:Nat):Nat->BP
 | 0=>fun b _=>b=N+1
 | 1=>fun b _=>b=N+2
 | 2=>fun b _=>b=N+3
 | 3=>fun b _=>b=N+5
 | 4=>fun b _=>b=N+10
 | _=>fun b o=>(b=N+4\/(N+6<=b/\b<=N+9))/\∃ cs fr,o=some (.cells cs 9 fr)
theorem door_lay (w:World):Calls Tryz.prog 16 #[] w fun e w'=>e=.returned (mdV doorM (doorP w.heap.size))/\Mod (doorQ w.heap.size) w' doorM (doorP w.heap.size)/\Bl w w'/\∀ f,f<5->∀ k,w'.frozen? ⟨bkD w.heap.size f,k,none⟩=false:=by
 go_enter Tryz.func16,Tryz.ntmps16
 go_wp2_with fail
 refine bodyPost_ret (v:=mdV doorM (doorP w.heap.size)) (by simp [results,Tryz.results16,go_sem,mdV,doorM,doorP]) rfl ⟨rfl,⟨?mv,?me,?mr,?mx,?mt⟩,?mb,?mf⟩
 case mv =>
  refine .inr ⟨w.heap.size+1,0,2,rfl,Nat.le_refl _,by simp <;> omega,rfl,fun i hi=>?_⟩
  have:i=0\/i=1:=by have:i<2:=hi;omega
  rcases this with rfl | rfl
  . exact ⟨cell_blk (at11_1 _ _ _ _ _ _ _ _ _ _ _ _) _,cell_blk (at11_1 _ _ _ _ _ _ _ _ _ _ _ _) _⟩
  . exact ⟨cell_blk (at11_1 _ _ _ _ _ _ _ _ _ _ _ _) _,cell_blk (at11_1 _ _ _ _ _ _ _ _ _ _ _ _) _⟩
 case me =>
  refine .inr ⟨w.heap.size+2,0,3,rfl,Nat.le_refl _,by simp <;> omega,rfl,fun i hi=>?_⟩
  have:i=0\/i=1\/i=2:=by have:i<3:=hi;omega
  rcases this with rfl | rfl | rfl
  . exact cell_blk (at11_2 _ _ _ _ _ _ _ _ _ _ _ _) _
  . exact cell_blk (at11_2 _ _ _ _ _ _ _ _ _ _ _ _) _
  . exact cell_blk (at11_2 _ _ _ _ _ _ _ _ _ _ _ _) _
 case mr =>
  refine .inr ⟨w.heap.size+3,0,3,rfl,Nat.le_refl _,by simp <;> omega,rfl,fun i hi=>?_⟩
  have:i=0\/i=1\/i=2:=by have:i<3:=hi;omega
  rcases this with rfl | rfl | rfl
  . exact ⟨cell_blk (at11_3 _ _ _ _ _ _ _ _ _ _ _ _) _,cell_blk (at11_3 _ _ _ _ _ _ _ _ _ _ _ _) _⟩
  . exact ⟨cell_blk (at11_3 _ _ _ _ _ _ _ _ _ _ _ _) _,cell_blk (at11_3 _ _ _ _ _ _ _ _ _ _ _ _) _⟩
  . exact ⟨cell_blk (at11_3 _ _ _ _ _ _ _ _ _ _ _ _) _,cell_blk (at11_3 _ _ _ _ _ _ _ _ _ _ _ _) _⟩
 case mx =>
  refine .inr ⟨w.heap.size+5,0,11,rfl,Nat.le_refl _,by simp <;> omega,rfl,fun i hi=>?_⟩
  have:i=0\/i=1\/i=2\/i=3\/i=4\/i=5\/i=6\/i=7\/i=8\/i=9\/i=10:=by have:i<11:=hi;omega
  rcases this with rfl | rfl | rfl | rfl | rfl | rfl | rfl | rfl | rfl | rfl | rfl
  . exact ⟨.slice none 0 0,.inl ⟨_,_,rfl,rfl⟩,cell_blk (at11_5 _ _ _ _ _ _ _ _ _ _ _ _) _,cell_blk (at11_5 _ _ _ _ _ _ _ _ _ _ _ _) _,cell_blk (at11_5 _ _ _ _ _ _ _ _ _ _ _ _) _,cell_blk (at11_5 _ _ _ _ _ _ _ _ _ _ _ _) _,cell_blk (at11_5 _ _ _ _ _ _ _ _ _ _ _ _) _,cell_blk (at11_5 _ _ _ _ _ _ _ _ _ _ _ _) _,cell_blk (at11_5 _ _ _ _ _ _ _ _ _ _ _ _) _,cell_blk (at11_5 _ _ _ _ _ _ _ _ _ _ _ _) _⟩
  . exact ⟨.slice (some ⟨w.heap.size+4,0,none⟩) 1 1,.inr ⟨w.heap.size+4,0,1,rfl,Nat.le_refl _,by simp <;> omega,⟨Or.inl rfl,_,_,at11_4 _ _ _ _ _ _ _ _ _ _ _ _⟩,fun i hi=>by obtain rfl:i=0:=(by have:i<1:=hi;omega);exact cell_blk (at11_4 _ _ _ _ _ _ _ _ _ _ _ _) _⟩,cell_blk (at11_5 _ _ _ _ _ _ _ _ _ _ _ _) _,cell_blk (at11_5 _ _ _ _ _ _ _ _ _ _ _ _) _,cell_blk (at11_5 _ _ _ _ _ _ _ _ _ _ _ _) _,cell_blk (at11_5 _ _ _ _ _ _ _ _ _ _ _ _) _,cell_blk (at11_5 _ _ _ _ _ _ _ _ _ _ _ _) _,cell_blk (at11_5 _ _ _ _ _ _ _ _ _ _ _ _) _,cell_blk (at11_5 _ _ _ _ _ _ _ _ _ _ _ _) _,cell_blk (at11_5 _ _ _ _ _ _ _ _ _ _ _ _) _⟩
  . exact ⟨.slice none 0 0,.inl ⟨_,_,rfl,rfl⟩,cell_blk (at11_5 _ _ _ _ _ _ _ _ _ _ _ _) _,cell_blk (at11_5 _ _ _ _ _ _ _ _ _ _ _ _) _,cell_blk (at11_5 _ _ _ _ _ _ _ _ _ _ _ _) _,cell_blk (at11_5 _ _ _ _ _ _ _ _ _ _ _ _) _,cell_blk (at11_5 _ _ _ _ _ _ _ _ _ _ _ _) _,cell_blk (at11_5 _ _ _ _ _ _ _ _ _ _ _ _) _,cell_blk (at11_5 _ _ _ _ _ _ _ _ _ _ _ _) _,cell_blk (at11_5 _ _ _ _ _ _ _ _ _ _ _ _) _⟩
  . exact ⟨.slice none 0 0,.inl ⟨_,_,rfl,rfl⟩,cell_blk (at11_5 _ _ _ _ _ _ _ _ _ _ _ _) _,cell_blk (at11_5 _ _ _ _ _ _ _ _ _ _ _ _) _,cell_blk (at11_5 _ _ _ _ _ _ _ _ _ _ _ _) _,cell_blk (at11_5 _ _ _ _ _ _ _ _ _ _ _ _) _,cell_blk (at11_5 _ _ _ _ _ _ _ _ _ _ _ _) _,cell_blk (at11_5 _ _ _ _ _ _ _ _ _ _ _ _) _,cell_blk (at11_5 _ _ _ _ _ _ _ _ _ _ _ _) _,cell_blk (at11_5 _ _ _ _ _ _ _ _ _ _ _ _) _⟩
  . exact ⟨.slice none 0 0,.inl ⟨_,_,rfl,rfl⟩,cell_blk (at11_5 _ _ _ _ _ _ _ _ _ _ _ _) _,cell_blk (at11_5 _ _ _ _ _ _ _ _ _ _ _ _) _,cell_blk (at11_5 _ _ _ _ _ _ _ _ _ _ _ _) _,cell_blk (at11_5 _ _ _ _ _ _ _ _ _ _ _ _) _,cell_blk (at11_5 _ _ _ _ _ _ _ _ _ _ _ _) _,cell_blk (at11_5 _ _ _ _ _ _ _ _ _ _ _ _) _,cell_blk (at11_5 _ _ _ _ _ _ _ _ _ _ _ _) _,cell_blk (at11_5 _ _ _ _ _ _ _ _ _ _ _ _) _⟩
  . exact ⟨.slice none 0 0,.inl ⟨_,_,rfl,rfl⟩,cell_blk (at11_5 _ _ _ _ _ _ _ _ _ _ _ _) _,cell_blk (at11_5 _ _ _ _ _ _ _ _ _ _ _ _) _,cell_blk (at11_5 _ _ _ _ _ _ _ _ _ _ _ _) _,cell_blk (at11_5 _ _ _ _ _ _ _ _ _ _ _ _) _,cell_blk (at11_5 _ _ _ _ _ _ _ _ _ _ _ _) _,cell_blk (at11_5 _ _ _ _ _ _ _ _ _ _ _ _) _,cell_blk (at11_5 _ _ _ _ _ _ _ _ _ _ _ _) _,cell_blk (at11_5 _ _ _ _ _ _ _ _ _ _ _ _) _⟩
  . exact ⟨.slice none 0 0,.inl ⟨_,_,rfl,rfl⟩,cell_blk (at11_5 _ _ _ _ _ _ _ _ _ _ _ _) _,cell_blk (at11_5 _ _ _ _ _ _ _ _ _ _ _ _) _,cell_blk (at11_5 _ _ _ _ _ _ _ _ _ _ _ _) _,cell_blk (at11_5 _ _ _ _ _ _ _ _ _ _ _ _) _,cell_blk (at11_5 _ _ _ _ _ _ _ _ _ _ _ _) _,cell_blk (at11_5 _ _ _ _ _ _ _ _ _ _ _ _) _,cell_blk (at11_5 _ _ _ _ _ _ _ _ _ _ _ _) _,cell_blk (at11_5 _ _ _ _ _ _ _ _ _ _ _ _) _⟩
  . exact ⟨.slice none 0 0,.inl ⟨_,_,rfl,rfl⟩,cell_blk (at11_5 _ _ _ _ _ _ _ _ _ _ _ _) _,cell_blk (at11_5 _ _ _ _ _ _ _ _ _ _ _ _) _,cell_blk (at11_5 _ _ _ _ _ _ _ _ _ _ _ _) _,cell_blk (at11_5 _ _ _ _ _ _ _ _ _ _ _ _) _,cell_blk (at11_5 _ _ _ _ _ _ _ _ _ _ _ _) _,cell_blk (at11_5 _ _ _ _ _ _ _ _ _ _ _ _) _,cell_blk (at11_5 _ _ _ _ _ _ _ _ _ _ _ _) _,cell_blk (at11_5 _ _ _ _ _ _ _ _ _ _ _ _) _⟩
  . exact ⟨.slice none 0 0,.inl ⟨_,_,rfl,rfl⟩,cell_blk (at11_5 _ _ _ _ _ _ _ _ _ _ _ _) _,cell_blk (at11_5 _ _ _ _ _ _ _ _ _ _ _ _) _,cell_blk (at11_5 _ _ _ _ _ _ _ _ _ _ _ _) _,cell_blk (at11_5 _ _ _ _ _ _ _ _ _ _ _ _) _,cell_blk (at11_5 _ _ _ _ _ _ _ _ _ _ _ _) _,cell_blk (at11_5 _ _ _ _ _ _ _ _ _ _ _ _) _,cell_blk (at11_5 _ _ _ _ _ _ _ _ _ _ _ _) _,cell_blk (at11_5 _ _ _ _ _ _ _ _ _ _ _ _) _⟩
  . exact ⟨.slice none 0 0,.inl ⟨_,_,rfl,rfl⟩,cell_blk (at11_5 _ _ _ _ _ _ _ _ _ _ _ _) _,cell_blk (at11_5 _ _ _ _ _ _ _ _ _ _ _ _) _,cell_blk (at11_5 _ _ _ _ _ _ _ _ _ _ _ _) _,cell_blk (at11_5 _ _ _ _ _ _ _ _ _ _ _ _) _,cell_blk (at11_5 _ _ _ _ _ _ _ _ _ _ _ _) _,cell_blk (at11_5 _ _ _ _ _ _ _ _ _ _ _ _) _,cell_blk (at11_5 _ _ _ _ _ _ _ _ _ _ _ _) _,cell_blk (at11_5 _ _ _ _ _ _ _ _ _ _ _ _) _⟩
  . exact ⟨.slice none 0 0,.inl ⟨_,_,rfl,rfl⟩,cell_blk (at11_5 _ _ _ _ _ _ _ _ _ _ _ _) _,cell_blk (at11_5 _ _ _ _ _ _ _ _ _ _ _ _) _,cell_blk (at11_5 _ _ _ _ _ _ _ _ _ _ _ _) _,cell_blk (at11_5 _ _ _ _ _ _ _ _ _ _ _ _) _,cell_blk (at11_5 _ _ _ _ _ _ _ _ _ _ _ _) _,cell_blk (at11_5 _ _ _ _ _ _ _ _ _ _ _ _) _,cell_blk (at11_5 _ _ _ _ _ _ _ _ _ _ _ _) _,cell_blk (at11_5 _ _ _ _ _ _ _ _ _ _ _ _) _⟩
 case mt =>
  refine .inr ⟨w.heap.size+10,0,8,rfl,Nat.le_refl _,by simp <;> omega,rfl,fun i hi=>?_⟩
  have:i=0\/i=1\/i=2\/i=3\/i=4\/i=5\/i=6\/i=7:=by have:i<8:=hi;omega
  rcases this with rfl | rfl | rfl | rfl | rfl | rfl | rfl | rfl
  . exact ⟨.slice none 0 0,.inl ⟨_,_,rfl,rfl⟩,cell_blk (at11_10 _ _ _ _ _ _ _ _ _ _ _ _) _,cell_blk (at11_10 _ _ _ _ _ _ _ _ _ _ _ _) _,cell_blk (at11_10 _ _ _ _ _ _ _ _ _ _ _ _) _,cell_blk (at11_10 _ _ _ _ _ _ _ _ _ _ _ _) _,cell_blk (at11_10 _ _ _ _ _ _ _ _ _ _ _ _) _,cell_blk (at11_10 _ _ _ _ _ _ _ _ _ _ _ _) _,cell_blk (at11_10 _ _ _ _ _ _ _ _ _ _ _ _) _,cell_blk (at11_10 _ _ _ _ _ _ _ _ _ _ _ _) _⟩
  . exact ⟨.slice none 0 0,.inl ⟨_,_,rfl,rfl⟩,cell_blk (at11_10 _ _ _ _ _ _ _ _ _ _ _ _) _,cell_blk (at11_10 _ _ _ _ _ _ _ _ _ _ _ _) _,cell_blk (at11_10 _ _ _ _ _ _ _ _ _ _ _ _) _,cell_blk (at11_10 _ _ _ _ _ _ _ _ _ _ _ _) _,cell_blk (at11_10 _ _ _ _ _ _ _ _ _ _ _ _) _,cell_blk (at11_10 _ _ _ _ _ _ _ _ _ _ _ _) _,cell_blk (at11_10 _ _ _ _ _ _ _ _ _ _ _ _) _,cell_blk (at11_10 _ _ _ _ _ _ _ _ _ _ _ _) _⟩
  . exact ⟨.slice (some ⟨w.heap.size+6,0,none⟩) 1 1,.inr ⟨w.heap.size+6,0,1,rfl,Nat.le_refl _,by simp <;> omega,⟨Or.inr ⟨by omega,by omega⟩,_,_,at11_6 _ _ _ _ _ _ _ _ _ _ _ _⟩,fun i hi=>by obtain rfl:i=0:=(by have:i<1:=hi;omega);exact cell_blk (at11_6 _ _ _ _ _ _ _ _ _ _ _ _) _⟩,cell_blk (at11_10 _ _ _ _ _ _ _ _ _ _ _ _) _,cell_blk (at11_10 _ _ _ _ _ _ _ _ _ _ _ _) _,cell_blk (at11_10 _ _ _ _ _ _ _ _ _ _ _ _) _,cell_blk (at11_10 _ _ _ _ _ _ _ _ _ _ _ _) _,cell_blk (at11_10 _ _ _ _ _ _ _ _ _ _ _ _) _,cell_blk (at11_10 _ _ _ _ _ _ _ _ _ _ _ _) _,cell_blk (at11_10 _ _ _ _ _ _ _ _ _ _ _ _) _,cell_blk (at11_10 _ _ _ _ _ _ _ _ _ _ _ _) _⟩
  . exact ⟨.slice (some ⟨w.heap.size+7,0,none⟩) 1 1,.inr ⟨w.heap.size+7,0,1,rfl,Nat.le_refl _,by simp <;> omega,⟨Or.inr ⟨by omega,by omega⟩,_,_,at11_7 _ _ _ _ _ _ _ _ _ _ _ _⟩,fun i hi=>by obtain rfl:i=0:=(by have:i<1:=hi;omega);exact cell_blk (at11_7 _ _ _ _ _ _ _ _ _ _ _ _) _⟩,cell_blk (at11_10 _ _ _ _ _ _ _ _ _ _ _ _) _,cell_blk (at11_10 _ _ _ _ _ _ _ _ _ _ _ _) _,cell_blk (at11_10 _ _ _ _ _ _ _ _ _ _ _ _) _,cell_blk (at11_10 _ _ _ _ _ _ _ _ _ _ _ _) _,cell_blk (at11_10 _ _ _ _ _ _ _ _ _ _ _ _) _,cell_blk (at11_10 _ _ _ _ _ _ _ _ _ _ _ _) _,cell_blk (at11_10 _ _ _ _ _ _ _ _ _ _ _ _) _,cell_blk (at11_10 _ _ _ _ _ _ _ _ _ _ _ _) _⟩
  . exact ⟨.slice none 0 0,.inl ⟨_,_,rfl,rfl⟩,cell_blk (at11_10 _ _ _ _ _ _ _ _ _ _ _ _) _,cell_blk (at11_10 _ _ _ _ _ _ _ _ _ _ _ _) _,cell_blk (at11_10 _ _ _ _ _ _ _ _ _ _ _ _) _,cell_blk (at11_10 _ _ _ _ _ _ _ _ _ _ _ _) _,cell_blk (at11_10 _ _ _ _ _ _ _ _ _ _ _ _) _,cell_blk (at11_10 _ _ _ _ _ _ _ _ _ _ _ _) _,cell_blk (at11_10 _ _ _ _ _ _ _ _ _ _ _ _) _,cell_blk (at11_10 _ _ _ _ _ _ _ _ _ _ _ _) _⟩
  . exact ⟨.slice (some ⟨w.heap.size+8,0,none⟩) 1 1,.inr ⟨w.heap.size+8,0,1,rfl,Nat.le_refl _,by simp <;> omega,⟨Or.inr ⟨by omega,by omega⟩,_,_,at11_8 _ _ _ _ _ _ _ _ _ _ _ _⟩,fun i hi=>by obtain rfl:i=0:=(by have:i<1:=hi;omega);exact cell_blk (at11_8 _ _ _ _ _ _ _ _ _ _ _ _) _⟩,cell_blk (at11_10 _ _ _ _ _ _ _ _ _ _ _ _) _,cell_blk (at11_10 _ _ _ _ _ _ _ _ _ _ _ _) _,cell_blk (at11_10 _ _ _ _ _ _ _ _ _ _ _ _) _,cell_blk (at11_10 _ _ _ _ _ _ _ _ _ _ _ _) _,cell_blk (at11_10 _ _ _ _ _ _ _ _ _ _ _ _) _,cell_blk (at11_10 _ _ _ _ _ _ _ _ _ _ _ _) _,cell_blk (at11_10 _ _ _ _ _ _ _ _ _ _ _ _) _,cell_blk (at11_10 _ _ _ _ _ _ _ _ _ _ _ _) _⟩
  . exact ⟨.slice none 0 0,.inl ⟨_,_,rfl,rfl⟩,cell_blk (at11_10 _ _ _ _ _ _ _ _ _ _ _ _) _,cell_blk (at11_10 _ _ _ _ _ _ _ _ _ _ _ _) _,cell_blk (at11_10 _ _ _ _ _ _ _ _ _ _ _ _) _,cell_blk (at11_10 _ _ _ _ _ _ _ _ _ _ _ _) _,cell_blk (at11_10 _ _ _ _ _ _ _ _ _ _ _ _) _,cell_blk (at11_10 _ _ _ _ _ _ _ _ _ _ _ _) _,cell_blk (at11_10 _ _ _ _ _ _ _ _ _ _ _ _) _,cell_blk (at11_10 _ _ _ _ _ _ _ _ _ _ _ _) _⟩
  . exact ⟨.slice (some ⟨w.heap.size+9,0,none⟩) 1 1,.inr ⟨w.heap.size+9,0,1,rfl,Nat.le_refl _,by simp <;> omega,⟨Or.inr ⟨by omega,by omega⟩,_,_,at11_9 _ _ _ _ _ _ _ _ _ _ _ _⟩,fun i hi=>by obtain rfl:i=0:=(by have:i<1:=hi;omega);exact cell_blk (at11_9 _ _ _ _ _ _ _ _ _ _ _ _) _⟩,cell_blk (at11_10 _ _ _ _ _ _ _ _ _ _ _ _) _,cell_blk (at11_10 _ _ _ _ _ _ _ _ _ _ _ _) _,cell_blk (at11_10 _ _ _ _ _ _ _ _ _ _ _ _) _,cell_blk (at11_10 _ _ _ _ _ _ _ _ _ _ _ _) _,cell_blk (at11_10 _ _ _ _ _ _ _ _ _ _ _ _) _,cell_blk (at11_10 _ _ _ _ _ _ _ _ _ _ _ _) _,cell_blk (at11_10 _ _ _ _ _ _ _ _ _ _ _ _) _,cell_blk (at11_10 _ _ _ _ _ _ _ _ _ _ _ _) _⟩
 case mb=>exact allocs_below [_,_,_,_,_,_,_,_,_,_,_] w
 case mf =>
  intro f hf k
  have:f=0\/f=1\/f=2\/f=3\/f=4:=by omega
  rcases this with rfl | rfl | rfl | rfl | rfl
  . exact frz_door (at11_1 _ _ _ _ _ _ _ _ _ _ _ _) _
  . exact frz_door (at11_2 _ _ _ _ _ _ _ _ _ _ _ _) _
  . exact frz_door (at11_3 _ _ _ _ _ _ _ _ _ _ _ _) _
  . exact frz_door (at11_5 _ _ _ _ _ _ _ _ _ _ _ _) _
  . exact frz_door (at11_10 _ _ _ _ _ _ _ _ _ _ _ _) _
theorem door_any (w:World):Calls Tryz.prog 16 #[] w (MadeP doorM w):=(door_lay w).mono fun e w' ⟨he,hm,hb,_⟩=>⟨_,he,hm.any,hb⟩
def intOkB (x:Int):Bool:=decide (-9223372036854775808<=x) && decide (x<=9223372036854775807)
def bytOk (x:ByteArray):Bool:=decide (x.size<=140737488355328)
def verOkB (x:VerD):Bool:=bytOk x.nm && decide (x.kd<256) && bytOk x.en && bytOk x.ex && decide (x.df.length<=140737488355328) && x.df.all bytOk && bytOk x.sb && intOkB x.rg && intOkB x.ofv
def trnOkB (x:TrnD):Bool:=bytOk x.nm && decide (x.kd<256) && bytOk x.gd && bytOk x.ef && decide (x.tr.length<=140737488355328) && x.tr.all bytOk && intOkB x.src && intOkB x.tgt && intOkB x.af
def mdlOkB (m:MdlD):Bool:=bytOk m.nm && decide (m.vars.length<=140737488355328) && (m.vars.all fun x=>bytOk x.nm) && decide (m.evs.length<=140737488355328) && m.evs.all bytOk && decide (m.regs.length<=140737488355328) && (m.regs.all fun x=>bytOk x.nm && intOkB x.own) && decide (m.vers.length<=140737488355328) && m.vers.all verOkB && decide (m.trns.length<=140737488355328) && m.trns.all trnOkB
theorem i64B_of {x:Int} (h:intOkB x=true):-9223372036854775808<=x/\x<=9223372036854775807:=by simpa [intOkB] using h
theorem verB_of {x:VerD} (h:verOkB x=true):VerOk x:=by
 simp only [verOkB,bytOk,Bool.and_eq_true,decide_eq_true_eq,List.all_eq_true] at h
 obtain ⟨⟨⟨⟨⟨⟨⟨⟨h1,h2⟩,h3⟩,h4⟩,h5⟩,h6⟩,h7⟩,h8⟩,h9⟩:=h
 exact ⟨h1,h2,h3,h4,h5,h6,h7,i64B_of h8,i64B_of h9⟩
theorem trnB_of {x:TrnD} (h:trnOkB x=true):TrnOk x:=by
 simp only [trnOkB,bytOk,Bool.and_eq_true,decide_eq_true_eq,List.all_eq_true] at h
 obtain ⟨⟨⟨⟨⟨⟨⟨⟨h1,h2⟩,h3⟩,h4⟩,h5⟩,h6⟩,h7⟩,h8⟩,h9⟩:=h
 exact ⟨h1,h2,h3,h4,h5,h6,i64B_of h7,i64B_of h8,i64B_of h9⟩
theorem okB_of {m:MdlD} (h:mdlOkB m=true):MdlOk m:=by
 simp only [mdlOkB,bytOk,Bool.and_eq_true,decide_eq_true_eq,List.all_eq_true] at h
 obtain ⟨⟨⟨⟨⟨⟨⟨⟨⟨⟨h1,h2⟩,h3⟩,h4⟩,h5⟩,h6⟩,h7⟩,h8⟩,h9⟩,h10⟩,h11⟩:=h
 exact ⟨h1,h2,h3,h4,h5,h6,fun x hx=>(h7 x hx).1,fun x hx=>i64B_of (h7 x hx).2,h8,fun x hx=>verB_of (h9 x hx),h10,fun x hx=>trnB_of (h11 x hx)⟩
theorem door_ok:MdlOk doorM:=okB_of (by kernel_rfl)
end Go.Proofs
