/- Walks: 'works' of law 18. -/
import Derived.Test.YtfladiadgkfebaaGreatDoorKEwD
import Derived.Test.YtfladiadgkfebaaGreatDoorKEmUV
namespace Go.Proofs
open Go.RowKit Go.Lx Go.Md Go.Shelf Go.BigFrame Go.Rgi
open Lib(hid)
set_option maxRecDepth 100000
set_option maxHeartbeats 0
set_option linter.unusedVariables false
structure Jn (T:Prop):Prop where
 o:T
theorem join_of {G T:Prop} (h:Jn T->G) (t:T):G:=h ⟨t⟩
theorem mach_ok {nm:ByteArray} {subs:List ByteArray} {pts:List VerD} (hn:nm.size<=1000) (hs:∀ s ∈ subs,s.size<=1000) (hp:∀ x ∈ pts,VerOk x/\x.df=[]) (h1:subs.length<=100) (h2:pts.length<=100):MdlOk (machM nm subs pts)/\Prt (machM nm subs pts):=by
 have hc:∀ (c:UInt8),((⟨#[c]⟩:ByteArray) ++ nm).size<=1001:=fun c=>by rw [ByteArray.size_append];show 1+nm.size<=_;omega
 have hve:∀ x ∈ (machM nm subs pts).vers,VerOk x/\x.df.length<=1:=fun x hx=>by
   simp only [machM,List.mem_append,List.mem_singleton,List.mem_map] at hx
   have z:(⟨#[]⟩:ByteArray).size<=140737488355328:=by decide
   have e:∀ s ∈ ([]:List ByteArray),s.size<=140737488355328:=fun s h=>by cases h
   rcases hx with ((rfl | ⟨s,h,rfl⟩) | ⟨y,h,rfl⟩) | rfl
   . exact ⟨⟨z,by decide,z,z,by decide,e,z,by decide,by decide⟩,by decide⟩
   . have:=hs s h
     exact ⟨⟨show (⟨#[116]⟩:ByteArray).size<=_ by decide,show 1<256 by decide,z,z,show 1<=_ by decide,fun t ht=>(by
       rw [show (vSub s).df=[⟨#[103,111]⟩] from rfl,List.mem_singleton] at ht;subst ht;decide),(by show s.size<=_;omega),(by show -9223372036854775808<=(0:Int)/\(0:Int)<=_;decide),(by show -9223372036854775808<=(-1:Int)/\(-1:Int)<=_;decide)⟩,Nat.le_refl 1⟩
   . obtain ⟨⟨a1,a2,a3,a4,a5,a6,a7,a8,a9⟩,hd⟩:=hp y h
     exact ⟨⟨a1,a2,a3,a4,a5,a6,a7,(by show -9223372036854775808<=(-1:Int)/\(-1:Int)<=_;decide),(by show -9223372036854775808<=(1:Int)/\(1:Int)<=_;decide)⟩,(by show y.df.length<=1;rw [hd];decide)⟩
   . exact ⟨⟨show (⟨#[100,111,110,101]⟩:ByteArray).size<=_ by decide,by decide,z,z,by decide,e,z,by decide,by decide⟩,by decide⟩
 have hvl:(machM nm subs pts).vers.length<=202:=by simp [machM];omega
 have htr:∀ x ∈ (machM nm subs pts).trns,TrnOk x/\x.tr.length<=1:=fun x hx=>by
   rw [show (machM nm subs pts).trns=[tGo] from rfl,List.mem_singleton] at hx
   subst hx
   exact ⟨⟨by decide,by decide,by decide,by decide,by decide,fun t ht=>(by rw [show tGo.tr=[⟨#[103,111]⟩] from rfl,List.mem_singleton] at ht;subst ht;decide),by decide,by decide,by decide⟩,by decide⟩
 have hva:∀ x ∈ (machM nm subs pts).vars,x.nm.size<=140737488355328:=fun x hx=>by
   simp only [machM,List.mem_cons,List.not_mem_nil,or_false] at hx
   rcases hx with rfl | rfl
   . decide
   . have:=hc 118;dsimp only;omega
 have hev:∀ x ∈ (machM nm subs pts).evs,x.size<=140737488355328:=fun x hx=>by
   simp only [machM,List.mem_cons,List.not_mem_nil,or_false] at hx
   rcases hx with rfl | rfl
   . decide
   . have:=hc 101;omega
 have hrg:∀ x ∈ (machM nm subs pts).regs,x.nm.size<=140737488355328/\-9223372036854775808<=x.own/\x.own<=9223372036854775807:=fun x hx=>by
   rw [show (machM nm subs pts).regs=[⟨⟨#[116,111,112]⟩,-1⟩] from rfl,List.mem_singleton] at hx
   subst hx;decide
 have hok:MdlOk (machM nm subs pts):=⟨by show nm.size<=_;omega,by show 2<=_;decide,hva,by show 2<=_;decide,hev,by show 1<=_;decide,fun x hx=>(hrg x hx).1,fun x hx=>(hrg x hx).2,by omega,fun x hx=>(hve x hx).1,by show 1<=_;decide,fun x hx=>(htr x hx).1⟩
 refine ⟨hok,Prt.of hok ⟨by show 2<=_;decide,by show 2<=_;decide,by show 1<=_;decide,by omega,by show 1<=_;decide,fun x hx=>?_,fun x hx=>?_⟩⟩
 . have:=(hve x hx).2;omega
 . have:=(htr x hx).2;omega
def On (q:World) (u:Nat) (o:Obj):Prop:=q.heap[u]? = some o
theorem On.next {q q':World} {u:Nat} {o:Obj} (h:On q u o) (g:Below q.heap.size q q'):On q' u o:=(g.block _ (Array.getElem?_eq_some_iff.1 h).1).trans h
theorem al_of {n:Nat} {W q:World} (hb:Below n W q) (o:Obj):∃ u q',q.heap.size=u/\q.alloc o=q'/\Below q.heap.size q q'/\On q' u o/\W.heap.size<=u:=⟨_,_,rfl,rfl,below_al1 q o,World.alloc_heap_new q o,hb.size⟩
theorem on_txt {q:World} {u:Nat} {s:ByteArray} {T:TypeId} (h:On q u (.cells #[.string s] T)):SlS anyB q (.slice (some ⟨u,0,none⟩) [s].length 1) [s] :=
 .inr ⟨u,0,1,rfl,Nat.le_refl _,(Array.getElem?_eq_some_iff.1 h).1,trivial,fun i hi=>by
   obtain rfl:i=0:=by simp at hi;exact hi
   exact cell_row h⟩
theorem lib1 {q:World} {u:Nat} {m:MdlD} {p:Ph} (h:On q u (.cells #[.string m.nm,.slice p.a1 m.vars.length p.c1,.slice p.a2 m.evs.length p.c2,.slice p.a3 m.regs.length p.c3,.slice p.a4 m.vers.length p.c4,.slice p.a5 m.trns.length p.c5] 42)) (hm:Mod anyM q m p):LibV q.heap.size q (.slice (some ⟨u,0,none⟩) [m].length 1) [m] :=
 .inr ⟨u,0,1,rfl,Nat.le_refl _,(Array.getElem?_eq_some_iff.1 h).1,(Array.getElem?_eq_some_iff.1 h).1,fun i hi=>by
   obtain rfl:i=0:=by simp at hi;exact hi
   exact ⟨p,hm.weaken fun _ b hb _=>hb,cell_row h,cell_row h,cell_row h,cell_row h,cell_row h,cell_row h⟩⟩
theorem lib2 {q:World} {u:Nat} {m n:MdlD} {p r:Ph} (h:On q u (.cells #[.string m.nm,.slice p.a1 m.vars.length p.c1,.slice p.a2 m.evs.length p.c2,.slice p.a3 m.regs.length p.c3,.slice p.a4 m.vers.length p.c4,.slice p.a5 m.trns.length p.c5,.string n.nm,.slice r.a1 n.vars.length r.c1,.slice r.a2 n.evs.length r.c2,.slice r.a3 n.regs.length r.c3,.slice r.a4 n.vers.length r.c4,.slice r.a5 n.trns.length r.c5] 42)) (hm:Mod anyM q m p) (hn:Mod anyM q n r):LibV q.heap.size q (.slice (some ⟨u,0,none⟩) [m,n].length 2) [m,n] :=
 .inr ⟨u,0,2,rfl,Nat.le_refl _,(Array.getElem?_eq_some_iff.1 h).1,(Array.getElem?_eq_some_iff.1 h).1,fun i hi=>by
   match i,hi with
   | 0,_=>exact ⟨p,hm.weaken fun _ b hb _=>hb,cell_row h,cell_row h,cell_row h,cell_row h,cell_row h,cell_row h⟩
   | 1,_=>exact ⟨r,hn.weaken fun _ b hb _=>hb,cell_row h,cell_row h,cell_row h,cell_row h,cell_row h,cell_row h⟩⟩
def TM (q:World) (m:MdlD) (p:Ph):Prop:=∃ lo,Mod (fun j=>TB lo (TT j)) q m p
theorem TM.any {q:World} {m:MdlD} {p:Ph} (h:TM q m p):Mod anyM q m p:=by
 obtain ⟨lo,h⟩:=h;exact h.any
theorem TM.below {q q':World} {m:MdlD} {p:Ph} (h:TM q m p) (g:Below q.heap.size q q'):TM q' m p:=by
 obtain ⟨lo,h⟩:=h;exact ⟨lo,h.below g⟩
theorem TM.at {q q':World} {m:MdlD} {p:Ph} (h:TM q m p) {H:Nat} {cur:Array Value} {fr:Nat × Nat} (hat:AtB H q q') (hH:q.heap[H]? = some (.cells cur 42 fr)):TM q' m p:=by
 obtain ⟨lo,h⟩:=h;exact ⟨lo,h.kept fun j=>hat.keptT hH (TT_ne j)⟩
theorem six_of {W q:World} {u n:Nat} {m:MdlD} {p:Ph} (hz:On q u zeroM) (hm:TM q m p) (hb:Below n W q) (hl:n<=u):∃ q',((((((q.setCell ⟨u,0,none⟩ (.string m.nm)).setCell ⟨u,1,none⟩ (.slice p.a1 m.vars.length p.c1)).setCell ⟨u,2,none⟩ (.slice p.a2 m.evs.length p.c2)).setCell ⟨u,3,none⟩ (.slice p.a3 m.regs.length p.c3)).setCell ⟨u,4,none⟩ (.slice p.a4 m.vers.length p.c4)).setCell ⟨u,5,none⟩ (.slice p.a5 m.trns.length p.c5))=q' /\
   On q' u (.cells #[.string m.nm,.slice p.a1 m.vars.length p.c1,.slice p.a2 m.evs.length p.c2,.slice p.a3 m.regs.length p.c3,.slice p.a4 m.vers.length p.c4,.slice p.a5 m.trns.length p.c5] 42)/\TM q' m p/\Below n W q'/\u<q'.heap.size:=by
 have hz':q.heap[u]? = some (.cells #[.string ⟨#[]⟩,.slice none 0 0,.slice none 0 0,.slice none 0 0,.slice none 0 0,.slice none 0 0] 42 (0,0)):=hz
 obtain ⟨q1,q2⟩:=box_six hz' (.string m.nm) (.slice p.a1 m.vars.length p.c1) (.slice p.a2 m.evs.length p.c2) (.slice p.a3 m.regs.length p.c3) (.slice p.a4 m.vers.length p.c4) (.slice p.a5 m.trns.length p.c5)
 exact ⟨_,rfl,q1,hm.at q2 hz',hb.trans (q2.below hl),(Array.getElem?_eq_some_iff.1 q1).1⟩
def ExA (m:MdlD) (k f:Nat) (w:World) (e:Ending) (w':World):Prop:=∃ p,e=.returned (.tuple #[mdV m p,.int .i64 (k:Nat),.int .i64 (f:Nat)])/\TM w' m p/\Below w.heap.size w w'
theorem ExQ.any {l:List MdlD} {w:World} {e:Ending} {w':World} (h:ExQ l w e w') {m:MdlD} {k f:Nat} (he:expM l=(m,(k,f))):ExA m k f w e w':=by
 obtain ⟨p,h1,h2,h3⟩:=h
 rw [he] at h1 h2
 exact ⟨p,h1,⟨_,h2⟩,h3⟩
theorem mach1 (nm s:ByteArray) (hn:nm.size<=1000) {M:MdlD} (hM:machM nm [s] []=M) {T:TypeId} (q:World) (u:Nat) (h:On q u (.cells #[.string s] T)):Calls Tryz.prog 13 #[.string nm,.slice (some ⟨u,0,none⟩) 1 1,.slice none 0 0] q (MachP M q):=by
 subst hM
 exact machine_any (Q2:=anyB) (R:=anyB) nm [s] [] (some ⟨u,0,none⟩) 1 none 0 q (on_txt h) (.inl ⟨none,0,rfl,rfl⟩) (fun x h=>by cases h) (show 1<=100 by decide) (show 0<=100 by decide) hn
theorem expand2 {m n R:MdlD} {k f:Nat} (he:expM [m,n]=(R,(k,f))) (h1:MdlOk m/\Prt m) (h2:MdlOk n/\Prt n) (q:World) (u:Nat) (p r:Ph) (h:On q u (.cells #[.string m.nm,.slice p.a1 m.vars.length p.c1,.slice p.a2 m.evs.length p.c2,.slice p.a3 m.regs.length p.c3,.slice p.a4 m.vers.length p.c4,.slice p.a5 m.trns.length p.c5,.string n.nm,.slice r.a1 n.vars.length r.c1,.slice r.a2 n.evs.length r.c2,.slice r.a3 n.regs.length r.c3,.slice r.a4 n.vers.length r.c4,.slice r.a5 n.trns.length r.c5] 42)) (hm:Mod anyM q m p) (hn:Mod anyM q n r) (hT:Tab q):Calls Tryz.prog 9 #[.slice (some ⟨u,0,none⟩) 2 2] q (ExA R k f q) :=
 (expand_any [m,n] (some ⟨u,0,none⟩) 2 q (lib2 h hm hn) (Nat.le_of_lt (show 2<100 by decide)) (fun x hx=>by
   rcases List.mem_cons.1 hx with rfl | hx
   . exact h1
   . rw [List.mem_singleton] at hx;subst hx;exact h2) hT).mono fun _ _ h=>h.any he
theorem expand1 {m R:MdlD} {k f:Nat} (he:expM [m]=(R,(k,f))) (h1:MdlOk m/\Prt m) (q:World) (u:Nat) (p:Ph) (h:On q u (.cells #[.string m.nm,.slice p.a1 m.vars.length p.c1,.slice p.a2 m.evs.length p.c2,.slice p.a3 m.regs.length p.c3,.slice p.a4 m.vers.length p.c4,.slice p.a5 m.trns.length p.c5] 42)) (hm:Mod anyM q m p) (hT:Tab q):Calls Tryz.prog 9 #[.slice (some ⟨u,0,none⟩) 1 1] q (ExA R k f q) :=
 (expand_any [m] (some ⟨u,0,none⟩) 1 q (lib1 h hm) (by show 1<=100;decide) (fun x hx=>by
   rw [List.mem_singleton] at hx;subst hx;exact h1) hT).mono fun _ _ h=>h.any he
theorem on_new (w:World) (o:Obj):On (w.alloc o) w.heap.size o:=World.alloc_heap_new w o
theorem pts_ok:∀ x ∈ [pEn,pEx],VerOk x/\x.df=[]:=fun x hx=>by
 have e:∀ s ∈ ([]:List ByteArray),s.size<=140737488355328:=fun s h=>by cases h
 rcases List.mem_cons.1 hx with rfl | hx
 . exact ⟨⟨by decide,by decide,by decide,by decide,by decide,e,by decide,by decide,by decide⟩,rfl⟩
 . rw [List.mem_singleton] at hx
   subst hx
   exact ⟨⟨by decide,by decide,by decide,by decide,by decide,e,by decide,by decide,by decide⟩,rfl⟩
theorem on_pts {q:World} {u:Nat} {T:TypeId} (h:On q u (.cells #[.string ⟨#[116]⟩,.int .u8 10,.int .i64 0,.int .i64 0,.string ⟨#[]⟩,.string ⟨#[]⟩,.slice none 0 0,.string ⟨#[]⟩,.string ⟨#[100,111,110,101]⟩,.int .u8 11,.int .i64 0,.int .i64 0,.string ⟨#[]⟩,.string ⟨#[]⟩,.slice none 0 0,.string ⟨#[]⟩] T)):Sl anyB 8 (VerE anyB) q (.slice (some ⟨u,0,none⟩) [pEn,pEx].length 2) [pEn,pEx] :=
 .inr ⟨u,0,2,rfl,Nat.le_refl _,(Array.getElem?_eq_some_iff.1 h).1,trivial,fun i hi=>by
   match i,hi with
   | 0,_=>exact ⟨.slice none 0 0,.inl ⟨_,_,rfl,rfl⟩,cell_row h,cell_row h,cell_row h,cell_row h,cell_row h,cell_row h,cell_row h,cell_row h⟩
   | 1,_=>exact ⟨.slice none 0 0,.inl ⟨_,_,rfl,rfl⟩,cell_row h,cell_row h,cell_row h,cell_row h,cell_row h,cell_row h,cell_row h,cell_row h⟩⟩
theorem mach2 {M:MdlD} (hM:machM nmM [nmN] [pEn,pEx]=M) (q:World) (u v:Nat) (h:On q u (.cells #[.string ⟨#[78]⟩] 9)) (k:On q v (.cells #[.string ⟨#[116]⟩,.int .u8 10,.int .i64 0,.int .i64 0,.string ⟨#[]⟩,.string ⟨#[]⟩,.slice none 0 0,.string ⟨#[]⟩,.string ⟨#[100,111,110,101]⟩,.int .u8 11,.int .i64 0,.int .i64 0,.string ⟨#[]⟩,.string ⟨#[]⟩,.slice none 0 0,.string ⟨#[]⟩] 49)):Calls Tryz.prog 13 #[.string ⟨#[77]⟩,.slice (some ⟨u,0,none⟩) 1 1,.slice (some ⟨v,0,none⟩) 2 2] q (MachP M q):=by
 subst hM
 exact machine_any (Q2:=anyB) (R:=anyB) nmM [nmN] [pEn,pEx] (some ⟨u,0,none⟩) 1 (some ⟨v,0,none⟩) 2 q (on_txt h) (on_pts k) (fun x hx=>(pts_ok x hx).2) (show 1<=100 by decide) (show 2<=100 by decide) (by decide)
theorem exA_cells {q:World} {R:MdlD} {p:Ph} (h:TM q R p) (hA:R.regs.length=2/\(R.regs[1]?).map (·.own)=some 1/\R.vers.length=6/\(R.vers[4]?).map (·.rg)=some 1/\R.trns.length=2/\(R.trns[1]?).map (fun t=>(t.src,t.tgt))=some (3,4)/\R.vars.length=3/\R.evs.length=3) :
   ∃ b3 o3 b4 o4 b5 o5,p.a3=some ⟨b3,o3,none⟩/\p.a4=some ⟨b4,o4,none⟩/\p.a5=some ⟨b5,o5,none⟩/\q.cell? ⟨b3,o3+2+1,none⟩=some (.int .i64 1)/\q.cell? ⟨b4,o4+32+2,none⟩=some (.int .i64 1)/\q.cell? ⟨b5,o5+8+1,none⟩=some (.int .i64 3)/\q.cell? ⟨b5,o5+8+2,none⟩=some (.int .i64 4):=by
 obtain ⟨lo,h⟩:=h
 obtain ⟨l3,e3,l4,e4,l5,e5,_⟩:=hA
 obtain ⟨b3,o3,ha3,_,_,k3⟩:=h.regs.get (k:=1) (by omega)
 obtain ⟨b4,o4,ha4,_,dv,_,_,_,k4,_⟩:=h.vers.get (k:=4) (by omega)
 obtain ⟨b5,o5,ha5,_,dt,_,_,k5,k6,_⟩:=h.trns.get (k:=1) (by omega)
 rw [List.getElem?_eq_getElem (by omega)] at e3 e4 e5
 simp only [Option.map_some,Option.some.injEq,Prod.mk.injEq] at e3 e4 e5
 rw [e3] at k3
 rw [e4] at k4
 rw [e5.1] at k5
 rw [e5.2] at k6
 exact ⟨b3,o3,b4,o4,b5,o5,ha3,ha4,ha5,k3,k4,k5,k6⟩
theorem exD_cells {q:World} {R:MdlD} {p:Ph} (h:TM q R p) (hD:R.vers.length=8/\R.trns.length=4/\(R.trns[2]?).map (fun t=>(t.src,t.tgt))=some (2,6)/\(R.trns[3]?).map (fun t=>(t.src,t.tgt))=some (7,3)/\(R.vers[7]?).map (·.kd)=some 5/\(R.vers[4]?).map (·.kd)=some 2) :
   ∃ b4 o4 b5 o5,p.a4=some ⟨b4,o4,none⟩/\p.a5=some ⟨b5,o5,none⟩/\q.cell? ⟨b4,o4+56+1,none⟩=some (.int .u8 5)/\q.cell? ⟨b4,o4+32+1,none⟩=some (.int .u8 2) /\
     (∃ (s0:ByteArray) (ta:Option Addr) (tn tc:Nat) (af:Int) (gd ef:ByteArray) (kd:Nat),q.cell? ⟨b5,o5+16,none⟩=some (.string s0)/\q.cell? ⟨b5,o5+16+1,none⟩=some (.int .i64 2)/\q.cell? ⟨b5,o5+16+2,none⟩=some (.int .i64 6)/\q.cell? ⟨b5,o5+16+3,none⟩=some (.slice ta tn tc)/\q.cell? ⟨b5,o5+16+4,none⟩=some (.int .i64 af)/\q.cell? ⟨b5,o5+16+5,none⟩=some (.string gd)/\q.cell? ⟨b5,o5+16+6,none⟩=some (.string ef)/\q.cell? ⟨b5,o5+16+7,none⟩=some (.int .u8 kd)) /\
     (∃ (s0:ByteArray) (ta:Option Addr) (tn tc:Nat) (af:Int) (gd ef:ByteArray) (kd:Nat),q.cell? ⟨b5,o5+24,none⟩=some (.string s0)/\q.cell? ⟨b5,o5+24+1,none⟩=some (.int .i64 7)/\q.cell? ⟨b5,o5+24+2,none⟩=some (.int .i64 3)/\q.cell? ⟨b5,o5+24+3,none⟩=some (.slice ta tn tc)/\q.cell? ⟨b5,o5+24+4,none⟩=some (.int .i64 af)/\q.cell? ⟨b5,o5+24+5,none⟩=some (.string gd)/\q.cell? ⟨b5,o5+24+6,none⟩=some (.string ef)/\q.cell? ⟨b5,o5+24+7,none⟩=some (.int .u8 kd)):=by
 obtain ⟨lo,h⟩:=h
 obtain ⟨l4,l5,e2,e3,e7,e4⟩:=hD
 obtain ⟨b4,o4,ha4,_,dv,_,_,k7,_⟩:=h.vers.get (k:=7) (by omega)
 obtain ⟨b4',o4',ha4',_,dw,_,_,k4,_⟩:=h.vers.get (k:=4) (by omega)
 obtain ⟨b5,o5,ha5,_,dt,hdt,x0,x1,x2,x3,x4,x5,x6,x7⟩:=h.trns.get (k:=2) (by omega)
 obtain ⟨b5',o5',ha5',_,du,hdu,y0,y1,y2,y3,y4,y5,y6,y7⟩:=h.trns.get (k:=3) (by omega)
 rw [ha4] at ha4'
 rw [ha5] at ha5'
 simp only [Option.some.injEq,Addr.mk.injEq] at ha4' ha5'
 obtain ⟨rfl,rfl,_⟩:=ha4'
 obtain ⟨rfl,rfl,_⟩:=ha5'
 rw [List.getElem?_eq_getElem (by omega)] at e2 e3 e7 e4
 simp only [Option.map_some,Option.some.injEq,Prod.mk.injEq] at e2 e3 e7 e4
 rw [e7] at k7
 rw [e4] at k4
 rw [e2.1] at x1
 rw [e2.2] at x2
 rw [e3.1] at y1
 rw [e3.2] at y2
 obtain ⟨ta,tc,rfl⟩:=hdt.len
 obtain ⟨ua,uc,rfl⟩:=hdu.len
 exact ⟨b4,o4,b5,o5,ha4,ha5,k7,k4,⟨_,_,_,_,_,_,_,_,x0,x1,x2,x3,x4,x5,x6,x7⟩,⟨_,_,_,_,_,_,_,_,y0,y1,y2,y3,y4,y5,y6,y7⟩⟩
theorem ne_new {q:World} {u u':Nat} {o:Obj} (h:On q u o) (e:q.heap.size=u'):u≠u':=by
 have:=(Array.getElem?_eq_some_iff.1 h).1
 omega
theorem On.free {q:World} {u:Nat} {cur:Array Value} {T:TypeId} (h:On q u (.cells cur T)) (k:Nat):q.frozen? ⟨u,k,none⟩=false:=by
 unfold On at h
 unfold World.frozen?
 simp [h]
theorem oct_of {W q:World} {u n:Nat} {T:TypeId} {z0 z1 z2 z3 z4 z5 z6 z7:Value} (hz:On q u (.cells #[z0,z1,z2,z3,z4,z5,z6,z7] T)) (hb:Below n W q) (hl:n<=u) (v0 v1 v2 v3 v4 v5 v6 v7:Value) :
   ∃ q',((((((((q.setCell ⟨u,0,none⟩ v0).setCell ⟨u,1,none⟩ v1).setCell ⟨u,2,none⟩ v2).setCell ⟨u,3,none⟩ v3).setCell ⟨u,4,none⟩ v4).setCell ⟨u,5,none⟩ v5).setCell ⟨u,6,none⟩ v6).setCell ⟨u,7,none⟩ v7)=q'/\On q' u (.cells #[v0,v1,v2,v3,v4,v5,v6,v7] T)/\Below n W q'/\∀ u' o,u'≠u->On q u' o->On q' u' o:=by
 have hz':q.heap[u]? = some (.cells #[z0,z1,z2,z3,z4,z5,z6,z7] T (0,0)):=hz
 have q1:=box_set (box_set (box_set (box_set (box_set (box_set (box_set (box_set hz' 0 v0) 1 v1) 2 v2) 3 v3) 4 v4) 5 v5) 6 v6) 7 v7
 simp only [lyA,lyZ,lyS] at q1
 have q2:=((((((((AtB.refl u q).set 0 v0).set 1 v1).set 2 v2).set 3 v3).set 4 v4).set 5 v5).set 6 v6).set 7 v7
 exact ⟨_,rfl,q1,hb.trans (q2.below hl),fun u' o h k=>(q2.block _ h).trans k⟩
theorem works18_any (w:World) (hT:Tab w):Calls Tryz.prog 6 #[] w fun e w'=>e=.returned (.bool true)/\Below w.heap.size w w':=by
 obtain ⟨n1,hn1⟩:=ex2 (machM nmN [nm0] [])
 obtain ⟨m1,hm1⟩:=ex2 (machM nmM [nmN] [])
 have HN1:=hid (mach1 nmN nm0 (by decide) hn1 (T:=9))
 have HM1:=hid (mach1 nmM nmN (by decide) hm1 (T:=9))
 have sz:∀ {nm s:ByteArray},nm.size<=1000->s.size<=1000->MdlOk (machM nm [s] [])/\Prt (machM nm [s] []):=fun {nm s} h1 h2=>mach_ok h1 (fun t ht=>by rw [List.mem_singleton] at ht;subst ht;exact h2) (fun x h=>by cases h) (by show 1<=100;decide) (by show 0<=100;decide)
 have on1:MdlOk n1/\Prt n1:=by rw [<- hn1];exact sz (by decide) (by decide)
 have om1':MdlOk m1/\Prt m1:=by rw [<- hm1];exact sz (by decide) (by decide)
 obtain ⟨RA,hRA⟩:=ex2 ((expM exA).1)
 have hXA:expM [m1,n1]=(RA,(0,0)):=by rw [<- hRA,<- hm1,<- hn1];exact Prod.ext rfl exA_is.1
 have HXA:=hid (expand2 hXA om1' on1)
 obtain ⟨m2,hm2⟩:=ex2 (machM nmM [nm0] [])
 obtain ⟨n2,hn2⟩:=ex2 (machM nmN [nmN] [])
 obtain ⟨m3,hm3⟩:∃ m,machM nmM [nmN] [pEn,pEx]=m:=⟨_,rfl⟩
 have HM2:=hid (mach1 nmM nm0 (by decide) hm2 (T:=9))
 have HN2:=hid (mach1 nmN nmN (by decide) hn2 (T:=9))
 have HM3:=hid (mach2 hm3)
 have om2':MdlOk m2/\Prt m2:=by rw [<- hm2];exact sz (by decide) (by decide)
 have on2':MdlOk n2/\Prt n2:=by rw [<- hn2];exact sz (by decide) (by decide)
 have om3':MdlOk m3/\Prt m3:=by rw [<- hm3];exact mach_ok (by decide) (fun t ht=>by rw [List.mem_singleton] at ht;subst ht;decide) pts_ok (by show 1<=100;decide) (by show 2<=100;decide)
 obtain ⟨RB,hRB⟩:=ex2 ((expM exB).1)
 obtain ⟨RC,hRC⟩:=ex2 ((expM exC).1)
 obtain ⟨RD,hRD⟩:=ex2 ((expM exD).1)
 have hXB:expM [m1]=(RB,(0,180)):=by rw [<- hRB,<- hm1];exact Prod.ext rfl exB_is
 have hXC:expM [m2,n2]=(RC,(1,180)):=by rw [<- hRC,<- hm2,<- hn2];exact Prod.ext rfl exC_is
 have hXD:expM [m3,n1]=(RD,(0,0)):=by rw [<- hRD,<- hm3,<- hn1];exact Prod.ext rfl exD_is.1
 have HXB:=hid (expand1 hXB om1')
 have HXC:=hid (expand2 hXC om2' on2')
 have HXD:=hid (expand2 hXD om3' on1)
 have hA:=exA_is.2
 have hD:=exD_is.2
 rw [hRA] at hA
 rw [hRD] at hD
 have HA:=hid hA
 have HD:=hid hD
 clear hA hD
 have HT:=hid hT
 have r0:On (w.alloc (.cells #[.string ⟨#[]⟩] 9)) w.heap.size (.cells #[.string ⟨#[]⟩] 9):=World.alloc_heap_new _ _
 have hb0:=below_al1 w (.cells #[.string ⟨#[]⟩] 9)
 clear hT sz on1 om1' hXA hm1 hn1 om2' on2' om3' hXB hXC hXD hm2 hn2 hm3 hRA hRB hRC hRD
 go_enter Tryz.func6,Tryz.ntmps6
 go_upto_region 2 with ((with_reducible refine (HN1.o _ _ r0).mono ?_);rintro e w1 ⟨p1,rfl,ho1,g1⟩;unfold mdV)
 have hbW:Below w.heap.size w (w1.alloc (.cells #[.string n1.nm,.slice p1.a1 n1.vars.length p1.c1,.slice p1.a2 n1.evs.length p1.c2,.slice p1.a3 n1.regs.length p1.c3,.slice p1.a4 n1.vers.length p1.c4,.slice p1.a5 n1.trns.length p1.c5] 42)):=(hb0.trans (g1.mono hb0.size)).trans ((below_al1 w1 _).mono (Nat.le_trans hb0.size g1.size))
 have hmn:TM _ n1 p1:=TM.below ⟨_,ho1.mod⟩ (below_al1 w1 (.cells #[.string n1.nm,.slice p1.a1 n1.vars.length p1.c1,.slice p1.a2 n1.evs.length p1.c2,.slice p1.a3 n1.regs.length p1.c3,.slice p1.a4 n1.vers.length p1.c4,.slice p1.a5 n1.trns.length p1.c5] 42))
 have hon:On (w1.alloc (.cells #[.string n1.nm,.slice p1.a1 n1.vars.length p1.c1,.slice p1.a2 n1.evs.length p1.c2,.slice p1.a3 n1.regs.length p1.c3,.slice p1.a4 n1.vers.length p1.c4,.slice p1.a5 n1.trns.length p1.c5] 42)) w1.heap.size (.cells #[.string n1.nm,.slice p1.a1 n1.vars.length p1.c1,.slice p1.a2 n1.evs.length p1.c2,.slice p1.a3 n1.regs.length p1.c3,.slice p1.a4 n1.vers.length p1.c4,.slice p1.a5 n1.trns.length p1.c5] 42):=World.alloc_heap_new _ _
 clear r0 hb0 ho1 g1
 generalize w1.alloc (.cells #[.string n1.nm,.slice p1.a1 n1.vars.length p1.c1,.slice p1.a2 n1.evs.length p1.c2,.slice p1.a3 n1.regs.length p1.c3,.slice p1.a4 n1.vers.length p1.c4,.slice p1.a5 n1.trns.length p1.c5] 42)=W2 at *
 generalize w1.heap.size=NB at *
 have HNB:Hid (∀ W',Below W2.heap.size W2 W'->W'.cell? ⟨NB,0,none⟩=some (.string n1.nm)/\W'.cell? ⟨NB,1,none⟩=some (.slice p1.a1 n1.vars.length p1.c1)/\W'.cell? ⟨NB,2,none⟩=some (.slice p1.a2 n1.evs.length p1.c2)/\W'.cell? ⟨NB,3,none⟩=some (.slice p1.a3 n1.regs.length p1.c3)/\W'.cell? ⟨NB,4,none⟩=some (.slice p1.a4 n1.vers.length p1.c4)/\W'.cell? ⟨NB,5,none⟩=some (.slice p1.a5 n1.trns.length p1.c5)):=hid fun W' g=>by
   have h:=hon.next g
   exact ⟨cell_row h,cell_row h,cell_row h,cell_row h,cell_row h,cell_row h⟩
 have MN1:Hid (∀ q,Below W2.heap.size W2 q->TM q n1 p1):=hid fun q g=>hmn.below g
 have HTb:Hid (∀ q,Below W2.heap.size W2 q->Tab q):=hid fun q g=>HT.o.next (hbW.trans (g.mono hbW.size))
 have HB2:=hid hbW
 clear hmn hon hbW
 go_cut [2,3,4] (fun s2 s3 s4 wx=>s3=.int .i64 0/\s4=.int .i64 0/\∃ u9 pa,s2=.pointer (some ⟨u9,0,none⟩)/\On wx u9 (.cells #[.string RA.nm,.slice pa.a1 RA.vars.length pa.c1,.slice pa.a2 RA.evs.length pa.c2,.slice pa.a3 RA.regs.length pa.c3,.slice pa.a4 RA.vers.length pa.c4,.slice pa.a5 RA.trns.length pa.c5] 42)/\TM wx RA pa/\Below W2.heap.size W2 wx)
 case first =>
  apply join_of
  intro J2
  refine wp_region_any (by kernel_rfl) ?_
  change wpAny _ _ _ _ _ _ _ (World.drew _)
  (have hb:Below W2.heap.size W2 (World.drew W2):=(Below.refl _ _).drew;generalize World.drew W2=Wd at hb |-)
  refine wpAny_of_heldS (S:=(fun W'=>W'.cell? ⟨NB,0,none⟩=some (.string n1.nm)/\W'.cell? ⟨NB,1,none⟩=some (.slice p1.a1 n1.vars.length p1.c1)/\W'.cell? ⟨NB,2,none⟩=some (.slice p1.a2 n1.evs.length p1.c2)/\W'.cell? ⟨NB,3,none⟩=some (.slice p1.a3 n1.regs.length p1.c3)/\W'.cell? ⟨NB,4,none⟩=some (.slice p1.a4 n1.vers.length p1.c4)/\W'.cell? ⟨NB,5,none⟩=some (.slice p1.a5 n1.trns.length p1.c5))) ?_ (fun hHeld=>?_)
  (exact HNB.o _ hb)
  refine tk 2 rfl ?_
  refine rdy [0,9] ?_
  refine rdC rfl (fun K hK=>?_) ?_
  (go_simp;obtain ⟨u0,q0,eu,eq,g,r0,lx⟩:=al_of hb (.cells #[.string ⟨#[78]⟩] 9);rw [eu,eq];clear eu eq;(try replace b9:=b9.next g);replace hb:=hb.trans (g.mono hb.size);clear g lx)
  refine nx hK ?_ (fun hH1=>?_)
  (exact HNB.o _ hb)
  clear hK K hHeld
  refine rdy [1,9] ?_
  refine rdC rfl (fun K hK=>?_) ?_
  (go_simp;(with_reducible refine (HM1.o _ _ r0).mono ?_);rintro e q1 ⟨pm,rfl,ho1,g⟩;unfold mdV;have om1:TM q1 m1 pm:=⟨_,ho1.mod⟩;clear ho1 r0;(try replace b9:=b9.next g);replace hb:=hb.trans (g.mono hb.size);clear g;go_wp2_with fail)
  refine nx hK ?_ (fun hH2=>?_)
  (exact HNB.o _ hb)
  clear hK K hH1
  refine rdy [3,9] ?_
  refine rdC rfl (fun K hK=>?_) ?_
  (go_simp;obtain ⟨u3,q3,eu,eq,g,r3,lx⟩:=al_of hb (.cells #[.string m1.nm,.slice pm.a1 m1.vars.length pm.c1,.slice pm.a2 m1.evs.length pm.c2,.slice pm.a3 m1.regs.length pm.c3,.slice pm.a4 m1.vers.length pm.c4,.slice pm.a5 m1.trns.length pm.c5,.string n1.nm,.slice p1.a1 n1.vars.length p1.c1,.slice p1.a2 n1.evs.length p1.c2,.slice p1.a3 n1.regs.length p1.c3,.slice p1.a4 n1.vers.length p1.c4,.slice p1.a5 n1.trns.length p1.c5] 42);rw [eu,eq];clear eu eq;(try replace b9:=b9.next g);(try replace om1:=om1.below g);replace hb:=hb.trans (g.mono hb.size);clear g lx)
  refine nx hK ?_ (fun hH3=>?_)
  (exact HNB.o _ hb)
  clear hK K hH2
  refine rdy [4,9] ?_
  refine rdC rfl (fun K hK=>?_) ?_
  (go_simp;(with_reducible refine (HXA.o _ _ _ _ r3 om1.any (MN1.o _ hb).any (HTb.o _ hb)).mono ?_);rintro e q4 ⟨pa,rfl,oa,g⟩;unfold mdV;clear r3 om1;(try replace b9:=b9.next g);replace hb:=hb.trans (g.mono hb.size);clear g;go_wp2_with fail)
  refine nx hK ?_ (fun hH4=>?_)
  (exact HNB.o _ hb)
  clear hK K hH3
  refine tk 5 rfl ?_
  refine tk 6 rfl ?_
  refine tk 7 rfl ?_
  refine tk 8 rfl ?_
  refine rd1 9 (fun K hK=>?_)
  (go_simp;obtain ⟨u9,q9,eu,eq,g,b9,lx⟩:=al_of hb (.cells #[.string ⟨#[]⟩,.slice none 0 0,.slice none 0 0,.slice none 0 0,.slice none 0 0,.slice none 0 0] 42);rw [eu,eq];clear eu eq;(try replace r0:=r0.next g);(try replace r3:=r3.next g);(try replace om1:=om1.below g);(try replace oa:=oa.below g);replace hb:=hb.trans (g.mono hb.size);clear g;have l9:=lx;clear lx)
  refine nx hK ?_ (fun hH5=>?_)
  (exact HNB.o _ hb)
  clear hK K hH4
  (first | (clear q9 q0 q1 q3;generalize q4=qz at *;clear q4) | (clear q4 q0 q1 q3;generalize q9=qz at *;clear q9))
  revert hH5
  revert oa
  revert l9
  revert b9
  revert hb
  revert qz
  revert pa
  revert u9
  revert u3
  revert pm
  revert u0
  exact J2.o
  refine rdC rfl (fun K hK=>?_) ?_
  (go_simp;obtain ⟨u9,q9,eu,eq,g,b9,lx⟩:=al_of hb (.cells #[.string ⟨#[]⟩,.slice none 0 0,.slice none 0 0,.slice none 0 0,.slice none 0 0,.slice none 0 0] 42);rw [eu,eq];clear eu eq;(try replace r0:=r0.next g);(try replace r3:=r3.next g);(try replace om1:=om1.below g);(try replace oa:=oa.below g);replace hb:=hb.trans (g.mono hb.size);clear g;have l9:=lx;clear lx)
  refine nx hK ?_ (fun hH6=>?_)
  (exact HNB.o _ hb)
  clear hK K hH3
  refine rd1 4 (fun K hK=>?_)
  (go_simp;(with_reducible refine (HXA.o _ _ _ _ r3 om1.any (MN1.o _ hb).any (HTb.o _ hb)).mono ?_);rintro e q4 ⟨pa,rfl,oa,g⟩;unfold mdV;clear r3 om1;(try replace b9:=b9.next g);replace hb:=hb.trans (g.mono hb.size);clear g;go_wp2_with fail)
  refine nx hK ?_ (fun hH7=>?_)
  (exact HNB.o _ hb)
  clear hK K hH6
  refine tk 5 rfl ?_
  refine tk 6 rfl ?_
  refine tk 7 rfl ?_
  refine tk 8 rfl ?_
  (first | (clear q9 q0 q1 q3;generalize q4=qz at *;clear q4) | (clear q4 q0 q1 q3;generalize q9=qz at *;clear q9))
  revert hH7
  revert oa
  revert l9
  revert b9
  revert hb
  revert qz
  revert pa
  revert u9
  revert u3
  revert pm
  revert u0
  exact J2.o
  exact AllReadyH.nil
  refine rdC rfl (fun K hK=>?_) ?_
  (go_simp;obtain ⟨u9,q9,eu,eq,g,b9,lx⟩:=al_of hb (.cells #[.string ⟨#[]⟩,.slice none 0 0,.slice none 0 0,.slice none 0 0,.slice none 0 0,.slice none 0 0] 42);rw [eu,eq];clear eu eq;(try replace r0:=r0.next g);(try replace r3:=r3.next g);(try replace om1:=om1.below g);(try replace oa:=oa.below g);replace hb:=hb.trans (g.mono hb.size);clear g;have l9:=lx;clear lx)
  refine nx hK ?_ (fun hH8=>?_)
  (exact HNB.o _ hb)
  clear hK K hH2
  refine rd1 3 (fun K hK=>?_)
  (go_simp;obtain ⟨u3,q3,eu,eq,g,r3,lx⟩:=al_of hb (.cells #[.string m1.nm,.slice pm.a1 m1.vars.length pm.c1,.slice pm.a2 m1.evs.length pm.c2,.slice pm.a3 m1.regs.length pm.c3,.slice pm.a4 m1.vers.length pm.c4,.slice pm.a5 m1.trns.length pm.c5,.string n1.nm,.slice p1.a1 n1.vars.length p1.c1,.slice p1.a2 n1.evs.length p1.c2,.slice p1.a3 n1.regs.length p1.c3,.slice p1.a4 n1.vers.length p1.c4,.slice p1.a5 n1.trns.length p1.c5] 42);rw [eu,eq];clear eu eq;(try replace b9:=b9.next g);(try replace om1:=om1.below g);replace hb:=hb.trans (g.mono hb.size);clear g lx)
  refine nx hK ?_ (fun hH9=>?_)
  (exact HNB.o _ hb)
  clear hK K hH8
  refine rd1 4 (fun K hK=>?_)
  (go_simp;(with_reducible refine (HXA.o _ _ _ _ r3 om1.any (MN1.o _ hb).any (HTb.o _ hb)).mono ?_);rintro e q4 ⟨pa,rfl,oa,g⟩;unfold mdV;clear r3 om1;(try replace b9:=b9.next g);replace hb:=hb.trans (g.mono hb.size);clear g;go_wp2_with fail)
  refine nx hK ?_ (fun hH10=>?_)
  (exact HNB.o _ hb)
  clear hK K hH9
  refine tk 5 rfl ?_
  refine tk 6 rfl ?_
  refine tk 7 rfl ?_
  refine tk 8 rfl ?_
  (first | (clear q9 q0 q1 q3;generalize q4=qz at *;clear q4) | (clear q4 q0 q1 q3;generalize q9=qz at *;clear q9))
  revert hH10
  revert oa
  revert l9
  revert b9
  revert hb
  revert qz
  revert pa
  revert u9
  revert u3
  revert pm
  revert u0
  exact J2.o
  exact AllReadyH.nil
  refine rdC rfl (fun K hK=>?_) ?_
  (go_simp;obtain ⟨u9,q9,eu,eq,g,b9,lx⟩:=al_of hb (.cells #[.string ⟨#[]⟩,.slice none 0 0,.slice none 0 0,.slice none 0 0,.slice none 0 0,.slice none 0 0] 42);rw [eu,eq];clear eu eq;(try replace r0:=r0.next g);(try replace r3:=r3.next g);(try replace om1:=om1.below g);(try replace oa:=oa.below g);replace hb:=hb.trans (g.mono hb.size);clear g;have l9:=lx;clear lx)
  refine nx hK ?_ (fun hH11=>?_)
  (exact HNB.o _ hb)
  clear hK K hH1
  refine rd1 1 (fun K hK=>?_)
  (go_simp;(with_reducible refine (HM1.o _ _ r0).mono ?_);rintro e q1 ⟨pm,rfl,ho1,g⟩;unfold mdV;have om1:TM q1 m1 pm:=⟨_,ho1.mod⟩;clear ho1 r0;(try replace b9:=b9.next g);replace hb:=hb.trans (g.mono hb.size);clear g;go_wp2_with fail)
  refine nx hK ?_ (fun hH12=>?_)
  (exact HNB.o _ hb)
  clear hK K hH11
  refine rd1 3 (fun K hK=>?_)
  (go_simp;obtain ⟨u3,q3,eu,eq,g,r3,lx⟩:=al_of hb (.cells #[.string m1.nm,.slice pm.a1 m1.vars.length pm.c1,.slice pm.a2 m1.evs.length pm.c2,.slice pm.a3 m1.regs.length pm.c3,.slice pm.a4 m1.vers.length pm.c4,.slice pm.a5 m1.trns.length pm.c5,.string n1.nm,.slice p1.a1 n1.vars.length p1.c1,.slice p1.a2 n1.evs.length p1.c2,.slice p1.a3 n1.regs.length p1.c3,.slice p1.a4 n1.vers.length p1.c4,.slice p1.a5 n1.trns.length p1.c5] 42);rw [eu,eq];clear eu eq;(try replace b9:=b9.next g);(try replace om1:=om1.below g);replace hb:=hb.trans (g.mono hb.size);clear g lx)
  refine nx hK ?_ (fun hH13=>?_)
  (exact HNB.o _ hb)
  clear hK K hH12
  refine rd1 4 (fun K hK=>?_)
  (go_simp;(with_reducible refine (HXA.o _ _ _ _ r3 om1.any (MN1.o _ hb).any (HTb.o _ hb)).mono ?_);rintro e q4 ⟨pa,rfl,oa,g⟩;unfold mdV;clear r3 om1;(try replace b9:=b9.next g);replace hb:=hb.trans (g.mono hb.size);clear g;go_wp2_with fail)
  refine nx hK ?_ (fun hH14=>?_)
  (exact HNB.o _ hb)
  clear hK K hH13
  refine tk 5 rfl ?_
  refine tk 6 rfl ?_
  refine tk 7 rfl ?_
  refine tk 8 rfl ?_
  (first | (clear q9 q0 q1 q3;generalize q4=qz at *;clear q4) | (clear q4 q0 q1 q3;generalize q9=qz at *;clear q9))
  revert hH14
  revert oa
  revert l9
  revert b9
  revert hb
  revert qz
  revert pa
  revert u9
  revert u3
  revert pm
  revert u0
  exact J2.o
  exact AllReadyH.nil
  refine rdC rfl (fun K hK=>?_) ?_
  (go_simp;obtain ⟨u9,q9,eu,eq,g,b9,lx⟩:=al_of hb (.cells #[.string ⟨#[]⟩,.slice none 0 0,.slice none 0 0,.slice none 0 0,.slice none 0 0,.slice none 0 0] 42);rw [eu,eq];clear eu eq;(try replace r0:=r0.next g);(try replace r3:=r3.next g);(try replace om1:=om1.below g);(try replace oa:=oa.below g);replace hb:=hb.trans (g.mono hb.size);clear g;have l9:=lx;clear lx)
  refine nx hK ?_ (fun hH15=>?_)
  (exact HNB.o _ hb)
  clear hK K hHeld
  refine rd1 0 (fun K hK=>?_)
  (go_simp;obtain ⟨u0,q0,eu,eq,g,r0,lx⟩:=al_of hb (.cells #[.string ⟨#[78]⟩] 9);rw [eu,eq];clear eu eq;(try replace b9:=b9.next g);replace hb:=hb.trans (g.mono hb.size);clear g lx)
  refine nx hK ?_ (fun hH16=>?_)
  (exact HNB.o _ hb)
  clear hK K hH15
  refine rd1 1 (fun K hK=>?_)
  (go_simp;(with_reducible refine (HM1.o _ _ r0).mono ?_);rintro e q1 ⟨pm,rfl,ho1,g⟩;unfold mdV;have om1:TM q1 m1 pm:=⟨_,ho1.mod⟩;clear ho1 r0;(try replace b9:=b9.next g);replace hb:=hb.trans (g.mono hb.size);clear g;go_wp2_with fail)
  refine nx hK ?_ (fun hH17=>?_)
  (exact HNB.o _ hb)
  clear hK K hH16
  refine rd1 3 (fun K hK=>?_)
  (go_simp;obtain ⟨u3,q3,eu,eq,g,r3,lx⟩:=al_of hb (.cells #[.string m1.nm,.slice pm.a1 m1.vars.length pm.c1,.slice pm.a2 m1.evs.length pm.c2,.slice pm.a3 m1.regs.length pm.c3,.slice pm.a4 m1.vers.length pm.c4,.slice pm.a5 m1.trns.length pm.c5,.string n1.nm,.slice p1.a1 n1.vars.length p1.c1,.slice p1.a2 n1.evs.length p1.c2,.slice p1.a3 n1.regs.length p1.c3,.slice p1.a4 n1.vers.length p1.c4,.slice p1.a5 n1.trns.length p1.c5] 42);rw [eu,eq];clear eu eq;(try replace b9:=b9.next g);(try replace om1:=om1.below g);replace hb:=hb.trans (g.mono hb.size);clear g lx)
  refine nx hK ?_ (fun hH18=>?_)
  (exact HNB.o _ hb)
  clear hK K hH17
  refine rd1 4 (fun K hK=>?_)
  (go_simp;(with_reducible refine (HXA.o _ _ _ _ r3 om1.any (MN1.o _ hb).any (HTb.o _ hb)).mono ?_);rintro e q4 ⟨pa,rfl,oa,g⟩;unfold mdV;clear r3 om1;(try replace b9:=b9.next g);replace hb:=hb.trans (g.mono hb.size);clear g;go_wp2_with fail)
  refine nx hK ?_ (fun hH19=>?_)
  (exact HNB.o _ hb)
  clear hK K hH18
  refine tk 5 rfl ?_
  refine tk 6 rfl ?_
  refine tk 7 rfl ?_
  refine tk 8 rfl ?_
  (first | (clear q9 q0 q1 q3;generalize q4=qz at *;clear q4) | (clear q4 q0 q1 q3;generalize q9=qz at *;clear q9))
  revert hH19
  revert oa
  revert l9
  revert b9
  revert hb
  revert qz
  revert pa
  revert u9
  revert u3
  revert pm
  revert u0
  exact J2.o
  exact AllReadyH.nil
  intro u0 pm u3 u9 pa qz hb b9 l9 oa hH20
  refine rd1 10 (fun K hK=>?_)
  (obtain ⟨z0,z1,z2,z3,z4,z5,f0,f1,f2,f3,f4,f5⟩:=zero_box b9;go_simp;have hx:=six_of b9 oa hb l9;clear z0 z1 z2 z3 z4 z5 f0 f1 f2 f3 f4 f5 b9 oa hb l9;obtain ⟨qy,eq,b9,oa,hb,la⟩:=hx;rw [eq];clear eq)
  refine nx hK ?_ (fun hH21=>?_)
  (exact HNB.o _ hb)
  clear hK K hH20
  refine tk 11 rfl ?_
  refine tk 12 rfl ?_
  refine dn ?_
  rotate_left
  go_wp2_with fail
  go_meet
  exact ⟨rfl,rfl,u9,pa,rfl,b9,oa,hb⟩
 obtain ⟨rfl,rfl,u9,pa,rfl,b9,oa,hb⟩:=hcut
 obtain ⟨qy,rfl⟩:∃ q,q=wc:=⟨_,rfl⟩
 -- the library without 'N';'N' that uses itself
 have HTy:=hid fun q (g:Below qy.heap.size qy q)=>HTb.o q (hb.trans (g.mono hb.size))
 have MNy:=hid fun q (g:Below qy.heap.size qy q)=>MN1.o q (hb.trans (g.mono hb.size))
 have HNy:=hid fun q (g:Below qy.heap.size qy q)=>HNB.o q (hb.trans (g.mono hb.size))
 have BAy:=hid fun q (g:Below qy.heap.size qy q)=>And.intro (b9.next g) (oa.below g)
 have HBy:=hid (HB2.o.trans (hb.mono HB2.o.size))
 clear hb b9 oa HTb MN1 HNB HB2
 go_upto_region 3 with fail
 go_cut [7] (fun s7 wx=>s7=.int .i64 180/\Below qy.heap.size qy wx)
 case first =>
  go_wp2_with (first
    | ((with_reducible refine (HM1.o _ _ (on_new _ _)).mono ?_);rintro e w3 ⟨p3,rfl,ho3,g3⟩;unfold mdV;have om3:TM w3 m1 p3:=⟨_,ho3.mod⟩;have hb3:=below_al1 qy (.cells #[.string ⟨#[78]⟩] 9);replace hb3:=hb3.trans (g3.mono hb3.size))
    | ((with_reducible refine (HXB.o _ _ _ (on_new _ _) (TM.any (om3.below (below_al1 _ _))) (HTy.o _ (hb3.trans ((below_al1 w3 _).mono hb3.size)))).mono ?_);rintro e w4 ⟨p4,rfl,o4,g4⟩;unfold mdV;have hb4:=(hb3.trans ((below_al1 w3 (.cells #[.string m1.nm,.slice p3.a1 m1.vars.length p3.c1,.slice p3.a2 m1.evs.length p3.c2,.slice p3.a3 m1.regs.length p3.c3,.slice p3.a4 m1.vers.length p3.c4,.slice p3.a5 m1.trns.length p3.c5] 42)).mono hb3.size));replace hb4:=hb4.trans (g4.mono hb4.size)))
  go_meet
  exact ⟨rfl,hb4.trans ((below_al1 w4 _).mono hb4.size)⟩
 obtain ⟨rfl,hb5⟩:=hcut
 obtain ⟨W5,rfl⟩:∃ q,q=wc:=⟨_,rfl⟩
 go_upto_region 4 with fail
 go_cut [9,10] (fun s9 s10 wx=>s9=.int .i64 1/\s10=.int .i64 180/\Below qy.heap.size qy wx)
 case first =>
  go_wp2_with (first
    | ((with_reducible refine (HM2.o _ _ (on_new _ _)).mono ?_);rintro e w6 ⟨p6,rfl,ho6,g6⟩;unfold mdV;have om6:TM w6 m2 p6:=⟨_,ho6.mod⟩;have hb6:=hb5.trans ((below_al1 W5 (.cells #[.string ⟨#[]⟩] 9)).mono hb5.size);replace hb6:=hb6.trans (g6.mono hb6.size))
    | ((with_reducible refine (HN2.o _ _ (on_new _ _)).mono ?_);rintro e w7 ⟨p7,rfl,ho7,g7⟩;unfold mdV;have on7:TM w7 n2 p7:=⟨_,ho7.mod⟩;have om7:=(om6.below (below_al1 w6 (.cells #[.string ⟨#[78]⟩] 9))).below g7;have hb7:=hb6.trans ((below_al1 w6 (.cells #[.string ⟨#[78]⟩] 9)).mono hb6.size);replace hb7:=hb7.trans (g7.mono hb7.size))
    | ((with_reducible refine (HXC.o _ _ _ _ (on_new _ _) (TM.any (om7.below (below_al1 _ _))) (TM.any (on7.below (below_al1 _ _))) (HTy.o _ (hb7.trans ((below_al1 w7 _).mono hb7.size)))).mono ?_);rintro e w8 ⟨p8,rfl,o8,g8⟩;unfold mdV;have hb8:=(hb7.trans ((below_al1 w7 (.cells #[.string m2.nm,.slice p6.a1 m2.vars.length p6.c1,.slice p6.a2 m2.evs.length p6.c2,.slice p6.a3 m2.regs.length p6.c3,.slice p6.a4 m2.vers.length p6.c4,.slice p6.a5 m2.trns.length p6.c5,.string n2.nm,.slice p7.a1 n2.vars.length p7.c1,.slice p7.a2 n2.evs.length p7.c2,.slice p7.a3 n2.regs.length p7.c3,.slice p7.a4 n2.vers.length p7.c4,.slice p7.a5 n2.trns.length p7.c5] 42)).mono hb7.size));replace hb8:=hb8.trans (g8.mono hb8.size)))
  go_meet
  exact ⟨rfl,rfl,hb8.trans ((below_al1 w8 _).mono hb8.size)⟩
 obtain ⟨rfl,rfl,hb9⟩:=hcut
 obtain ⟨W9,rfl⟩:∃ q,q=wc:=⟨_,rfl⟩
 -- with points
 have HT9:=hid fun q (g:Below W9.heap.size W9 q)=>HTy.o q (hb9.trans (g.mono hb9.size))
 have MN9:=hid fun q (g:Below W9.heap.size W9 q)=>MNy.o q (hb9.trans (g.mono hb9.size))
 have HN9:=hid fun q (g:Below W9.heap.size W9 q)=>HNy.o q (hb9.trans (g.mono hb9.size))
 have BA9:=hid fun q (g:Below W9.heap.size W9 q)=>BAy.o q (hb9.trans (g.mono hb9.size))
 have HB9:=hid (HBy.o.trans (hb9.mono HBy.o.size))
 clear hb9 hb5 HTy MNy HNy BAy HBy
 go_upto_region 5 with fail
 go_cut [11,12,13] (fun s11 s12 s13 wx=>s13=.int .i64 0/\∃ u12 pd,s11=.pointer (some ⟨u12,0,none⟩)/\On wx u12 (.cells #[.string RD.nm,.slice pd.a1 RD.vars.length pd.c1,.slice pd.a2 RD.evs.length pd.c2,.slice pd.a3 RD.regs.length pd.c3,.slice pd.a4 RD.vers.length pd.c4,.slice pd.a5 RD.trns.length pd.c5] 42)/\TM wx RD pd/\Below W9.heap.size W9 wx)
 case first =>
  apply join_of
  intro J5c
  apply join_of
  intro J5b
  apply join_of
  intro J5a
  refine wp_region_any (by kernel_rfl) ?_
  change wpAny _ _ _ _ _ _ _ (World.drew _)
  (have hb:Below W9.heap.size W9 (World.drew W9):=(Below.refl _ _).drew;generalize World.drew W9=Wd at hb |-)
  refine wpAny_of_heldS (S:=(fun W'=>W'.cell? ⟨NB,0,none⟩=some (.string n1.nm)/\W'.cell? ⟨NB,1,none⟩=some (.slice p1.a1 n1.vars.length p1.c1)/\W'.cell? ⟨NB,2,none⟩=some (.slice p1.a2 n1.evs.length p1.c2)/\W'.cell? ⟨NB,3,none⟩=some (.slice p1.a3 n1.regs.length p1.c3)/\W'.cell? ⟨NB,4,none⟩=some (.slice p1.a4 n1.vers.length p1.c4)/\W'.cell? ⟨NB,5,none⟩=some (.slice p1.a5 n1.trns.length p1.c5))) ?_ (fun hHeld=>?_)
  (exact HN9.o _ hb)
  refine tk 1 rfl ?_
  refine tk 2 rfl ?_
  refine tk 5 rfl ?_
  refine rdy [0,3,12] ?_
  refine rdC rfl (fun K hK=>?_) ?_
  (go_simp;obtain ⟨u0,q0,eu,eq,g,r0,lx⟩:=al_of hb (.cells #[.string ⟨#[78]⟩] 9);rw [eu,eq];clear eu eq;(try replace b12:=b12.next g);(try replace r3:=r3.next g);replace hb:=hb.trans (g.mono hb.size);clear g lx)
  refine nx hK ?_ (fun hH1=>?_)
  (exact HN9.o _ hb)
  clear hK K hHeld
  refine rdy [3,12] ?_
  refine rdC rfl (fun K hK=>?_) ?_
  (go_simp;obtain ⟨u3,q3,eu,eq,g,r3,lx⟩:=al_of hb (.cells #[.string ⟨#[116]⟩,.int .u8 10,.int .i64 0,.int .i64 0,.string ⟨#[]⟩,.string ⟨#[]⟩,.slice none 0 0,.string ⟨#[]⟩,.string ⟨#[100,111,110,101]⟩,.int .u8 11,.int .i64 0,.int .i64 0,.string ⟨#[]⟩,.string ⟨#[]⟩,.slice none 0 0,.string ⟨#[]⟩] 49);rw [eu,eq];clear eu eq;(try replace b12:=b12.next g);(try replace r0:=r0.next g);replace hb:=hb.trans (g.mono hb.size);clear g lx)
  refine nx hK ?_ (fun hH2=>?_)
  (exact HN9.o _ hb)
  clear hK K hH1
  (first | (clear q0;generalize q3=qa at *;clear q3) | (clear q3;generalize q0=qa at *;clear q0))
  revert hH2
  revert r3
  revert r0
  revert hb
  revert qa
  revert u3
  revert u0
  exact J5a.o
  refine rdC rfl (fun K hK=>?_) ?_
  (go_simp;obtain ⟨u12,q12,eu,eq,g,b12,lx⟩:=al_of hb (.cells #[.string ⟨#[]⟩,.slice none 0 0,.slice none 0 0,.slice none 0 0,.slice none 0 0,.slice none 0 0] 42);rw [eu,eq];clear eu eq;(try replace r0:=r0.next g);(try replace r3:=r3.next g);(try replace r6:=r6.next g);(try replace om3:=om3.below g);(try replace od:=od.below g);replace hb:=hb.trans (g.mono hb.size);clear g;have l12:=lx;clear lx)
  refine nx hK ?_ (fun hH3=>?_)
  (exact HN9.o _ hb)
  clear hK K hH1
  refine rd1 3 (fun K hK=>?_)
  (go_simp;obtain ⟨u3,q3,eu,eq,g,r3,lx⟩:=al_of hb (.cells #[.string ⟨#[116]⟩,.int .u8 10,.int .i64 0,.int .i64 0,.string ⟨#[]⟩,.string ⟨#[]⟩,.slice none 0 0,.string ⟨#[]⟩,.string ⟨#[100,111,110,101]⟩,.int .u8 11,.int .i64 0,.int .i64 0,.string ⟨#[]⟩,.string ⟨#[]⟩,.slice none 0 0,.string ⟨#[]⟩] 49);rw [eu,eq];clear eu eq;(try replace b12:=b12.next g);(try replace r0:=r0.next g);replace hb:=hb.trans (g.mono hb.size);clear g lx)
  refine nx hK ?_ (fun hH4=>?_)
  (exact HN9.o _ hb)
  clear hK K hH3
  (first | (clear q0 q3;generalize q12=qb at *;clear q12) | (clear q0 q12;generalize q3=qb at *;clear q3) | (clear q3 q12;generalize q0=qb at *;clear q0) | (clear qa;generalize q12=qb at *;clear q12))
  revert hH4
  revert l12
  revert b12
  revert r3
  revert r0
  revert hb
  revert qb
  revert u12
  revert u3
  revert u0
  exact J5b.o
  exact AllReadyH.nil
  refine rdC rfl (fun K hK=>?_) ?_
  (go_simp;obtain ⟨u3,q3,eu,eq,g,r3,lx⟩:=al_of hb (.cells #[.string ⟨#[116]⟩,.int .u8 10,.int .i64 0,.int .i64 0,.string ⟨#[]⟩,.string ⟨#[]⟩,.slice none 0 0,.string ⟨#[]⟩,.string ⟨#[100,111,110,101]⟩,.int .u8 11,.int .i64 0,.int .i64 0,.string ⟨#[]⟩,.string ⟨#[]⟩,.slice none 0 0,.string ⟨#[]⟩] 49);rw [eu,eq];clear eu eq;(try replace b12:=b12.next g);(try replace r0:=r0.next g);replace hb:=hb.trans (g.mono hb.size);clear g lx)
  refine nx hK ?_ (fun hH5=>?_)
  (exact HN9.o _ hb)
  clear hK K hHeld
  refine rdy [0,12] ?_
  refine rdC rfl (fun K hK=>?_) ?_
  (go_simp;obtain ⟨u0,q0,eu,eq,g,r0,lx⟩:=al_of hb (.cells #[.string ⟨#[78]⟩] 9);rw [eu,eq];clear eu eq;(try replace b12:=b12.next g);(try replace r3:=r3.next g);replace hb:=hb.trans (g.mono hb.size);clear g lx)
  refine nx hK ?_ (fun hH6=>?_)
  (exact HN9.o _ hb)
  clear hK K hH5
  (first | (clear q0;generalize q3=qa at *;clear q3) | (clear q3;generalize q0=qa at *;clear q0))
  revert hH6
  revert r3
  revert r0
  revert hb
  revert qa
  revert u3
  revert u0
  exact J5a.o
  refine rdC rfl (fun K hK=>?_) ?_
  (go_simp;obtain ⟨u12,q12,eu,eq,g,b12,lx⟩:=al_of hb (.cells #[.string ⟨#[]⟩,.slice none 0 0,.slice none 0 0,.slice none 0 0,.slice none 0 0,.slice none 0 0] 42);rw [eu,eq];clear eu eq;(try replace r0:=r0.next g);(try replace r3:=r3.next g);(try replace r6:=r6.next g);(try replace om3:=om3.below g);(try replace od:=od.below g);replace hb:=hb.trans (g.mono hb.size);clear g;have l12:=lx;clear lx)
  refine nx hK ?_ (fun hH7=>?_)
  (exact HN9.o _ hb)
  clear hK K hH5
  refine rd1 0 (fun K hK=>?_)
  (go_simp;obtain ⟨u0,q0,eu,eq,g,r0,lx⟩:=al_of hb (.cells #[.string ⟨#[78]⟩] 9);rw [eu,eq];clear eu eq;(try replace b12:=b12.next g);(try replace r3:=r3.next g);replace hb:=hb.trans (g.mono hb.size);clear g lx)
  refine nx hK ?_ (fun hH8=>?_)
  (exact HN9.o _ hb)
  clear hK K hH7
  (first | (clear q0 q3;generalize q12=qb at *;clear q12) | (clear q0 q12;generalize q3=qb at *;clear q3) | (clear q3 q12;generalize q0=qb at *;clear q0) | (clear qa;generalize q12=qb at *;clear q12))
  revert hH8
  revert l12
  revert b12
  revert r3
  revert r0
  revert hb
  revert qb
  revert u12
  revert u3
  revert u0
  exact J5b.o
  exact AllReadyH.nil
  refine rdC rfl (fun K hK=>?_) ?_
  (go_simp;obtain ⟨u12,q12,eu,eq,g,b12,lx⟩:=al_of hb (.cells #[.string ⟨#[]⟩,.slice none 0 0,.slice none 0 0,.slice none 0 0,.slice none 0 0,.slice none 0 0] 42);rw [eu,eq];clear eu eq;(try replace r0:=r0.next g);(try replace r3:=r3.next g);(try replace r6:=r6.next g);(try replace om3:=om3.below g);(try replace od:=od.below g);replace hb:=hb.trans (g.mono hb.size);clear g;have l12:=lx;clear lx)
  refine nx hK ?_ (fun hH9=>?_)
  (exact HN9.o _ hb)
  clear hK K hHeld
  refine rdy [0,3] ?_
  refine rdC rfl (fun K hK=>?_) ?_
  (go_simp;obtain ⟨u0,q0,eu,eq,g,r0,lx⟩:=al_of hb (.cells #[.string ⟨#[78]⟩] 9);rw [eu,eq];clear eu eq;(try replace b12:=b12.next g);(try replace r3:=r3.next g);replace hb:=hb.trans (g.mono hb.size);clear g lx)
  refine nx hK ?_ (fun hH10=>?_)
  (exact HN9.o _ hb)
  clear hK K hH9
  refine rd1 3 (fun K hK=>?_)
  (go_simp;obtain ⟨u3,q3,eu,eq,g,r3,lx⟩:=al_of hb (.cells #[.string ⟨#[116]⟩,.int .u8 10,.int .i64 0,.int .i64 0,.string ⟨#[]⟩,.string ⟨#[]⟩,.slice none 0 0,.string ⟨#[]⟩,.string ⟨#[100,111,110,101]⟩,.int .u8 11,.int .i64 0,.int .i64 0,.string ⟨#[]⟩,.string ⟨#[]⟩,.slice none 0 0,.string ⟨#[]⟩] 49);rw [eu,eq];clear eu eq;(try replace b12:=b12.next g);(try replace r0:=r0.next g);replace hb:=hb.trans (g.mono hb.size);clear g lx)
  refine nx hK ?_ (fun hH11=>?_)
  (exact HN9.o _ hb)
  clear hK K hH10
  (first | (clear q0 q3;generalize q12=qb at *;clear q12) | (clear q0 q12;generalize q3=qb at *;clear q3) | (clear q3 q12;generalize q0=qb at *;clear q0) | (clear qa;generalize q12=qb at *;clear q12))
  revert hH11
  revert l12
  revert b12
  revert r3
  revert r0
  revert hb
  revert qb
  revert u12
  revert u3
  revert u0
  exact J5b.o
  refine rdC rfl (fun K hK=>?_) ?_
  (go_simp;obtain ⟨u3,q3,eu,eq,g,r3,lx⟩:=al_of hb (.cells #[.string ⟨#[116]⟩,.int .u8 10,.int .i64 0,.int .i64 0,.string ⟨#[]⟩,.string ⟨#[]⟩,.slice none 0 0,.string ⟨#[]⟩,.string ⟨#[100,111,110,101]⟩,.int .u8 11,.int .i64 0,.int .i64 0,.string ⟨#[]⟩,.string ⟨#[]⟩,.slice none 0 0,.string ⟨#[]⟩] 49);rw [eu,eq];clear eu eq;(try replace b12:=b12.next g);(try replace r0:=r0.next g);replace hb:=hb.trans (g.mono hb.size);clear g lx)
  refine nx hK ?_ (fun hH12=>?_)
  (exact HN9.o _ hb)
  clear hK K hH9
  refine rd1 0 (fun K hK=>?_)
  (go_simp;obtain ⟨u0,q0,eu,eq,g,r0,lx⟩:=al_of hb (.cells #[.string ⟨#[78]⟩] 9);rw [eu,eq];clear eu eq;(try replace b12:=b12.next g);(try replace r3:=r3.next g);replace hb:=hb.trans (g.mono hb.size);clear g lx)
  refine nx hK ?_ (fun hH13=>?_)
  (exact HN9.o _ hb)
  clear hK K hH12
  (first | (clear q0 q3;generalize q12=qb at *;clear q12) | (clear q0 q12;generalize q3=qb at *;clear q3) | (clear q3 q12;generalize q0=qb at *;clear q0) | (clear qa;generalize q12=qb at *;clear q12))
  revert hH13
  revert l12
  revert b12
  revert r3
  revert r0
  revert hb
  revert qb
  revert u12
  revert u3
  revert u0
  exact J5b.o
  exact AllReadyH.nil
  exact AllReadyH.nil
  intro u0 u3 qa hb r0 r3 hH14
  refine rdy [4,12] ?_
  refine rdC rfl (fun K hK=>?_) ?_
  (go_simp;(with_reducible refine (HM3.o _ _ _ r0 r3).mono ?_);rintro e q4 ⟨pm,rfl,ho,g⟩;unfold mdV;have om3:TM q4 m3 pm:=⟨_,ho.mod⟩;clear ho r0 r3;(try replace b12:=b12.next g);replace hb:=hb.trans (g.mono hb.size);clear g;go_wp2_with fail)
  refine nx hK ?_ (fun hH15=>?_)
  (exact HN9.o _ hb)
  clear hK K hH14
  refine rdy [6,12] ?_
  refine rdC rfl (fun K hK=>?_) ?_
  (go_simp;obtain ⟨u6,q6,eu,eq,g,r6,lx⟩:=al_of hb (.cells #[.string m3.nm,.slice pm.a1 m3.vars.length pm.c1,.slice pm.a2 m3.evs.length pm.c2,.slice pm.a3 m3.regs.length pm.c3,.slice pm.a4 m3.vers.length pm.c4,.slice pm.a5 m3.trns.length pm.c5,.string n1.nm,.slice p1.a1 n1.vars.length p1.c1,.slice p1.a2 n1.evs.length p1.c2,.slice p1.a3 n1.regs.length p1.c3,.slice p1.a4 n1.vers.length p1.c4,.slice p1.a5 n1.trns.length p1.c5] 42);rw [eu,eq];clear eu eq;(try replace b12:=b12.next g);(try replace om3:=om3.below g);replace hb:=hb.trans (g.mono hb.size);clear g lx)
  refine nx hK ?_ (fun hH16=>?_)
  (exact HN9.o _ hb)
  clear hK K hH15
  refine rdy [7,12] ?_
  refine rdC rfl (fun K hK=>?_) ?_
  (go_simp;(with_reducible refine (HXD.o _ _ _ _ r6 om3.any (MN9.o _ hb).any (HT9.o _ hb)).mono ?_);rintro e q7 ⟨pd,rfl,od,g⟩;unfold mdV;clear r6 om3;(try replace b12:=b12.next g);replace hb:=hb.trans (g.mono hb.size);clear g;go_wp2_with fail)
  refine nx hK ?_ (fun hH17=>?_)
  (exact HN9.o _ hb)
  clear hK K hH16
  refine tk 8 rfl ?_
  refine tk 9 rfl ?_
  refine tk 10 rfl ?_
  refine tk 11 rfl ?_
  refine rd1 12 (fun K hK=>?_)
  (go_simp;obtain ⟨u12,q12,eu,eq,g,b12,lx⟩:=al_of hb (.cells #[.string ⟨#[]⟩,.slice none 0 0,.slice none 0 0,.slice none 0 0,.slice none 0 0,.slice none 0 0] 42);rw [eu,eq];clear eu eq;(try replace r0:=r0.next g);(try replace r3:=r3.next g);(try replace r6:=r6.next g);(try replace om3:=om3.below g);(try replace od:=od.below g);replace hb:=hb.trans (g.mono hb.size);clear g;have l12:=lx;clear lx)
  refine nx hK ?_ (fun hH18=>?_)
  (exact HN9.o _ hb)
  clear hK K hH17
  (first | (clear qb q4 q6;generalize q7=qz2 at *;clear q7) | (clear qa q4 q6 q12;generalize q7=qz2 at *;clear q7) | (clear qa q4 q6 q7;generalize q12=qz2 at *;clear q12))
  revert hH18
  revert od
  revert l12
  revert b12
  revert hb
  revert qz2
  revert pd
  revert u12
  revert u6
  revert pm
  revert u3
  revert u0
  exact J5c.o
  refine rdC rfl (fun K hK=>?_) ?_
  (go_simp;obtain ⟨u12,q12,eu,eq,g,b12,lx⟩:=al_of hb (.cells #[.string ⟨#[]⟩,.slice none 0 0,.slice none 0 0,.slice none 0 0,.slice none 0 0,.slice none 0 0] 42);rw [eu,eq];clear eu eq;(try replace r0:=r0.next g);(try replace r3:=r3.next g);(try replace r6:=r6.next g);(try replace om3:=om3.below g);(try replace od:=od.below g);replace hb:=hb.trans (g.mono hb.size);clear g;have l12:=lx;clear lx)
  refine nx hK ?_ (fun hH19=>?_)
  (exact HN9.o _ hb)
  clear hK K hH16
  refine rd1 7 (fun K hK=>?_)
  (go_simp;(with_reducible refine (HXD.o _ _ _ _ r6 om3.any (MN9.o _ hb).any (HT9.o _ hb)).mono ?_);rintro e q7 ⟨pd,rfl,od,g⟩;unfold mdV;clear r6 om3;(try replace b12:=b12.next g);replace hb:=hb.trans (g.mono hb.size);clear g;go_wp2_with fail)
  refine nx hK ?_ (fun hH20=>?_)
  (exact HN9.o _ hb)
  clear hK K hH19
  refine tk 8 rfl ?_
  refine tk 9 rfl ?_
  refine tk 10 rfl ?_
  refine tk 11 rfl ?_
  (first | (clear qb q4 q6;generalize q7=qz2 at *;clear q7) | (clear qa q4 q6 q12;generalize q7=qz2 at *;clear q7) | (clear qa q4 q6 q7;generalize q12=qz2 at *;clear q12))
  revert hH20
  revert od
  revert l12
  revert b12
  revert hb
  revert qz2
  revert pd
  revert u12
  revert u6
  revert pm
  revert u3
  revert u0
  exact J5c.o
  exact AllReadyH.nil
  refine rdC rfl (fun K hK=>?_) ?_
  (go_simp;obtain ⟨u12,q12,eu,eq,g,b12,lx⟩:=al_of hb (.cells #[.string ⟨#[]⟩,.slice none 0 0,.slice none 0 0,.slice none 0 0,.slice none 0 0,.slice none 0 0] 42);rw [eu,eq];clear eu eq;(try replace r0:=r0.next g);(try replace r3:=r3.next g);(try replace r6:=r6.next g);(try replace om3:=om3.below g);(try replace od:=od.below g);replace hb:=hb.trans (g.mono hb.size);clear g;have l12:=lx;clear lx)
  refine nx hK ?_ (fun hH21=>?_)
  (exact HN9.o _ hb)
  clear hK K hH15
  refine rd1 6 (fun K hK=>?_)
  (go_simp;obtain ⟨u6,q6,eu,eq,g,r6,lx⟩:=al_of hb (.cells #[.string m3.nm,.slice pm.a1 m3.vars.length pm.c1,.slice pm.a2 m3.evs.length pm.c2,.slice pm.a3 m3.regs.length pm.c3,.slice pm.a4 m3.vers.length pm.c4,.slice pm.a5 m3.trns.length pm.c5,.string n1.nm,.slice p1.a1 n1.vars.length p1.c1,.slice p1.a2 n1.evs.length p1.c2,.slice p1.a3 n1.regs.length p1.c3,.slice p1.a4 n1.vers.length p1.c4,.slice p1.a5 n1.trns.length p1.c5] 42);rw [eu,eq];clear eu eq;(try replace b12:=b12.next g);(try replace om3:=om3.below g);replace hb:=hb.trans (g.mono hb.size);clear g lx)
  refine nx hK ?_ (fun hH22=>?_)
  (exact HN9.o _ hb)
  clear hK K hH21
  refine rd1 7 (fun K hK=>?_)
  (go_simp;(with_reducible refine (HXD.o _ _ _ _ r6 om3.any (MN9.o _ hb).any (HT9.o _ hb)).mono ?_);rintro e q7 ⟨pd,rfl,od,g⟩;unfold mdV;clear r6 om3;(try replace b12:=b12.next g);replace hb:=hb.trans (g.mono hb.size);clear g;go_wp2_with fail)
  refine nx hK ?_ (fun hH23=>?_)
  (exact HN9.o _ hb)
  clear hK K hH22
  refine tk 8 rfl ?_
  refine tk 9 rfl ?_
  refine tk 10 rfl ?_
  refine tk 11 rfl ?_
  (first | (clear qb q4 q6;generalize q7=qz2 at *;clear q7) | (clear qa q4 q6 q12;generalize q7=qz2 at *;clear q7) | (clear qa q4 q6 q7;generalize q12=qz2 at *;clear q12))
  revert hH23
  revert od
  revert l12
  revert b12
  revert hb
  revert qz2
  revert pd
  revert u12
  revert u6
  revert pm
  revert u3
  revert u0
  exact J5c.o
  exact AllReadyH.nil
  refine rdC rfl (fun K hK=>?_) ?_
  (go_simp;obtain ⟨u12,q12,eu,eq,g,b12,lx⟩:=al_of hb (.cells #[.string ⟨#[]⟩,.slice none 0 0,.slice none 0 0,.slice none 0 0,.slice none 0 0,.slice none 0 0] 42);rw [eu,eq];clear eu eq;(try replace r0:=r0.next g);(try replace r3:=r3.next g);(try replace r6:=r6.next g);(try replace om3:=om3.below g);(try replace od:=od.below g);replace hb:=hb.trans (g.mono hb.size);clear g;have l12:=lx;clear lx)
  refine nx hK ?_ (fun hH24=>?_)
  (exact HN9.o _ hb)
  clear hK K hH14
  (first | (clear q0 q3;generalize q12=qb at *;clear q12) | (clear q0 q12;generalize q3=qb at *;clear q3) | (clear q3 q12;generalize q0=qb at *;clear q0) | (clear qa;generalize q12=qb at *;clear q12))
  revert hH24
  revert l12
  revert b12
  revert r3
  revert r0
  revert hb
  revert qb
  revert u12
  revert u3
  revert u0
  exact J5b.o
  exact AllReadyH.nil
  intro u0 u3 u12 qb hb r0 r3 b12 l12 hH25
  refine rd1 4 (fun K hK=>?_)
  (go_simp;(with_reducible refine (HM3.o _ _ _ r0 r3).mono ?_);rintro e q4 ⟨pm,rfl,ho,g⟩;unfold mdV;have om3:TM q4 m3 pm:=⟨_,ho.mod⟩;clear ho r0 r3;(try replace b12:=b12.next g);replace hb:=hb.trans (g.mono hb.size);clear g;go_wp2_with fail)
  refine nx hK ?_ (fun hH26=>?_)
  (exact HN9.o _ hb)
  clear hK K hH25
  refine rd1 6 (fun K hK=>?_)
  (go_simp;obtain ⟨u6,q6,eu,eq,g,r6,lx⟩:=al_of hb (.cells #[.string m3.nm,.slice pm.a1 m3.vars.length pm.c1,.slice pm.a2 m3.evs.length pm.c2,.slice pm.a3 m3.regs.length pm.c3,.slice pm.a4 m3.vers.length pm.c4,.slice pm.a5 m3.trns.length pm.c5,.string n1.nm,.slice p1.a1 n1.vars.length p1.c1,.slice p1.a2 n1.evs.length p1.c2,.slice p1.a3 n1.regs.length p1.c3,.slice p1.a4 n1.vers.length p1.c4,.slice p1.a5 n1.trns.length p1.c5] 42);rw [eu,eq];clear eu eq;(try replace b12:=b12.next g);(try replace om3:=om3.below g);replace hb:=hb.trans (g.mono hb.size);clear g lx)
  refine nx hK ?_ (fun hH27=>?_)
  (exact HN9.o _ hb)
  clear hK K hH26
  refine rd1 7 (fun K hK=>?_)
  (go_simp;(with_reducible refine (HXD.o _ _ _ _ r6 om3.any (MN9.o _ hb).any (HT9.o _ hb)).mono ?_);rintro e q7 ⟨pd,rfl,od,g⟩;unfold mdV;clear r6 om3;(try replace b12:=b12.next g);replace hb:=hb.trans (g.mono hb.size);clear g;go_wp2_with fail)
  refine nx hK ?_ (fun hH28=>?_)
  (exact HN9.o _ hb)
  clear hK K hH27
  refine tk 8 rfl ?_
  refine tk 9 rfl ?_
  refine tk 10 rfl ?_
  refine tk 11 rfl ?_
  (first | (clear qb q4 q6;generalize q7=qz2 at *;clear q7) | (clear qa q4 q6 q12;generalize q7=qz2 at *;clear q7) | (clear qa q4 q6 q7;generalize q12=qz2 at *;clear q12))
  revert hH28
  revert od
  revert l12
  revert b12
  revert hb
  revert qz2
  revert pd
  revert u12
  revert u6
  revert pm
  revert u3
  revert u0
  exact J5c.o
  intro u0 u3 pm u6 u12 pd qz2 hb b12 l12 od hH29
  refine rd1 13 (fun K hK=>?_)
  (obtain ⟨z0,z1,z2,z3,z4,z5,f0,f1,f2,f3,f4,f5⟩:=zero_box b12;go_simp;have hx:=six_of b12 od hb l12;clear z0 z1 z2 z3 z4 z5 f0 f1 f2 f3 f4 f5 b12 od hb l12;obtain ⟨qy,eq,b12,od,hb,ld⟩:=hx;rw [eq];clear eq)
  refine nx hK ?_ (fun hH30=>?_)
  (exact HN9.o _ hb)
  clear hK K hH29
  refine tk 14 rfl ?_
  refine tk 15 rfl ?_
  refine dn ?_
  rotate_left
  go_wp2_with fail
  go_meet
  exact ⟨rfl,u12,pd,rfl,b12,od,hb⟩
 obtain ⟨rfl,u12,pd,rfl,b12,od,hb⟩:=hcut
 obtain ⟨qy,rfl⟩:∃ q,q=wc:=⟨_,rfl⟩
 obtain ⟨b9,oa⟩:=BA9.o qy hb
 obtain ⟨b3,o3,b4,o4,b5,o5,e3,e4,e5,k1,k2,k3,k4⟩:=exA_cells oa HA.o
 have hx9:On qy u9 (.cells #[.string RA.nm,.slice pa.a1 3 pa.c1,.slice pa.a2 3 pa.c2,.slice (some ⟨b3,o3,none⟩) 2 pa.c3,.slice (some ⟨b4,o4,none⟩) 6 pa.c4,.slice (some ⟨b5,o5,none⟩) 2 pa.c5] 42):=by
   have hA:=HA.o
   rw [hA.1,hA.2.2.1,hA.2.2.2.2.1,hA.2.2.2.2.2.2.1,hA.2.2.2.2.2.2.2,e3,e4,e5] at b9
   exact b9
 obtain ⟨x0,x1,x2,x3,x4,x5,_⟩:=box_at hx9
 clear b9 e3 e4 e5 hx9 oa
 go_upto_region 8 with fail
 clear x0 x1 x2 x3 x4 x5 k1 k2 k3 k4
 obtain ⟨b4,o4,b5,o5,e4,e5,k7,k4,⟨a0,a3,an,ac,a4,a5,a6,a7,g0,g1,g2,g3,g4,g5,g6,g7⟩,⟨c0,c3,cn,cc,c4,c5,c6,c7,h0,h1,h2,h3,h4,h5,h6,h7⟩⟩:=exD_cells od HD.o
 have hx12:On qy u12 (.cells #[.string RD.nm,.slice pd.a1 RD.vars.length pd.c1,.slice pd.a2 RD.evs.length pd.c2,.slice pd.a3 RD.regs.length pd.c3,.slice (some ⟨b4,o4,none⟩) 8 pd.c4,.slice (some ⟨b5,o5,none⟩) 4 pd.c5] 42):=by
   have hD:=HD.o
   rw [hD.1,hD.2.1,e4,e5] at b12
   exact b12
 obtain ⟨x0,x1,x2,x3,x4,x5,_⟩:=box_at hx12
 have HS10:Hid (∀ W',Below qy.heap.size qy W'->W'.cell? ⟨u12,4,none⟩=some (.slice (some ⟨b4,o4,none⟩) 8 pd.c4)/\W'.cell? ⟨u12,5,none⟩=some (.slice (some ⟨b5,o5,none⟩) 4 pd.c5)/\W'.cell? ⟨b4,o4+56+1,none⟩=some (.int .u8 5)/\W'.cell? ⟨b4,o4+32+1,none⟩=some (.int .u8 2)/\W'.cell? ⟨b5,o5+16,none⟩=some (.string a0)/\W'.cell? ⟨b5,o5+16+1,none⟩=some (.int .i64 2)/\W'.cell? ⟨b5,o5+16+2,none⟩=some (.int .i64 6)/\W'.cell? ⟨b5,o5+16+3,none⟩=some (.slice a3 an ac)/\W'.cell? ⟨b5,o5+16+4,none⟩=some (.int .i64 a4)/\W'.cell? ⟨b5,o5+16+5,none⟩=some (.string a5)/\W'.cell? ⟨b5,o5+16+6,none⟩=some (.string a6)/\W'.cell? ⟨b5,o5+16+7,none⟩=some (.int .u8 a7)/\W'.cell? ⟨b5,o5+24,none⟩=some (.string c0)/\W'.cell? ⟨b5,o5+24+1,none⟩=some (.int .i64 7)/\W'.cell? ⟨b5,o5+24+2,none⟩=some (.int .i64 3)/\W'.cell? ⟨b5,o5+24+3,none⟩=some (.slice c3 cn cc)/\W'.cell? ⟨b5,o5+24+4,none⟩=some (.int .i64 c4)/\W'.cell? ⟨b5,o5+24+5,none⟩=some (.string c5)/\W'.cell? ⟨b5,o5+24+6,none⟩=some (.string c6)/\W'.cell? ⟨b5,o5+24+7,none⟩=some (.int .u8 c7)):=hid fun W' g=>by
   have k:∀ b o u,qy.cell? ⟨b,o,none⟩=some u->W'.cell? ⟨b,o,none⟩=some u:=fun b o u h=>(g.cell (p:=⟨b,o,none⟩) (World.block_lt_of_cell? qy _ h)).trans h
   exact ⟨k _ _ _ x4,k _ _ _ x5,k _ _ _ k7,k _ _ _ k4,k _ _ _ g0,k _ _ _ g1,k _ _ _ g2,k _ _ _ g3,k _ _ _ g4,k _ _ _ g5,k _ _ _ g6,k _ _ _ g7,k _ _ _ h0,k _ _ _ h1,k _ _ _ h2,k _ _ _ h3,k _ _ _ h4,k _ _ _ h5,k _ _ _ h6,k _ _ _ h7⟩
 have HBy:=hid (HB9.o.trans (hb.mono HB9.o.size))
 clear e4 e5 hx12 b12 od
 go_upto_region 10 with fail
 clear x0 x1 x2 x3 x4 x5 k7 k4 g0 g1 g2 g3 g4 g5 g6 g7 h0 h1 h2 h3 h4 h5 h6 h7 hb
 go_cut [14,15] (fun s14 s15 wx=>∃ u14 u15,s14=.pointer (some ⟨u14,0,none⟩)/\s15=.pointer (some ⟨u15,0,none⟩)/\On wx u14 (.cells #[.string a0,.int .i64 2,.int .i64 6,.slice a3 an ac,.int .i64 a4,.string a5,.string a6,.int .u8 a7] 59)/\On wx u15 (.cells #[.string c0,.int .i64 7,.int .i64 3,.slice c3 cn cc,.int .i64 c4,.string c5,.string c6,.int .u8 c7] 59)/\Below qy.heap.size qy wx)
 case first =>
  apply join_of
  intro J10
  refine wp_region_any (by kernel_rfl) ?_
  change wpAny _ _ _ _ _ _ _ (World.drew _)
  (have hb:Below qy.heap.size qy (World.drew qy):=(Below.refl _ _).drew;generalize World.drew qy=Wd at hb |-)
  refine wpAny_of_heldS (S:=(fun W'=>W'.cell? ⟨u12,4,none⟩=some (.slice (some ⟨b4,o4,none⟩) 8 pd.c4)/\W'.cell? ⟨u12,5,none⟩=some (.slice (some ⟨b5,o5,none⟩) 4 pd.c5)/\W'.cell? ⟨b4,o4+56+1,none⟩=some (.int .u8 5)/\W'.cell? ⟨b4,o4+32+1,none⟩=some (.int .u8 2)/\W'.cell? ⟨b5,o5+16,none⟩=some (.string a0)/\W'.cell? ⟨b5,o5+16+1,none⟩=some (.int .i64 2)/\W'.cell? ⟨b5,o5+16+2,none⟩=some (.int .i64 6)/\W'.cell? ⟨b5,o5+16+3,none⟩=some (.slice a3 an ac)/\W'.cell? ⟨b5,o5+16+4,none⟩=some (.int .i64 a4)/\W'.cell? ⟨b5,o5+16+5,none⟩=some (.string a5)/\W'.cell? ⟨b5,o5+16+6,none⟩=some (.string a6)/\W'.cell? ⟨b5,o5+16+7,none⟩=some (.int .u8 a7)/\W'.cell? ⟨b5,o5+24,none⟩=some (.string c0)/\W'.cell? ⟨b5,o5+24+1,none⟩=some (.int .i64 7)/\W'.cell? ⟨b5,o5+24+2,none⟩=some (.int .i64 3)/\W'.cell? ⟨b5,o5+24+3,none⟩=some (.slice c3 cn cc)/\W'.cell? ⟨b5,o5+24+4,none⟩=some (.int .i64 c4)/\W'.cell? ⟨b5,o5+24+5,none⟩=some (.string c5)/\W'.cell? ⟨b5,o5+24+6,none⟩=some (.string c6)/\W'.cell? ⟨b5,o5+24+7,none⟩=some (.int .u8 c7))) ?_ (fun hHeld=>?_)
  (exact HS10.o _ hb)
  refine tk 0 rfl ?_
  refine tk 1 rfl ?_
  refine tk 2 rfl ?_
  refine tk 3 rfl ?_
  refine tk 4 rfl ?_
  refine tk 5 rfl ?_
  refine tk 6 rfl ?_
  refine tk 7 rfl ?_
  refine rdy [8,9] ?_
  refine rdC rfl (fun K hK=>?_) ?_
  (go_simp;obtain ⟨u14,q14,eu,eq,g,b14,l14⟩:=al_of hb (.cells #[.string ⟨#[]⟩,.int .i64 0,.int .i64 0,.slice none 0 0,.int .i64 0,.string ⟨#[]⟩,.string ⟨#[]⟩,.int .u8 0] 59);(try have hne:=(ne_new b15 eu).symm);rw [eu,eq];clear eu eq;(try replace b15:=b15.next g);replace hb:=hb.trans (g.mono hb.size);clear g)
  refine nx hK ?_ (fun hH1=>?_)
  (exact HS10.o _ hb)
  clear hK K hHeld
  refine rd1 9 (fun K hK=>?_)
  (go_simp;obtain ⟨u15,q15,eu,eq,g,b15,l15⟩:=al_of hb (.cells #[.string ⟨#[]⟩,.int .i64 0,.int .i64 0,.slice none 0 0,.int .i64 0,.string ⟨#[]⟩,.string ⟨#[]⟩,.int .u8 0] 59);(try have hne:=ne_new b14 eu);rw [eu,eq];clear eu eq;(try replace b14:=b14.next g);replace hb:=hb.trans (g.mono hb.size);clear g)
  refine nx hK ?_ (fun hH2=>?_)
  (exact HS10.o _ hb)
  clear hK K hH1
  (first | (clear q14;generalize q15=qt at *;clear q15) | (clear q15;generalize q14=qt at *;clear q14))
  revert hH2
  revert hne
  revert l14
  revert l15
  revert b14
  revert b15
  revert hb
  revert qt
  revert u15
  revert u14
  exact J10.o
  refine rdC rfl (fun K hK=>?_) ?_
  (go_simp;obtain ⟨u15,q15,eu,eq,g,b15,l15⟩:=al_of hb (.cells #[.string ⟨#[]⟩,.int .i64 0,.int .i64 0,.slice none 0 0,.int .i64 0,.string ⟨#[]⟩,.string ⟨#[]⟩,.int .u8 0] 59);(try have hne:=ne_new b14 eu);rw [eu,eq];clear eu eq;(try replace b14:=b14.next g);replace hb:=hb.trans (g.mono hb.size);clear g)
  refine nx hK ?_ (fun hH3=>?_)
  (exact HS10.o _ hb)
  clear hK K hHeld
  refine rd1 8 (fun K hK=>?_)
  (go_simp;obtain ⟨u14,q14,eu,eq,g,b14,l14⟩:=al_of hb (.cells #[.string ⟨#[]⟩,.int .i64 0,.int .i64 0,.slice none 0 0,.int .i64 0,.string ⟨#[]⟩,.string ⟨#[]⟩,.int .u8 0] 59);(try have hne:=(ne_new b15 eu).symm);rw [eu,eq];clear eu eq;(try replace b15:=b15.next g);replace hb:=hb.trans (g.mono hb.size);clear g)
  refine nx hK ?_ (fun hH4=>?_)
  (exact HS10.o _ hb)
  clear hK K hH3
  (first | (clear q14;generalize q15=qt at *;clear q15) | (clear q15;generalize q14=qt at *;clear q14))
  revert hH4
  revert hne
  revert l14
  revert l15
  revert b14
  revert b15
  revert hb
  revert qt
  revert u15
  revert u14
  exact J10.o
  exact AllReadyH.nil
  intro u14 u15 qt hb b15 b14 l15 l14 hne hH5
  refine rd1 10 (fun K hK=>?_)
  (obtain ⟨z0,z1,z2,z3,z4,z5,z6,z7⟩:=cells8 b14;have fz:=On.free b14;have f0:=fz 0;have f1:=fz 1;have f2:=fz 2;have f3:=fz 3;have f4:=fz 4;have f5:=fz 5;have f6:=fz 6;have f7:=fz 7;clear fz;go_simp;have hx:=oct_of b14 hb l14 (.string a0) (.int .i64 2) (.int .i64 6) (.slice a3 an ac) (.int .i64 a4) (.string a5) (.string a6) (.int .u8 a7);clear z0 z1 z2 z3 z4 z5 z6 z7 f0 f1 f2 f3 f4 f5 f6 f7 b14 hb l14;obtain ⟨q14s,eq,b14,hb,ko⟩:=hx;replace b15:=ko _ _ hne.symm b15;clear ko;rw [eq];clear eq)
  refine nx hK ?_ (fun hH6=>?_)
  (exact HS10.o _ hb)
  clear hK K hH5
  refine rd1 11 (fun K hK=>?_)
  (obtain ⟨z0,z1,z2,z3,z4,z5,z6,z7⟩:=cells8 b15;have fz:=On.free b15;have f0:=fz 0;have f1:=fz 1;have f2:=fz 2;have f3:=fz 3;have f4:=fz 4;have f5:=fz 5;have f6:=fz 6;have f7:=fz 7;clear fz;go_simp;have hx:=oct_of b15 hb l15 (.string c0) (.int .i64 7) (.int .i64 3) (.slice c3 cn cc) (.int .i64 c4) (.string c5) (.string c6) (.int .u8 c7);clear z0 z1 z2 z3 z4 z5 z6 z7 f0 f1 f2 f3 f4 f5 f6 f7 b15 hb l15;obtain ⟨q15s,eq,b15,hb,ko⟩:=hx;replace b14:=ko _ _ hne b14;clear ko;rw [eq];clear eq)
  refine nx hK ?_ (fun hH7=>?_)
  (exact HS10.o _ hb)
  clear hK K hH6
  refine dn ?_
  rotate_left
  go_wp2_with fail
  go_meet
  exact ⟨u14,u15,rfl,rfl,b14,b15,hb⟩
 obtain ⟨u14,u15,rfl,rfl,b14,b15,hb⟩:=hcut
 obtain ⟨x4,x5,k7,k4,_⟩:=HS10.o _ hb
 obtain ⟨z0,z1,z2,z3,z4,z5,z6,z7⟩:=cells8 b14
 obtain ⟨y0,y1,y2,y3,y4,y5,y6,y7⟩:=cells8 b15
 have HE:=hid (HBy.o.trans (hb.mono HBy.o.size))
 go_wp2_with fail
 go_ret
 exact ⟨rfl,HE.o⟩
end Go.Proofs
