/- Walks: when two vertices, two transitions are the same. -/
import Derived.Test.YtfladiadgkfebaaDoorCMdA
namespace Go.Proofs
open Go.RowKit Go.Lx Go.Md Go.Shelf

def verA (x:VerD) (a:Option Addr) (c:Nat):Value:=.agg #[.string x.nm,.int .u8 x.kd,.int .i64 x.rg,.int .i64 x.ofv,.string x.en,.string x.ex,.slice a x.df.length c,.string x.sb]
def trnA (x:TrnD) (a:Option Addr) (c:Nat):Value:=.agg #[.string x.nm,.int .i64 x.src,.int .i64 x.tgt,.slice a x.tr.length c,.int .i64 x.af,.string x.gd,.string x.ef,.int .u8 x.kd]
theorem box2_0 {w w3:World} {o1 o2:Obj} {k:Nat} {u:Value} (g:Below ((w.alloc o1).alloc o2).heap.size ((w.alloc o1).alloc o2) w3) (h:((w.alloc o1).alloc o2).cell? ⟨w.heap.size,k,none⟩=some u):w3.cell? ⟨w.heap.size,k,none⟩=some u :=
 (g.cell (p:=⟨w.heap.size,k,none⟩) (by simp <;> omega)).trans h
theorem box2_1 {w w3:World} {o1 o2:Obj} {k:Nat} {u:Value} (g:Below ((w.alloc o1).alloc o2).heap.size ((w.alloc o1).alloc o2) w3) (h:((w.alloc o1).alloc o2).cell? ⟨w.heap.size+1,k,none⟩=some u):w3.cell? ⟨w.heap.size+1,k,none⟩=some u :=
 (g.cell (p:=⟨w.heap.size+1,k,none⟩) (by simp <;> omega)).trans h
theorem below_box2 {w w3:World} {o1 o2:Obj} (g:Below ((w.alloc o1).alloc o2).heap.size ((w.alloc o1).alloc o2) w3):Below w.heap.size w w3 :=
 (((Below.refl _ w).alloc (Nat.le_refl _) _).alloc (by simp) _).trans (g.mono (by simp <;> omega))

set_option maxRecDepth 100000 in
set_option maxHeartbeats 2000000 in
theorem sameVer_any {Q Q':BP} (x y:VerD) (a1 a2:Option Addr) (c1 c2:Nat) (w:World) (h1:SlS Q w (.slice a1 x.df.length c1) x.df) (h2:SlS Q' w (.slice a2 y.df.length c2) y.df) (hl:x.df.length≤140737488355328) :
   Calls Tryd.prog 23 #[verA x a1 c1,verA y a2 c2] w fun e w'=>e=.returned (.bool (eqVer x y))∧Below w.heap.size w w':=by
 unfold verA
 have HC:=Lib.hid (fun wx (hb:Below w.heap.size w wx)=>slEqS_any a1 a2 c1 c2 x.df y.df wx (h1.kept (Kept.of_below hb)) (h2.kept (Kept.of_below hb)) hl)
 have HE:Hid (eqVer x y=(eqL eqS x.df y.df && (eqS x.nm y.nm && x.kd == y.kd && x.rg == y.rg && x.ofv == y.ofv && eqS x.en y.en && eqS x.ex y.ex && eqS x.sb y.sb))):=by unfold Hid;rfl
 clear h1 h2
 generalize eqL eqS x.df y.df=bd at HC HE
 generalize eqVer x y=R at HE ⊢
 generalize x.df.length=n1 at *
 generalize y.df.length=n2 at *
 obtain ⟨xnm,xkd,xrg,xof,xen,xex,xdf,xsb⟩:=x
 obtain ⟨ynm,ykd,yrg,yof,yen,yex,ydf,ysb⟩:=y
 simp only [eqS] at HE ⊢
 go_enter Tryd.func23,Tryd.ntmps23
 go_wp2_with (go_at_call 24;refine (HC.out _ (((Below.refl _ w).alloc (Nat.le_refl _) _).alloc (by simp) _)).mono ?_;rintro e w3 ⟨rfl,g3⟩;have p0:w3.cell? ⟨w.heap.size,0,none⟩=some (.string xnm):=box2_0 g3 (by simp <;> omega);have q0:w3.cell? ⟨w.heap.size+1,0,none⟩=some (.string ynm):=box2_1 g3 (by simp <;> omega);have p1:w3.cell? ⟨w.heap.size,1,none⟩=some (.int .u8 xkd):=box2_0 g3 (by simp <;> omega);have q1:w3.cell? ⟨w.heap.size+1,1,none⟩=some (.int .u8 ykd):=box2_1 g3 (by simp <;> omega);have p2:w3.cell? ⟨w.heap.size,2,none⟩=some (.int .i64 xrg):=box2_0 g3 (by simp <;> omega);have q2:w3.cell? ⟨w.heap.size+1,2,none⟩=some (.int .i64 yrg):=box2_1 g3 (by simp <;> omega);have p3:w3.cell? ⟨w.heap.size,3,none⟩=some (.int .i64 xof):=box2_0 g3 (by simp <;> omega);have q3:w3.cell? ⟨w.heap.size+1,3,none⟩=some (.int .i64 yof):=box2_1 g3 (by simp <;> omega);have p4:w3.cell? ⟨w.heap.size,4,none⟩=some (.string xen):=box2_0 g3 (by simp <;> omega);have q4:w3.cell? ⟨w.heap.size+1,4,none⟩=some (.string yen):=box2_1 g3 (by simp <;> omega);have p5:w3.cell? ⟨w.heap.size,5,none⟩=some (.string xex):=box2_0 g3 (by simp <;> omega);have q5:w3.cell? ⟨w.heap.size+1,5,none⟩=some (.string yex):=box2_1 g3 (by simp <;> omega);have p6:w3.cell? ⟨w.heap.size,6,none⟩=some (.slice a1 n1 c1):=box2_0 g3 (by simp <;> omega);have q6:w3.cell? ⟨w.heap.size+1,6,none⟩=some (.slice a2 n2 c2):=box2_1 g3 (by simp <;> omega);have p7:w3.cell? ⟨w.heap.size,7,none⟩=some (.string xsb):=box2_0 g3 (by simp <;> omega);have q7:w3.cell? ⟨w.heap.size+1,7,none⟩=some (.string ysb):=box2_1 g3 (by simp <;> omega))
 all_goals
   go_ret
   refine ⟨ret_bool ?_,?_⟩
   · rw [HE.out]
     simp_all [Int.natCast_inj] <;> omega
   · first
     | exact below_box2 g3
     | exact (((Below.refl _ w).alloc (Nat.le_refl _) _).alloc (by simp) _)
set_option maxRecDepth 100000 in
set_option maxHeartbeats 2000000 in
theorem sameTrn_any {Q Q':BP} (x y:TrnD) (a1 a2:Option Addr) (c1 c2:Nat) (w:World) (h1:SlS Q w (.slice a1 x.tr.length c1) x.tr) (h2:SlS Q' w (.slice a2 y.tr.length c2) y.tr) (hl:x.tr.length≤140737488355328) :
   Calls Tryd.prog 25 #[trnA x a1 c1,trnA y a2 c2] w fun e w'=>e=.returned (.bool (eqTrn x y))∧Below w.heap.size w w':=by
 unfold trnA
 have HC:=Lib.hid (fun wx (hb:Below w.heap.size w wx)=>slEqS_any a1 a2 c1 c2 x.tr y.tr wx (h1.kept (Kept.of_below hb)) (h2.kept (Kept.of_below hb)) hl)
 have HE:Hid (eqTrn x y=(eqS x.nm y.nm && x.src == y.src && x.tgt == y.tgt && eqL eqS x.tr y.tr && x.af == y.af && eqS x.gd y.gd && eqS x.ef y.ef && x.kd == y.kd)):=by unfold Hid;rfl
 clear h1 h2
 generalize eqL eqS x.tr y.tr=bd at HC HE
 generalize eqTrn x y=R at HE ⊢
 generalize x.tr.length=n1 at *
 generalize y.tr.length=n2 at *
 obtain ⟨xnm,xsrc,xtgt,xtr,xaf,xgd,xef,xkd⟩:=x
 obtain ⟨ynm,ysrc,ytgt,ytr,yaf,ygd,yef,ykd⟩:=y
 simp only [eqS] at HE ⊢
 go_enter Tryd.func25,Tryd.ntmps25
 go_wp2_with (go_at_call 24;refine (HC.out _ (((Below.refl _ w).alloc (Nat.le_refl _) _).alloc (by simp) _)).mono ?_;rintro e w3 ⟨rfl,g3⟩;have p0:w3.cell? ⟨w.heap.size,0,none⟩=some (.string xnm):=box2_0 g3 (by simp <;> omega);have q0:w3.cell? ⟨w.heap.size+1,0,none⟩=some (.string ynm):=box2_1 g3 (by simp <;> omega);have p1:w3.cell? ⟨w.heap.size,1,none⟩=some (.int .i64 xsrc):=box2_0 g3 (by simp <;> omega);have q1:w3.cell? ⟨w.heap.size+1,1,none⟩=some (.int .i64 ysrc):=box2_1 g3 (by simp <;> omega);have p2:w3.cell? ⟨w.heap.size,2,none⟩=some (.int .i64 xtgt):=box2_0 g3 (by simp <;> omega);have q2:w3.cell? ⟨w.heap.size+1,2,none⟩=some (.int .i64 ytgt):=box2_1 g3 (by simp <;> omega);have p3:w3.cell? ⟨w.heap.size,3,none⟩=some (.slice a1 n1 c1):=box2_0 g3 (by simp <;> omega);have q3:w3.cell? ⟨w.heap.size+1,3,none⟩=some (.slice a2 n2 c2):=box2_1 g3 (by simp <;> omega);have p4:w3.cell? ⟨w.heap.size,4,none⟩=some (.int .i64 xaf):=box2_0 g3 (by simp <;> omega);have q4:w3.cell? ⟨w.heap.size+1,4,none⟩=some (.int .i64 yaf):=box2_1 g3 (by simp <;> omega);have p5:w3.cell? ⟨w.heap.size,5,none⟩=some (.string xgd):=box2_0 g3 (by simp <;> omega);have q5:w3.cell? ⟨w.heap.size+1,5,none⟩=some (.string ygd):=box2_1 g3 (by simp <;> omega);have p6:w3.cell? ⟨w.heap.size,6,none⟩=some (.string xef):=box2_0 g3 (by simp <;> omega);have q6:w3.cell? ⟨w.heap.size+1,6,none⟩=some (.string yef):=box2_1 g3 (by simp <;> omega);have p7:w3.cell? ⟨w.heap.size,7,none⟩=some (.int .u8 xkd):=box2_0 g3 (by simp <;> omega);have q7:w3.cell? ⟨w.heap.size+1,7,none⟩=some (.int .u8 ykd):=box2_1 g3 (by simp <;> omega))
 all_goals
   go_ret
   refine ⟨ret_bool ?_,?_⟩
   · rw [HE.out]
     simp_all
     try (rw [Bool.eq_iff_iff];simp [Int.natCast_inj])
   · first
     | exact below_box2 g3
     | exact (((Below.refl _ w).alloc (Nat.le_refl _) _).alloc (by simp) _)
end Go.Proofs
