/- Walks: the document's answer for what lies in what: the small ones. -/
import Derived.Test.YtfladiadgkfebaaGreatDoorKRxAJ
import Derived.Test.YtfladiadgkfebaaGreatDoorKEmA
namespace Go.Proofs
open Go.RowKit Go.Lx Go.Md Go.Shelf Go.BigFrame Go.Rgi
open Lib(hid)
set_option maxRecDepth 100000
set_option maxHeartbeats 0
set_option linter.unusedVariables false
theorem Mb.low {m:MdlD} {p:Ph} {w wx wy:World} (h:Mb m p w.heap.size w wx) (g:Below (w.heap.size+1) wx wy):Mb m p w.heap.size w wy :=
 ⟨h.bel.trans (g.mono (by omega)),h.mod.kept fun j=>⟨g.size,fun b hb hQ=>g.block b (by have:b<w.heap.size:=hQ;omega)⟩,h.box.below g (by omega)⟩
theorem push_low {N:Nat} {T:TypeId} {w W':World} {v:Value} {l:List Int} {o:Obj} (hz:N<=w.heap.size) (ho:w.ownsRow N T 1 v l.length (nums l)) (hg:(w.alloc o).grownBy W' v.ownBlock):Below N w W' :=
 Below.grown ((Below.refl N w).alloc hz _) hg (by simp;omega) (fun j hj=>(ho.lt _ hj).1)
theorem points_any {Q:Nat->BP} (m:MdlD) (p:Ph) (s:Int) (w:World) (h:Mod Q w m p) (hv:m.vers.length<=10000):Calls Tryz.prog 54 #[mdV m p,.int .i64 s] w (RowP (ptsM m s) w):=by
 obtain ⟨iI,hiI,zI0,zI1,zI2⟩:=info_parts info_Num
 have HB:=hid (Mb.made h)
 unfold mdV RowP
 clear h
 go_enter Tryz.func54,Tryz.ntmps54
 go_upto_region 1 with fail
 generalize w.alloc (.cells #[.string m.nm,.slice p.a1 m.vars.length p.c1,.slice p.a2 m.evs.length p.c2,.slice p.a3 m.regs.length p.c3,.slice p.a4 m.vers.length p.c4,.slice p.a5 m.trns.length p.c5] 42)=W1 at *
 obtain ⟨x0,x1,x2,x3,x4,x5,_⟩:=HB.o.box
 have HT:=hid (fun k (hk:k<m.vers.length)=>sel_take (fun x:VerD=>x.ofv == s) hk)
 have HE:Hid (∀ k,k=m.vers.length->sel (fun x:VerD=>x.ofv == s) (m.vers.take k)=ptsM m s):=hid fun k e=>by subst e;rw [List.take_length];rfl
 have HL:Hid (∀ k,(sel (fun x:VerD=>x.ofv == s) (m.vers.take k)).length<=10000):=hid fun k=>by
   have:=sel_len (fun x:VerD=>x.ofv == s) (m.vers.take k)
   have e:=List.length_take_le k m.vers
   have e2:(m.vers.take k).length<=m.vers.length:=by rw [List.length_take];omega
   omega
 have H0:Hid (sel (fun x:VerD=>x.ofv == s) (m.vers.take 0)=[]):=hid rfl
 go_wp2_with fail
 go_loopw [4,10] (fun o i wr=>∃ k:Nat,k<=m.vers.length/\i=.int .i64 k/\Mb m p w.heap.size w wr/\wr.ownsRow (w.heap.size+1) 3 1 o (sel (fun x:VerD=>x.ofv == s) (m.vers.take k)).length (nums (sel (fun x:VerD=>x.ofv == s) (m.vers.take k)))) (fun _ i _=>m.vers.length - (intOf i).toNat)
 case atStart=>exact ⟨0,by omega,rfl,HB.o,by rw [H0.o];exact World.ownsRow_nil _ _ _ _⟩
 case round =>
  clear x0 x1 x2 x3 x4 x5
  obtain ⟨wo,rfl⟩:=ex1 wr
  obtain ⟨k,hk,rfl,hb,ho⟩:=hrel
  have HB5:=hid hb
  have HO:=hid ho
  clear hb HB ho
  obtain ⟨x0,x1,x2,x3,x4,x5,_⟩:=HB5.o.box
  by_cases hlt:k<m.vers.length
  . have hI:(k:Int)<(m.vers.length:Int):=by omega
    have hI0:(0:Int)<=(k:Int):=by omega
    have hcap:=HB5.o.mod.vers.cap (by omega)
    obtain ⟨b2,o2,ea,hb2,dv,hdv,r0,r1,r2,r3,r4,r5,r6,r7⟩:=HB5.o.mod.vers.get hlt
    obtain ⟨da,dc,rfl⟩:=hdv.len
    rw [ea] at x4 |-
    have HTk:=hid (HT.o k hlt)
    have hz5:w.heap.size+1<=wo.heap.size:=HB5.o.box.sl
    clear HT hdv
    obtain ⟨t,ht⟩:∃ t,(m.vers[k].ofv == s)=t:=⟨_,rfl⟩
    rw [ht] at HTk
    obtain ⟨n,hn⟩:∃ n,(sel (fun x:VerD=>x.ofv == s) (m.vers.take k)).length=n:=⟨_,rfl⟩
    have hnb:n<=10000:=by rw [<- hn];exact HL.o k
    cases t with
    | false =>
     have hS1:Hid (sel (fun x:VerD=>x.ofv == s) (m.vers.take (k+1))=sel (fun x:VerD=>x.ofv == s) (m.vers.take k)):=hid (by rw [HTk.o];simp)
     have HB6:=hid (HB5.o.low (below_al1 wo (.cells #[.string m.vers[k].nm,.int .u8 m.vers[k].kd,.int .i64 m.vers[k].rg,.int .i64 m.vers[k].ofv,.string m.vers[k].en,.string m.vers[k].ex,.slice da m.vers[k].df.length dc,.string m.vers[k].sb] 49) |>.mono hz5))
     have HO6:=hid (HO.o.alloc (.cells #[.string m.vers[k].nm,.int .u8 m.vers[k].kd,.int .i64 m.vers[k].rg,.int .i64 m.vers[k].ofv,.string m.vers[k].en,.string m.vers[k].ex,.slice da m.vers[k].df.length dc,.string m.vers[k].sb] 49))
     clear HTk HB5 HO
     go_wp2_with fail
     go_roundw
     case rel=>exact ⟨k+1,by omega,by go_num,HB6.o,by rw [hS1.o];exact HO6.o⟩
     case measure=>simp [intOf] <;> omega
    | true =>
     have hS1:Hid (sel (fun x:VerD=>x.ofv == s) (m.vers.take (k+1))=sel (fun x:VerD=>x.ofv == s) (m.vers.take k) ++ [(k:Int)]):=hid (by rw [HTk.o];simp)
     obtain ⟨w2,hw2⟩:∃ w2,w2=wo.alloc (.cells #[.string m.vers[k].nm,.int .u8 m.vers[k].kd,.int .i64 m.vers[k].rg,.int .i64 m.vers[k].ofv,.string m.vers[k].en,.string m.vers[k].ex,.slice da m.vers[k].df.length dc,.string m.vers[k].sb] 49):=⟨_,rfl⟩
     have HB6:Hid (Mb m p w.heap.size w w2):=hid (by rw [hw2];exact HB5.o.low (below_al1 wo _ |>.mono hz5))
     have HO6:Hid (w2.ownsRow (w.heap.size+1) 3 1 u4 (sel (fun x:VerD=>x.ofv == s) (m.vers.take k)).length (nums (sel (fun x:VerD=>x.ofv == s) (m.vers.take k)))):=hid (by rw [hw2];exact HO.o.alloc _)
     clear HTk HB5 HO
     go_upto_region 5 with fail
     rw [<- hw2]
     have hz6:w.heap.size+1<=w2.heap.size:=HB6.o.box.sl
     clear hw2
     go_wp2_with (at_builtin;refine wpList_append_row _ rfl _ _ 95 rfl 3 (w.heap.size+1) iI (.int .i64 0) Tryz.underlying95 hiI zI0 zI1 zI2 rfl _ (sel (fun x:VerD=>x.ofv == s) (m.vers.take k)) rfl (HO6.o.alloc _) _ [(k:Int)] rfl (row1 _ _ _) (by simp only [List.length_cons,List.length_nil];omega) (by simp;omega) ?_;intro v4 w4 hown4 hgrow4 hnxt4)
     have HB7:=hid (HB6.o.low (push_low hz6 HO6.o hgrow4))
     go_roundw
     case rel=>exact ⟨k+1,by omega,by go_num,HB7.o,by rw [hS1.o];exact hown4⟩
     case measure=>simp [intOf] <;> omega
  . obtain rfl:k=m.vers.length:=by omega
    rw [HE.o _ rfl] at HO
    go_wp2_with fail
    go_ret
    exact ⟨_,rfl,HO.o.mono (by omega),HB5.o.bel⟩
end Go.Proofs
