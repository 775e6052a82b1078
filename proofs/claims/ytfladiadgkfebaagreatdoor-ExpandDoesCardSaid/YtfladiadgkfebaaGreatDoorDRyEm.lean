/- Walks: the document's answer for what lies in what: the small ones. -/
import Derived.Test.YtfladiadgkfebaaGreatDoorDRxAJ
import Derived.Test.YtfladiadgkfebaaGreatDoorDEmA
namespace Go.Proofs
open Go.RowKit Go.Lx Go.Md Go.Shelf Go.BigFrame Go.Rgi
set_option linter.unusedVariables false
end Go.Proofs


namespace Go.Proofs
open Go.RowKit Go.Lx Go.Md Go.Shelf Go.BigFrame Go.Rgi
set_option linter.unusedVariables false
theorem Mb.low {m:MdlD} {p:Ph} {w wx wy:World} (h:Mb m p w.heap.size w wx) (g:Below (w.heap.size+1) wx wy):Mb m p w.heap.size w wy :=
 ⟨h.bel.trans (g.mono (by omega)),h.mod.kept fun j=>⟨g.size,fun b hb hQ=>g.block b (by have:b<w.heap.size:=hQ;omega)⟩,h.box.below g (by omega)⟩
theorem push_low {N:Nat} {T:TypeId} {w W':World} {v:Value} {l:List Int} {o:Obj} (hz:N≤w.heap.size) (ho:w.ownsRow N T 1 v l.length (nums l)) (hg:(w.alloc o).grownBy W' v.ownBlock):Below N w W' :=
 Below.grown ((Below.refl N w).alloc hz _) hg (by simp;omega) (fun j hj=>(ho.lt _ hj).1)
end Go.Proofs


namespace Go.Proofs
open Go.RowKit Go.Lx Go.Md Go.Shelf Go.BigFrame Go.Rgi
set_option linter.unusedVariables false
set_option maxRecDepth 100000 in
set_option maxHeartbeats 4000000 in
theorem points_any {Q:Nat→BP} (m:MdlD) (p:Ph) (s:Int) (w:World) (h:Mod Q w m p) (hv:m.vers.length≤10000):Calls Tryz.prog 54 #[mdV m p,.int .i64 s] w (RowP (ptsM m s) w):=by
 obtain ⟨iI,hiI,zI0,zI1,zI2⟩:=info_parts info_Num
 have HB:=Lib.hid (Mb.made h)
 unfold mdV RowP
 clear h
 go_enter Tryz.func54,Tryz.ntmps54
 go_upto_region 1 with fail
 generalize w.alloc (.cells #[.string m.nm,.slice p.a1 m.vars.length p.c1,.slice p.a2 m.evs.length p.c2,.slice p.a3 m.regs.length p.c3,.slice p.a4 m.vers.length p.c4,.slice p.a5 m.trns.length p.c5] 42)=W1 at *
 obtain ⟨x0,x1,x2,x3,x4,x5,_⟩:=HB.out.box
 have HT:=Lib.hid (fun k (hk:k<m.vers.length)=>sel_take (fun x:VerD=>x.ofv == s) hk)
 have HE:Hid (∀ k,k=m.vers.length→sel (fun x:VerD=>x.ofv == s) (m.vers.take k)=ptsM m s):=Lib.hid fun k e=>by subst e;rw [List.take_length];rfl
 have HL:Hid (∀ k,(sel (fun x:VerD=>x.ofv == s) (m.vers.take k)).length≤10000):=Lib.hid fun k=>by
   have:=sel_len (fun x:VerD=>x.ofv == s) (m.vers.take k)
   have e:=List.length_take_le k m.vers
   have e2:(m.vers.take k).length≤m.vers.length:=by rw [List.length_take];omega
   omega
 have H0:Hid (sel (fun x:VerD=>x.ofv == s) (m.vers.take 0)=[]):=Lib.hid rfl
 go_wp2_with fail
 go_loopw [4,10] (fun o i wr=>∃ k:Nat,k≤m.vers.length∧i=.int .i64 k∧Mb m p w.heap.size w wr∧wr.ownsRow (w.heap.size+1) 3 1 o (sel (fun x:VerD=>x.ofv == s) (m.vers.take k)).length (nums (sel (fun x:VerD=>x.ofv == s) (m.vers.take k)))) (fun _ i _=>m.vers.length - (intOf i).toNat)
 case atStart=>exact ⟨0,by omega,rfl,HB.out,by rw [H0.out];exact World.ownsRow_nil _ _ _ _⟩
 case round =>
  clear x0 x1 x2 x3 x4 x5
  obtain ⟨wo,rfl⟩:∃ wo:World,wo=wr:=⟨_,rfl⟩
  obtain ⟨k,hk,rfl,hb,ho⟩:=hrel
  have HB5:=Lib.hid hb
  have HO:=Lib.hid ho
  clear hb HB ho
  obtain ⟨x0,x1,x2,x3,x4,x5,_⟩:=HB5.out.box
  by_cases hlt:k<m.vers.length
  · have hI:(k:Int)<(m.vers.length:Int):=by omega
    have hI0:(0:Int)≤(k:Int):=by omega
    have hcap:=HB5.out.mod.vers.cap (by omega)
    obtain ⟨b2,o2,ea,hb2,dv,hdv,r0,r1,r2,r3,r4,r5,r6,r7⟩:=HB5.out.mod.vers.get hlt
    obtain ⟨da,dc,rfl⟩:=hdv.len
    rw [ea] at x4 ⊢
    have HTk:=Lib.hid (HT.out k hlt)
    have hz5:w.heap.size+1≤wo.heap.size:=HB5.out.box.sl
    clear HT hdv
    obtain ⟨t,ht⟩:∃ t,(m.vers[k].ofv == s)=t:=⟨_,rfl⟩
    rw [ht] at HTk
    obtain ⟨n,hn⟩:∃ n,(sel (fun x:VerD=>x.ofv == s) (m.vers.take k)).length=n:=⟨_,rfl⟩
    have hnb:n≤10000:=by rw [← hn];exact HL.out k
    cases t with
    | false =>
     have hS1:Hid (sel (fun x:VerD=>x.ofv == s) (m.vers.take (k+1))=sel (fun x:VerD=>x.ofv == s) (m.vers.take k)):=Lib.hid (by rw [HTk.out];simp)
     have HB6:=Lib.hid (HB5.out.low (below_al1 wo (.cells #[.string m.vers[k].nm,.int .u8 m.vers[k].kd,.int .i64 m.vers[k].rg,.int .i64 m.vers[k].ofv,.string m.vers[k].en,.string m.vers[k].ex,.slice da m.vers[k].df.length dc,.string m.vers[k].sb] 49) |>.mono hz5))
     have HO6:=Lib.hid (HO.out.alloc (.cells #[.string m.vers[k].nm,.int .u8 m.vers[k].kd,.int .i64 m.vers[k].rg,.int .i64 m.vers[k].ofv,.string m.vers[k].en,.string m.vers[k].ex,.slice da m.vers[k].df.length dc,.string m.vers[k].sb] 49))
     clear HTk HB5 HO
     go_wp2_with fail
     go_roundw
     case rel=>exact ⟨k+1,by omega,by go_num,HB6.out,by rw [hS1.out];exact HO6.out⟩
     case measure=>simp [intOf] <;> omega
    | true =>
     have hS1:Hid (sel (fun x:VerD=>x.ofv == s) (m.vers.take (k+1))=sel (fun x:VerD=>x.ofv == s) (m.vers.take k) ++ [(k:Int)]):=Lib.hid (by rw [HTk.out];simp)
     obtain ⟨w2,hw2⟩:∃ w2,w2=wo.alloc (.cells #[.string m.vers[k].nm,.int .u8 m.vers[k].kd,.int .i64 m.vers[k].rg,.int .i64 m.vers[k].ofv,.string m.vers[k].en,.string m.vers[k].ex,.slice da m.vers[k].df.length dc,.string m.vers[k].sb] 49):=⟨_,rfl⟩
     have HB6:Hid (Mb m p w.heap.size w w2):=Lib.hid (by rw [hw2];exact HB5.out.low (below_al1 wo _ |>.mono hz5))
     have HO6:Hid (w2.ownsRow (w.heap.size+1) 3 1 u4 (sel (fun x:VerD=>x.ofv == s) (m.vers.take k)).length (nums (sel (fun x:VerD=>x.ofv == s) (m.vers.take k)))):=Lib.hid (by rw [hw2];exact HO.out.alloc _)
     clear HTk HB5 HO
     go_upto_region 5 with fail
     rw [← hw2]
     have hz6:w.heap.size+1≤w2.heap.size:=HB6.out.box.sl
     clear hw2
     go_wp2_with (at_builtin;refine wpList_append_row _ rfl _ _ 95 rfl 3 (w.heap.size+1) iI (.int .i64 0) Tryz.underlying95 hiI zI0 zI1 zI2 rfl _ (sel (fun x:VerD=>x.ofv == s) (m.vers.take k)) rfl (HO6.out.alloc _) _ [(k:Int)] rfl (row1 _ _ _) (by simp only [List.length_cons,List.length_nil];omega) (by simp;omega) ?_;intro v4 w4 hown4 hgrow4 hnxt4)
     have HB7:=Lib.hid (HB6.out.low (push_low hz6 HO6.out hgrow4))
     go_roundw
     case rel=>exact ⟨k+1,by omega,by go_num,HB7.out,by rw [hS1.out];exact hown4⟩
     case measure=>simp [intOf] <;> omega
  · obtain rfl:k=m.vers.length:=by omega
    rw [HE.out _ rfl] at HO
    go_wp2_with fail
    go_ret
    exact ⟨_,rfl,HO.out.mono (by omega),HB5.out.bel⟩
end Go.Proofs
