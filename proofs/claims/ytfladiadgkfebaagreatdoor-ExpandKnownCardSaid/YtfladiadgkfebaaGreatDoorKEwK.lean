/- Walks: the law ExpandKnown. Written by gen_ewk.py. -/
import Derived.Test.YtfladiadgkfebaaGreatDoorKEwHJ
namespace Go.Proofs
open Go.RowKit Go.Lx Go.Md Go.Shelf Go.BigFrame Go.Rgi
open Lib(hid)
set_option maxRecDepth 100000
set_option maxHeartbeats 0
set_option linter.unusedVariables false
theorem expandKnown_any (w:World) (hT:Tab w):Calls Tryz.prog 4 #[] w fun e w'=>e=.returned (.bool true)/\Below w.heap.size w w':=by
 have HT:=hid fun q (g:Below w.heap.size w q)=>hT.next g
 clear hT
 go_enter Tryz.func4,Tryz.ntmps4
 go_upto_region 2 with fail
 have h6:=objs6 w (.cells #[.string ⟨#[116]⟩,.int .u8 10,.int .i64 0,.int .i64 0,.string ⟨#[]⟩,.string ⟨#[]⟩,.slice none 0 0,.string ⟨#[]⟩,.string ⟨#[100,111,110,101]⟩,.int .u8 11,.int .i64 0,.int .i64 0,.string ⟨#[]⟩,.string ⟨#[]⟩,.slice none 0 0,.string ⟨#[]⟩] 49) (.cells #[.string ⟨#[100,111,110,101]⟩,.int .u8 10,.int .i64 0,.int .i64 0,.string ⟨#[]⟩,.string ⟨#[]⟩,.slice none 0 0,.string ⟨#[]⟩] 49) (.cells #[.string ⟨#[116]⟩,.int .u8 11,.int .i64 0,.int .i64 0,.string ⟨#[]⟩,.string ⟨#[]⟩,.slice none 0 0,.string ⟨#[]⟩] 49) (.cells #[.string ⟨#[]⟩,.int .u8 10,.int .i64 0,.int .i64 0,.string ⟨#[]⟩,.string ⟨#[]⟩,.slice none 0 0,.string ⟨#[]⟩] 49) (.cells #[.string ⟨#[100,111,110,101]⟩,.int .u8 11,.int .i64 0,.int .i64 0,.string ⟨#[]⟩,.string ⟨#[]⟩,.slice none 0 0,.string ⟨#[]⟩,.string ⟨#[100,111,110,101]⟩,.int .u8 11,.int .i64 0,.int .i64 0,.string ⟨#[]⟩,.string ⟨#[]⟩,.slice none 0 0,.string ⟨#[]⟩] 49) (.cells #[.slice none 0 0,.slice (some ⟨w.heap.size,0,none⟩) 2 2,.slice (some ⟨w.heap.size+1,0,none⟩) 1 1,.slice (some ⟨w.heap.size+1+1,0,none⟩) 1 1,.slice (some ⟨w.heap.size+1+1+1,0,none⟩) 1 1,.slice (some ⟨w.heap.size+1+1+1+1,0,none⟩) 2 2] 39)
 generalize (((((w.alloc (.cells #[.string ⟨#[116]⟩,.int .u8 10,.int .i64 0,.int .i64 0,.string ⟨#[]⟩,.string ⟨#[]⟩,.slice none 0 0,.string ⟨#[]⟩,.string ⟨#[100,111,110,101]⟩,.int .u8 11,.int .i64 0,.int .i64 0,.string ⟨#[]⟩,.string ⟨#[]⟩,.slice none 0 0,.string ⟨#[]⟩] 49)).alloc (.cells #[.string ⟨#[100,111,110,101]⟩,.int .u8 10,.int .i64 0,.int .i64 0,.string ⟨#[]⟩,.string ⟨#[]⟩,.slice none 0 0,.string ⟨#[]⟩] 49)).alloc (.cells #[.string ⟨#[116]⟩,.int .u8 11,.int .i64 0,.int .i64 0,.string ⟨#[]⟩,.string ⟨#[]⟩,.slice none 0 0,.string ⟨#[]⟩] 49)).alloc (.cells #[.string ⟨#[]⟩,.int .u8 10,.int .i64 0,.int .i64 0,.string ⟨#[]⟩,.string ⟨#[]⟩,.slice none 0 0,.string ⟨#[]⟩] 49)).alloc (.cells #[.string ⟨#[100,111,110,101]⟩,.int .u8 11,.int .i64 0,.int .i64 0,.string ⟨#[]⟩,.string ⟨#[]⟩,.slice none 0 0,.string ⟨#[]⟩,.string ⟨#[100,111,110,101]⟩,.int .u8 11,.int .i64 0,.int .i64 0,.string ⟨#[]⟩,.string ⟨#[]⟩,.slice none 0 0,.string ⟨#[]⟩] 49)).alloc (.cells #[.slice none 0 0,.slice (some ⟨w.heap.size,0,none⟩) 2 2,.slice (some ⟨w.heap.size+1,0,none⟩) 1 1,.slice (some ⟨w.heap.size+1+1,0,none⟩) 1 1,.slice (some ⟨w.heap.size+1+1+1,0,none⟩) 1 1,.slice (some ⟨w.heap.size+1+1+1+1,0,none⟩) 2 2] 39)=W6 at *
 have hP6:PtT W6 (w.heap.size+1+1+1+1+1):=pts_tab (T:=49) (T6:=39) h6.1 h6.2.1 h6.2.2.1 h6.2.2.2.1 h6.2.2.2.2.1 h6.2.2.2.2.2.1
 have hB6:Below w.heap.size w W6:=h6.2.2.2.2.2.2
 clear h6
 generalize w.heap.size+1+1+1+1+1=PB at *
 go_upto_region 3 with fail
 obtain ⟨W14,hW⟩:∃ W,(((((((W6.alloc (.cells #[.string ⟨#[]⟩] 9)).alloc (.cells #[.string ⟨#[78]⟩] 9)).alloc (.cells #[.string ⟨#[78]⟩,.string ⟨#[78]⟩] 9)).alloc (.cells #[.string ⟨#[79]⟩] 9)).alloc (.cells #[.string ⟨#[77]⟩] 9)).alloc (.cells #[.string ⟨#[]⟩,.string ⟨#[79]⟩] 9)).alloc (.cells #[.string ⟨#[78]⟩,.string ⟨#[]⟩,.string ⟨#[79]⟩] 9)).alloc (.cells #[.slice (some ⟨W6.heap.size,0,none⟩) 1 1,.slice (some ⟨W6.heap.size+1,0,none⟩) 1 1,.slice (some ⟨W6.heap.size+1+1,0,none⟩) 2 2,.slice (some ⟨W6.heap.size+1+1+1,0,none⟩) 1 1,.slice (some ⟨W6.heap.size+1+1+1+1,0,none⟩) 1 1,.slice (some ⟨W6.heap.size+1+1+1+1+1,0,none⟩) 2 2,.slice (some ⟨W6.heap.size+1+1+1+1+1+1,0,none⟩) 3 3] 28)=W:=⟨_,rfl⟩
 rw [hW]
 have h8:=objs8 W6 W14 (.cells #[.string ⟨#[]⟩] 9) (.cells #[.string ⟨#[78]⟩] 9) (.cells #[.string ⟨#[78]⟩,.string ⟨#[78]⟩] 9) (.cells #[.string ⟨#[79]⟩] 9) (.cells #[.string ⟨#[77]⟩] 9) (.cells #[.string ⟨#[]⟩,.string ⟨#[79]⟩] 9) (.cells #[.string ⟨#[78]⟩,.string ⟨#[]⟩,.string ⟨#[79]⟩] 9) (.cells #[.slice (some ⟨W6.heap.size,0,none⟩) 1 1,.slice (some ⟨W6.heap.size+1,0,none⟩) 1 1,.slice (some ⟨W6.heap.size+1+1,0,none⟩) 2 2,.slice (some ⟨W6.heap.size+1+1+1,0,none⟩) 1 1,.slice (some ⟨W6.heap.size+1+1+1+1,0,none⟩) 1 1,.slice (some ⟨W6.heap.size+1+1+1+1+1,0,none⟩) 2 2,.slice (some ⟨W6.heap.size+1+1+1+1+1+1,0,none⟩) 3 3] 28) hW
 obtain ⟨s0,s1,s2,s3,s4,s5,s6,s7,hB14⟩:=h8
 have hS14:SbT W14 (W6.heap.size+1+1+1+1+1+1+1):=sbs_tab (T:=9) (T6:=28) s0 s1 s2 s3 s4 s5 s6 s7
 have HPt:=hid (hP6.next hB14)
 have HSb:=hid hS14
 have HB14:=hid (hB6.trans (hB14.mono hB6.size))
 generalize W6.heap.size+1+1+1+1+1+1+1=SB at *
 clear s0 s1 s2 s3 s4 s5 s6 s7 hB14 hS14 hP6 hB6 hW
 go_wp2_with fail
 go_loopw [3] (fun i wr=>∃ x:Nat,x<=7/\i=.int .i64 x/\Below W14.heap.size W14 wr) (fun i _=>7 - (intOf i).toNat)
 case atStart=>exact ⟨0,by omega,rfl,Below.refl _ _⟩
 case round =>
  obtain ⟨wo,rfl⟩:=ex1 wr
  obtain ⟨i,hi,rfl,hb⟩:=hrel
  by_cases hli:i<7
  . have hiI:(i:Int)<7:=by omega
    have hi0:(0:Int)<=(i:Int):=by omega
    have HB:=hid hb
    clear hb
    go_wp2_with fail
    go_loopw [4] (fun i wr=>∃ x:Nat,x<=7/\i=.int .i64 x/\Below W14.heap.size W14 wr) (fun i _=>7 - (intOf i).toNat)
    case atStart=>exact ⟨0,by omega,rfl,HB.o⟩
    case round =>
     clear HB
     obtain ⟨wo,rfl⟩:=ex1 wr
     obtain ⟨k,hk,rfl,hb⟩:=hrel
     have HB:=hid hb
     clear hb
     by_cases hlk:k<7
     . have hkI:(k:Int)<7:=by omega
       have hk0:(0:Int)<=(k:Int):=by omega
       go_wp2_with fail
       go_loopw [5] (fun i wr=>∃ x:Nat,x<=6/\i=.int .i64 x/\Below W14.heap.size W14 wr) (fun i _=>6 - (intOf i).toNat)
       case atStart=>exact ⟨0,by omega,rfl,HB.o⟩
       case round =>
        clear HB
        obtain ⟨wo,rfl⟩:=ex1 wr
        obtain ⟨p,hp,rfl,hb⟩:=hrel
        have HB:=hid hb
        by_cases hlp:p<6
        . have hpI:(p:Int)<6:=by omega
          have hp0:(0:Int)<=(p:Int):=by omega
          obtain ⟨r,hr⟩:=ex2 ((p+k) % 6)
          have hr6:r<6:=by rw [<- hr];exact Nat.mod_lt _ (by decide)
          have hrI:(r:Int)<6:=by omega
          have hr0:(0:Int)<=(r:Int):=by omega
          have hrm:(IntKind.i64.wrap ((p:Int)+(k:Int))).tmod 6=(r:Int):=by rw [IntWalk.i64_in _ ⟨by omega,by omega⟩,<- hr];rfl
          clear hr
          obtain ⟨a1,c1,t1⟩:=HSb.o i hli
          obtain ⟨a2,c2,t2⟩:=HPt.o p hlp
          obtain ⟨a3,c3,t3⟩:=HSb.o k hlk
          obtain ⟨a4,c4,t4⟩:=HPt.o r hr6
          obtain ⟨u1,v1⟩:=subsK_ok (List.getElem_mem (show i<subsK.length from hli))
          obtain ⟨u2,v2⟩:=ptsK_ok (List.getElem_mem (show p<ptsK.length from hlp))
          obtain ⟨u3,v3⟩:=subsK_ok (List.getElem_mem (show k<subsK.length from hlk))
          obtain ⟨u4,v4⟩:=ptsK_ok (List.getElem_mem (show r<ptsK.length from hr6))
          generalize subsK[i]=S1 at *
          generalize ptsK[p]=P1 at *
          generalize subsK[k]=S2 at *
          generalize ptsK[r]=P2 at *
          obtain ⟨m1,hm1⟩:∃ m,machM ⟨#[77]⟩ S1 P1=m:=⟨_,rfl⟩
          obtain ⟨m2,hm2⟩:∃ m,machM ⟨#[78]⟩ S2 P2=m:=⟨_,rfl⟩
          obtain ⟨m3,hm3⟩:∃ m,machM ⟨#[79]⟩ [⟨#[]⟩,⟨#[]⟩] []=m:=⟨_,rfl⟩
          obtain ⟨m4,hm4⟩:∃ m,machM ⟨#[80]⟩ [⟨#[]⟩] []=m:=⟨_,rfl⟩
          have ok1:MdlOk m1:=by rw [<- hm1];exact (mach_ok (by decide) v1 v2 u1 u2).1
          have ok2:MdlOk m2:=by rw [<- hm2];exact (mach_ok (by decide) v3 v4 u3 u4).1
          have ok3:MdlOk m3:=by rw [<- hm3];exact (mach_ok (by decide) (by decide) (fun x hx=>by cases hx) (by decide) (by decide)).1
          have ok4:MdlOk m4:=by rw [<- hm4];exact (mach_ok (by decide) (by decide) (fun x hx=>by cases hx) (by decide) (by decide)).1
          have HM1:Hid (∀ q,Below W14.heap.size W14 q->Calls Tryz.prog 13 #[.string ⟨#[77]⟩,.slice a1 S1.length c1,.slice a2 P1.length c2] q (MachP m1 q)):=hid fun q g=>by rw [<- hm1];exact machine_any (Q2:=anyB) (R:=anyB) _ S1 P1 a1 c1 a2 c2 q (t1 q g).2 (t2 q g).2 (fun x hx=>(v2 x hx).2) u1 u2 (by decide)
          have HM2:Hid (∀ q,Below W14.heap.size W14 q->Calls Tryz.prog 13 #[.string ⟨#[78]⟩,.slice a3 S2.length c3,.slice a4 P2.length c4] q (MachP m2 q)):=hid fun q g=>by rw [<- hm2];exact machine_any (Q2:=anyB) (R:=anyB) _ S2 P2 a3 c3 a4 c4 q (t3 q g).2 (t4 q g).2 (fun x hx=>(v4 x hx).2) u3 u4 (by decide)
          have HM3:Hid (∀ (q:World) (u:Nat),On q u (.cells #[.string ⟨#[]⟩,.string ⟨#[]⟩] 9)->Calls Tryz.prog 13 #[.string ⟨#[79]⟩,.slice (some ⟨u,0,none⟩) 2 2,.slice none 0 0] q (MachP m3 q)):=hid fun q u h=>by rw [<- hm3];exact machine_any (Q:=anyB) (Q2:=anyB) (R:=anyB) _ [⟨#[]⟩,⟨#[]⟩] [] (some ⟨u,0,none⟩) 2 none 0 q (row_txt (l:=[⟨#[]⟩,⟨#[]⟩]) h) (.inl ⟨_,_,rfl,rfl⟩) (fun x hx=>by cases hx) (by decide) (by decide) (by decide)
          have HM4:Hid (∀ (q:World) (u:Nat),On q u (.cells #[.string ⟨#[]⟩] 9)->Calls Tryz.prog 13 #[.string ⟨#[80]⟩,.slice (some ⟨u,0,none⟩) 1 1,.slice none 0 0] q (MachP m4 q)):=hid fun q u h=>by rw [<- hm4];exact machine_any (Q:=anyB) (Q2:=anyB) (R:=anyB) _ [⟨#[]⟩] [] (some ⟨u,0,none⟩) 1 none 0 q (row_txt (l:=[⟨#[]⟩]) h) (.inl ⟨_,_,rfl,rfl⟩) (fun x hx=>by cases hx) (by decide) (by decide) (by decide)
          have HS:Hid (∀ q,Below W14.heap.size W14 q->q.cell? ⟨SB,i,none⟩=some (.slice a1 S1.length c1)/\q.cell? ⟨PB,p,none⟩=some (.slice a2 P1.length c2)/\q.cell? ⟨SB,k,none⟩=some (.slice a3 S2.length c3)/\q.cell? ⟨PB,r,none⟩=some (.slice a4 P2.length c4)):=hid fun q g=>⟨(t1 q g).1,(t2 q g).1,(t3 q g).1,(t4 q g).1⟩
          have HOk:=hid (And.intro ok1 (And.intro ok2 (And.intro ok3 ok4)))
          clear hb t1 t2 t3 t4 u1 u2 u3 u4 v1 v2 v3 v4 hm1 hm2 hm3 hm4 ok1 ok2 ok3 ok4
          go_upto_region 12 with fail
          apply join_of
          intro J12
          refine wp_region_any (by kernel_rfl) ?_
          change wpAny _ _ _ _ _ _ _ (World.drew _)
          (have hb:Below W14.heap.size W14 (World.drew wo):=HB.o.drew;generalize World.drew wo=Wd at hb |-)
          refine wpAny_of_heldS (S:=(fun q=>q.cell? ⟨SB,i,none⟩=some (.slice a1 S1.length c1)/\q.cell? ⟨PB,p,none⟩=some (.slice a2 P1.length c2)/\q.cell? ⟨SB,k,none⟩=some (.slice a3 S2.length c3)/\q.cell? ⟨PB,r,none⟩=some (.slice a4 P2.length c4))) ?_ (fun hHeld=>?_)
          (exact HS.o _ hb)
          refine tk 0 rfl ?_
          refine tk 1 rfl ?_
          refine tk 2 rfl ?_
          refine tk 3 rfl ?_
          refine tk 4 rfl ?_
          refine tk 5 rfl ?_
          refine tk 6 rfl ?_
          refine tk 7 rfl ?_
          refine tk 9 rfl ?_
          refine tk 10 rfl ?_
          refine tk 11 rfl ?_
          refine tk 12 rfl ?_
          refine tk 13 rfl ?_
          refine tk 14 rfl ?_
          refine tk 15 rfl ?_
          refine tk 16 rfl ?_
          refine tk 17 rfl ?_
          refine tk 18 rfl ?_
          refine tk 19 rfl ?_
          refine tk 20 rfl ?_
          refine tk 21 rfl ?_
          refine rdy [8,23] ?_
          refine rdC rfl (fun K hK=>?_) ?_
          (go_simp;(with_reducible refine (HM1.o _ hb).mono ?_);rintro e q8 ⟨p1,rfl,ho,g⟩;unfold mdV;have om1:TM q8 m1 p1:=⟨_,ho.mod⟩;clear ho;(try replace r23:=r23.next g);replace hb:=hb.trans (g.mono hb.size);clear g;go_wp2_with fail)
          refine nx hK ?_ (fun hH1=>?_)
          (exact HS.o _ hb)
          clear hK K hHeld
          refine rdy [22,23] ?_
          refine rdC rfl (fun K hK=>?_) ?_
          (go_simp;(with_reducible refine (HM2.o _ hb).mono ?_);rintro e q22 ⟨p2,rfl,ho,g⟩;unfold mdV;have om2:TM q22 m2 p2:=⟨_,ho.mod⟩;clear ho;(try replace r23:=r23.next g);replace om1:=om1.below g;replace hb:=hb.trans (g.mono hb.size);clear g;go_wp2_with fail)
          refine nx hK ?_ (fun hH2=>?_)
          (exact HS.o _ hb)
          clear hK K hH1
          refine rd1 23 (fun K hK=>?_)
          (go_simp;obtain ⟨u23,q23,eu,eq,g,r23,lx⟩:=al_of hb (.cells #[.string ⟨#[]⟩,.string ⟨#[]⟩] 9);rw [eu,eq];clear eu eq;(try replace om1:=om1.below g);(try replace om2:=om2.below g);replace hb:=hb.trans (g.mono hb.size);clear g lx)
          refine nx hK ?_ (fun hH3=>?_)
          (exact HS.o _ hb)
          clear hK K hH2
          (first | (clear q8 q23;generalize q22=qz at *;clear q22) | (clear q8 q22;generalize q23=qz at *;clear q23))
          revert hH3
          revert om1
          revert om2
          revert r23
          revert hb
          revert qz
          revert p1
          revert p2
          revert u23
          exact J12.o
          refine rdC rfl (fun K hK=>?_) ?_
          (go_simp;obtain ⟨u23,q23,eu,eq,g,r23,lx⟩:=al_of hb (.cells #[.string ⟨#[]⟩,.string ⟨#[]⟩] 9);rw [eu,eq];clear eu eq;(try replace om1:=om1.below g);(try replace om2:=om2.below g);replace hb:=hb.trans (g.mono hb.size);clear g lx)
          refine nx hK ?_ (fun hH4=>?_)
          (exact HS.o _ hb)
          clear hK K hH1
          refine rd1 22 (fun K hK=>?_)
          (go_simp;(with_reducible refine (HM2.o _ hb).mono ?_);rintro e q22 ⟨p2,rfl,ho,g⟩;unfold mdV;have om2:TM q22 m2 p2:=⟨_,ho.mod⟩;clear ho;(try replace r23:=r23.next g);replace om1:=om1.below g;replace hb:=hb.trans (g.mono hb.size);clear g;go_wp2_with fail)
          refine nx hK ?_ (fun hH5=>?_)
          (exact HS.o _ hb)
          clear hK K hH4
          (first | (clear q8 q23;generalize q22=qz at *;clear q22) | (clear q8 q22;generalize q23=qz at *;clear q23))
          revert hH5
          revert om1
          revert om2
          revert r23
          revert hb
          revert qz
          revert p1
          revert p2
          revert u23
          exact J12.o
          exact AllReadyH.nil
          refine rdC rfl (fun K hK=>?_) ?_
          (go_simp;obtain ⟨u23,q23,eu,eq,g,r23,lx⟩:=al_of hb (.cells #[.string ⟨#[]⟩,.string ⟨#[]⟩] 9);rw [eu,eq];clear eu eq;(try replace om1:=om1.below g);(try replace om2:=om2.below g);replace hb:=hb.trans (g.mono hb.size);clear g lx)
          refine nx hK ?_ (fun hH6=>?_)
          (exact HS.o _ hb)
          clear hK K hHeld
          refine rd1 8 (fun K hK=>?_)
          (go_simp;(with_reducible refine (HM1.o _ hb).mono ?_);rintro e q8 ⟨p1,rfl,ho,g⟩;unfold mdV;have om1:TM q8 m1 p1:=⟨_,ho.mod⟩;clear ho;(try replace r23:=r23.next g);replace hb:=hb.trans (g.mono hb.size);clear g;go_wp2_with fail)
          refine nx hK ?_ (fun hH7=>?_)
          (exact HS.o _ hb)
          clear hK K hH6
          refine rd1 22 (fun K hK=>?_)
          (go_simp;(with_reducible refine (HM2.o _ hb).mono ?_);rintro e q22 ⟨p2,rfl,ho,g⟩;unfold mdV;have om2:TM q22 m2 p2:=⟨_,ho.mod⟩;clear ho;(try replace r23:=r23.next g);replace om1:=om1.below g;replace hb:=hb.trans (g.mono hb.size);clear g;go_wp2_with fail)
          refine nx hK ?_ (fun hH8=>?_)
          (exact HS.o _ hb)
          clear hK K hH7
          (first | (clear q8 q23;generalize q22=qz at *;clear q22) | (clear q8 q22;generalize q23=qz at *;clear q23))
          revert hH8
          revert om1
          revert om2
          revert r23
          revert hb
          revert qz
          revert p1
          revert p2
          revert u23
          exact J12.o
          exact AllReadyH.nil
          intro u23 p2 p1 qz hb r23 om2 om1 hH9
          refine rd1 24 (fun K hK=>?_)
          (go_simp;(with_reducible refine (HM3.o _ _ r23).mono ?_);rintro e q24 ⟨p3,rfl,ho,g⟩;unfold mdV;have om3:TM q24 m3 p3:=⟨_,ho.mod⟩;clear ho r23;replace om1:=om1.below g;replace om2:=om2.below g;replace hb:=hb.trans (g.mono hb.size);clear g;go_wp2_with fail)
          refine nx hK ?_ (fun hH10=>?_)
          (exact HS.o _ hb)
          clear hK K hH9
          refine rd1 25 (fun K hK=>?_)
          (go_simp;obtain ⟨u25,q25,eu,eq,g,r25,lx⟩:=al_of hb (.cells #[.string m1.nm,.slice p1.a1 m1.vars.length p1.c1,.slice p1.a2 m1.evs.length p1.c2,.slice p1.a3 m1.regs.length p1.c3,.slice p1.a4 m1.vers.length p1.c4,.slice p1.a5 m1.trns.length p1.c5,.string m2.nm,.slice p2.a1 m2.vars.length p2.c1,.slice p2.a2 m2.evs.length p2.c2,.slice p2.a3 m2.regs.length p2.c3,.slice p2.a4 m2.vers.length p2.c4,.slice p2.a5 m2.trns.length p2.c5,.string m3.nm,.slice p3.a1 m3.vars.length p3.c1,.slice p3.a2 m3.evs.length p3.c2,.slice p3.a3 m3.regs.length p3.c3,.slice p3.a4 m3.vers.length p3.c4,.slice p3.a5 m3.trns.length p3.c5] 42);rw [eu,eq];clear eu eq;replace om1:=om1.below g;replace om2:=om2.below g;replace om3:=om3.below g;replace hb:=hb.trans (g.mono hb.size);clear g lx)
          refine nx hK ?_ (fun hH11=>?_)
          (exact HS.o _ hb)
          clear hK K hH10
          refine tk 26 rfl ?_
          refine dn ?_
          rotate_left
          have hbW:=HB14.o.trans (hb.mono HB14.o.size)
          have HBW:=hid hbW
          have HBQ:=hid hb
          obtain ⟨l3,l2,l1,l0⟩:=lib3 r25 om1.any om2.any om3.any
          obtain ⟨ok1,ok2,ok3,ok4⟩:=HOk.o
          have e3:∀ m ∈ [m1,m2,m3],MdlOk m:=fun m h=>by
            simp only [List.mem_cons,List.not_mem_nil,or_false] at h
            rcases h with rfl | rfl | rfl <;> assumption
          have e2:∀ m ∈ [m1,m2],MdlOk m:=fun m h=>e3 m (by simp only [List.mem_cons,List.not_mem_nil,or_false] at h |-;rcases h with h | h <;> simp [h])
          have e1:∀ m ∈ [m2,m3],MdlOk m:=fun m h=>e3 m (by simp only [List.mem_cons,List.not_mem_nil,or_false] at h |-;rcases h with h | h <;> simp [h])
          have e0:∀ m ∈ [m1],MdlOk m:=fun m h=>e3 m (by simp only [List.mem_cons,List.not_mem_nil,or_false] at h |-;simp [h])
          have HTq:=hid fun q (g:Below q25.heap.size q25 q)=>HT.o q (hbW.trans (g.mono hbW.size))
          have HD3:Hid (∀ q,Below q25.heap.size q25 q->Calls Tryz.prog 3 #[.slice (some ⟨u25,0,none⟩) 3 3] q fun e w'=>e=.returned (.bool true)/\Below q.heap.size q w'):=hid fun q g=>expandDoes_any [m1,m2,m3] (some ⟨u25,0,none⟩) 3 q ((l3.below g).up g.size) (by show 3<=140737488355328;decide) e3 (HTq.o q g)
          have HD2:Hid (∀ q,Below q25.heap.size q25 q->Calls Tryz.prog 3 #[.slice (some ⟨u25,0,none⟩) 2 3] q fun e w'=>e=.returned (.bool true)/\Below q.heap.size q w'):=hid fun q g=>expandDoes_any [m1,m2] (some ⟨u25,0,none⟩) 3 q ((l2.below g).up g.size) (by show 2<=140737488355328;decide) e2 (HTq.o q g)
          have HD1:Hid (∀ q,Below q25.heap.size q25 q->Calls Tryz.prog 3 #[.slice (some ⟨u25,6,none⟩) 2 2] q fun e w'=>e=.returned (.bool true)/\Below q.heap.size q w'):=hid fun q g=>expandDoes_any [m2,m3] (some ⟨u25,6,none⟩) 2 q ((l1.below g).up g.size) (by show 2<=140737488355328;decide) e1 (HTq.o q g)
          have HR3:Hid (∀ q,Below q25.heap.size q25 q->Calls Tryz.prog 14 #[.slice (some ⟨u25,0,none⟩) 3 3] q fun e w'=>e=.returned (.bool true)/\Below q.heap.size q w'):=hid fun q g=>expandRight_any [m1,m2,m3] (some ⟨u25,0,none⟩) 3 q ((l3.below g).up g.size) (by show 3<=140737488355328;decide) e3 (HTq.o q g)
          have HO2:Hid (∀ q p4,Below q25.heap.size q25 q->Mod anyM q m4 p4->Calls Tryz.prog 15 #[.slice (some ⟨u25,0,none⟩) 2 3,mdV m4 p4] q fun e w'=>e=.returned (.bool true)/\Below q.heap.size q w'):=hid fun q p4 g hm=>expandOthers_any [m1,m2] (some ⟨u25,0,none⟩) 3 m4 p4 q ((l2.below g).up g.size) (by show 2<=140737488355328;decide) e2 hm ok4 (HTq.o q g)
          have HO1:Hid (∀ q,Below q25.heap.size q25 q->Calls Tryz.prog 15 #[.slice (some ⟨u25,0,none⟩) 1 3,mdV m3 p3] q fun e w'=>e=.returned (.bool true)/\Below q.heap.size q w'):=hid fun q g=>expandOthers_any [m1] (some ⟨u25,0,none⟩) 3 m3 p3 q ((l0.below g).up g.size) (by show 1<=140737488355328;decide) e0 (om3.below g).any ok3 (HTq.o q g)
          unfold mdV at HO2 HO1
          have HS5:Hid (∀ q,Below q25.heap.size q25 q->q.cell? ⟨u25,12,none⟩=some (.string m3.nm)/\q.cell? ⟨u25,13,none⟩=some (.slice p3.a1 m3.vars.length p3.c1)/\q.cell? ⟨u25,14,none⟩=some (.slice p3.a2 m3.evs.length p3.c2)/\q.cell? ⟨u25,15,none⟩=some (.slice p3.a3 m3.regs.length p3.c3)/\q.cell? ⟨u25,16,none⟩=some (.slice p3.a4 m3.vers.length p3.c4)/\q.cell? ⟨u25,17,none⟩=some (.slice p3.a5 m3.trns.length p3.c5)):=hid fun q g=>by
            have h:=r25.next g
            exact ⟨cell_row h,cell_row h,cell_row h,cell_row h,cell_row h,cell_row h⟩
          clear hH11 hb hbW l3 l2 l1 l0 ok1 ok2 ok3 ok4 e3 e2 e1 e0 r25 om1 om2 om3 HOk HTq HM1 HM2 HM3
          go_upto_region 13 with fail
          by_cases hp2:p<2
          . have hp2I:(p:Int)<2:=by omega
            refine wp_region_any (by kernel_rfl) ?_
            change wpAny _ _ _ _ _ _ _ (World.drew _)
            (have hb:Below q25.heap.size q25 (World.drew q25):=(Below.refl _ _).drew;generalize World.drew q25=Wd at hb |-)
            refine wpAny_of_heldS (S:=(fun q=>q.cell? ⟨u25,12,none⟩=some (.string m3.nm)/\q.cell? ⟨u25,13,none⟩=some (.slice p3.a1 m3.vars.length p3.c1)/\q.cell? ⟨u25,14,none⟩=some (.slice p3.a2 m3.evs.length p3.c2)/\q.cell? ⟨u25,15,none⟩=some (.slice p3.a3 m3.regs.length p3.c3)/\q.cell? ⟨u25,16,none⟩=some (.slice p3.a4 m3.vers.length p3.c4)/\q.cell? ⟨u25,17,none⟩=some (.slice p3.a5 m3.trns.length p3.c5))) ?_ (fun hHeld=>?_)
            (exact HS5.o _ hb)
            refine tk 0 rfl ?_
            refine rd1 1 (fun K hK=>?_)
            (go_simp;(with_reducible refine (HD3.o _ hb).mono ?_);rintro e z1 ⟨rfl,g⟩;replace hb:=hb.trans (g.mono hb.size);clear g;go_wp2_with fail)
            refine nx hK ?_ (fun hH1=>?_)
            (exact HS5.o _ hb)
            clear hK K hHeld
            refine tk 2 rfl ?_
            refine tk 3 rfl ?_
            refine tk 4 rfl ?_
            refine tk 5 rfl ?_
            refine rd1 6 (fun K hK=>?_)
            (go_simp;(with_reducible refine (HD2.o _ hb).mono ?_);rintro e z6 ⟨rfl,g⟩;replace hb:=hb.trans (g.mono hb.size);clear g;go_wp2_with fail)
            refine nx hK ?_ (fun hH2=>?_)
            (exact HS5.o _ hb)
            clear hK K hH1
            refine tk 7 rfl ?_
            refine tk 8 rfl ?_
            refine tk 9 rfl ?_
            refine tk 10 rfl ?_
            refine tk 11 rfl ?_
            refine rd1 12 (fun K hK=>?_)
            (go_simp;(with_reducible refine (HD1.o _ hb).mono ?_);rintro e z12 ⟨rfl,g⟩;replace hb:=hb.trans (g.mono hb.size);clear g;go_wp2_with fail)
            refine nx hK ?_ (fun hH3=>?_)
            (exact HS5.o _ hb)
            clear hK K hH2
            refine tk 13 rfl ?_
            refine tk 14 rfl ?_
            refine tk 15 rfl ?_
            refine tk 16 rfl ?_
            refine tk 17 rfl ?_
            refine tk 18 rfl ?_
            refine tk 19 rfl ?_
            refine rd1 20 (fun K hK=>?_)
            (go_simp;(with_reducible refine (HR3.o _ hb).mono ?_);rintro e z20 ⟨rfl,g⟩;replace hb:=hb.trans (g.mono hb.size);clear g;go_wp2_with fail)
            refine nx hK ?_ (fun hH4=>?_)
            (exact HS5.o _ hb)
            clear hK K hH3
            refine tk 21 rfl ?_
            refine tk 22 rfl ?_
            refine tk 23 rfl ?_
            refine tk 24 rfl ?_
            refine rd1 25 (fun K hK=>?_)
            (go_simp;obtain ⟨u9,z25,eu,eq,g,r9,lx⟩:=al_of hb (.cells #[.string ⟨#[]⟩] 9);rw [eu,eq];clear eu eq;replace hb:=hb.trans (g.mono hb.size);clear g lx)
            refine nx hK ?_ (fun hH5=>?_)
            (exact HS5.o _ hb)
            clear hK K hH4
            refine rd1 26 (fun K hK=>?_)
            (go_simp;(with_reducible refine (HM4.o _ _ r9).mono ?_);rintro e z26 ⟨p4,rfl,ho,g⟩;unfold mdV;have om4:TM z26 m4 p4:=⟨_,ho.mod⟩;clear ho r9;replace hb:=hb.trans (g.mono hb.size);clear g;go_wp2_with fail)
            refine nx hK ?_ (fun hH6=>?_)
            (exact HS5.o _ hb)
            clear hK K hH5
            refine rd1 27 (fun K hK=>?_)
            (go_simp;(with_reducible refine (HO2.o _ _ hb om4.any).mono ?_);rintro e z27 ⟨rfl,g⟩;clear om4;replace hb:=hb.trans (g.mono hb.size);clear g;go_wp2_with fail)
            refine nx hK ?_ (fun hH7=>?_)
            (exact HS5.o _ hb)
            clear hK K hH6
            refine tk 28 rfl ?_
            refine tk 29 rfl ?_
            refine tk 30 rfl ?_
            refine tk 31 rfl ?_
            refine tk 32 rfl ?_
            refine tk 33 rfl ?_
            refine tk 34 rfl ?_
            refine tk 35 rfl ?_
            refine rd1 36 (fun K hK=>?_)
            (go_simp;(with_reducible refine (HO1.o _ hb).mono ?_);rintro e z36 ⟨rfl,g⟩;replace hb:=hb.trans (g.mono hb.size);clear g;go_wp2_with fail)
            refine nx hK ?_ (fun hH8=>?_)
            (exact HS5.o _ hb)
            clear hK K hH7
            refine tk 37 rfl ?_
            refine tk 38 rfl ?_
            refine tk 39 rfl ?_
            refine tk 40 rfl ?_
            refine dn ?_
            rotate_left
            have HB9:=hid (HBQ.o.trans (hb.mono HBQ.o.size))
            clear hb
            go_wp2_with fail
            go_roundw
            case rel=>exact ⟨p+1,by omega,by go_num,HB9.o⟩
            case measure=>simp [intOf] <;> omega
          . have hp2I:decide ((p:Int)<2)=false:=decide_eq_false (by omega)
            refine wp_region_any (by kernel_rfl) ?_
            change wpAny _ _ _ _ _ _ _ (World.drew _)
            (have hb:Below q25.heap.size q25 (World.drew q25):=(Below.refl _ _).drew;generalize World.drew q25=Wd at hb |-)
            refine wpAny_of_heldS (S:=(fun q=>q.cell? ⟨u25,12,none⟩=some (.string m3.nm)/\q.cell? ⟨u25,13,none⟩=some (.slice p3.a1 m3.vars.length p3.c1)/\q.cell? ⟨u25,14,none⟩=some (.slice p3.a2 m3.evs.length p3.c2)/\q.cell? ⟨u25,15,none⟩=some (.slice p3.a3 m3.regs.length p3.c3)/\q.cell? ⟨u25,16,none⟩=some (.slice p3.a4 m3.vers.length p3.c4)/\q.cell? ⟨u25,17,none⟩=some (.slice p3.a5 m3.trns.length p3.c5))) ?_ (fun hHeld=>?_)
            (exact HS5.o _ hb)
            refine tk 0 rfl ?_
            refine rd1 1 (fun K hK=>?_)
            (go_simp;(with_reducible refine (HD3.o _ hb).mono ?_);rintro e z1 ⟨rfl,g⟩;replace hb:=hb.trans (g.mono hb.size);clear g;go_wp2_with fail)
            refine nx hK ?_ (fun hH1=>?_)
            (exact HS5.o _ hb)
            clear hK K hHeld
            refine tk 2 rfl ?_
            refine tk 3 rfl ?_
            refine tk 4 rfl ?_
            refine tk 5 rfl ?_
            refine rd1 6 (fun K hK=>?_)
            (go_simp;(with_reducible refine (HD2.o _ hb).mono ?_);rintro e z6 ⟨rfl,g⟩;replace hb:=hb.trans (g.mono hb.size);clear g;go_wp2_with fail)
            refine nx hK ?_ (fun hH2=>?_)
            (exact HS5.o _ hb)
            clear hK K hH1
            refine tk 7 rfl ?_
            refine tk 8 rfl ?_
            refine tk 9 rfl ?_
            refine tk 10 rfl ?_
            refine tk 11 rfl ?_
            refine rd1 12 (fun K hK=>?_)
            (go_simp;(with_reducible refine (HD1.o _ hb).mono ?_);rintro e z12 ⟨rfl,g⟩;replace hb:=hb.trans (g.mono hb.size);clear g;go_wp2_with fail)
            refine nx hK ?_ (fun hH3=>?_)
            (exact HS5.o _ hb)
            clear hK K hH2
            refine tk 13 rfl ?_
            refine tk 14 rfl ?_
            refine tk 15 rfl ?_
            refine tk 16 rfl ?_
            refine tk 17 rfl ?_
            refine tk 18 rfl ?_
            refine tkP 19 rfl ?_
            refine tkP 20 rfl ?_
            refine tkP 21 rfl ?_
            refine tkP 22 rfl ?_
            refine tkP 23 rfl ?_
            refine tkP 24 rfl ?_
            refine tkP 25 rfl ?_
            refine tkP 26 rfl ?_
            refine tkP 27 rfl ?_
            refine tkP 28 rfl ?_
            refine tkP 29 rfl ?_
            refine tkP 30 rfl ?_
            refine tkP 31 rfl ?_
            refine tkP 32 rfl ?_
            refine tkP 33 rfl ?_
            refine tkP 34 rfl ?_
            refine tkP 35 rfl ?_
            refine tkP 36 rfl ?_
            refine tkP 37 rfl ?_
            refine tkP 38 rfl ?_
            refine tk 39 rfl ?_
            refine tk 40 rfl ?_
            refine dn ?_
            rotate_left
            have HB9:=hid (HBQ.o.trans (hb.mono HBQ.o.size))
            clear hb
            go_wp2_with fail
            go_roundw
            case rel=>exact ⟨p+1,by omega,by go_num,HB9.o⟩
            case measure=>simp [intOf] <;> omega
        . obtain rfl:p=6:=by omega
          clear hb
          go_wp2_with fail
          go_roundw
          case rel=>exact ⟨k+1,by omega,by go_num,HB.o⟩
          case measure=>simp [intOf] <;> omega
     . obtain rfl:k=7:=by omega
       go_wp2_with fail
       go_roundw
       case rel=>exact ⟨i+1,by omega,by go_num,HB.o⟩
       case measure=>simp [intOf] <;> omega
  . obtain rfl:i=7:=by omega
    have hbW:=HB14.o.trans (hb.mono HB14.o.size)
    have HBW:=hid hbW
    obtain ⟨D,hD⟩:=ex2 doorM
    have okD:MdlOk D:=by rw [<- hD];exact door_ok
    have HDr:Hid (∀ q,Calls Tryz.prog 16 #[] q (MadeP D q)):=hid fun q=>by rw [<- hD];exact door_any q
    have HSv:=hid fun q=>small_v q
    have HOD:=hid okD
    clear hb hbW hD okD HPt HSb hli hi
    go_upto_region 16 with (first
      | ((with_reducible refine (HDr.o _).mono ?_);rintro e w1 ⟨pd,rfl,hmd,g1⟩;unfold mdV)
      | ((with_reducible refine (HSv.o _).mono ?_);rintro e w2 ⟨R,V,T,rfl,g2,hV,oR,oV,oT⟩))
    have hzD:(w2.alloc (.cells #[.string D.nm,.slice pd.a1 D.vars.length pd.c1,.slice pd.a2 D.evs.length pd.c2,.slice pd.a3 D.regs.length pd.c3,.slice pd.a4 D.vers.length pd.c4,.slice pd.a5 D.trns.length pd.c5] 42)).heap.size=w2.heap.size+1:=by simp
    obtain ⟨A7,W3,eu,eq,g7,o7,l7⟩:=al_of (Below.refl w2.heap.size w2) (.cells #[.string D.nm,.slice pd.a1 D.vars.length pd.c1,.slice pd.a2 D.evs.length pd.c2,.slice pd.a3 D.regs.length pd.c3,.slice pd.a4 D.vers.length pd.c4,.slice pd.a5 D.trns.length pd.c5] 42)
    rw [eq,eu] at hzD
    rw [eq,eu]
    obtain ⟨A8,W4,eu8,eq8,g8,o8,l8⟩:=al_of (Below.refl W3.heap.size W3) (.cells #[.string ⟨#[77]⟩,.slice none 0 0,.slice none 0 0,.slice (some ⟨R,0,none⟩) 1 1,.slice (some ⟨V,0,none⟩) 2 2,.slice (some ⟨T,0,none⟩) 1 1] 42)
    rw [hzD] at eu8
    rw [eu8,eq8]
    have hmd':Mod (fun _=>OldB w1.heap.size) w1 D pd:=hmd.weaken fun _ b hb _=>hb
    have hVl:V<W4.heap.size:=(Array.getElem?_eq_some_iff.1 ((oV.next g7).next g8)).1
    have hV8:V<A8:=by have:=(Array.getElem?_eq_some_iff.1 (oV.next g7)).1;omega
    have h78:A7<A8:=by omega
    have hV7:V<A7:=by have:=(Array.getElem?_eq_some_iff.1 oV).1;omega
    have hB4:Below w1.heap.size w1 W4:=(g2.trans (g7.mono g2.size)).trans (g8.mono (by have:=g2.size;have:=g7.size;omega))
    have HMd:Hid (∀ q,Below w1.heap.size W4 q->Mod anyM q D pd):=hid fun q g=>(hmd'.keptN (hB4.trans g)).any
    have HB4:=hid ((HBW.o.trans (g1.mono HBW.o.size)).trans (hB4.mono (HBW.o.trans (g1.mono HBW.o.size)).size))
    have hw1V:w1.heap.size<=V:=hV
    have o7':=o7.next g8
    have oR':=(oR.next g7).next g8
    have oV':=(oV.next g7).next g8
    have oT':=(oT.next g7).next g8
    have hR:R<W4.heap.size:=(Array.getElem?_eq_some_iff.1 oR').1
    have h8z:A8<W4.heap.size:=(Array.getElem?_eq_some_iff.1 o8).1
    have hw4:w1.heap.size<=W4.heap.size:=hB4.size
    clear eu eq eu8 eq8 g7 g8 g2 l7 l8 hmd hmd' oR oV oT o7 hB4 hzD hV
    obtain ⟨b0,b1,b2,b3,b4,b5,b6,b7,b8,b9,b10,b11,b12,b13,b14,b15⟩:_/\_/\_/\_/\_/\_/\_/\_/\_/\_/\_/\_/\_/\_/\_/\_:=⟨cell_row (k:=0) oV',cell_row (k:=1) oV',cell_row (k:=2) oV',cell_row (k:=3) oV',cell_row (k:=4) oV',cell_row (k:=5) oV',cell_row (k:=6) oV',cell_row (k:=7) oV',cell_row (k:=8) oV',cell_row (k:=9) oV',cell_row (k:=10) oV',cell_row (k:=11) oV',cell_row (k:=12) oV',cell_row (k:=13) oV',cell_row (k:=14) oV',cell_row (k:=15) oV'⟩
    clear b0 b1 b2 b3 b4 b5 b6 b7
    have x4:W4.cell? ⟨A8,4,none⟩=some (.slice (some ⟨V,0,none⟩) 2 2):=cell_row o8
    have fz:=On.free oV'
    obtain ⟨f8,f9,f10,f11,f12,f13,f14,f15⟩:_/\_/\_/\_/\_/\_/\_/\_:=⟨fz 8,fz 9,fz 10,fz 11,fz 12,fz 13,fz 14,fz 15⟩
    clear fz
    simp only [List.getElem?_toArray,List.getElem?_cons_succ,List.getElem?_cons_zero] at b8 b9 b10 b11 b12 b13 b14 b15
    go_upto_region 19 with fail
    obtain ⟨W5,eq5,at5,oV5⟩:=v16_set oV' ⟨#[68,111,111,114]⟩
    rw [eq5]
    have oR5:=oR'.at at5 (on_ne oR' oV' (by decide))
    have oT5:=oT'.at at5 (on_ne oT' oV' (by decide))
    have o75:=o7'.at at5 (Nat.ne_of_gt hV7)
    have o85:=o8.at at5 (Nat.ne_of_gt hV8)
    obtain ⟨A9,W9,eu9,eq9,g9,o9,l9⟩:=al_of (Below.refl W5.heap.size W5) (.cells #[.string ⟨#[115]⟩,.int .u8 1,.int .i64 0,.int .i64 (-1),.string ⟨#[]⟩,.string ⟨#[]⟩,.slice none 0 0,.string ⟨#[68,111,111,114]⟩] 49)
    rw [eq9]
    have oR:=oR5.next g9
    have oT:=oT5.next g9
    have oV:=oV5.next g9
    have o7:=o75.next g9
    have o8':=o85.next g9
    have hB9:Below w1.heap.size W4 W9:=(at5.below hw1V).trans (g9.mono (by rw [at5.size];exact hw4))
    have hmD:=HMd.o W9 hB9
    have hmS:=smallD_mod oR oV oT
    have hBW9:Below w.heap.size w W9:=HB4.o.trans (hB9.mono (HBW.o.trans (g1.mono HBW.o.size)).size)
    clear eq5 at5 eu9 eq9 g9 o9 l9 oV' oR' oT' o7' o8 oV5 oR5 oT5 o75 o85 hB9 b8 b9 b10 b11 b12 b13 b14 b15 f8 f9 f10 f11 f12 f13 f14 f15 x4 HMd HB4 hVl hR h8z hw4
    obtain ⟨y0,y1,y2,y3,y4,y5⟩:_/\_/\_/\_/\_/\_:=⟨cell_row (k:=0) o7,cell_row (k:=1) o7,cell_row (k:=2) o7,cell_row (k:=3) o7,cell_row (k:=4) o7,cell_row (k:=5) o7⟩
    obtain ⟨x0,x1,x2,x3,x4,x5⟩:_/\_/\_/\_/\_/\_:=⟨cell_row (k:=0) o8',cell_row (k:=1) o8',cell_row (k:=2) o8',cell_row (k:=3) o8',cell_row (k:=4) o8',cell_row (k:=5) o8'⟩
    simp only [List.getElem?_toArray,List.getElem?_cons_succ,List.getElem?_cons_zero] at x0 x1 x2 x3 x4 x5 y0 y1 y2 y3 y4 y5
    go_upto_region 20 with fail
    clear x0 x1 x2 x3 x4 x5 y0 y1 y2 y3 y4 y5
    obtain ⟨A10,W10,eu,eq,g10,o10,l10⟩:=al_of (Below.refl W9.heap.size W9) (.cells #[.string ⟨#[77]⟩,.slice none 0 0,.slice none 0 0,.slice (some ⟨R,0,none⟩) 1 1,.slice (some ⟨V,0,none⟩) 2 2,.slice (some ⟨T,0,none⟩) 1 1,.string D.nm,.slice pd.a1 D.vars.length pd.c1,.slice pd.a2 D.evs.length pd.c2,.slice pd.a3 D.regs.length pd.c3,.slice pd.a4 D.vers.length pd.c4,.slice pd.a5 D.trns.length pd.c5,.string ⟨#[77]⟩,.slice none 0 0,.slice none 0 0,.slice (some ⟨R,0,none⟩) 1 1,.slice (some ⟨V,0,none⟩) 2 2,.slice (some ⟨T,0,none⟩) 1 1] 42)
    rw [eq,eu]
    have hBx:=hBW9.trans (g10.mono hBW9.size)
    obtain ⟨ps,hps⟩:∃ ps:Ph,ps=⟨none,0,none,0,some ⟨R,0,none⟩,1,some ⟨V,0,none⟩,2,some ⟨T,0,none⟩,1⟩:=⟨_,rfl⟩
    have hmS':=hmS.below g10
    have hmD':=hmD.below g10
    have okD:=HOD.o
    have HTq:=hid fun q (g:Below W10.heap.size W10 q)=>HT.o q (hBx.trans (g.mono hBx.size))
    have e2:∀ m ∈ [smallD,D],MdlOk m:=fun m h=>by
      simp only [List.mem_cons,List.not_mem_nil,or_false] at h
      rcases h with rfl | rfl
      . exact smallD_ok
      . exact okD
    have e3:∀ m ∈ [smallD,D,smallD],MdlOk m:=fun m h=>by
      simp only [List.mem_cons,List.not_mem_nil,or_false] at h
      rcases h with rfl | rfl | rfl
      . exact smallD_ok
      . exact okD
      . exact smallD_ok
    have l2:=fun (q:World) (u:Nat) (h:On q u (.cells #[.string ⟨#[77]⟩,.slice none 0 0,.slice none 0 0,.slice (some ⟨R,0,none⟩) 1 1,.slice (some ⟨V,0,none⟩) 2 2,.slice (some ⟨T,0,none⟩) 1 1,.string D.nm,.slice pd.a1 D.vars.length pd.c1,.slice pd.a2 D.evs.length pd.c2,.slice pd.a3 D.regs.length pd.c3,.slice pd.a4 D.vers.length pd.c4,.slice pd.a5 D.trns.length pd.c5] 42)) (g:Below W10.heap.size W10 q)=>lib2 (m:=smallD) (n:=D) (p:=⟨none,0,none,0,some ⟨R,0,none⟩,1,some ⟨V,0,none⟩,2,some ⟨T,0,none⟩,1⟩) (r:=pd) h (hmS'.below g) (hmD'.below g)
    have l3:=(lib3 (m:=smallD) (n:=D) (o:=smallD) (p:=⟨none,0,none,0,some ⟨R,0,none⟩,1,some ⟨V,0,none⟩,2,some ⟨T,0,none⟩,1⟩) (r:=pd) (s:=⟨none,0,none,0,some ⟨R,0,none⟩,1,some ⟨V,0,none⟩,2,some ⟨T,0,none⟩,1⟩) o10 hmS' hmD' hmS').1
    have HXa:Hid (∀ q u,On q u (.cells #[.string ⟨#[77]⟩,.slice none 0 0,.slice none 0 0,.slice (some ⟨R,0,none⟩) 1 1,.slice (some ⟨V,0,none⟩) 2 2,.slice (some ⟨T,0,none⟩) 1 1,.string D.nm,.slice pd.a1 D.vars.length pd.c1,.slice pd.a2 D.evs.length pd.c2,.slice pd.a3 D.regs.length pd.c3,.slice pd.a4 D.vers.length pd.c4,.slice pd.a5 D.trns.length pd.c5] 42)->Below W10.heap.size W10 q->Calls Tryz.prog 3 #[.slice (some ⟨u,0,none⟩) 2 2] q fun e w'=>e=.returned (.bool true)/\Below q.heap.size q w'):=hid fun q u h g=>expandDoes_any [smallD,D] (some ⟨u,0,none⟩) 2 q (l2 q u h g) (by show 2<=140737488355328;decide) e2 (HTq.o q g)
    have HXb:Hid (∀ q u,On q u (.cells #[.string ⟨#[77]⟩,.slice none 0 0,.slice none 0 0,.slice (some ⟨R,0,none⟩) 1 1,.slice (some ⟨V,0,none⟩) 2 2,.slice (some ⟨T,0,none⟩) 1 1,.string D.nm,.slice pd.a1 D.vars.length pd.c1,.slice pd.a2 D.evs.length pd.c2,.slice pd.a3 D.regs.length pd.c3,.slice pd.a4 D.vers.length pd.c4,.slice pd.a5 D.trns.length pd.c5] 42)->Below W10.heap.size W10 q->Calls Tryz.prog 14 #[.slice (some ⟨u,0,none⟩) 2 2] q fun e w'=>e=.returned (.bool true)/\Below q.heap.size q w'):=hid fun q u h g=>expandRight_any [smallD,D] (some ⟨u,0,none⟩) 2 q (l2 q u h g) (by show 2<=140737488355328;decide) e2 (HTq.o q g)
    have HXc:Hid (∀ q,Below W10.heap.size W10 q->Calls Tryz.prog 3 #[.slice (some ⟨A10,0,none⟩) 3 3] q fun e w'=>e=.returned (.bool true)/\Below q.heap.size q w'):=hid fun q g=>expandDoes_any [smallD,D,smallD] (some ⟨A10,0,none⟩) 3 q ((l3.below g).up g.size) (by show 3<=140737488355328;decide) e3 (HTq.o q g)
    have HXd:Hid (∀ q,Below W10.heap.size W10 q->Calls Tryz.prog 3 #[.slice none 0 0] q fun e w'=>e=.returned (.bool true)/\Below q.heap.size q w'):=hid fun q g=>expandDoes_any [] none 0 q (.inl ⟨_,_,rfl,rfl⟩) (by show 0<=140737488355328;decide) (fun m h=>by cases h) (HTq.o q g)
    have HXe:Hid (∀ q,Below W10.heap.size W10 q->Calls Tryz.prog 15 #[.slice none 0 0,mdV D pd] q fun e w'=>e=.returned (.bool true)/\Below q.heap.size q w'):=hid fun q g=>expandOthers_any [] none 0 D pd q (.inl ⟨_,_,rfl,rfl⟩) (by show 0<=140737488355328;decide) (fun m h=>by cases h) (hmD'.below g) okD (HTq.o q g)
    have HXf:Hid (∀ q,Below W10.heap.size W10 q->Calls Tryz.prog 18 #[] q fun e w'=>e=.returned (.bool true)/\Below q.heap.size q w'):=hid fun q g=>large18_any q (HTq.o q g)
    have HXg:Hid (∀ q,Below W10.heap.size W10 q->Calls Tryz.prog 6 #[] q fun e w'=>e=.returned (.bool true)/\Below q.heap.size q w'):=hid fun q g=>works18_any q (HTq.o q g)
    unfold mdV at HXe
    have HS20:Hid (∀ q,Below W10.heap.size W10 q->(q.cell? ⟨A7,0,none⟩=some (.string D.nm)/\q.cell? ⟨A7,1,none⟩=some (.slice pd.a1 D.vars.length pd.c1)/\q.cell? ⟨A7,2,none⟩=some (.slice pd.a2 D.evs.length pd.c2)/\q.cell? ⟨A7,3,none⟩=some (.slice pd.a3 D.regs.length pd.c3)/\q.cell? ⟨A7,4,none⟩=some (.slice pd.a4 D.vers.length pd.c4)/\q.cell? ⟨A7,5,none⟩=some (.slice pd.a5 D.trns.length pd.c5))/\(q.cell? ⟨A8,0,none⟩=some (.string ⟨#[77]⟩)/\q.cell? ⟨A8,1,none⟩=some (.slice none 0 0)/\q.cell? ⟨A8,2,none⟩=some (.slice none 0 0)/\q.cell? ⟨A8,3,none⟩=some (.slice (some ⟨R,0,none⟩) 1 1)/\q.cell? ⟨A8,4,none⟩=some (.slice (some ⟨V,0,none⟩) 2 2)/\q.cell? ⟨A8,5,none⟩=some (.slice (some ⟨T,0,none⟩) 1 1))):=hid fun q g=>by
      have h1:=(o7.next g10).next g
      have h2:=(o8'.next g10).next g
      exact ⟨⟨cell_row h1,cell_row h1,cell_row h1,cell_row h1,cell_row h1,cell_row h1⟩,⟨cell_row h2,cell_row h2,cell_row h2,cell_row h2,cell_row h2,cell_row h2⟩⟩
    have HBx:=hid hBx
    clear eq eu g10 o10 l10 hps ps hmS hmD hmS' hmD' okD HTq e2 e3 l2 l3 oR oT oV o7 o8' hBx hBW9 HOD HDr HSv
    have hb:Below W10.heap.size W10 W10:=Below.refl _ _
    obtain ⟨⟨y0,y1,y2,y3,y4,y5⟩,⟨x0,x1,x2,x3,x4,x5⟩⟩:=HS20.o _ hb
    go_wp2_with (first
      | ((with_reducible refine (HXa.o _ _ (on_new _ _) (hb.trans ((below_al1 _ (.cells #[.string ⟨#[77]⟩,.slice none 0 0,.slice none 0 0,.slice (some ⟨R,0,none⟩) 1 1,.slice (some ⟨V,0,none⟩) 2 2,.slice (some ⟨T,0,none⟩) 1 1,.string D.nm,.slice pd.a1 D.vars.length pd.c1,.slice pd.a2 D.evs.length pd.c2,.slice pd.a3 D.regs.length pd.c3,.slice pd.a4 D.vers.length pd.c4,.slice pd.a5 D.trns.length pd.c5] 42)).mono hb.size))).mono ?_);rintro e z ⟨rfl,g⟩;replace hb:=(hb.trans ((below_al1 _ (.cells #[.string ⟨#[77]⟩,.slice none 0 0,.slice none 0 0,.slice (some ⟨R,0,none⟩) 1 1,.slice (some ⟨V,0,none⟩) 2 2,.slice (some ⟨T,0,none⟩) 1 1,.string D.nm,.slice pd.a1 D.vars.length pd.c1,.slice pd.a2 D.evs.length pd.c2,.slice pd.a3 D.regs.length pd.c3,.slice pd.a4 D.vers.length pd.c4,.slice pd.a5 D.trns.length pd.c5] 42)).mono hb.size)).trans (g.mono (hb.trans ((below_al1 _ (.cells #[.string ⟨#[77]⟩,.slice none 0 0,.slice none 0 0,.slice (some ⟨R,0,none⟩) 1 1,.slice (some ⟨V,0,none⟩) 2 2,.slice (some ⟨T,0,none⟩) 1 1,.string D.nm,.slice pd.a1 D.vars.length pd.c1,.slice pd.a2 D.evs.length pd.c2,.slice pd.a3 D.regs.length pd.c3,.slice pd.a4 D.vers.length pd.c4,.slice pd.a5 D.trns.length pd.c5] 42)).mono hb.size)).size);clear g;clear x0 x1 x2 x3 x4 x5 y0 y1 y2 y3 y4 y5;obtain ⟨⟨y0,y1,y2,y3,y4,y5⟩,⟨x0,x1,x2,x3,x4,x5⟩⟩:=HS20.o _ hb)
      | ((with_reducible refine (HXb.o _ _ (on_new _ _) (hb.trans ((below_al1 _ (.cells #[.string ⟨#[77]⟩,.slice none 0 0,.slice none 0 0,.slice (some ⟨R,0,none⟩) 1 1,.slice (some ⟨V,0,none⟩) 2 2,.slice (some ⟨T,0,none⟩) 1 1,.string D.nm,.slice pd.a1 D.vars.length pd.c1,.slice pd.a2 D.evs.length pd.c2,.slice pd.a3 D.regs.length pd.c3,.slice pd.a4 D.vers.length pd.c4,.slice pd.a5 D.trns.length pd.c5] 42)).mono hb.size))).mono ?_);rintro e z ⟨rfl,g⟩;replace hb:=(hb.trans ((below_al1 _ (.cells #[.string ⟨#[77]⟩,.slice none 0 0,.slice none 0 0,.slice (some ⟨R,0,none⟩) 1 1,.slice (some ⟨V,0,none⟩) 2 2,.slice (some ⟨T,0,none⟩) 1 1,.string D.nm,.slice pd.a1 D.vars.length pd.c1,.slice pd.a2 D.evs.length pd.c2,.slice pd.a3 D.regs.length pd.c3,.slice pd.a4 D.vers.length pd.c4,.slice pd.a5 D.trns.length pd.c5] 42)).mono hb.size)).trans (g.mono (hb.trans ((below_al1 _ (.cells #[.string ⟨#[77]⟩,.slice none 0 0,.slice none 0 0,.slice (some ⟨R,0,none⟩) 1 1,.slice (some ⟨V,0,none⟩) 2 2,.slice (some ⟨T,0,none⟩) 1 1,.string D.nm,.slice pd.a1 D.vars.length pd.c1,.slice pd.a2 D.evs.length pd.c2,.slice pd.a3 D.regs.length pd.c3,.slice pd.a4 D.vers.length pd.c4,.slice pd.a5 D.trns.length pd.c5] 42)).mono hb.size)).size);clear g;clear x0 x1 x2 x3 x4 x5 y0 y1 y2 y3 y4 y5;obtain ⟨⟨y0,y1,y2,y3,y4,y5⟩,⟨x0,x1,x2,x3,x4,x5⟩⟩:=HS20.o _ hb)
      | ((with_reducible refine (HXc.o _ hb).mono ?_);rintro e z ⟨rfl,g⟩;replace hb:=hb.trans (g.mono hb.size);clear g;clear x0 x1 x2 x3 x4 x5 y0 y1 y2 y3 y4 y5;obtain ⟨⟨y0,y1,y2,y3,y4,y5⟩,⟨x0,x1,x2,x3,x4,x5⟩⟩:=HS20.o _ hb)
      | ((with_reducible refine (HXd.o _ hb).mono ?_);rintro e z ⟨rfl,g⟩;replace hb:=hb.trans (g.mono hb.size);clear g;clear x0 x1 x2 x3 x4 x5 y0 y1 y2 y3 y4 y5;obtain ⟨⟨y0,y1,y2,y3,y4,y5⟩,⟨x0,x1,x2,x3,x4,x5⟩⟩:=HS20.o _ hb)
      | ((with_reducible refine (HXe.o _ hb).mono ?_);rintro e z ⟨rfl,g⟩;replace hb:=hb.trans (g.mono hb.size);clear g;clear x0 x1 x2 x3 x4 x5 y0 y1 y2 y3 y4 y5;obtain ⟨⟨y0,y1,y2,y3,y4,y5⟩,⟨x0,x1,x2,x3,x4,x5⟩⟩:=HS20.o _ hb)
      | ((with_reducible refine (HXf.o _ hb).mono ?_);rintro e z ⟨rfl,g⟩;replace hb:=hb.trans (g.mono hb.size);clear g;clear x0 x1 x2 x3 x4 x5 y0 y1 y2 y3 y4 y5;obtain ⟨⟨y0,y1,y2,y3,y4,y5⟩,⟨x0,x1,x2,x3,x4,x5⟩⟩:=HS20.o _ hb)
      | ((with_reducible refine (HXg.o _ hb).mono ?_);rintro e z ⟨rfl,g⟩;replace hb:=hb.trans (g.mono hb.size);clear g;clear x0 x1 x2 x3 x4 x5 y0 y1 y2 y3 y4 y5;obtain ⟨⟨y0,y1,y2,y3,y4,y5⟩,⟨x0,x1,x2,x3,x4,x5⟩⟩:=HS20.o _ hb))
    have HB9:=hid (HBx.o.trans (hb.mono HBx.o.size))
    go_ret
    exact ⟨rfl,HB9.o⟩
end Go.Proofs
