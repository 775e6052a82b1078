/- Walks: the law 'HistoryKnown'. -/
import Derived.Test.YtiimoclbmaggjaaGreatDoorHKnK
import Derived.Test.YtiimoclbmaggjaaGreatDoorHHsD
namespace Go.Proofs
open Go.RowKit Go.Lx Go.Md Go.Shelf Go.BigFrame Go.Rgi
set_option linter.unusedVariables false
theorem he_any (m:MdlD) (p:Ph) (l:List Int) (n:Nat) (hn:l.length=n) (lv:Value) (h:Int) (w:World) (hm:Mod anyM w m p) (ho:MdlOk m) (hT:Tab w) (hr:RowIn w lv l) (hl:n≤1000) :
   Calls Tryz.prog 10 #[mdV m p,lv,.int .i64 h] w (Yes w):=historyEnds_any m p l lv h w hm ho hT hr (by omega)
theorem hn_any (m:MdlD) (p:Ph) (l k:List Int) (hl:l.length≤1000) (hk:k.length≤1000) (lv ev:Value) (w:World) (hm:Mod anyM w m p) (ho:MdlOk m) (hT:Tab w) (hr:RowIn w lv l) (hr2:RowIn w ev k) :
   Calls Tryz.prog 11 #[mdV m p,lv,ev] w (Yes w):=historyNotes_any m p l k lv ev w hm ho hT hr hr2 (by omega) (by omega)
theorem hl_any (m:MdlD) (p:Ph) (l:List Int) (hl:l.length≤1000) (lv:Value) (h:Int) (w:World) (hm:Mod anyM w m p) (ho:MdlOk m) (hT:Tab w) (hr:RowIn w lv l) :
   Calls Tryz.prog 12 #[mdV m p,lv,.int .i64 h] w (Yes w):=historyLies_any m p l lv h w hm ho hT hr (by omega)
theorem note_len (m:MdlD) (l k:List Int):(noteM m l k).length≤l.length:=by
 unfold noteM;split
 · rw [notes_len];exact Nat.le_refl _
 · simp
def zM:MdlD:=⟨⟨#[]⟩,[],[],[],[],[]⟩
def zP:Ph:=⟨none,0,none,0,none,0,none,0,none,0⟩
theorem z_ok:MdlOk zM:=okB_of (by kernel_rfl)
theorem z_mod (w:World):Mod anyM w zM zP:=⟨.inl ⟨_,_,rfl,rfl⟩,.inl ⟨_,_,rfl,rfl⟩,.inl ⟨_,_,rfl,rfl⟩,.inl ⟨_,_,rfl,rfl⟩,.inl ⟨_,_,rfl,rfl⟩⟩
def dV1:VerD:=⟨⟨#[]⟩,9,1,-1,⟨#[]⟩,⟨#[]⟩,[],⟨#[]⟩⟩
def dV2:VerD:=⟨⟨#[]⟩,1,6,-1,⟨#[]⟩,⟨#[]⟩,[],⟨#[]⟩⟩
def dR1:RegD:=⟨⟨#[]⟩,3⟩
def histM:MdlD:={ smallM with regs:=deepR 5 ++ [dR1],vers:=(deepV 5 ++ [dV1]) ++ [dV2] }
theorem hist_ok:MdlOk histM:=okB_of (by kernel_rfl)
theorem hist_df:∀ x ∈ (deepV 5 ++ [dV1]) ++ [dV2],x.df=[]:=by
 intro x hx
 rcases List.mem_append.1 hx with h | h
 · rcases List.mem_append.1 h with h | h
   · exact deepV_df 5 x h
   · simp only [List.mem_cons,List.not_mem_nil,or_false] at h;subst h;rfl
 · simp only [List.mem_cons,List.not_mem_nil,or_false] at h;subst h;rfl
theorem door9 {N H:Nat} {w:World} (h:Mod (doorQ N) w doorM (doorP N)) (hf:∀ f,f<5→∀ k,w.frozen? ⟨bkD N f,k,none⟩=false) (hH:w.heap.size=H) :
   ∃ m p,MdlOk m∧Dk m p H ((w.alloc (.cells #[.string doorM.nm,.slice (some ⟨N+1,0,none⟩) 2 2,.slice (some ⟨N+2,0,none⟩) 3 3,.slice (some ⟨N+3,0,none⟩) 3 3,.slice (some ⟨N+5,0,none⟩) 11 11,.slice (some ⟨N+10,0,none⟩) 8 8] 28)).setCell ⟨N+5,65,none⟩ (.int .u8 9)):=by
 subst hH
 have o1:=(odw_door h hf).below (below_al1 w (.cells #[.string doorM.nm,.slice (some ⟨N+1,0,none⟩) 2 2,.slice (some ⟨N+2,0,none⟩) 3 3,.slice (some ⟨N+3,0,none⟩) 3 3,.slice (some ⟨N+5,0,none⟩) 11 11,.slice (some ⟨N+10,0,none⟩) 8 8] 28))
 have lt3:N+5<w.heap.size:=(odw_door h hf).lt 3 (by omega)
 have o2:=o1.set 3 65 (by omega) (by decide) (u:=.int .u8 (9:Nat)) ⟨9,rfl,by omega⟩
 obtain ⟨m,hnm,hv,he,hr,hx,ht,hok,hmod⟩:=o2.mod doorM.nm (by decide) false
 refine ⟨m,_,hok,⟨hmod,?_,by rw [World.size_setCell];simp⟩⟩
 have e:=World.alloc_heap_new w (.cells #[.string doorM.nm,.slice (some ⟨N+1,0,none⟩) 2 2,.slice (some ⟨N+2,0,none⟩) 3 3,.slice (some ⟨N+3,0,none⟩) 3 3,.slice (some ⟨N+5,0,none⟩) 11 11,.slice (some ⟨N+10,0,none⟩) 8 8] 28)
 have e2:=(Below.heap_setCell (w.alloc (.cells #[.string doorM.nm,.slice (some ⟨N+1,0,none⟩) 2 2,.slice (some ⟨N+2,0,none⟩) 3 3,.slice (some ⟨N+3,0,none⟩) 3 3,.slice (some ⟨N+5,0,none⟩) 11 11,.slice (some ⟨N+10,0,none⟩) 8 8] 28)) ⟨N+5,65,none⟩ (.int .u8 9) w.heap.size (by simp only;omega)).trans e
 rw [hnm,hv,he,hr,hx,ht]
 exact ⟨cell_blk e2 0,cell_blk e2 1,cell_blk e2 2,cell_blk e2 3,cell_blk e2 4,cell_blk e2 5,frz_door e2 0,frz_door e2 1,frz_door e2 2,frz_door e2 3,frz_door e2 4,frz_door e2 5⟩
set_option maxRecDepth 100000 in
set_option maxHeartbeats 16000000 in
theorem historyKnown_any (w:World) (hT:Tab w):Calls Tryz.prog 3 #[] w (Yes w):=by
 obtain ⟨iR,hiR,zR0,zR1,zR2⟩:=info_parts info_Reg
 obtain ⟨iV,hiV,zV0,zV1,zV2⟩:=info_parts info_Ver
 have TB:=Lib.hid (fun wx (g:Below w.heap.size w wx)=>hT.next g)
 have WK:=Lib.hid (fun wx (g:Below w.heap.size w wx)=>works21 wx (TB.out wx g))
 have OD:=Lib.hid (fun (i:Int) wx=>odd_any i wx)
 have DL:=Lib.hid (fun wx=>door_lay wx)
 have DP:=Lib.hid (fun wx=>show Calls Tryz.prog 14 #[.int .i64 5] wx (DeepO 5 wx) from deep_own 5 (by omega) wx)
 unfold AnyP mdV at OD
 unfold mdV doorM doorP at DL
 unfold DeepO mdV deepM smallM at DP
 simp only [deepR_len,deepV_len,Nat.reduceAdd] at DP
 clear hT
 go_enter Tryz.func3,Tryz.ntmps3
 go_wp2_with fail
 go_loopw [1] (fun i wr=>∃ k:Nat,k≤46∧i=.int .i64 k∧Below w.heap.size w wr) (fun i _=>46 - (intOf i).toNat)
 case atStart=>exact ⟨0,by omega,rfl,Below.refl _ _⟩
 case round =>
  obtain ⟨wa,rfl⟩:∃ wo:World,wo=wr:=⟨_,rfl⟩
  obtain ⟨k,hk,rfl,hba⟩:=hrel
  have HA:=Lib.hid hba
  clear hba
  by_cases hlk:k<46
  · have hkI:(k:Int)<46:=by omega
    go_wp2_with fail
    (with_reducible refine (OD.out _ _).mono ?_)
    rintro e w1 ⟨m,p,rfl,hm,hmod,g1⟩
    have HM:=Lib.hid hm
    have HD:=Lib.hid (Dk.made hmod)
    have HW:=Lib.hid (below_kn (below_kn HA.out g1) (below_al1 w1 (.cells #[.string m.nm,.slice p.a1 m.vars.length p.c1,.slice p.a2 m.evs.length p.c2,.slice p.a3 m.regs.length p.c3,.slice p.a4 m.vers.length p.c4,.slice p.a5 m.trns.length p.c5] 28)))
    obtain ⟨H,hH⟩:∃ H,w1.heap.size=H:=⟨_,rfl⟩
    go_upto_region 5 with fail
    rw [hH] at HD
    try rw [hH]
    clear hm hmod g1 hH
    generalize w1.alloc (.cells #[.string m.nm,.slice p.a1 m.vars.length p.c1,.slice p.a2 m.evs.length p.c2,.slice p.a3 m.regs.length p.c3,.slice p.a4 m.vers.length p.c4,.slice p.a5 m.trns.length p.c5] 28)=W1 at *
    have DE:=Lib.hid (fun l n hn lv h wx (g:Below W1.heap.size W1 wx) hr hl=>he_any m p l n hn lv h wx (HD.out.below g).mod HM.out (TB.out wx (below_kn HW.out g)) hr hl)
    have DN:=Lib.hid (fun l k hl hk lv ev wx (g:Below W1.heap.size W1 wx) hr hr2=>hn_any m p l k hl hk lv ev wx (HD.out.below g).mod HM.out (TB.out wx (below_kn HW.out g)) hr hr2)
    have DS:=Lib.hid (fun l hl lv h wx (g:Below W1.heap.size W1 wx) hr=>hl_any m p l hl lv h wx (HD.out.below g).mod HM.out (TB.out wx (below_kn HW.out g)) hr)
    unfold mdV at DE DN DS
    go_wp2_with fail
    go_loopw [3] (fun i wr=>∃ v:Int,-1≤v∧v≤12∧i=.int .i64 v∧Below W1.heap.size W1 wr) (fun i _=>(12 - intOf i).toNat)
    case atStart=>exact ⟨-1,by omega,by omega,rfl,Below.refl _ _⟩
    case round =>
     obtain ⟨wv,rfl⟩:∃ wo:World,wo=wr:=⟨_,rfl⟩
     obtain ⟨v,hv1,hv2,rfl,hbv⟩:=hrel
     have HB:=Lib.hid hbv
     clear hbv
     by_cases hlv:v<12
     · obtain ⟨x0,x1,x2,x3,x4,x5,_⟩:=(HD.out.below HB.out).box
       go_wp2_with fail
       (with_reducible refine (DE.out [1,v,6] 3 rfl _ _ _ (HB.out.alloc HB.out.size _) (one3_kn wv _ _ _) (by omega)).mono ?_)
       rintro e w2 ⟨rfl,g2⟩
       have HB2:=Lib.hid (below_kn (HB.out.alloc HB.out.size _) g2)
       clear g2 x0 x1 x2 x3 x4 x5
       obtain ⟨x0,x1,x2,x3,x4,x5,_⟩:=(HD.out.below HB2.out).box
       go_wp2_with fail
       (with_reducible refine (DE.out [-1,3,v] 3 rfl _ _ _ (HB2.out.alloc HB2.out.size _) (one3_kn w2 _ _ _) (by omega)).mono ?_)
       rintro e w3 ⟨rfl,g3⟩
       have HB3:=Lib.hid (below_kn (HB2.out.alloc HB2.out.size _) g3)
       clear g3 x0 x1 x2 x3 x4 x5
       obtain ⟨x0,x1,x2,x3,x4,x5,_⟩:=(HD.out.below HB3.out).box
       go_wp2_with fail
       (with_reducible refine (DN.out [1,3,-1] [v,_,7] (by simp) (by simp) _ _ _ (al2_kn HB3.out (Nat.le_refl _) _ _) (two3_kn w3 _ _ _ _ _ _).1 (two3_kn w3 _ _ _ _ _ _).2).mono ?_)
       rintro e w4 ⟨rfl,g4⟩
       have HB4:=Lib.hid (below_kn (al2_kn HB3.out (Nat.le_refl _) _ _) g4)
       clear g4 x0 x1 x2 x3 x4 x5
       obtain ⟨x0,x1,x2,x3,x4,x5,_⟩:=(HD.out.below HB4.out).box
       go_wp2_with fail
       (with_reducible refine (DS.out [3,v,_] (by simp) _ _ _ (HB4.out.alloc HB4.out.size _) (one3_kn w4 _ _ _)).mono ?_)
       rintro e w5 ⟨rfl,g5⟩
       have HB5:=Lib.hid (below_kn (HB4.out.alloc HB4.out.size _) g5)
       clear g5 x0 x1 x2 x3 x4 x5
       go_wp2_with fail
       go_roundw
       case rel=>exact ⟨v+1,by omega,by omega,by go_num,HB5.out⟩
       case measure=>simp [intOf] <;> omega
     · have hvx:12≤v:=by omega
       go_wp2_with fail
       go_roundw
       case rel=>exact ⟨k+1,by omega,by go_num,below_kn HW.out HB.out⟩
       case measure=>simp [intOf] <;> omega
  · obtain rfl:k=46:=by omega
    go_wp2_with fail
    (with_reducible refine (DL.out _).mono ?_)
    rintro e w1 ⟨rfl,hm1,g1,hf1⟩
    obtain ⟨u65,q65,_⟩:=(odw_door hm1 hf1).cell 3 (by omega) 65 (by decide)
    have z65:=hf1 3 (by omega) 65
    have b65:=(odw_door hm1 hf1).lt 3 (by omega)
    have D9:=Lib.hid (door9 hm1 hf1 rfl)
    have HB1:=Lib.hid (below_kn HA.out g1)
    have hN5:wa.heap.size≤wa.heap.size+5:=by omega
    have hAs:w.heap.size≤wa.heap.size:=HA.out.size
    simp only [bkD] at q65 z65 b65
    unfold doorM at D9
    dsimp only at D9
    clear hm1 g1 hf1
    go_upto_region 12 with fail
    refine od_wp (S:=fun W=>∃ m p,MdlOk m∧Dk m p w1.heap.size W∧Below w.heap.size w W) ?_ ?_
    · obtain ⟨m,p,ho,hd⟩:=D9.out
      first
        | exact ⟨m,p,ho,hd,(al1_kn HB1.out (Nat.le_refl _) _).setCell (by simp only;omega) _⟩
        | (rw [← World.setCell_alloc_past _ _ _ _ b65];exact ⟨m,p,ho,hd,(al1_kn HB1.out (Nat.le_refl _) _).setCell (by simp only;omega) _⟩)
    clear D9 q65 z65 b65
    intro W9 hW9
    obtain ⟨m,p,hm,hd9,hb9⟩:=hW9
    have HM:=Lib.hid hm
    have HD:=Lib.hid hd9
    have HB9:=Lib.hid hb9
    clear hm hd9 hb9 HB1 hN5 hAs
    obtain ⟨H4,hH4⟩:∃ x,w1.heap.size=x:=⟨_,rfl⟩
    rw [hH4] at HD
    rw [hH4]
    clear hH4
    go_wp2_with fail
    (with_reducible refine (DP.out _).mono ?_)
    rintro e w3 ⟨N,Bt,a3,c3,a4,c4,rfl,_,dr3,hN3,g3⟩
    have HG:=Lib.hid (dr3.boxed (w:=W9) g3 hN3)
    have hz3:W9.heap.size≤w3.heap.size:=g3.size
    clear dr3 hN3 g3
    obtain ⟨H5,hH5⟩:∃ x,w3.heap.size=x:=⟨_,rfl⟩
    go_upto_region 13 with fail
    rw [hH5] at HG hz3
    try rw [hH5]
    clear hH5
    generalize w3.alloc (.cells #[.string ⟨#[77]⟩,.slice none 0 0,.slice none 0 0,.slice a3 6 c3,.slice a4 7 c4,.slice (some ⟨Bt,0,none⟩) 1 1] 28)=W12 at *
    obtain ⟨_,d0,d1,d2,d3,d4,d5,fr,_⟩:=HG.out
    have f4:=fr 4
    clear fr
    go_upto_region 14 with (at_builtin;go_loud (refine wpList_append_lies _ rfl _ _ 25 rfl N 35 iV _ 8 112 Tryz.underlying25 hiV zV0 zV1 zV2 rfl (by omega) _ 7 ((deepV 5).flatMap verC) rfl (HG.out.ov.alloc _) ⟨W12.heap.size,0,none⟩ 1 1 [.string ⟨#[]⟩,.int .u8 9,.int .i64 1,.int .i64 (-1),.string ⟨#[]⟩,.string ⟨#[]⟩,.slice none 0 0,.string ⟨#[]⟩] rfl rfl (World.news_of_block (cs:=#[.string ⟨#[]⟩,.int .u8 9,.int .i64 1,.int .i64 (-1),.string ⟨#[]⟩,.string ⟨#[]⟩,.slice none 0 0,.string ⟨#[]⟩]) (t:=35) (fr:=(0,0)) (alloc1_dp W12 _)) (by simp [Value.oneCell']) (by omega) (by unfold maxLen;omega) (by omega) (by have:=HG.out.hn;simp;omega) (W12.heap.size+1) (by simp) ?_;intro g13 c13 w13 hown hgrow hat hlt;have HG1:=Lib.hid (HG.out.push4 (x:=dV1) hgrow hown hat);have kH:=grown_at hgrow HG.out.lt (fun e=>(HG.out.h4 H5 e).1 rfl);have s4:=(World.cell?_of_block (w:=W12) (a:=⟨H5,4,none⟩) kH).trans d4;have t4:=(World.frozen?_of_block (w:=W12) (a:=⟨H5,4,none⟩) kH).trans f4;clear hown hgrow hat hlt kH))
    generalize w13.setCell ⟨H5,4,none⟩ (.slice (some ⟨g13,0,none⟩) (7+1) c13)=W14 at *
    clear d0 d1 d2 d3 d4 d5 f4 s4 t4 HG
    obtain ⟨_,d0,d1,d2,d3,d4,d5,fr,_⟩:=HG1.out
    have f3:=fr 3
    clear fr
    go_upto_region 15 with (at_builtin;go_loud (refine wpList_append_lies _ rfl _ _ 24 rfl N 37 iR _ 2 24 Tryz.underlying24 hiR zR0 zR1 zR2 rfl (by omega) _ 6 ((deepR 5).flatMap regC) rfl (HG1.out.og.alloc _) ⟨W14.heap.size,0,none⟩ 1 1 [.string ⟨#[]⟩,.int .i64 3] rfl rfl (World.news_of_block (cs:=#[.string ⟨#[]⟩,.int .i64 3]) (t:=37) (fr:=(0,0)) (alloc1_dp W14 _)) (by simp [Value.oneCell']) (by omega) (by unfold maxLen;omega) (by omega) (by have:=HG1.out.hn;simp;omega) (W14.heap.size+1) (by simp) ?_;intro g14 c14 w14 hown hgrow hat hlt;have HG2:=Lib.hid (HG1.out.push3 (x:=dR1) hgrow hown hat);have kH:=grown_at hgrow HG1.out.lt (fun e=>(HG1.out.h3 H5 e).1 rfl);have s3:=(World.cell?_of_block (w:=W14) (a:=⟨H5,3,none⟩) kH).trans d3;have t3:=(World.frozen?_of_block (w:=W14) (a:=⟨H5,3,none⟩) kH).trans f3;clear hown hgrow hat hlt kH))
    generalize w14.setCell ⟨H5,3,none⟩ (.slice (some ⟨g14,0,none⟩) (6+1) c14)=W15 at *
    clear d0 d1 d2 d3 d4 d5 f3 s3 t3 HG1
    obtain ⟨_,d0,d1,d2,d3,d4,d5,fr,_⟩:=HG2.out
    have f4:=fr 4
    clear fr
    go_upto_region 16 with (at_builtin;go_loud (refine wpList_append_lies _ rfl _ _ 25 rfl N 35 iV _ 8 112 Tryz.underlying25 hiV zV0 zV1 zV2 rfl (by omega) _ 8 ((deepV 5 ++ [dV1]).flatMap verC) rfl (HG2.out.ov.alloc _) ⟨W15.heap.size,0,none⟩ 1 1 [.string ⟨#[]⟩,.int .u8 1,.int .i64 6,.int .i64 (-1),.string ⟨#[]⟩,.string ⟨#[]⟩,.slice none 0 0,.string ⟨#[]⟩] rfl rfl (World.news_of_block (cs:=#[.string ⟨#[]⟩,.int .u8 1,.int .i64 6,.int .i64 (-1),.string ⟨#[]⟩,.string ⟨#[]⟩,.slice none 0 0,.string ⟨#[]⟩]) (t:=35) (fr:=(0,0)) (alloc1_dp W15 _)) (by simp [Value.oneCell']) (by omega) (by unfold maxLen;omega) (by omega) (by have:=HG2.out.hn;simp;omega) (W15.heap.size+1) (by simp) ?_;intro g15 c15 w15 hown hgrow hat hlt;have HG3:=Lib.hid (HG2.out.push4 (x:=dV2) hgrow hown hat);have kH:=grown_at hgrow HG2.out.lt (fun e=>(HG2.out.h4 H5 e).1 rfl);have s4:=(World.cell?_of_block (w:=W15) (a:=⟨H5,4,none⟩) kH).trans d4;have t4:=(World.frozen?_of_block (w:=W15) (a:=⟨H5,4,none⟩) kH).trans f4;clear hown hgrow hat hlt kH))
    generalize w15.setCell ⟨H5,4,none⟩ (.slice (some ⟨g15,0,none⟩) (8+1) c15)=W16 at *
    clear d0 d1 d2 d3 d4 d5 f4 s4 t4 HG2
    obtain ⟨m5,p5,hm5,hd5⟩:∃ m p,MdlOk m∧Dk m p H5 W16∧m.regs.length≤100:=⟨histM,⟨none,0,none,0,some ⟨g14,0,none⟩,c14,some ⟨g15,0,none⟩,c15,some ⟨Bt,0,none⟩,1⟩,hist_ok,⟨(HG3.out.mod rfl rfl (by omega) (by omega) hist_df).any,⟨HG3.out.d0,HG3.out.d1,HG3.out.d2,HG3.out.d3,HG3.out.d4,HG3.out.d5,HG3.out.fr 0,HG3.out.fr 1,HG3.out.fr 2,HG3.out.fr 3,HG3.out.fr 4,HG3.out.fr 5⟩,HG3.out.lt⟩,by decide⟩
    have HM5:=Lib.hid hm5
    have HD5:=Lib.hid hd5.1
    have hr5:=hd5.2
    have HD4:=Lib.hid (HD.out.below HG3.out.bel)
    have HW16:=Lib.hid (below_kn HB9.out HG3.out.bel)
    clear hm5 hd5 HG3 HD HB9
    have DS:=Lib.hid (fun l hl lv h wx (g:Below W16.heap.size W16 wx) hr=>hl_any m p l hl lv h wx (HD4.out.below g).mod HM.out (TB.out wx (below_kn HW16.out g)) hr)
    have D5:=Lib.hid (fun l hl lv h wx (g:Below W16.heap.size W16 wx) hr=>hl_any m5 p5 l hl lv h wx (HD5.out.below g).mod HM5.out (TB.out wx (below_kn HW16.out g)) hr)
    have DE5:=Lib.hid (fun l n hn lv h wx (g:Below W16.heap.size W16 wx) hr hl=>he_any m5 p5 l n hn lv h wx (HD5.out.below g).mod HM5.out (TB.out wx (below_kn HW16.out g)) hr hl)
    have NO:=Lib.hid (fun wx (g:Below W16.heap.size W16 wx)=>none21_any m5 p5 wx (HD5.out.below g).mod (by omega))
    have NT:=Lib.hid (fun v lv ev wx (g:Below W16.heap.size W16 wx) hr hr2=>note_any m5 p5 (List.replicate m5.regs.length (-1)) [2,3,v] lv ev wx (HD5.out.below g).mod HM5.out (TB.out wx (below_kn HW16.out g)) hr (by simp;omega) hr2 (by simp))
    unfold mdV at DS D5 DE5 NO NT
    unfold RowP at NO NT
    have HS:Hid (∀ W',Below W16.heap.size W16 W'→(W'.cell? ⟨H4,0,none⟩=some (.string m.nm)∧W'.cell? ⟨H4,1,none⟩=some (.slice p.a1 m.vars.length p.c1)∧W'.cell? ⟨H4,2,none⟩=some (.slice p.a2 m.evs.length p.c2)∧W'.cell? ⟨H4,3,none⟩=some (.slice p.a3 m.regs.length p.c3)∧W'.cell? ⟨H4,4,none⟩=some (.slice p.a4 m.vers.length p.c4)∧W'.cell? ⟨H4,5,none⟩=some (.slice p.a5 m.trns.length p.c5))∧(W'.cell? ⟨H5,0,none⟩=some (.string m5.nm)∧W'.cell? ⟨H5,1,none⟩=some (.slice p5.a1 m5.vars.length p5.c1)∧W'.cell? ⟨H5,2,none⟩=some (.slice p5.a2 m5.evs.length p5.c2)∧W'.cell? ⟨H5,3,none⟩=some (.slice p5.a3 m5.regs.length p5.c3)∧W'.cell? ⟨H5,4,none⟩=some (.slice p5.a4 m5.vers.length p5.c4)∧W'.cell? ⟨H5,5,none⟩=some (.slice p5.a5 m5.trns.length p5.c5))):=Lib.hid fun W' g=>by
      obtain ⟨x0,x1,x2,x3,x4,x5,_⟩:=(HD4.out.below g).box
      obtain ⟨y0,y1,y2,y3,y4,y5,_⟩:=(HD5.out.below g).box
      exact ⟨⟨x0,x1,x2,x3,x4,x5⟩,y0,y1,y2,y3,y4,y5⟩
    go_wp2_with fail
    go_loopw [6] (fun i wr=>∃ v:Int,0≤v∧v≤9∧i=.int .i64 v∧Below W16.heap.size W16 wr) (fun i _=>(9 - intOf i).toNat)
    case atStart=>exact ⟨0,by omega,by omega,rfl,Below.refl _ _⟩
    case round =>
     obtain ⟨wv,rfl⟩:∃ wo:World,wo=wr:=⟨_,rfl⟩
     obtain ⟨v,hv0,hv,rfl,hbv⟩:=hrel
     have HV:=Lib.hid hbv
     clear hbv
     by_cases hlv:v<9
     · have hB0:Below W16.heap.size W16 wv:=HV.out
       have NL:Hid ((noteM m5 (List.replicate m5.regs.length (-1)) [2,3,v]).length≤1000):=Lib.hid (by
         have:(noteM m5 (List.replicate m5.regs.length (-1)) [2,3,v]).length≤(List.replicate m5.regs.length (-1:Int)).length:=note_len _ _ _
         rw [List.length_replicate] at this
         omega)
       go_wp2_with fail
       refine wp_region_any (by kernel_rfl) ?_
       change wpAny _ _ _ _ _ _ _ (World.drew _)
       refine wpAny_of_heldS (S:=(fun W'=>(W'.cell? ⟨H4,0,none⟩=some (.string m.nm)∧W'.cell? ⟨H4,1,none⟩=some (.slice p.a1 m.vars.length p.c1)∧W'.cell? ⟨H4,2,none⟩=some (.slice p.a2 m.evs.length p.c2)∧W'.cell? ⟨H4,3,none⟩=some (.slice p.a3 m.regs.length p.c3)∧W'.cell? ⟨H4,4,none⟩=some (.slice p.a4 m.vers.length p.c4)∧W'.cell? ⟨H4,5,none⟩=some (.slice p.a5 m.trns.length p.c5))∧(W'.cell? ⟨H5,0,none⟩=some (.string m5.nm)∧W'.cell? ⟨H5,1,none⟩=some (.slice p5.a1 m5.vars.length p5.c1)∧W'.cell? ⟨H5,2,none⟩=some (.slice p5.a2 m5.evs.length p5.c2)∧W'.cell? ⟨H5,3,none⟩=some (.slice p5.a3 m5.regs.length p5.c3)∧W'.cell? ⟨H5,4,none⟩=some (.slice p5.a4 m5.vers.length p5.c4)∧W'.cell? ⟨H5,5,none⟩=some (.slice p5.a5 m5.trns.length p5.c5)))) ?_ (fun hHeld=>?_)
       · (try dsimp only) <;> (first | exact HS.out _ (by assumption) | exact HS.out _ hB0.drew | exact HS.out _ (al1_kn hB0 (Nat.le_refl _) _).drew | exact HS.out _ (al1_kn (by assumption) (Nat.le_refl _) _))
       refine tk 0 rfl ?_
       try simp only [Act.put,lyA,lyZ,lyS]
       refine tk 1 rfl ?_
       try simp only [Act.put,lyA,lyZ,lyS]
       refine rdy [2] ?_
       refine rdC rfl (fun K hK=>?_) ?_
       (go_simp)
       refine hK.out _ _ ?_ (fun hH1=>?_)
       · (try dsimp only) <;> (first | exact HS.out _ (by assumption) | exact HS.out _ hB0.drew | exact HS.out _ (al1_kn hB0 (Nat.le_refl _) _).drew | exact HS.out _ (al1_kn (by assumption) (Nat.le_refl _) _))
       clear hK K hHeld
       try simp only [Act.put,lyA,lyZ,lyS]
       refine rdy [3] ?_
       refine rdC rfl (fun K hK=>?_) ?_
       (go_simp;(with_reducible refine (DS.out [v,3] (by simp) _ _ _ (al1_kn hB0 (Nat.le_refl _) _).drew (one2_kn wv _ _).drew).mono ?_);rintro e w4 ⟨rfl,hb4⟩;have hB4:=below_kn (al1_kn hB0 (Nat.le_refl _) (.cells #[.int .i64 v,.int .i64 3] 3)).drew hb4;go_wp2_with fail)
       refine hK.out _ _ ?_ (fun hH2=>?_)
       · (try dsimp only) <;> (first | exact HS.out _ (by assumption) | exact HS.out _ hB0.drew | exact HS.out _ (al1_kn hB0 (Nat.le_refl _) _).drew | exact HS.out _ (al1_kn (by assumption) (Nat.le_refl _) _))
       clear hK K hH1
       try simp only [Act.put,lyA,lyZ,lyS]
       refine tk 4 rfl ?_
       try simp only [Act.put,lyA,lyZ,lyS]
       refine tk 5 rfl ?_
       try simp only [Act.put,lyA,lyZ,lyS]
       refine tk 6 rfl ?_
       try simp only [Act.put,lyA,lyZ,lyS]
       refine tk 7 rfl ?_
       try simp only [Act.put,lyA,lyZ,lyS]
       refine rdy [8] ?_
       refine rdC rfl (fun K hK=>?_) ?_
       (go_simp)
       refine hK.out _ _ ?_ (fun hH3=>?_)
       · (try dsimp only) <;> (first | exact HS.out _ (by assumption) | exact HS.out _ hB0.drew | exact HS.out _ (al1_kn hB0 (Nat.le_refl _) _).drew | exact HS.out _ (al1_kn (by assumption) (Nat.le_refl _) _))
       clear hK K hH2
       try simp only [Act.put,lyA,lyZ,lyS]
       refine rdy [9] ?_
       refine rdC rfl (fun K hK=>?_) ?_
       (go_simp;(with_reducible refine (D5.out [2,3,4,v,8] (by simp) _ _ _ (al1_kn hB4 (Nat.le_refl _) _) (one5_kn _ _ _ _ _ _)).mono ?_);rintro e w5 ⟨rfl,hb5⟩;have hB5:=below_kn (al1_kn hB4 (Nat.le_refl _) (.cells #[.int .i64 2,.int .i64 3,.int .i64 4,.int .i64 v,.int .i64 8] 3)) hb5;go_wp2_with fail)
       refine hK.out _ _ ?_ (fun hH4=>?_)
       · (try dsimp only) <;> (first | exact HS.out _ (by assumption) | exact HS.out _ hB0.drew | exact HS.out _ (al1_kn hB0 (Nat.le_refl _) _).drew | exact HS.out _ (al1_kn (by assumption) (Nat.le_refl _) _))
       clear hK K hH3
       try simp only [Act.put,lyA,lyZ,lyS]
       refine tk 10 rfl ?_
       try simp only [Act.put,lyA,lyZ,lyS]
       refine tk 11 rfl ?_
       try simp only [Act.put,lyA,lyZ,lyS]
       refine tk 12 rfl ?_
       try simp only [Act.put,lyA,lyZ,lyS]
       refine tk 13 rfl ?_
       try simp only [Act.put,lyA,lyZ,lyS]
       refine tk 14 rfl ?_
       try simp only [Act.put,lyA,lyZ,lyS]
       refine rdy [15] ?_
       refine rdC rfl (fun K hK=>?_) ?_
       (go_simp)
       refine hK.out _ _ ?_ (fun hH5=>?_)
       · (try dsimp only) <;> (first | exact HS.out _ (by assumption) | exact HS.out _ hB0.drew | exact HS.out _ (al1_kn hB0 (Nat.le_refl _) _).drew | exact HS.out _ (al1_kn (by assumption) (Nat.le_refl _) _))
       clear hK K hH4
       try simp only [Act.put,lyA,lyZ,lyS]
       refine rdy [16] ?_
       refine rdC rfl (fun K hK=>?_) ?_
       (go_simp;(with_reducible refine (D5.out [2,v] (by simp) _ _ _ (al1_kn hB5 (Nat.le_refl _) _) (one2_kn _ _ _)).mono ?_);rintro e w6 ⟨rfl,hb6⟩;have hB6:=below_kn (al1_kn hB5 (Nat.le_refl _) (.cells #[.int .i64 2,.int .i64 v] 3)) hb6;go_wp2_with fail)
       refine hK.out _ _ ?_ (fun hH6=>?_)
       · (try dsimp only) <;> (first | exact HS.out _ (by assumption) | exact HS.out _ hB0.drew | exact HS.out _ (al1_kn hB0 (Nat.le_refl _) _).drew | exact HS.out _ (al1_kn (by assumption) (Nat.le_refl _) _))
       clear hK K hH5
       try simp only [Act.put,lyA,lyZ,lyS]
       refine tk 17 rfl ?_
       try simp only [Act.put,lyA,lyZ,lyS]
       refine tk 18 rfl ?_
       try simp only [Act.put,lyA,lyZ,lyS]
       refine tk 19 rfl ?_
       try simp only [Act.put,lyA,lyZ,lyS]
       refine tk 20 rfl ?_
       try simp only [Act.put,lyA,lyZ,lyS]
       refine tk 21 rfl ?_
       try simp only [Act.put,lyA,lyZ,lyS]
       refine tk 23 rfl ?_
       try simp only [Act.put,lyA,lyZ,lyS]
       refine tk 24 rfl ?_
       try simp only [Act.put,lyA,lyZ,lyS]
       refine rdy [22,25] ?_
       refine rdC rfl (fun K hK=>?_) ?_
       (go_simp;(with_reducible refine (NO.out _ (by first | assumption | exact al1_kn hB6 (Nat.le_refl _) _)).mono ?_);rintro e w7 ⟨v7,rfl,ho7,hb7⟩;have hR7:=RowIn.own ho7;have hB7:=below_kn (by first | exact hB6 | exact al1_kn hB6 (Nat.le_refl _) (.cells #[.int .i64 2,.int .i64 3,.int .i64 v] 3)) hb7;clear ho7;go_wp2_with fail)
       refine hK.out _ _ ?_ (fun hH7=>?_)
       · (try dsimp only) <;> (first | exact HS.out _ (by assumption) | exact HS.out _ hB0.drew | exact HS.out _ (al1_kn hB0 (Nat.le_refl _) _).drew | exact HS.out _ (al1_kn (by assumption) (Nat.le_refl _) _))
       clear hK K hH6
       try simp only [Act.put,lyA,lyZ,lyS]
       refine rdy [25] ?_
       refine rdC rfl (fun K hK=>?_) ?_
       (go_simp)
       refine hK.out _ _ ?_ (fun hH8=>?_)
       · (try dsimp only) <;> (first | exact HS.out _ (by assumption) | exact HS.out _ hB0.drew | exact HS.out _ (al1_kn hB0 (Nat.le_refl _) _).drew | exact HS.out _ (al1_kn (by assumption) (Nat.le_refl _) _))
       clear hK K hH7
       try simp only [Act.put,lyA,lyZ,lyS]
       refine rdy [26] ?_
       refine rdC rfl (fun K hK=>?_) ?_
       (go_simp;(with_reducible refine (NT.out _ _ _ _ (by first | assumption | exact al1_kn hB7 (Nat.le_refl _) _) (by first | exact hR7 | exact hR7.below (below_al1 _ _)) (by first | exact one3_kn _ _ _ _ | exact (one3_kn w6 _ _ _).below hb7)).mono ?_);rintro e w8 ⟨v8,rfl,ho8,hb8⟩;have hR8:=RowIn.own ho8;have hB8:=below_kn (by first | exact hB7 | exact al1_kn hB7 (Nat.le_refl _) (.cells #[.int .i64 2,.int .i64 3,.int .i64 v] 3)) hb8;clear ho8;go_wp2_with fail)
       refine hK.out _ _ ?_ (fun hH9=>?_)
       · (try dsimp only) <;> (first | exact HS.out _ (by assumption) | exact HS.out _ hB0.drew | exact HS.out _ (al1_kn hB0 (Nat.le_refl _) _).drew | exact HS.out _ (al1_kn (by assumption) (Nat.le_refl _) _))
       clear hK K hH8
       try simp only [Act.put,lyA,lyZ,lyS]
       refine rdy [27] ?_
       refine rdC rfl (fun K hK=>?_) ?_
       (go_simp;(with_reducible refine (DE5.out _ _ rfl _ _ _ hB8 hR8 NL.out).mono ?_);rintro e w9 ⟨rfl,hb9⟩;have hB9:=below_kn hB8 hb9;go_wp2_with fail)
       refine hK.out _ _ ?_ (fun hH10=>?_)
       · (try dsimp only) <;> (first | exact HS.out _ (by assumption) | exact HS.out _ hB0.drew | exact HS.out _ (al1_kn hB0 (Nat.le_refl _) _).drew | exact HS.out _ (al1_kn (by assumption) (Nat.le_refl _) _))
       clear hK K hH9
       try simp only [Act.put,lyA,lyZ,lyS]
       refine tk 28 rfl ?_
       try simp only [Act.put,lyA,lyZ,lyS]
       refine tk 29 rfl ?_
       try simp only [Act.put,lyA,lyZ,lyS]
       refine wpAnyH_done (by kernel_rfl) ?_ _
       rotate_left
       exact AllReadyH.nil
       exact AllReadyH.nil
       exact AllReadyH.nil
       refine rdC rfl (fun K hK=>?_) ?_
       (go_simp)
       refine hK.out _ _ ?_ (fun hH11=>?_)
       · (try dsimp only) <;> (first | exact HS.out _ (by assumption) | exact HS.out _ hB0.drew | exact HS.out _ (al1_kn hB0 (Nat.le_refl _) _).drew | exact HS.out _ (al1_kn (by assumption) (Nat.le_refl _) _))
       clear hK K hH6
       try simp only [Act.put,lyA,lyZ,lyS]
       refine rdy [22] ?_
       refine rdC rfl (fun K hK=>?_) ?_
       (go_simp;(with_reducible refine (NO.out _ (by first | assumption | exact al1_kn hB6 (Nat.le_refl _) _)).mono ?_);rintro e w7 ⟨v7,rfl,ho7,hb7⟩;have hR7:=RowIn.own ho7;have hB7:=below_kn (by first | exact hB6 | exact al1_kn hB6 (Nat.le_refl _) (.cells #[.int .i64 2,.int .i64 3,.int .i64 v] 3)) hb7;clear ho7;go_wp2_with fail)
       refine hK.out _ _ ?_ (fun hH12=>?_)
       · (try dsimp only) <;> (first | exact HS.out _ (by assumption) | exact HS.out _ hB0.drew | exact HS.out _ (al1_kn hB0 (Nat.le_refl _) _).drew | exact HS.out _ (al1_kn (by assumption) (Nat.le_refl _) _))
       clear hK K hH11
       try simp only [Act.put,lyA,lyZ,lyS]
       refine rdy [26] ?_
       refine rdC rfl (fun K hK=>?_) ?_
       (go_simp;(with_reducible refine (NT.out _ _ _ _ (by first | assumption | exact al1_kn hB7 (Nat.le_refl _) _) (by first | exact hR7 | exact hR7.below (below_al1 _ _)) (by first | exact one3_kn _ _ _ _ | exact (one3_kn w6 _ _ _).below hb7)).mono ?_);rintro e w8 ⟨v8,rfl,ho8,hb8⟩;have hR8:=RowIn.own ho8;have hB8:=below_kn (by first | exact hB7 | exact al1_kn hB7 (Nat.le_refl _) (.cells #[.int .i64 2,.int .i64 3,.int .i64 v] 3)) hb8;clear ho8;go_wp2_with fail)
       refine hK.out _ _ ?_ (fun hH13=>?_)
       · (try dsimp only) <;> (first | exact HS.out _ (by assumption) | exact HS.out _ hB0.drew | exact HS.out _ (al1_kn hB0 (Nat.le_refl _) _).drew | exact HS.out _ (al1_kn (by assumption) (Nat.le_refl _) _))
       clear hK K hH12
       try simp only [Act.put,lyA,lyZ,lyS]
       refine rdy [27] ?_
       refine rdC rfl (fun K hK=>?_) ?_
       (go_simp;(with_reducible refine (DE5.out _ _ rfl _ _ _ hB8 hR8 NL.out).mono ?_);rintro e w9 ⟨rfl,hb9⟩;have hB9:=below_kn hB8 hb9;go_wp2_with fail)
       refine hK.out _ _ ?_ (fun hH14=>?_)
       · (try dsimp only) <;> (first | exact HS.out _ (by assumption) | exact HS.out _ hB0.drew | exact HS.out _ (al1_kn hB0 (Nat.le_refl _) _).drew | exact HS.out _ (al1_kn (by assumption) (Nat.le_refl _) _))
       clear hK K hH13
       try simp only [Act.put,lyA,lyZ,lyS]
       refine tk 28 rfl ?_
       try simp only [Act.put,lyA,lyZ,lyS]
       refine tk 29 rfl ?_
       try simp only [Act.put,lyA,lyZ,lyS]
       refine wpAnyH_done (by kernel_rfl) ?_ _
       rotate_left
       exact AllReadyH.nil
       exact AllReadyH.nil
       exact AllReadyH.nil
       exact AllReadyH.nil
       exact AllReadyH.nil
       exact AllReadyH.nil
       exact AllReadyH.nil
       exact AllReadyH.nil
       exact AllReadyH.nil
       exact AllReadyH.nil
       all_goals
         go_wp2_with fail
         go_roundw
         case rel=>exact ⟨v+1,by omega,by omega,by go_num,hB9⟩
         case measure=>simp [intOf] <;> omega
     · have hvx:9≤v:=by omega
       have ZE:=Lib.hid (fun wx (g:Below w.heap.size w wx)=>show Calls Tryz.prog 10 #[.agg #[.string ⟨#[]⟩,.slice none 0 0,.slice none 0 0,.slice none 0 0,.slice none 0 0,.slice none 0 0],.slice none 0 0,.int .i64 0] wx (Yes wx) from he_any zM zP [] 0 rfl (.slice none 0 0) 0 wx (z_mod wx) z_ok (TB.out wx g) (.inl ⟨_,_,rfl,rfl⟩) (by omega))
       have ZN:=Lib.hid (fun wx (g:Below w.heap.size w wx)=>show Calls Tryz.prog 11 #[.agg #[.string ⟨#[]⟩,.slice none 0 0,.slice none 0 0,.slice none 0 0,.slice none 0 0,.slice none 0 0],.slice none 0 0,.slice none 0 0] wx (Yes wx) from hn_any zM zP [] [] (by simp) (by simp) (.slice none 0 0) (.slice none 0 0) wx (z_mod wx) z_ok (TB.out wx g) (.inl ⟨_,_,rfl,rfl⟩) (.inl ⟨_,_,rfl,rfl⟩))
       have HE1:=Lib.hid (below_kn HW16.out HV.out)
       go_wp2_with fail
       (with_reducible refine (ZE.out _ HE1.out).mono ?_)
       rintro e w2 ⟨rfl,g2⟩
       have HE2:=Lib.hid (below_kn HE1.out g2)
       go_wp2_with fail
       (with_reducible refine (ZN.out _ HE2.out).mono ?_)
       rintro e w3 ⟨rfl,g3⟩
       have HE3:=Lib.hid (below_kn HE2.out g3)
       go_wp2_with fail
       (with_reducible refine (WK.out _ HE3.out).mono ?_)
       rintro e w4 ⟨rfl,g4⟩
       go_wp2_with fail
       go_ret
       exact ⟨rfl,below_kn HE3.out g4⟩
end Go.Proofs
