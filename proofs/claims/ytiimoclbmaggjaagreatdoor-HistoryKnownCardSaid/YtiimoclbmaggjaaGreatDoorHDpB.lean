/- Walks: 'Small', where it lies; 'Deep'. -/
import Derived.Test.YtiimoclbmaggjaaGreatDoorHDpA
namespace Go.Proofs
open Go.RowKit Go.Lx Go.Md Go.Shelf
set_option linter.unusedVariables false
theorem alloc1_dp (w:World) (o:Obj):(w.alloc o).heap[w.heap.size]? = some o:=World.alloc_heap_new w o
def SmL (w:World) (e:Ending) (w':World):Prop:=e=.returned (mdV smallM ⟨none,0,none,0,some ⟨w.heap.size+1,0,none⟩,1,some ⟨w.heap.size+2,0,none⟩,2,some ⟨w.heap.size+3,0,none⟩,1⟩)∧Below w.heap.size w w' ∧
 w'.heap[w.heap.size+1]? = some (.cells #[.string ⟨#[]⟩,.int .i64 (-1)] 37 (0,0)) ∧
 w'.heap[w.heap.size+2]? = some (.cells #[.string ⟨#[]⟩,.int .u8 3,.int .i64 0,.int .i64 (-1),.string ⟨#[]⟩,.string ⟨#[]⟩,.slice none 0 0,.string ⟨#[]⟩,.string ⟨#[115]⟩,.int .u8 1,.int .i64 0,.int .i64 (-1),.string ⟨#[]⟩,.string ⟨#[]⟩,.slice none 0 0,.string ⟨#[]⟩] 35 (0,0)) ∧
 w'.heap[w.heap.size+3]? = some (.cells #[.string ⟨#[]⟩,.int .i64 0,.int .i64 1,.slice none 0 0,.int .i64 0,.string ⟨#[]⟩,.string ⟨#[]⟩,.int .u8 1] 97 (0,0))
set_option maxRecDepth 100000 in
set_option maxHeartbeats 1000000 in
theorem small_lay (w:World):Calls Tryz.prog 48 #[] w (SmL w):=by
 go_enter Tryz.func48,Tryz.ntmps48
 go_wp2_with fail
 refine bodyPost_ret (v:=mdV smallM ⟨none,0,none,0,some ⟨w.heap.size+1,0,none⟩,1,some ⟨w.heap.size+2,0,none⟩,2,some ⟨w.heap.size+3,0,none⟩,1⟩) (by simp [results,Tryz.results48,go_sem,mdV,smallM]) rfl ⟨rfl,(((below_al1 w _).alloc (by simp) _).alloc (by simp;omega) _).alloc (by simp;omega) _,at4_1 _ _ _ _ _,at4_2 _ _ _ _ _,at4_3 _ _ _ _ _⟩
def DeepO (n:Nat) (w:World) (e:Ending) (w':World):Prop:=∃ N Bt a3 c3 a4 c4,e=.returned (mdV (deepM n) ⟨none,0,none,0,a3,c3,a4,c4,some ⟨Bt,0,none⟩,1⟩)∧Mod anyM w' (deepM n) ⟨none,0,none,0,a3,c3,a4,c4,some ⟨Bt,0,none⟩,1⟩∧Dr (deepR n) (n+1) (deepV n) (n+2) N Bt a3 c3 a4 c4 w'∧w.heap.size≤N∧Below w.heap.size w w'
set_option maxRecDepth 100000 in
set_option maxHeartbeats 8000000 in
theorem deep_own (n:Nat) (hn:n≤1000) (w:World):Calls Tryz.prog 14 #[.int .i64 (n:Int)] w (DeepO n w):=by
 obtain ⟨iR,hiR,zR0,zR1,zR2⟩:=info_parts info_Reg
 obtain ⟨iV,hiV,zV0,zV1,zV2⟩:=info_parts info_Ver
 unfold DeepO
 go_enter Tryz.func14,Tryz.ntmps14
 go_upto_region 1 with fail
 have HZ:Hid ((w.alloc (.cells #[.string ⟨#[]⟩,.slice none 0 0,.slice none 0 0,.slice none 0 0,.slice none 0 0,.slice none 0 0] 28)).heap[w.heap.size]? = some (.cells #[.string ⟨#[]⟩,.slice none 0 0,.slice none 0 0,.slice none 0 0,.slice none 0 0,.slice none 0 0] 28 (0,0))):=Lib.hid (World.alloc_heap_new w _)
 have HB1:Hid (Below w.heap.size w (w.alloc (.cells #[.string ⟨#[]⟩,.slice none 0 0,.slice none 0 0,.slice none 0 0,.slice none 0 0,.slice none 0 0] 28))):=Lib.hid (below_al1 w _)
 have hz1:Hid ((w.alloc (.cells #[.string ⟨#[]⟩,.slice none 0 0,.slice none 0 0,.slice none 0 0,.slice none 0 0,.slice none 0 0] 28)).heap.size=w.heap.size+1):=Lib.hid (by simp)
 generalize w.alloc (.cells #[.string ⟨#[]⟩,.slice none 0 0,.slice none 0 0,.slice none 0 0,.slice none 0 0,.slice none 0 0] 28)=W1 at *
 have SL:=Lib.hid (small_lay W1)
 unfold SmL at SL
 unfold mdV smallM at SL
 go_wp2_with fail
 (with_reducible refine (SL.out).mono ?_)
 rintro e w2 ⟨rfl,g2,b1,b2,b3⟩
 have HD:=Lib.hid (dp_start g2 b1 b2 b3)
 have hz2:W1.heap.size≤w2.heap.size:=g2.size
 obtain ⟨H,hH⟩:∃ H,w2.heap.size=H:=⟨_,rfl⟩
 rw [hH] at HD hz2
 clear g2 b1 b2 b3 SL
 go_upto_region 2 with fail
 clear hH
 generalize w2.alloc (.cells #[.string ⟨#[77]⟩,.slice none 0 0,.slice none 0 0,.slice (some ⟨W1.heap.size+1,0,none⟩) 1 1,.slice (some ⟨W1.heap.size+2,0,none⟩) 2 2,.slice (some ⟨W1.heap.size+3,0,none⟩) 1 1] 28)=W3 at *
 generalize W1.heap.size+1=N at *
 go_wp2_with fail
 go_loopw [4] (fun i wr=>∃ k:Nat,k≤n∧i=.int .i64 k∧∃ a3 c3 a4 c4,Dp k k H N (W1.heap.size+3) a3 c3 a4 c4 W1 wr) (fun i _=>n - (intOf i).toNat)
 case atStart=>exact ⟨0,by omega,rfl,_,_,_,_,HD.out⟩
 case round =>
  obtain ⟨wo,rfl⟩:∃ wo:World,wo=wr:=⟨_,rfl⟩
  obtain ⟨k,hk,rfl,a3,c3,a4,c4,hd⟩:=hrel
  have HDo:=Lib.hid hd
  obtain ⟨_,d0,d1,d2,d3,d4,d5,fr,_⟩:=hd
  have f0:=fr 0
  have f1:=fr 1
  have f2:=fr 2
  have f3:=fr 3
  have f4:=fr 4
  have f5:=fr 5
  clear fr HD
  by_cases hlt:k<n
  · have hI:(k:Int)<(n:Int):=by omega
    have hlen:k+2≤1002:=by omega
    go_upto_region 6 with (at_builtin;go_loud (refine wpList_append_lies _ rfl _ _ 24 rfl N 37 iR _ 2 24 Tryz.underlying24 hiR zR0 zR1 zR2 rfl (by omega) _ (k+1) ((deepR k).flatMap regC) rfl (HDo.out.og.alloc _) ⟨wo.heap.size,0,none⟩ 1 1 [.string ⟨#[]⟩,.int .i64 (((k+2:Nat):Int) - 1)] rfl rfl (World.news_of_block (cs:=#[.string ⟨#[]⟩,.int .i64 (((k+2:Nat):Int) - 1)]) (t:=37) (fr:=(0,0)) (alloc1_dp wo _)) (by simp [Value.oneCell']) (by omega) (by unfold maxLen;omega) (by omega) (by have:=HDo.out.hn;simp;omega) (wo.heap.size+1) (by simp) ?_;intro gg cap w4 hown4 hgrow4 hat4 hlt4;have HD4:=Lib.hid (HDo.out.push3 hgrow4 (by rw [show regC (regN k)=[.string ⟨#[]⟩,.int .i64 (((k+2:Nat):Int) - 1)] by simp only [regC,regN];congr 3;omega];exact hown4) hat4);have kH:=grown_at hgrow4 HDo.out.lt (fun e=>(HDo.out.h3 H e).1 rfl);have s3:=(World.cell?_of_block (w:=wo) (a:=⟨H,3,none⟩) kH).trans d3;have t3:=(World.frozen?_of_block (w:=wo) (a:=⟨H,3,none⟩) kH).trans f3;clear hown4 hgrow4 hat4 hlt4 kH))
    generalize w4.setCell ⟨H,3,none⟩ (.slice (some ⟨gg,0,none⟩) (k+1+1) cap)=W5 at *
    clear d0 d1 d2 d3 d4 d5 f0 f1 f2 f3 f4 f5 s3 t3 HDo
    obtain ⟨_,d0,d1,d2,d3,d4,d5,fr,_⟩:=HD4.out
    have f4:=fr 4
    clear fr
    go_wp2_with (at_builtin;go_loud (refine wpList_append_lies _ rfl _ _ 25 rfl N 35 iV _ 8 112 Tryz.underlying25 hiV zV0 zV1 zV2 rfl (by omega) _ (k+2) ((deepV k).flatMap verC) rfl (HD4.out.ov.alloc _) ⟨W5.heap.size,0,none⟩ 1 1 [.string ⟨#[]⟩,.int .u8 1,.int .i64 ((k:Int)+1),.int .i64 (-1),.string ⟨#[]⟩,.string ⟨#[]⟩,.slice none 0 0,.string ⟨#[]⟩] rfl rfl (World.news_of_block (cs:=#[.string ⟨#[]⟩,.int .u8 1,.int .i64 ((k:Int)+1),.int .i64 (-1),.string ⟨#[]⟩,.string ⟨#[]⟩,.slice none 0 0,.string ⟨#[]⟩]) (t:=35) (fr:=(0,0)) (alloc1_dp W5 _)) (by simp [Value.oneCell']) (by omega) (by unfold maxLen;omega) (by omega) (by have:=HD4.out.hn;simp;omega) (W5.heap.size+1) (by simp) ?_;intro g6 cap6 w6 hown6 hgrow6 hat6 hlt6;have HD6:=Lib.hid (HD4.out.push4 hgrow6 (by rw [show verC (verN k)=[.string ⟨#[]⟩,.int .u8 1,.int .i64 ((k:Int)+1),.int .i64 (-1),.string ⟨#[]⟩,.string ⟨#[]⟩,.slice none 0 0,.string ⟨#[]⟩] by simp [verC,verN]];exact hown6) hat6);have kH:=grown_at hgrow6 HD4.out.lt (fun e=>(HD4.out.h4 H e).1 rfl);have s4:=(World.cell?_of_block (w:=W5) (a:=⟨H,4,none⟩) kH).trans d4;have t4:=(World.frozen?_of_block (w:=W5) (a:=⟨H,4,none⟩) kH).trans f4;clear hown6 hgrow6 hat6 hlt6 kH))
    go_roundw
    case rel=>exact ⟨k+1,by omega,by go_num,_,_,_,_,HD6.out⟩
    case measure=>simp [intOf] <;> omega
  · obtain rfl:n=k:=by omega
    have hbo:=HDo.out.bel
    have hN:=HDo.out.hw
    have hz1:=hz1.out
    have hR:=(hbo.block w.heap.size (by omega)).trans HZ.out
    have hz1':w.heap.size<N:=by have:=hN.1;omega
    clear hz1
    have r0:=cell_blk hR 0
    have r1:=cell_blk hR 1
    have r2:=cell_blk hR 2
    have r3:=cell_blk hR 3
    have r4:=cell_blk hR 4
    have r5:=cell_blk hR 5
    have e0:=frz_dp hR 0
    have e1:=frz_dp hR 1
    have e2:=frz_dp hR 2
    have e3:=frz_dp hR 3
    have e4:=frz_dp hR 4
    have e5:=frz_dp hR 5
    simp only [List.getElem?_toArray,List.getElem?_cons_zero,List.getElem?_cons_succ] at r0 r1 r2 r3 r4 r5
    have HM:=Lib.hid HDo.out.mod
    have hlt:∀ (u0 u1 u2 u3 u4 u5:Value),Kept (fun b _=>N≤b) wo ((((((wo.setCell ⟨w.heap.size,0,none⟩ u0).setCell ⟨w.heap.size,1,none⟩ u1).setCell ⟨w.heap.size,2,none⟩ u2).setCell ⟨w.heap.size,3,none⟩ u3).setCell ⟨w.heap.size,4,none⟩ u4).setCell ⟨w.heap.size,5,none⟩ u5):=fun u0 u1 u2 u3 u4 u5 =>
      have hw:w.heap.size<N:=by have:=hz1';omega
      (((((Kept.setCell (a:=⟨w.heap.size,0,none⟩) fun _ hQ=>by have:N≤w.heap.size:=hQ;omega).trans (Kept.setCell (a:=⟨w.heap.size,1,none⟩) fun _ hQ=>by have:N≤w.heap.size:=hQ;omega)).trans (Kept.setCell (a:=⟨w.heap.size,2,none⟩) fun _ hQ=>by have:N≤w.heap.size:=hQ;omega)).trans (Kept.setCell (a:=⟨w.heap.size,3,none⟩) fun _ hQ=>by have:N≤w.heap.size:=hQ;omega)).trans (Kept.setCell (a:=⟨w.heap.size,4,none⟩) fun _ hQ=>by have:N≤w.heap.size:=hQ;omega)).trans (Kept.setCell (a:=⟨w.heap.size,5,none⟩) fun _ hQ=>by have:N≤w.heap.size:=hQ;omega)
    have HK:=Lib.hid hlt
    clear hlt
    go_wp2_with fail
    refine bodyPost_ret (v:=mdV (deepM n) ⟨none,0,none,0,a3,c3,a4,c4,some ⟨W1.heap.size+3,0,none⟩,1⟩) (by simp [results,Tryz.results14,go_sem,r0,r1,r2,r3,r4,r5,mdV,deepM,smallM,deepR_len,deepV_len]) rfl ⟨N,W1.heap.size+3,a3,c3,a4,c4,rfl,((HM.out.kept fun _=>HK.out _ _ _ _ _ _)).any,(((((HDo.out.dr.low hz1' _).low hz1' _).low hz1' _).low hz1' _).low hz1' _).low hz1' _,by omega,?_⟩
    exact ((((((HB1.out.trans (hbo.mono HB1.out.size)).setCell (p:=⟨w.heap.size,0,none⟩) (Nat.le_refl _) _).setCell (p:=⟨w.heap.size,1,none⟩) (Nat.le_refl _) _).setCell (p:=⟨w.heap.size,2,none⟩) (Nat.le_refl _) _).setCell (p:=⟨w.heap.size,3,none⟩) (Nat.le_refl _) _).setCell (p:=⟨w.heap.size,4,none⟩) (Nat.le_refl _) _).setCell (p:=⟨w.heap.size,5,none⟩) (Nat.le_refl _) _
theorem deep_any (n:Nat) (hn:n≤1000) (w:World):Calls Tryz.prog 14 #[.int .i64 (n:Int)] w (MadeP (deepM n) w):=(deep_own n hn w).mono fun e w' ⟨_,_,_,_,_,_,he,hm,_,_,hb⟩=>⟨_,he,hm,hb⟩
end Go.Proofs
