/- Walks: the document's 'ties' (submachines). -/
import Derived.Test.YtfladiadgkfebaaGreatDoorKEdEG
import Derived.Test.YtfladiadgkfebaaGreatDoorKMdRg
namespace Go.Proofs
open Go.RowKit Go.Lx Go.Md Go.Shelf Go.BigFrame Go.Rgi
open Lib(hid)
set_option maxRecDepth 100000
set_option maxHeartbeats 0
set_option linter.unusedVariables false
theorem verG_at {m:MdlD} {v:Nat} (h:v<m.vers.length):verG m (v:Int)=m.vers[v]:=by
 unfold verG
 simp [h]
def TieP (lo N:Nat) (sm out:MdlD) (b:Nat) (ps:List Int) (w:World) (e:Ending) (w':World):Prop:=∃ p',e=.returned (mdV (tiesM sm b out ps) p')/\OwnR lo N w' (tiesM sm b out ps) p'/\GrT lo T3R w w'
theorem rties_any (lo N:Nat) (m out sm:MdlD) (p pm:Ph) (ap:Option Addr) (cp b:Nat) (ps:List Int) (w:World) (hO:OwnR lo N w out p) (hN:N<=lo) (hlo:lo<=w.heap.size) (hmo:Mod (fun _=>OldB N) w sm pm) (hSo:San out) (hPo:Pre m out) (hb:m.vers.length<=b) (hpv:b+sm.vers.length<=out.vers.length)
   (hpt:∀ x ∈ ps,∃ k:Nat,x=k/\k<m.vers.length/\(bnd (verG m k) sm).isSome=true) (hrow:w.ownsRow lo 3 1 (.slice ap ps.length cp) ps.length (nums ps)) (hov:out.vers.length<=1000000) (hot:out.trns.length+ps.length<=1000000) :
   Calls Tryz.prog 45 #[mdV out p,.slice ap ps.length cp,mdV sm pm,.int .i64 b] w (TieP lo N sm out b ps w):=by
 obtain ⟨iT,hiT,zT0,zT1,zT2⟩:=info_parts info_rTrn
 have hO3:=objs3 w (.cells #[.string out.nm,.slice p.a1 out.vars.length p.c1,.slice p.a2 out.evs.length p.c2,.slice p.a3 out.regs.length p.c3,.slice p.a4 out.vers.length p.c4,.slice p.a5 out.trns.length p.c5] 33) (.cells #[.string sm.nm,.slice pm.a1 sm.vars.length pm.c1,.slice pm.a2 sm.evs.length pm.c2,.slice pm.a3 sm.regs.length pm.c3,.slice pm.a4 sm.vers.length pm.c4,.slice pm.a5 sm.trns.length pm.c5] 33) zeroMR
 have hB1:Below w.heap.size w (((w.alloc (.cells #[.string out.nm,.slice p.a1 out.vars.length p.c1,.slice p.a2 out.evs.length p.c2,.slice p.a3 out.regs.length p.c3,.slice p.a4 out.vers.length p.c4,.slice p.a5 out.trns.length p.c5] 33)).alloc (.cells #[.string sm.nm,.slice pm.a1 sm.vars.length pm.c1,.slice pm.a2 sm.evs.length pm.c2,.slice pm.a3 sm.regs.length pm.c3,.slice pm.a4 sm.vers.length pm.c4,.slice pm.a5 sm.trns.length pm.c5] 33)).alloc zeroMR):=((below_al2 w _ _).alloc (by simp;omega) _)
 have hT0:TiS lo N w.heap.size sm pm out p w (((w.alloc (.cells #[.string out.nm,.slice p.a1 out.vars.length p.c1,.slice p.a2 out.evs.length p.c2,.slice p.a3 out.regs.length p.c3,.slice p.a4 out.vers.length p.c4,.slice p.a5 out.trns.length p.c5] 33)).alloc (.cells #[.string sm.nm,.slice pm.a1 sm.vars.length pm.c1,.slice pm.a2 sm.evs.length pm.c2,.slice pm.a3 sm.regs.length pm.c3,.slice pm.a4 sm.vers.length pm.c4,.slice pm.a5 sm.trns.length pm.c5] 33)).alloc zeroMR) :=
   ⟨hO.below hB1,hO3.1,hO3.2.1,hO3.2.2,GrT.of_below hB1,rfl,hlo,hN⟩
 have hR0:=row_grt hrow (GrT.of_below (lo:=lo) (S:=T3R) hB1) notR.2
 unfold zeroMR at hT0 hR0
 have HTi:Hid (∀ e w',TieP lo N sm out b ps w e w'↔∃ p',e=.returned (mdV (tiesM sm b out ps) p')/\OwnR lo N w' (tiesM sm b out ps) p'/\GrT lo T3R w w'):=hid fun _ _=>Iff.rfl
 clear hO3 hB1 hO hrow
 unfold mdV
 go_enter Tryz.func45,Tryz.ntmps45
 go_upto_region 1 with fail
 generalize (((w.alloc (.cells #[.string out.nm,.slice p.a1 out.vars.length p.c1,.slice p.a2 out.evs.length p.c2,.slice p.a3 out.regs.length p.c3,.slice p.a4 out.vers.length p.c4,.slice p.a5 out.trns.length p.c5] 33)).alloc (.cells #[.string sm.nm,.slice pm.a1 sm.vars.length pm.c1,.slice pm.a2 sm.evs.length pm.c2,.slice pm.a3 sm.regs.length pm.c3,.slice pm.a4 sm.vers.length pm.c4,.slice pm.a5 sm.trns.length pm.c5] 33)).alloc (.cells #[.string ⟨#[]⟩,.slice none 0 0,.slice none 0 0,.slice none 0 0,.slice none 0 0,.slice none 0 0] 33))=W1 at *
 obtain ⟨n,hn⟩:=ex2 ps.length
 have HN:=hid hn
 have HSt:Hid (∀ j,San (tiesM sm b out (ps.take j))/\Pre m (tiesM sm b out (ps.take j))/\(tiesM sm b out (ps.take j)).vers.length=out.vers.length):=hid fun j=>ties_step hb _ _ hSo hPo hpv fun x hx=>hpt x (List.mem_of_mem_take hx)
 have HLN:Hid (∀ j,j<n->(tiesM sm b out (ps.take j)).trns.length+1<=1000000):=hid fun j hj=>by
   have h:=lens_ties sm b (ps.take j) out
   unfold lens addS at h
   simp only [Prod.mk.injEq] at h
   have e2:(ps.take j).length=j:=by rw [List.length_take];omega
   omega
 have HPM:Hid (∀ x ∈ ps,∃ v:Nat,v<m.vers.length/\x=(v:Int)/\∃ n:Nat,n<sm.vers.length/\bndI (verG m v) sm=(n:Int)):=hid fun x hx=>by
   obtain ⟨v,rfl,hv,hb⟩:=hpt x hx
   obtain ⟨n,hn,e,_⟩:=bndI_some hb
   exact ⟨v,hv,rfl,n,hn,e⟩
 have HPV:=hid hpv
 have HML:=hid hPo.vl
 have hbl:b<=1000000:=by omega
 have hsl:sm.vers.length<=1000000:=by omega
 have hnl:n<=1000000:=by omega
 have HMo:=hid hmo
 have HT0:=hid hT0
 rw [hn] at hR0
 have HR0:=hid hR0
 have HOV:=hid hov
 rw [hn]
 clear hT0 hR0 hn hmo hSo hPo hb hpv hpt hot hov
 go_wp2_with fail
 go_loopw [9] (fun i wr=>∃ j:Nat,j<=n/\i=.int .i64 j/\wr.ownsRow lo 3 1 (.slice ap n cp) n (nums ps)/\∃ pj,TiS lo N w.heap.size sm pm (tiesM sm b out (ps.take j)) pj w wr) (fun i _=>n - (intOf i).toNat)
 case atStart=>exact ⟨0,by omega,rfl,HR0.o,p,by rw [List.take_zero];exact HT0.o⟩
 case round =>
  obtain ⟨wo,rfl⟩:=ex1 wr
  obtain ⟨j,hj,rfl,ho,pj,hT⟩:=hrel
  clear HT0 HR0
  obtain ⟨oj,hoj⟩:=ex2 (tiesM sm b out (ps.take j))
  rw [hoj] at hT
  have HOJ:=hid hoj
  clear hoj
  have HO:=hid ho
  have HT:=hid hT
  by_cases hlt:j<n
  . have hjI:(j:Int)<(n:Int):=by omega
    have hj0:(0:Int)<=(j:Int):=by omega
    have hjl:j<ps.length:=by have:=HN.o;omega
    obtain ⟨v,hv,hpx,k,hk,hbk⟩:=HPM.o _ (List.getElem_mem hjl)
    obtain ⟨g,cg,hag,hgH,hgl⟩:=ho.form (by omega)
    simp only [Value.slice.injEq] at hag
    obtain rfl:=hag.1
    clear hag
    have hcj:wo.cell? ⟨g,j,none⟩=some (.int .i64 v):=(ho.cellAt j (by omega)).trans (by simp [nums,hjl,hpx])
    have hz0:=hT.lt
    have hvo:v<oj.vers.length:=by
      have h1:=(HSt.o j).2.1.vl
      rw [HOJ.o] at h1
      omega
    have hpre:=(HSt.o j).2.1.verG hv
    rw [HOJ.o,verG_at hvo] at hpre
    obtain ⟨b2,o2',e2,hb2,dv,hdv,s0,s1,s2,s3,s4,s5,s6,s7⟩:=hT.own.mod.vers.get hvo
    obtain ⟨da,dc,rfl⟩:=hdv.len
    have hm4:=(mBoxR.box hT.ob).c4
    rw [e2] at hm4
    obtain ⟨r0,r1,r2,r3,r4,r5,_⟩:=mBoxR.box hT.mb
    obtain ⟨y,hy⟩:=ex2 (oj.vers[v])
    rw [hy] at s0 s1 s2 s3 s4 s5 s6 s7 hpre
    have hbk':bndI y sm=(k:Int):=by rw [<- hbk];unfold bndI;rw [bnd_congr hpre.1 hpre.2]
    have HC:=hid fun (wx:World) (g:Below wo.heap.size wo wx)=>rbound_any y da dc sm pm wx ((HMo.o.keptN (hT.bel.mono hT.hN)).keptN (g.mono (by have:=hT.hN;have:=hT.hl;omega))) hsl
    unfold verA mdV at HC
    rw [hbk'] at HC
    have HS:Hid (∀ W',Below wo.heap.size wo W'->W'.cell? ⟨w.heap.size,4,none⟩=some (.slice (some ⟨b2,o2',none⟩) oj.vers.length pj.c4)/\W'.cell? ⟨g,j,none⟩=some (.int .i64 v) /\
        (W'.cell? ⟨b2,o2'+v * 8,none⟩=some (.string y.nm)/\W'.cell? ⟨b2,o2'+v * 8+1,none⟩=some (.int .u8 y.kd)/\W'.cell? ⟨b2,o2'+v * 8+2,none⟩=some (.int .i64 y.rg)/\W'.cell? ⟨b2,o2'+v * 8+3,none⟩=some (.int .i64 y.ofv)/\W'.cell? ⟨b2,o2'+v * 8+4,none⟩=some (.string y.en)/\W'.cell? ⟨b2,o2'+v * 8+5,none⟩=some (.string y.ex)/\W'.cell? ⟨b2,o2'+v * 8+6,none⟩=some (.slice da y.df.length dc)/\W'.cell? ⟨b2,o2'+v * 8+7,none⟩=some (.string y.sb)) /\
        (W'.cell? ⟨w.heap.size+1,0,none⟩=some (.string sm.nm)/\W'.cell? ⟨w.heap.size+1,1,none⟩=some (.slice pm.a1 sm.vars.length pm.c1)/\W'.cell? ⟨w.heap.size+1,2,none⟩=some (.slice pm.a2 sm.evs.length pm.c2)/\W'.cell? ⟨w.heap.size+1,3,none⟩=some (.slice pm.a3 sm.regs.length pm.c3)/\W'.cell? ⟨w.heap.size+1,4,none⟩=some (.slice pm.a4 sm.vers.length pm.c4)/\W'.cell? ⟨w.heap.size+1,5,none⟩=some (.slice pm.a5 sm.trns.length pm.c5))):=hid fun W' g =>
      have k:∀ b o u,b<wo.heap.size->wo.cell? ⟨b,o,none⟩=some u->W'.cell? ⟨b,o,none⟩=some u:=fun b o u hb h=>(g.cell (p:=⟨b,o,none⟩) hb).trans h
      have k':∀ b o u,wo.cell? ⟨b,o,none⟩=some u->W'.cell? ⟨b,o,none⟩=some u:=fun b o u h=>k b o u (World.block_lt_of_cell? wo _ h) h
      ⟨k' _ _ _ hm4,k' _ _ _ hcj,⟨k _ _ _ hb2 s0,k _ _ _ hb2 s1,k _ _ _ hb2 s2,k _ _ _ hb2 s3,k _ _ _ hb2 s4,k _ _ _ hb2 s5,k _ _ _ hb2 s6,k _ _ _ hb2 s7⟩,⟨k' _ _ _ r0,k' _ _ _ r1,k' _ _ _ r2,k' _ _ _ r3,k' _ _ _ r4,k' _ _ _ r5⟩⟩
    have hvI:(v:Int)<(oj.vers.length:Int):=by omega
    have hv0:(0:Int)<=(v:Int):=by omega
    obtain ⟨tg,hto⟩:∃ tg:Nat,b+k=tg:=⟨_,rfl⟩
    have hw:IntKind.i64.wrap ((b:Int)+k)=(tg:Int):=by rw [IntWalk.i64_in _ ⟨by omega,by omega⟩];omega
    have HG9:Hid (verG oj (v:Int)=y):=hid ((verG_at hvo).trans hy)
    have HP9:Hid (ps[j]=(v:Int)):=hid hpx
    have HB9:Hid (bndI y sm=(k:Int)):=hid hbk'
    have htv:tg<oj.vers.length:=by
      have h1:=(HSt.o j).2.2
      have h2:=HPV.o
      rw [HOJ.o] at h1
      omega
    have HTo:=hid hto
    have htl:tg<=1000000:=by have:=HOV.o;have h1:=(HSt.o j).2.2;rw [HOJ.o] at h1;omega
    have HE2:=hid e2
    have hB0:Below wo.heap.size wo wo:=Below.refl _ _
    have hgo:g<wo.heap.size:=World.block_lt_of_cell? wo _ hcj
    clear ho hT e2 hdv hm4 hy hpx hbk hbk' hk hto hpre r0 r1 r2 r3 r4 r5 s0 s1 s2 s3 s4 s5 s6 s7
    go_upto_region 4 with fail
    clear hcj
    refine wp_region_any (by kernel_rfl) ?_
    change wpAny _ _ _ _ _ _ _ (World.drew _)
    refine hld HS.o (hB0.drew) (fun hHeld=>?_)
    refine tk 0 rfl ?_
    refine tk 1 rfl ?_
    refine tk 2 rfl ?_
    refine tk 3 rfl ?_
    refine tk 4 rfl ?_
    refine tk 5 rfl ?_
    refine tk 6 rfl ?_
    refine tk 7 rfl ?_
    refine tk 8 rfl ?_
    refine tk 9 rfl ?_
    refine rd1 10 (fun K hK=>?_)
    (go_simp;(with_reducible refine (HC.o _ hB0.drew).mono ?_);rintro e w9 ⟨rfl,g9⟩;have hB9:Below wo.heap.size wo w9:=hB0.drew.trans (g9.mono hB0.drew.size);go_wp2_with fail)
    refine nx hK ?_ (fun hH1=>?_)
    (first | exact HS.o _ hB0.drew | exact HS.o _ (by assumption))
    clear hK K hHeld
    refine tk 11 rfl ?_
    refine tk 12 rfl ?_
    refine dn ?_
    rotate_left
    all_goals
      have hT9:=HT.o.below hB9
      have hO9:=row_grt HO.o (GrT.of_below (lo:=lo) (S:=T3R) hB9) notR.2
      obtain ⟨d1,d2,⟨_,d3,_⟩,_⟩:=HS.o w9 hB9
      have hz9:=hT9.lt
      have HT9:=hid hT9
      have HO9:=hid hO9
      clear hT9 hO9 HS HC HT HO
      have hBt:=below_al1 w9 (.cells #[.string ⟨#[]⟩,.int .i64 v,.int .i64 tg,.slice none 0 0,.int .i64 0,.string ⟨#[]⟩,.string ⟨#[]⟩,.int .u8 1] 88)
      have hA5:=World.alloc_heap_new w9 (.cells #[.string ⟨#[]⟩,.int .i64 v,.int .i64 tg,.slice none 0 0,.int .i64 0,.string ⟨#[]⟩,.string ⟨#[]⟩,.int .u8 1] 88)
      have k1:∀ wx,Below w9.heap.size w9 wx->∀ b o u,w9.cell? ⟨b,o,none⟩=some u->wx.cell? ⟨b,o,none⟩=some u:=fun wx hx b o u h=>(hx.cell (p:=⟨b,o,none⟩) (World.block_lt_of_cell? w9 _ h)).trans h
      have e1:=k1 _ hBt _ _ _ d1
      have e2:=k1 _ hBt _ _ _ d2
      have e3:=k1 _ hBt _ _ _ d3
      have hgs:=World.block_lt_of_cell? w9 _ d1
      have hgg:=World.block_lt_of_cell? w9 _ d2
      go_upto_region 6 with fail
      generalize w9.alloc (.cells #[.string ⟨#[]⟩,.int .i64 v,.int .i64 tg,.slice none 0 0,.int .i64 0,.string ⟨#[]⟩,.string ⟨#[]⟩,.int .u8 1] 88)=W5 at *
      have HA5:=hid hA5
      have HB5:=hid hBt
      have HK1:=hid k1
      clear k1 hA5 hBt
      by_cases h11:y.kd=11
      . rw [h11] at e3
        go_quiet (fail)
        have hB6:Below w9.heap.size w9 (W5.drewN nq):=below_drewN HB5.o nq
        have hA6:(W5.drewN nq).heap[w9.heap.size]? = _:=HA5.o
        generalize W5.drewN nq=W6 at *
        clear e1 e2 e3 HA5 HB5
        obtain ⟨z0,z1,z2,z3,z4,z5,z6,z7⟩:=cells8 hA6
        have hf1:W6.frozen? ⟨w9.heap.size,1,none⟩=false:=TB.free (lo:=0) (T:=88) ⟨Nat.zero_le _,_,hA6⟩
        have hA7:=box_set hA6 1 (.int .i64 tg)
        have hB7:=hB6.trans (((AtB.refl w9.heap.size W6).set 1 (.int .i64 tg)).below (Nat.le_refl _))
        go_upto_region 8 with fail
        generalize W6.setCell ⟨w9.heap.size,1,none⟩ (.int .i64 tg)=W7 at *
        clear z0 z1 z2 z3 z4 z5 z6 z7 hf1 hA6 hB6
        obtain ⟨z0,z1,z2,z3,z4,z5,z6,z7⟩:=cells8 hA7
        have hf2:W7.frozen? ⟨w9.heap.size,2,none⟩=false:=TB.free (lo:=0) (T:=88) ⟨Nat.zero_le _,_,hA7⟩
        have hA8:=box_set hA7 2 (.int .i64 v)
        have hB8:=hB7.trans (((AtB.refl w9.heap.size W7).set 2 (.int .i64 v)).below (Nat.le_refl _))
        have e2:=HK1.o _ hB7 _ _ _ d2
        go_upto_region 9 with fail
        generalize W7.setCell ⟨w9.heap.size,2,none⟩ (.int .i64 v)=W8 at *
        clear z0 z1 z2 z3 z4 z5 z6 z7 hf2 hA7 hB7 e2
        have hT8:=HT9.o.below hB8
        have hO8:=row_grt HO9.o (GrT.of_below (lo:=lo) (S:=T3R) hB8) notR.2
        obtain ⟨b4,o4',ha4,hb4,dv,hdv,s0,s1,s2,s3,s4,s5,s6,s7⟩:=hT8.own.mod.vers.get htv
        obtain ⟨da,dc,rfl⟩:=hdv.len
        have hm4:=(mBoxR.box hT8.ob).c4
        rw [ha4] at hm4
        obtain ⟨u,hu⟩:=ex2 (oj.vers[tg])
        rw [hu] at s0 s1 s2 s3 s4 s5 s6 s7 hdv
        have htI:(tg:Int)<(oj.vers.length:Int):=by omega
        have ht0:(0:Int)<=(tg:Int):=by omega
        have HT8:=hid hT8
        have HO8:=hid hO8
        have HU:=hid hu
        have HA8:=hid hA8
        have HA4:=hid ha4
        have HB8:=hid hB8
        have HDv:=hid hdv
        have HSS:=hid (And.intro s0 (And.intro s1 (And.intro s2 (And.intro s3 (And.intro s4 (And.intro s5 (And.intro s6 (And.intro s7 hm4))))))))
        have hl9:N<=W8.heap.size:=by have:=hT8.lt;have:=hT8.hN;have:=hT8.hl;omega
        clear hT8 hO8 hdv hu ha4 hA8 d1 d2 d3 HK1
        go_upto_region 11 with fail
        clear s0 s1 s2 s3 s4 s5 s6 s7 hm4
        have hBv:=below_al1 W8 (.cells #[.string u.nm,.int .u8 (5:Nat),.int .i64 u.rg,.int .i64 u.ofv,.string u.en,.string u.ex,.slice da u.df.length dc,.string u.sb] 86)
        have hAv:=World.alloc_heap_new W8 (.cells #[.string u.nm,.int .u8 (5:Nat),.int .i64 u.rg,.int .i64 u.ofv,.string u.en,.string u.ex,.slice da u.df.length dc,.string u.sb] 86)
        have hTv:=HT8.o.below hBv
        have hOv:=row_grt HO8.o (GrT.of_below (lo:=lo) (S:=T3R) hBv) notR.2
        have hAw:=(hBv.block _ (Array.getElem?_eq_some_iff.1 HA8.o).1).trans HA8.o
        have hSv:=HDv.o.kept (OldB.kept (hBv.mono hl9))
        obtain ⟨s0,s1,s2,s3,s4,s5,s6,s7,hm4⟩:=HSS.o
        have k8:∀ b o u',W8.cell? ⟨b,o,none⟩=some u'->(W8.alloc (.cells #[.string u.nm,.int .u8 (5:Nat),.int .i64 u.rg,.int .i64 u.ofv,.string u.en,.string u.ex,.slice da u.df.length dc,.string u.sb] 86)).cell? ⟨b,o,none⟩=some u':=fun b o u' h=>(hBv.cell (p:=⟨b,o,none⟩) (World.block_lt_of_cell? W8 _ h)).trans h
        replace s0:=k8 _ _ _ s0
        replace s1:=k8 _ _ _ s1
        replace s2:=k8 _ _ _ s2
        replace s3:=k8 _ _ _ s3
        replace s4:=k8 _ _ _ s4
        replace s5:=k8 _ _ _ s5
        replace s6:=k8 _ _ _ s6
        replace s7:=k8 _ _ _ s7
        replace hm4:=k8 _ _ _ hm4
        clear k8 hBv
        generalize W8.alloc (.cells #[.string u.nm,.int .u8 (5:Nat),.int .i64 u.rg,.int .i64 u.ofv,.string u.en,.string u.ex,.slice da u.df.length dc,.string u.sb] 86)=W9 at *
        have hf8:∀ k,W9.frozen? ⟨b4,k,none⟩=false:=fun k=>(hTv.own.mod.vers.block HA4.o (by omega)).2.free (k:=k)
        have g0:=hf8 (o4'+tg * 8)
        have g1:=hf8 (o4'+tg * 8+1)
        have g2:=hf8 (o4'+tg * 8+2)
        have g3:=hf8 (o4'+tg * 8+3)
        have g4:=hf8 (o4'+tg * 8+4)
        have g5:=hf8 (o4'+tg * 8+5)
        have g6:=hf8 (o4'+tg * 8+6)
        have g7:=hf8 (o4'+tg * 8+7)
        obtain ⟨v0,v1,v2,v3,v4,v5,v6,v7⟩:=cells8 hAv
        obtain ⟨q1,q2⟩:=hTv.own.setVer HA4.o htv hTv.hN { u with kd:=5 } (dv:=.slice da u.df.length dc) hSv
        obtain ⟨ok,hok⟩:∃ ok:MdlD,ok={ oj with vers:=oj.vers.modify tg fun y=>{ y with kd:=5 } }:=⟨_,rfl⟩
        have hok':=hok
        rw [modify_const htv,HU.o] at hok'
        rw [<- hok'] at q1
        have hT10:=hTv.step q2.rV q1 (by rw [hok];unfold mBoxR;simp)
        have hO10:=row_grt hOv q2.rV notR.2
        have hA10:=q2.same hAw (by decide)
        dsimp only [set8] at hT10 hO10 hA10
        have HT10:=hid hT10
        have HO10:=hid hO10
        have HA10:=hid hA10
        have HOK:=hid hok
        clear hT10 hO10 hA10 hok hok' q1 q2 hTv hOv hAw hSv hAv hf8
        go_upto_region 12 with fail
        generalize ((((((((W9.setCell ⟨b4,o4'+tg * 8,none⟩ (.string u.nm)).setCell ⟨b4,o4'+tg * 8+1,none⟩ (.int .u8 (5:Nat))).setCell ⟨b4,o4'+tg * 8+2,none⟩ (.int .i64 u.rg)).setCell ⟨b4,o4'+tg * 8+3,none⟩ (.int .i64 u.ofv)).setCell ⟨b4,o4'+tg * 8+4,none⟩ (.string u.en)).setCell ⟨b4,o4'+tg * 8+5,none⟩ (.string u.ex)).setCell ⟨b4,o4'+tg * 8+6,none⟩ (.slice da u.df.length dc)).setCell ⟨b4,o4'+tg * 8+7,none⟩ (.string u.sb))=W10 at *
        clear g0 g1 g2 g3 g4 g5 g6 g7 s0 s1 s2 s3 s4 s5 s6 s7 v0 v1 v2 v3 v4 v5 v6 v7 hm4
        obtain ⟨z0,z1,z2,z3,z4,z5,z6,z7⟩:=cells8 HA10.o
        obtain ⟨x0,x1,x2,x3,x4,x5,_⟩:=mBoxR.box HT10.o.ob
        have hz7:lo<=W10.heap.size:=by have:=HT10.o.lt;have:=HT10.o.hl;omega
        have hnt:ok.trns.length+[way (tg:Int) (v:Int)].length<=1000000:=by
          have:=HLN.o j hlt
          rw [HOJ.o] at this
          rw [HOK.o]
          simp only [List.length_cons,List.length_nil]
          omega
        go_wp2_with (at_builtin;refine wpList_append_sl (TrnE.moves (R:=OldB N)) _ rfl _ _ 31 rfl 88 iT _ 104 Tryz.underlying31 hiT zT0 zT1 zT2 rfl (by decide) (by decide) rfl rfl (HT10.o.below (below_al1 W10 _)).own.mod.trns (HT10.o.below (below_al1 W10 _)).own.o5 (way_sl _ W10 tg v _) hnt (by simp;omega) ?_;intro a6 c6 w6 ho6 hg6 hs6;obtain ⟨x0,x1,x2,x3,x4,x5,f0,f1,f2,f3,f4,f5⟩:=mBoxR.box (hg6.rT.same (HT10.o.below (below_al1 W10 _)).ob notR.1))
        have hTa:=HT10.o.below (below_al1 W10 (.cells #[.string ⟨#[]⟩,.int .i64 tg,.int .i64 v,.slice none 0 0,.int .i64 0,.string ⟨#[]⟩,.string ⟨#[]⟩,.int .u8 1] 88))
        have hOa:=row_grt HO10.o (GrT.of_below (lo:=lo) (S:=T3R) (below_al1 W10 (.cells #[.string ⟨#[]⟩,.int .i64 tg,.int .i64 v,.slice none 0 0,.int .i64 0,.string ⟨#[]⟩,.string ⟨#[]⟩,.int .u8 1] 88))) notR.2
        have hob:=hg6.rT.same hTa.ob notR.1
        have hat:=(AtB.refl w.heap.size w6).set 5 (.slice a6 (ok.trns.length+1) c6)
        have hBN:Below N (W10.alloc (.cells #[.string ⟨#[]⟩,.int .i64 tg,.int .i64 v,.slice none 0 0,.int .i64 0,.string ⟨#[]⟩,.string ⟨#[]⟩,.int .u8 1] 88)) w6:=hg6.below hTa.hN (by have:=hTa.hN;simp;omega)
        have hTb:TiS lo N w.heap.size sm pm { ok with trns:=ok.trns ++ [way tg v] } { pj with a5:=a6,c5:=c6 } w (w6.setCell ⟨w.heap.size,5,none⟩ (.slice a6 (ok.trns.length+1) c6)):=by
          refine hTa.grow hg6.rT (hTa.own.app5 hg6 hBN ho6 (hs6 (OldB.kept hBN))) ?_
          have:=mBoxR.set5 hob (ok.trns ++ [way tg v]) a6 c6
          rw [List.length_append] at this
          exact this
        have hOb:=row_at (row_grt hOa hg6.rT notR.2) hat hob (by decide)
        have hEq:{ ok with trns:=ok.trns ++ [way tg v] }=tiesM sm b out (ps.take (j+1)):=by
          have hg:=HG9.o
          rw [ties_succ hjl,HOJ.o,HP9.o,tie1_exit (congrArg VerD.nm hg) (congrArg VerD.kd hg) h11 HB9.o HTo.o,HOK.o]
        rw [hEq] at hTb
        have HTb:=hid hTb
        have HOb:=hid hOb
        clear hTa hOa hob hat hTb hOb hEq hBN x0 x1 x2 x3 x4 x5 f0 f1 f2 f3 f4 f5 z0 z1 z2 z3 z4 z5 z6 z7 hg6 ho6 hs6
        go_roundw
        case rel=>exact ⟨j+1,by omega,by go_num,HOb.o,_,HTb.o⟩
        case measure=>simp [intOf] <;> omega
      . have h11I:((y.kd:Int) == 11)=false:=by rw [beq_eq_false_iff_ne];omega
        go_quiet (fail)
        have hB6:Below w9.heap.size w9 (W5.drewN nq):=below_drewN HB5.o nq
        have hA6:(W5.drewN nq).heap[w9.heap.size]? = _:=HA5.o
        generalize W5.drewN nq=W6 at *
        clear e1 e2 e3 HA5 HB5 HK1
        have HT10:=hid (HT9.o.below hB6)
        have HO10:=hid (row_grt HO9.o (GrT.of_below (lo:=lo) (S:=T3R) hB6) notR.2)
        have HA10:=hid hA6
        clear hA6 hB6 d1 d2 d3
        obtain ⟨z0,z1,z2,z3,z4,z5,z6,z7⟩:=cells8 HA10.o
        obtain ⟨x0,x1,x2,x3,x4,x5,_⟩:=mBoxR.box HT10.o.ob
        have hz7:lo<=W6.heap.size:=by have:=HT10.o.lt;have:=HT10.o.hl;omega
        have hnt:oj.trns.length+[way (v:Int) (tg:Int)].length<=1000000:=by
          have:=HLN.o j hlt
          rw [HOJ.o] at this
          simp only [List.length_cons,List.length_nil]
          omega
        go_wp2_with (at_builtin;refine wpList_append_sl (TrnE.moves (R:=OldB N)) _ rfl _ _ 31 rfl 88 iT _ 104 Tryz.underlying31 hiT zT0 zT1 zT2 rfl (by decide) (by decide) rfl rfl (HT10.o.below (below_al1 W6 _)).own.mod.trns (HT10.o.below (below_al1 W6 _)).own.o5 (way_sl _ W6 v tg _) hnt (by simp;omega) ?_;intro a6 c6 w6 ho6 hg6 hs6;obtain ⟨x0,x1,x2,x3,x4,x5,f0,f1,f2,f3,f4,f5⟩:=mBoxR.box (hg6.rT.same (HT10.o.below (below_al1 W6 _)).ob notR.1))
        have hTa:=HT10.o.below (below_al1 W6 (.cells #[.string ⟨#[]⟩,.int .i64 v,.int .i64 tg,.slice none 0 0,.int .i64 0,.string ⟨#[]⟩,.string ⟨#[]⟩,.int .u8 1] 88))
        have hOa:=row_grt HO10.o (GrT.of_below (lo:=lo) (S:=T3R) (below_al1 W6 (.cells #[.string ⟨#[]⟩,.int .i64 v,.int .i64 tg,.slice none 0 0,.int .i64 0,.string ⟨#[]⟩,.string ⟨#[]⟩,.int .u8 1] 88))) notR.2
        have hob:=hg6.rT.same hTa.ob notR.1
        have hat:=(AtB.refl w.heap.size w6).set 5 (.slice a6 (oj.trns.length+1) c6)
        have hBN:Below N (W6.alloc (.cells #[.string ⟨#[]⟩,.int .i64 v,.int .i64 tg,.slice none 0 0,.int .i64 0,.string ⟨#[]⟩,.string ⟨#[]⟩,.int .u8 1] 88)) w6:=hg6.below hTa.hN (by have:=hTa.hN;simp;omega)
        have hTb:TiS lo N w.heap.size sm pm { oj with trns:=oj.trns ++ [way v tg] } { pj with a5:=a6,c5:=c6 } w (w6.setCell ⟨w.heap.size,5,none⟩ (.slice a6 (oj.trns.length+1) c6)):=by
          refine hTa.grow hg6.rT (hTa.own.app5 hg6 hBN ho6 (hs6 (OldB.kept hBN))) ?_
          have:=mBoxR.set5 hob (oj.trns ++ [way v tg]) a6 c6
          rw [List.length_append] at this
          exact this
        have hOb:=row_at (row_grt hOa hg6.rT notR.2) hat hob (by decide)
        have hEq:{ oj with trns:=oj.trns ++ [way v tg] }=tiesM sm b out (ps.take (j+1)):=by
          have hg:=HG9.o
          rw [ties_succ hjl,HOJ.o,HP9.o,tie1_entry (congrArg VerD.nm hg) (congrArg VerD.kd hg) h11 HB9.o HTo.o]
        rw [hEq] at hTb
        have HTb:=hid hTb
        have HOb:=hid hOb
        clear hTa hOa hob hat hTb hOb hEq hBN x0 x1 x2 x3 x4 x5 f0 f1 f2 f3 f4 f5 z0 z1 z2 z3 z4 z5 z6 z7 hg6 ho6 hs6
        go_roundw
        case rel=>exact ⟨j+1,by omega,by go_num,HOb.o,_,HTb.o⟩
        case measure=>simp [intOf] <;> omega
  . obtain rfl:j=n:=by omega
    rw [<- HOJ.o,List.take_of_length_le (by have:=HN.o;omega)] at HT
    obtain ⟨oe,hoe⟩:=ex2 (tiesM sm b out ps)
    rw [hoe] at HT
    obtain ⟨x0,x1,x2,x3,x4,x5,_⟩:=mBoxR.box HT.o.ob
    obtain ⟨z0,z1,z2,z3,z4,z5,y0,y1,y2,y3,y4,y5⟩:=zero_boxR HT.o.zb
    have hzb:=HT.o.zb
    unfold zeroMR at hzb
    obtain ⟨q1,q2⟩:=box_six hzb (.string oe.nm) (.slice pj.a1 oe.vars.length pj.c1) (.slice pj.a2 oe.evs.length pj.c2) (.slice pj.a3 oe.regs.length pj.c3) (.slice pj.a4 oe.vers.length pj.c4) (.slice pj.a5 oe.trns.length pj.c5)
    have HW:Hid (TieP lo N sm out b ps w (.returned (mdV oe pj)) ((((((wo.setCell ⟨w.heap.size+1+1,0,none⟩ (.string oe.nm)).setCell ⟨w.heap.size+1+1,1,none⟩ (.slice pj.a1 oe.vars.length pj.c1)).setCell ⟨w.heap.size+1+1,2,none⟩ (.slice pj.a2 oe.evs.length pj.c2)).setCell ⟨w.heap.size+1+1,3,none⟩ (.slice pj.a3 oe.regs.length pj.c3)).setCell ⟨w.heap.size+1+1,4,none⟩ (.slice pj.a4 oe.vers.length pj.c4)).setCell ⟨w.heap.size+1+1,5,none⟩ (.slice pj.a5 oe.trns.length pj.c5))):=hid (by
      rw [HTi.o]
      rw [hoe]
      have h1:=HT.o.hN
      have h2:=HT.o.hl
      exact ⟨pj,rfl,HT.o.own.box q2 hzb notR.1 (by omega),HT.o.gr.far (q2.below (by omega))⟩)
    clear ho hT hlt hzb q1 q2 hoe
    go_wp2_with fail
    refine bodyPost_ret (v:=mdV oe pj) (by simp [results,Tryz.results45,go_sem,mdV,z0,z1,z2,z3,z4,z5]) rfl HW.o
end Go.Proofs
