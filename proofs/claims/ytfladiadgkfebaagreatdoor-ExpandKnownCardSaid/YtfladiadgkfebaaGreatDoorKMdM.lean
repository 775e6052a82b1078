/- Where models lie in memory. -/
import Derived.Test.YtfladiadgkfebaaGreatDoorKMdPR
import Derived.Below
import Derived.WalkSmall
namespace Go.Proofs
open Go.RowKit Go.Lx Go.Md

abbrev BP:=Nat->Option Obj->Prop
def anyB:BP:=fun _ _=>True
def Lay (q:Nat->Nat) (j:Nat):BP:=fun b o=>q j<=b/\b<q (j+1)/\∃ cur T,o=some (.cells cur T (0,0))
def Kept (Q:BP) (w w':World):Prop:=w.heap.size<=w'.heap.size/\∀ b,b<w.heap.size->Q b w.heap[b]? -> w'.heap[b]? = w.heap[b]?
theorem Kept.of_below {Q:BP} {w w':World} (h:Bl w w'):Kept Q w w':=⟨h.size,fun b hb _=>h.block b hb⟩
theorem Kept.cell {Q:BP} {w w':World} (h:Kept Q w w') {b i:Nat} (hb:b<w.heap.size) (hQ:Q b w.heap[b]?):w'.cell? ⟨b,i,none⟩=w.cell? ⟨b,i,none⟩:=World.cell?_of_block (w:=w) (h.2 b hb hQ)
theorem Kept.setCell {Q:BP} {w:World} {a:Addr} {u:Value} (h:∀ o,¬ Q a.block o):Kept Q w (w.setCell a u):=by
 refine ⟨(Below.setCell (B:=0) (Below.refl _ w) (Nat.zero_le _) u).size,fun b _ hQ=>Below.heap_setCell w a u b ?_⟩
 rintro rfl;exact h _ hQ

def Sl {α:Type} (Q:BP) (sz:Nat) (E:World->Nat->Nat->α->Prop) (w:World) (v:Value) (l:List α):Prop :=
 (∃ a c,v=.slice a 0 c/\l=[])\/∃ b off cap,v=.slice (some ⟨b,off,none⟩) l.length cap/\l.length<=cap/\b<w.heap.size/\Q b w.heap[b]? /\ ∀ i (h:i<l.length),E w b (off+i * sz) l[i]
def SlS (Q:BP) (w:World) (v:Value) (l:List ByteArray):Prop :=
 (∃ a c,v=.slice a 0 c/\l=[])\/∃ b off cap,v=.slice (some ⟨b,off,none⟩) l.length cap/\l.length<=cap/\b<w.heap.size/\Q b w.heap[b]? /\ ∀ i (h:i<l.length),w.cell? ⟨b,off+i,none⟩=some (.string l[i])
def SlI (Q:BP) (w:World) (v:Value) (l:List Int):Prop :=
 (∃ a c,v=.slice a 0 c/\l=[])\/∃ b off cap,v=.slice (some ⟨b,off,none⟩) l.length cap/\l.length<=cap/\b<w.heap.size/\Q b w.heap[b]? /\ ∀ i (h:i<l.length),w.cell? ⟨b,off+i,none⟩=some (.int .i64 l[i])
def Mono {α:Type} (Q R:BP) (E:World->Nat->Nat->α->Prop):Prop:=∀ (w w':World) (b o:Nat) (x:α),E w b o x->b<w.heap.size->Q b w.heap[b]? -> Kept Q w w'->Kept R w w'->E w' b o x
theorem SlS.cap {Q:BP} {w:World} {a:Option Addr} {n c:Nat} {l:List ByteArray} (h:SlS Q w (.slice a n c) l) (hl:0<l.length):l.length<=c:=by
 rcases h with ⟨_,_,_,rfl⟩ | ⟨b,off,cap,hv,h0,_⟩
 . simp at hl
 . simp only [Value.slice.injEq] at hv
   rw [hv.2.2];exact h0
theorem SlS.len {Q:BP} {w:World} {v:Value} {l:List ByteArray} (h:SlS Q w v l):∃ a c,v=.slice a l.length c:=by
 rcases h with ⟨a,c,rfl,rfl⟩ | ⟨b,o,c,rfl,_⟩
 . exact ⟨a,c,rfl⟩
 . exact ⟨_,_,rfl⟩
theorem SlS.kept {Q:BP} {w w':World} {v:Value} {l:List ByteArray} (h:SlS Q w v l) (hk:Kept Q w w'):SlS Q w' v l:=by
 rcases h with h | ⟨b,off,cap,rfl,h0,h1,h2,h3⟩
 . exact .inl h
 . exact .inr ⟨b,off,cap,rfl,h0,Nat.lt_of_lt_of_le h1 hk.1,by rw [hk.2 b h1 h2];exact h2,fun i hi=>(hk.cell h1 h2).trans (h3 i hi)⟩
theorem SlS.weaken {Q Q':BP} {w:World} {v:Value} {l:List ByteArray} (h:SlS Q w v l) (hq:∀ b,b<w.heap.size->Q b w.heap[b]? -> Q' b w.heap[b]?):SlS Q' w v l:=by
 rcases h with h | ⟨b,off,cap,rfl,h0,h1,h2,h3⟩
 . exact .inl h
 . exact .inr ⟨b,off,cap,rfl,h0,h1,hq b h1 h2,h3⟩
theorem SlS.get {Q:BP} {w:World} {a:Option Addr} {n c:Nat} {l:List ByteArray} (h:SlS Q w (.slice a n c) l) {k:Nat} (hk:k<l.length) :
   ∃ b off,a=some ⟨b,off,none⟩/\b<w.heap.size/\w.cell? ⟨b,off+k,none⟩=some (.string l[k]):=by
 rcases h with ⟨_,_,_,rfl⟩ | ⟨b,off,cap,hv,_,hb,_,ht⟩
 . simp at hk
 . simp only [Value.slice.injEq] at hv
   exact ⟨b,off,hv.1,hb,ht k hk⟩
theorem SlS.two {Q:BP} {w:World} {a:Option Addr} {n c:Nat} {l:List ByteArray} (h:SlS Q w (.slice a n c) l):(n=0/\l=[])\/(n=l.length/\∃ b off,a=some ⟨b,off,none⟩/\b<w.heap.size/\Q b w.heap[b]? /\ ∀ i (h:i<l.length),w.cell? ⟨b,off+i,none⟩=some (.string l[i])):=by
 rcases h with ⟨_,_,hv,rfl⟩ | ⟨b,off,cap,hv,_,hb,hq,ht⟩
 . simp only [Value.slice.injEq] at hv;exact .inl ⟨hv.2.1,rfl⟩
 . simp only [Value.slice.injEq] at hv
   exact .inr ⟨hv.2.1,b,off,hv.1,hb,hq,ht⟩
theorem SlI.cap {Q:BP} {w:World} {a:Option Addr} {n c:Nat} {l:List Int} (h:SlI Q w (.slice a n c) l) (hl:0<l.length):l.length<=c:=by
 rcases h with ⟨_,_,_,rfl⟩ | ⟨b,off,cap,hv,h0,_⟩
 . simp at hl
 . simp only [Value.slice.injEq] at hv
   rw [hv.2.2];exact h0
theorem SlI.len {Q:BP} {w:World} {v:Value} {l:List Int} (h:SlI Q w v l):∃ a c,v=.slice a l.length c:=by
 rcases h with ⟨a,c,rfl,rfl⟩ | ⟨b,o,c,rfl,_⟩
 . exact ⟨a,c,rfl⟩
 . exact ⟨_,_,rfl⟩
theorem SlI.kept {Q:BP} {w w':World} {v:Value} {l:List Int} (h:SlI Q w v l) (hk:Kept Q w w'):SlI Q w' v l:=by
 rcases h with h | ⟨b,off,cap,rfl,h0,h1,h2,h3⟩
 . exact .inl h
 . exact .inr ⟨b,off,cap,rfl,h0,Nat.lt_of_lt_of_le h1 hk.1,by rw [hk.2 b h1 h2];exact h2,fun i hi=>(hk.cell h1 h2).trans (h3 i hi)⟩
theorem SlI.weaken {Q Q':BP} {w:World} {v:Value} {l:List Int} (h:SlI Q w v l) (hq:∀ b,b<w.heap.size->Q b w.heap[b]? -> Q' b w.heap[b]?):SlI Q' w v l:=by
 rcases h with h | ⟨b,off,cap,rfl,h0,h1,h2,h3⟩
 . exact .inl h
 . exact .inr ⟨b,off,cap,rfl,h0,h1,hq b h1 h2,h3⟩
theorem SlI.get {Q:BP} {w:World} {a:Option Addr} {n c:Nat} {l:List Int} (h:SlI Q w (.slice a n c) l) {k:Nat} (hk:k<l.length) :
   ∃ b off,a=some ⟨b,off,none⟩/\b<w.heap.size/\w.cell? ⟨b,off+k,none⟩=some (.int .i64 l[k]):=by
 rcases h with ⟨_,_,_,rfl⟩ | ⟨b,off,cap,hv,_,hb,_,ht⟩
 . simp at hk
 . simp only [Value.slice.injEq] at hv
   exact ⟨b,off,hv.1,hb,ht k hk⟩
theorem SlI.two {Q:BP} {w:World} {a:Option Addr} {n c:Nat} {l:List Int} (h:SlI Q w (.slice a n c) l):(n=0/\l=[])\/(n=l.length/\∃ b off,a=some ⟨b,off,none⟩/\b<w.heap.size/\Q b w.heap[b]? /\ ∀ i (h:i<l.length),w.cell? ⟨b,off+i,none⟩=some (.int .i64 l[i])):=by
 rcases h with ⟨_,_,hv,rfl⟩ | ⟨b,off,cap,hv,_,hb,hq,ht⟩
 . simp only [Value.slice.injEq] at hv;exact .inl ⟨hv.2.1,rfl⟩
 . simp only [Value.slice.injEq] at hv
   exact .inr ⟨hv.2.1,b,off,hv.1,hb,hq,ht⟩
theorem Sl.cap {α:Type} {Q:BP} {sz:Nat} {E:World->Nat->Nat->α->Prop} {w:World} {a:Option Addr} {n c:Nat} {l:List α} (h:Sl Q sz E w (.slice a n c) l) (hl:0<l.length):l.length<=c:=by
 rcases h with ⟨_,_,_,rfl⟩ | ⟨b,off,cap,hv,h0,_⟩
 . simp at hl
 . simp only [Value.slice.injEq] at hv
   rw [hv.2.2];exact h0
theorem Sl.len {α:Type} {Q:BP} {sz:Nat} {E:World->Nat->Nat->α->Prop} {w:World} {v:Value} {l:List α} (h:Sl Q sz E w v l):∃ a c,v=.slice a l.length c:=by
 rcases h with ⟨a,c,rfl,rfl⟩ | ⟨b,o,c,rfl,_⟩
 . exact ⟨a,c,rfl⟩
 . exact ⟨_,_,rfl⟩
theorem Sl.kept {α:Type} {Q R:BP} {sz:Nat} {E:World->Nat->Nat->α->Prop} (hE:Mono Q R E) {w w':World} {v:Value} {l:List α} (h:Sl Q sz E w v l) (hk:Kept Q w w') (hr:Kept R w w'):Sl Q sz E w' v l:=by
 rcases h with h | ⟨b,off,cap,rfl,h0,h1,h2,h3⟩
 . exact .inl h
 . exact .inr ⟨b,off,cap,rfl,h0,Nat.lt_of_lt_of_le h1 hk.1,by rw [hk.2 b h1 h2];exact h2,fun i hi=>hE _ _ _ _ _ (h3 i hi) h1 h2 hk hr⟩
theorem Sl.weaken {α:Type} {Q Q':BP} {sz:Nat} {E E':World->Nat->Nat->α->Prop} {w:World} {v:Value} {l:List α} (h:Sl Q sz E w v l) (hq:∀ b,b<w.heap.size->Q b w.heap[b]? -> Q' b w.heap[b]?) (he:∀ b o x,E w b o x->E' w b o x):Sl Q' sz E' w v l:=by
 rcases h with h | ⟨b,off,cap,rfl,h0,h1,h2,h3⟩
 . exact .inl h
 . exact .inr ⟨b,off,cap,rfl,h0,h1,hq b h1 h2,fun i hi=>he _ _ _ (h3 i hi)⟩
theorem Sl.get {α:Type} {Q:BP} {sz:Nat} {E:World->Nat->Nat->α->Prop} {w:World} {a:Option Addr} {n c:Nat} {l:List α} (h:Sl Q sz E w (.slice a n c) l) {k:Nat} (hk:k<l.length) :
   ∃ b off,a=some ⟨b,off,none⟩/\b<w.heap.size/\E w b (off+k * sz) l[k]:=by
 rcases h with ⟨_,_,_,rfl⟩ | ⟨b,off,cap,hv,_,hb,_,ht⟩
 . simp at hk
 . simp only [Value.slice.injEq] at hv
   exact ⟨b,off,hv.1,hb,ht k hk⟩
theorem Sl.two {α:Type} {Q:BP} {sz:Nat} {E:World->Nat->Nat->α->Prop} {w:World} {a:Option Addr} {n c:Nat} {l:List α} (h:Sl Q sz E w (.slice a n c) l):(n=0/\l=[])\/(n=l.length/\∃ b off,a=some ⟨b,off,none⟩/\b<w.heap.size/\Q b w.heap[b]? /\ ∀ i (h:i<l.length),E w b (off+i * sz) l[i]):=by
 rcases h with ⟨_,_,hv,rfl⟩ | ⟨b,off,cap,hv,_,hb,hq,ht⟩
 . simp only [Value.slice.injEq] at hv;exact .inl ⟨hv.2.1,rfl⟩
 . simp only [Value.slice.injEq] at hv
   exact .inr ⟨hv.2.1,b,off,hv.1,hb,hq,ht⟩

def VarE (w:World) (b o:Nat) (x:VarD):Prop:=w.cell? ⟨b,o,none⟩=some (.string x.nm)/\w.cell? ⟨b,o+1,none⟩=some (.int .i64 x.ini)
def RegE (w:World) (b o:Nat) (x:RegD):Prop:=w.cell? ⟨b,o,none⟩=some (.string x.nm)/\w.cell? ⟨b,o+1,none⟩=some (.int .i64 x.own)
def VerE (R:BP) (w:World) (b o:Nat) (x:VerD):Prop:=∃ dv,SlS R w dv x.df/\w.cell? ⟨b,o,none⟩=some (.string x.nm)/\w.cell? ⟨b,o+1,none⟩=some (.int .u8 x.kd)/\w.cell? ⟨b,o+2,none⟩=some (.int .i64 x.rg) /\
 w.cell? ⟨b,o+3,none⟩=some (.int .i64 x.ofv)/\w.cell? ⟨b,o+4,none⟩=some (.string x.en)/\w.cell? ⟨b,o+5,none⟩=some (.string x.ex)/\w.cell? ⟨b,o+6,none⟩=some dv/\w.cell? ⟨b,o+7,none⟩=some (.string x.sb)
def TrnE (R:BP) (w:World) (b o:Nat) (x:TrnD):Prop:=∃ dv,SlS R w dv x.tr/\w.cell? ⟨b,o,none⟩=some (.string x.nm)/\w.cell? ⟨b,o+1,none⟩=some (.int .i64 x.src)/\w.cell? ⟨b,o+2,none⟩=some (.int .i64 x.tgt) /\
 w.cell? ⟨b,o+3,none⟩=some dv/\w.cell? ⟨b,o+4,none⟩=some (.int .i64 x.af)/\w.cell? ⟨b,o+5,none⟩=some (.string x.gd)/\w.cell? ⟨b,o+6,none⟩=some (.string x.ef)/\w.cell? ⟨b,o+7,none⟩=some (.int .u8 x.kd)
theorem VarE.mono {Q R:BP}:Mono Q R VarE:=fun _ _ _ _ _ h hb hq hw _=>⟨(hw.cell hb hq).trans h.1,(hw.cell hb hq).trans h.2⟩
theorem RegE.mono {Q R:BP}:Mono Q R RegE:=fun _ _ _ _ _ h hb hq hw _=>⟨(hw.cell hb hq).trans h.1,(hw.cell hb hq).trans h.2⟩
theorem VerE.mono {Q R:BP}:Mono Q R (VerE R):=fun w w' b o _ h hb hq hw hr=>by
 obtain ⟨dv,hd,h0,h1,h2,h3,h4,h5,h6,h7⟩:=h
 have hc:∀ j u,w.cell? ⟨b,o+j,none⟩=some u->w'.cell? ⟨b,o+j,none⟩=some u:=fun j u h=>(hw.cell hb hq).trans h
 exact ⟨dv,hd.kept hr,hc 0 _ h0,hc 1 _ h1,hc 2 _ h2,hc 3 _ h3,hc 4 _ h4,hc 5 _ h5,hc 6 _ h6,hc 7 _ h7⟩
theorem VerE.weaken {R R':BP} {w:World} (hr:∀ b,b<w.heap.size->R b w.heap[b]? -> R' b w.heap[b]?) {b o:Nat} {x} (h:VerE R w b o x):VerE R' w b o x:=by
 obtain ⟨dv,hd,h⟩:=h
 exact ⟨dv,hd.weaken hr,h⟩
theorem TrnE.mono {Q R:BP}:Mono Q R (TrnE R):=fun w w' b o _ h hb hq hw hr=>by
 obtain ⟨dv,hd,h0,h1,h2,h3,h4,h5,h6,h7⟩:=h
 have hc:∀ j u,w.cell? ⟨b,o+j,none⟩=some u->w'.cell? ⟨b,o+j,none⟩=some u:=fun j u h=>(hw.cell hb hq).trans h
 exact ⟨dv,hd.kept hr,hc 0 _ h0,hc 1 _ h1,hc 2 _ h2,hc 3 _ h3,hc 4 _ h4,hc 5 _ h5,hc 6 _ h6,hc 7 _ h7⟩
theorem TrnE.weaken {R R':BP} {w:World} (hr:∀ b,b<w.heap.size->R b w.heap[b]? -> R' b w.heap[b]?) {b o:Nat} {x} (h:TrnE R w b o x):TrnE R' w b o x:=by
 obtain ⟨dv,hd,h⟩:=h
 exact ⟨dv,hd.weaken hr,h⟩

structure Ph where
 a1:Option Addr
 c1:Nat
 a2:Option Addr
 c2:Nat
 a3:Option Addr
 c3:Nat
 a4:Option Addr
 c4:Nat
 a5:Option Addr
 c5:Nat
structure Mod (Q:Nat->BP) (w:World) (m:MdlD) (p:Ph):Prop where
 vars:Sl (Q 0) 2 VarE w (.slice p.a1 m.vars.length p.c1) m.vars
 evs:SlS (Q 1) w (.slice p.a2 m.evs.length p.c2) m.evs
 regs:Sl (Q 2) 2 RegE w (.slice p.a3 m.regs.length p.c3) m.regs
 vers:Sl (Q 3) 8 (VerE (Q 5)) w (.slice p.a4 m.vers.length p.c4) m.vers
 trns:Sl (Q 4) 8 (TrnE (Q 6)) w (.slice p.a5 m.trns.length p.c5) m.trns
def mdV (m:MdlD) (p:Ph):Value:=.agg #[.string m.nm,.slice p.a1 m.vars.length p.c1,.slice p.a2 m.evs.length p.c2,.slice p.a3 m.regs.length p.c3,.slice p.a4 m.vers.length p.c4,.slice p.a5 m.trns.length p.c5]
theorem Mod.kept {Q:Nat->BP} {w w':World} {m:MdlD} {p:Ph} (h:Mod Q w m p) (hk:∀ j,Kept (Q j) w w'):Mod Q w' m p :=
 ⟨h.vars.kept (VarE.mono (R:=Q 0)) (hk 0) (hk 0),h.evs.kept (hk 1),h.regs.kept (RegE.mono (R:=Q 0)) (hk 2) (hk 0),h.vers.kept VerE.mono (hk 3) (hk 5),h.trns.kept TrnE.mono (hk 4) (hk 6)⟩
theorem Mod.below {Q:Nat->BP} {w w':World} {m:MdlD} {p:Ph} (h:Mod Q w m p) (hb:Bl w w'):Mod Q w' m p:=h.kept fun _=>Kept.of_below hb
theorem Mod.weaken {Q Q':Nat->BP} {w:World} {m:MdlD} {p:Ph} (h:Mod Q w m p) (hq:∀ j b,b<w.heap.size->Q j b w.heap[b]? -> Q' j b w.heap[b]?):Mod Q' w m p :=
 ⟨h.vars.weaken (hq 0) fun _ _ _ h=>h,h.evs.weaken (hq 1),h.regs.weaken (hq 2) fun _ _ _ h=>h,h.vers.weaken (hq 3) fun _ _ _ h=>h.weaken (hq 5),h.trns.weaken (hq 4) fun _ _ _ h=>h.weaken (hq 6)⟩
abbrev anyM:Nat->BP:=fun _=>anyB
theorem Mod.any {Q:Nat->BP} {w:World} {m:MdlD} {p:Ph} (h:Mod Q w m p):Mod anyM w m p:=h.weaken fun _ _ _ _=>trivial
structure VerOk (x:VerD):Prop where
 nm:x.nm.size<=140737488355328
 kd:x.kd<256
 en:x.en.size<=140737488355328
 ex:x.ex.size<=140737488355328
 df:x.df.length<=140737488355328
 dfs:∀ s ∈ x.df,s.size<=140737488355328
 sb:x.sb.size<=140737488355328
 rg:-9223372036854775808<=x.rg/\x.rg<=9223372036854775807
 ofv:-9223372036854775808<=x.ofv/\x.ofv<=9223372036854775807
structure TrnOk (x:TrnD):Prop where
 nm:x.nm.size<=140737488355328
 kd:x.kd<256
 gd:x.gd.size<=140737488355328
 ef:x.ef.size<=140737488355328
 tr:x.tr.length<=140737488355328
 trs:∀ s ∈ x.tr,s.size<=140737488355328
 src:-9223372036854775808<=x.src/\x.src<=9223372036854775807
 tgt:-9223372036854775808<=x.tgt/\x.tgt<=9223372036854775807
 af:-9223372036854775808<=x.af/\x.af<=9223372036854775807
structure MdlOk (m:MdlD):Prop where
 nm:m.nm.size<=140737488355328
 vars:m.vars.length<=140737488355328
 varn:∀ x ∈ m.vars,x.nm.size<=140737488355328
 evs:m.evs.length<=140737488355328
 evn:∀ s ∈ m.evs,s.size<=140737488355328
 regs:m.regs.length<=140737488355328
 regn:∀ x ∈ m.regs,x.nm.size<=140737488355328
 rego:∀ x ∈ m.regs,-9223372036854775808<=x.own/\x.own<=9223372036854775807
 vers:m.vers.length<=140737488355328
 verx:∀ x ∈ m.vers,VerOk x
 trns:m.trns.length<=140737488355328
 trnx:∀ x ∈ m.trns,TrnOk x
end Go.Proofs
