/- Exposing cells: the cell of a term moved to the front (impl.exposeCellAt). Printed by genExpB.py. -/
import Derived.Test.YtmcgbeladjlcpaaGreatMExpA
import Derived.Deep.DeepCutAuto
set_option linter.unusedSimpArgs false
set_option linter.unusedVariables false
set_option maxRecDepth 100000
set_option maxHeartbeats 25600000
namespace Go.Proofs.YtmcgbeladjlcpaaGreat
section
open Go Go.RowKit Go.Proofs
attribute [local go_sem ↓] Go.wp_at_zero Go.wp_at_succ
theorem rowC_ {B:Nat} {w w':World} (h:Below B w w') {g:Nat} (hg:g<B) {cs:Array Value} (hc:∀ i,w.cell? ⟨g,i,none⟩=cs[i]?):∀ i,w'.cell? ⟨g,i,none⟩=cs[i]?:=fun i=>(h.cell (p:=⟨g,i,none⟩) hg).trans (hc i)
def cellX (a:Asn) (x:Atm) (i:Nat) (t:Int):Asn:=⟨a.facts++(if x.a=t then [] else [⟨true,x.a,t⟩]),⟨1,t,x.b⟩ :: withoutL a.atoms i⟩
theorem c_impl_exposeCellAt {lo hi0:Nat} (v:Value) (a:Asn) (i:Nat) (t:Int) (w:World) (h:AsnC w lo hi0 v a) (hi:i<a.atoms.length) (hfl:a.facts.length+1≤1049600) :
  Calls Tryz.prog 215 #[v,.int .i64 i,.int .i64 t] w fun e w'=>∃ r,e=.returned (.tuple #[r,.bool (cellX a a.atoms[i] i t).valid])∧AsnO w' w.heap.size r (cellX a a.atoms[i] i t)∧Below w.heap.size w w':=by
 have hV:=Lib.hid h
 obtain ⟨A1,c1,A2,c2,rfl,h1,h2,-⟩:=h
 have H1:=Lib.hid h1
 have hl:=h2.le
 have hwl:=withoutL_len hi
 obtain ⟨b,o,rfl,g0,g1,g2⟩:=h2.at hi
 obtain ⟨x,hx⟩:∃ x,x=a.atoms[i]:=⟨_,rfl⟩
 rw[←hx] at g0 g1 g2 ⊢
 have hbl:=block_lt_of_cell g0
 simp only at hbl
 have hii:(i:Int)<(a.atoms.length:Int):=by omega
 have HBL:Hid (([(⟨1,t,x.b⟩:Atm)]++withoutL a.atoms i).length=a.atoms.length):=Lib.hid (by simp;omega)
 clear hx h1 h2
 go_enter Tryz.func215,Tryz.ntmps215
 have k0:Blk ((w.alloc (.cells #[.slice A1 a.facts.length c1,.slice (some ⟨b,o,none⟩) a.atoms.length c2] tAs)).alloc (.cells #[.slice none 0 0,.slice none 0 0] tAs)) w.heap.size tAs #[.slice A1 a.facts.length c1,.slice (some ⟨b,o,none⟩) a.atoms.length c2]:=blks
 have k6:Blk ((w.alloc (.cells #[.slice A1 a.facts.length c1,.slice (some ⟨b,o,none⟩) a.atoms.length c2] tAs)).alloc (.cells #[.slice none 0 0,.slice none 0 0] tAs)) (w.heap.size+1) tAs #[.slice none 0 0,.slice none 0 0]:=blks
 have hB0:Hid (Below w.heap.size w ((w.alloc (.cells #[.slice A1 a.facts.length c1,.slice (some ⟨b,o,none⟩) a.atoms.length c2] tAs)).alloc (.cells #[.slice none 0 0,.slice none 0 0] tAs))):=Lib.hid bel
 have hs0:((w.alloc (.cells #[.slice A1 a.facts.length c1,.slice (some ⟨b,o,none⟩) a.atoms.length c2] tAs)).alloc (.cells #[.slice none 0 0,.slice none 0 0] tAs)).heap.size=w.heap.size+2:=by simp
 go_upto_region 3 with fail
 generalize ((w.alloc (.cells #[.slice A1 a.facts.length c1,.slice (some ⟨b,o,none⟩) a.atoms.length c2] tAs)).alloc (.cells #[.slice none 0 0,.slice none 0 0] tAs))=W0 at k0 k6 hB0 hs0 ⊢
 have hk2:w.heap.size+2=W0.heap.size:=by omega
 have kx:Blk ((W0.alloc (.cells #[.int .i64 x.kind,.int .i64 x.a,.int .i64 x.b] tA)).alloc (.cells #[.int .i64 1,.int .i64 t,.int .i64 x.b] tA)) (w.heap.size+2) tA #[.int .i64 x.kind,.int .i64 x.a,.int .i64 x.b]:=(Blk.newE hk2).alloc _
 have kf:Blk ((W0.alloc (.cells #[.int .i64 x.kind,.int .i64 x.a,.int .i64 x.b] tA)).alloc (.cells #[.int .i64 1,.int .i64 t,.int .i64 x.b] tA)) (w.heap.size+2+1) tA #[.int .i64 1,.int .i64 t,.int .i64 x.b]:=Blk.newE (by simp;omega)
 have hbq:Below W0.heap.size W0 ((W0.alloc (.cells #[.int .i64 x.kind,.int .i64 x.a,.int .i64 x.b] tA)).alloc (.cells #[.int .i64 1,.int .i64 t,.int .i64 x.b] tA)):=bbox (bbox (Below.refl _ _) _) _
 replace k0:=k0.next hbq
 replace k6:=k6.next hbq
 have HB:=Lib.hid (bgo hB0.out hbq)
 have hsW:((W0.alloc (.cells #[.int .i64 x.kind,.int .i64 x.a,.int .i64 x.b] tA)).alloc (.cells #[.int .i64 1,.int .i64 t,.int .i64 x.b] tA)).heap.size=w.heap.size+4:=by simp;omega
 clear hbq hB0
 generalize ((W0.alloc (.cells #[.int .i64 x.kind,.int .i64 x.a,.int .i64 x.b] tA)).alloc (.cells #[.int .i64 1,.int .i64 t,.int .i64 x.b] tA))=W at k0 k6 kx kf HB hsW ⊢
 clear hk2 hs0 g0 g1 g2
 go_cut [10] (fun s10 wc=>∃ (xb:Nat) (F1:Option Addr) (e1:Nat) (G2:Option Addr) (e3:Nat),s10=.pointer (some ⟨xb,0,none⟩)∧Hid (FactsO wc w.heap.size (.slice F1 a.facts.length e1) a.facts)∧Hid (AtomsO wc w.heap.size (.slice G2 a.atoms.length e3) ([⟨1,t,x.b⟩]++withoutL a.atoms i))∧Blk wc xb tAs #[.slice F1 a.facts.length e1,.slice G2 a.atoms.length e3]∧Blk wc (w.heap.size+2) tA #[.int .i64 x.kind,.int .i64 x.a,.int .i64 x.b]∧Blk wc (w.heap.size+1) tAs #[.slice none 0 0,.slice none 0 0]∧w.heap.size+4≤xb∧Hid (Below w.heap.size w wc))
 case first=>
  have lk0:=k0.lt
  have lkf:=kf.lt
  go_wp2_with fail
  refine wp_region_noPanic ?_
  refine wp_region_held_drew (S:=(fun w'=>(∀ i,w'.cell? ⟨w.heap.size,i,none⟩=#[.slice A1 a.facts.length c1,.slice (some ⟨b,o,none⟩) a.atoms.length c2][i]?)∧(∀ i,w'.cell? ⟨w.heap.size+2+1,i,none⟩=#[.int .i64 1,.int .i64 t,.int .i64 x.b][i]?))) (by kernel_rfl) (⟨k0.drew.cell,kf.drew.cell⟩) (fun hHeld=>?_)
  clear lk0 lkf
  replace k0:=k0.drew
  replace k6:=k6.drew
  replace kx:=kx.drew
  replace kf:=kf.drew
  replace HB:=Lib.hid HB.out.drew
  have hzq:W.heap.size≤W.drew.heap.size:=Nat.le_refl _
  generalize W.drew=wq at k0 kx k6 kf HB hzq hHeld ⊢
  refine tk2 0 rfl hHeld ?_
  try simp only[zz]
  refine tk2 1 rfl hHeld ?_
  try simp only[zz]
  refine tk2 3 rfl hHeld ?_
  try simp only[zz]
  refine tk2 4 rfl hHeld ?_
  try simp only[zz]
  refine tk2 5 rfl hHeld ?_
  try simp only[zz]
  refine wpAnyH_ready (rs:=[2,9]) (by kernel_rfl) (by simp) ?_
  refine AllReadyH.cons rfl (fun K hK=>?_) (AllReadyH.cons rfl (fun K hK=>?_) (AllReadyH.nil))
  ·skip
   try simp only[zz]
   go_simp
   refine (c_joinF A1 none c1 0 a.facts [] _ (H1.out.below HB.out) (Rd.nil _ 0 0 _ _) (by simpa using Nat.le_of_succ_le hfl)).mono ?_
   rintro e wq ⟨rF,rfl,oF,hBq⟩
   rw[List.append_nil] at oF
   obtain ⟨F1,e1,rfl,-⟩:=oF.reads
   have OF:=Lib.hid (oF.lower (base':=w.heap.size) (by omega))
   clear oF
   replace k0:=k0.next hBq
   replace kx:=kx.next hBq
   replace k6:=k6.next hBq
   replace kf:=kf.next hBq
   replace HB:=Lib.hid (bgo HB.out hBq)
   replace hzq:=Nat.le_trans hzq hBq.size
   clear hBq
   refine hK.out _ _ ⟨k0.cell,kf.cell⟩ (fun hHeldN=>?_)
   clear hHeld hK K
   have hHeld:=hHeldN
   clear hHeldN
   refine wpAnyH_ready (rs:=[6,9]) (by kernel_rfl) (by simp) ?_
   refine AllReadyH.cons rfl (fun K hK=>?_) (AllReadyH.cons rfl (fun K hK=>?_) (AllReadyH.nil))
   ·skip
    try simp only[zz]
    go_simp
    refine (c_impl_without _ a i _ (hV.out.below HB.out) hi).mono ?_
    rintro e wq ⟨rA,rfl,oA,hBq⟩
    obtain ⟨G1,e2,rfl,fA⟩:=oA.reads
    have FA:=Lib.hid fA
    replace OF:=Lib.hid (OF.out.below hBq)
    clear oA fA
    replace k0:=k0.next hBq
    replace kx:=kx.next hBq
    replace k6:=k6.next hBq
    replace kf:=kf.next hBq
    replace HB:=Lib.hid (bgo HB.out hBq)
    replace hzq:=Nat.le_trans hzq hBq.size
    clear hBq
    refine hK.out _ _ ⟨k0.cell,kf.cell⟩ (fun hHeldN=>?_)
    clear hHeld hK K
    have hHeld:=hHeldN
    clear hHeldN
    refine wpAnyH_ready (rs:=[7,9]) (by kernel_rfl) (by simp) ?_
    refine AllReadyH.cons rfl (fun K hK=>?_) (AllReadyH.cons rfl (fun K hK=>?_) (AllReadyH.nil))
    ·skip
     try simp only[zz]
     go_simp
     refine (c_joinA (some ⟨w.heap.size+2+1,0,none⟩) G1 1 e2 [⟨1,t,x.b⟩] (withoutL a.atoms i) _ (AtomsV.one (f:=⟨1,t,x.b⟩) kf) FA.out (by simp<;>omega)).mono ?_
     rintro e wq ⟨rB,rfl,oB,hBq⟩
     obtain ⟨G2,e3,rfl,-⟩:=oB.reads
     rw[HBL.out] at oB
     have OB:=Lib.hid (oB.lower (base':=w.heap.size) (by omega))
     replace OF:=Lib.hid (OF.out.below hBq)
     clear oB
     replace k0:=k0.next hBq
     replace kx:=kx.next hBq
     replace k6:=k6.next hBq
     replace kf:=kf.next hBq
     replace HB:=Lib.hid (bgo HB.out hBq)
     replace hzq:=Nat.le_trans hzq hBq.size
     clear hBq
     refine hK.out _ _ ⟨k0.cell,kf.cell⟩ (fun hHeldN=>?_)
     clear hHeld hK K
     have hHeld:=hHeldN
     clear hHeldN
     refine tk2 8 rfl hHeld ?_
     try simp only[zz]
     refine rdc 9 rfl fun K hK=>?_
     try simp only[zz]
     go_simp
     refine hK.out _ _ (⟨rowC_ (bbox (Below.refl _ _) _) k0.lt k0.cell,rowC_ (bbox (Below.refl _ _) _) kf.lt kf.cell⟩) ?_
     clear hHeld hK K
     intro hHeld
     try simp only[zz]
     have hBq:Below wq.heap.size wq (wq.alloc (.cells #[.slice none 0 0,.slice none 0 0] tAs)):=bbox (Below.refl _ _) _
     have kBox:Blk (wq.alloc (.cells #[.slice none 0 0,.slice none 0 0] tAs)) wq.heap.size tAs #[.slice none 0 0,.slice none 0 0]:=Blk.new _ _ _
     obtain ⟨xb,hxb⟩:∃ x,x=wq.heap.size:=⟨_,rfl⟩
     have hxb2:W.heap.size≤xb:=by omega
     replace k0:=k0.next hBq
     replace kx:=kx.next hBq
     replace k6:=k6.next hBq
     replace kf:=kf.next hBq
     replace HB:=Lib.hid (bgo HB.out hBq)
     replace hzq:=Nat.le_trans hzq hBq.size
     try replace OF:=Lib.hid (OF.out.below hBq)
     try replace FA:=Lib.hid (FA.out.below hBq)
     try replace OB:=Lib.hid (OB.out.below hBq)
     rw[←hxb] at kBox ⊢
     clear hBq hxb
     generalize wq.alloc (.cells #[.slice none 0 0,.slice none 0 0] tAs)=wq at *
     have hlB:=kBox.lt
     have qb:=kBox.cell
     have rb:=kBox.frozen
     refine rdc 10 rfl fun K hK=>?_
     try simp only[zz]
     go_simp
     refine hK.out _ _ (⟨((k0.far (p:=⟨xb,0,none⟩) (by simp only;omega) _).far (p:=⟨xb,1,none⟩) (by simp only;omega) _).cell,((kf.far (p:=⟨xb,0,none⟩) (kf.ne_ kBox (by decide)) _).far (p:=⟨xb,1,none⟩) (kf.ne_ kBox (by decide)) _).cell⟩) ?_
     clear hHeld hK K
     intro hHeld
     try simp only[zz]
     refine wpAnyH_done (by kernel_rfl) ?_ _
     refine NoPanic.normal ?_
     go_wp2_with fail
     go_meet
     case rel=>
      refine ⟨xb,F1,e1,G2,e3,rfl,Lib.hid ((OF.out.setT kBox (by decide) 0 _).setT (kBox.set_ 0 _) (by decide) 1 _),Lib.hid ((OB.out.setT kBox (by decide) 0 _).setT (kBox.set_ 0 _) (by decide) 1 _),?_,(kx.far (p:=⟨xb,0,none⟩) (kx.ne_ kBox (by decide)) _).far (p:=⟨xb,1,none⟩) (kx.ne_ kBox (by decide)) _,(k6.far (p:=⟨xb,0,none⟩) (by simp only;omega) _).far (p:=⟨xb,1,none⟩) (by simp only;omega) _,by omega,Lib.hid ((HB.out.setCell (p:=⟨xb,0,none⟩) (by simp only;omega) _).setCell (p:=⟨xb,1,none⟩) (by simp only;omega) _)⟩
      have:=(kBox.set_ 0 (.slice F1 a.facts.length e1)).set_ 1 (.slice G2 a.atoms.length e3)
      simpa using this
    ·skip
     try simp only[zz]
     go_simp
     refine hK.out _ _ ⟨rowC_ (bbox (Below.refl _ _) _) k0.lt k0.cell,rowC_ (bbox (Below.refl _ _) _) kf.lt kf.cell⟩ (fun hHeldN=>?_)
     clear hHeld hK K
     have hHeld:=hHeldN
     clear hHeldN
     have hBq:Below wq.heap.size wq (wq.alloc (.cells #[.slice none 0 0,.slice none 0 0] tAs)):=bbox (Below.refl _ _) _
     have kBox:Blk (wq.alloc (.cells #[.slice none 0 0,.slice none 0 0] tAs)) wq.heap.size tAs #[.slice none 0 0,.slice none 0 0]:=Blk.new _ _ _
     obtain ⟨xb,hxb⟩:∃ x,x=wq.heap.size:=⟨_,rfl⟩
     have hxb2:W.heap.size≤xb:=by omega
     replace k0:=k0.next hBq
     replace kx:=kx.next hBq
     replace k6:=k6.next hBq
     replace kf:=kf.next hBq
     replace HB:=Lib.hid (bgo HB.out hBq)
     replace hzq:=Nat.le_trans hzq hBq.size
     try replace OF:=Lib.hid (OF.out.below hBq)
     try replace FA:=Lib.hid (FA.out.below hBq)
     try replace OB:=Lib.hid (OB.out.below hBq)
     rw[←hxb] at kBox ⊢
     clear hBq hxb
     generalize wq.alloc (.cells #[.slice none 0 0,.slice none 0 0] tAs)=wq at *
     refine rdc 7 rfl fun K hK=>?_
     try simp only[zz]
     (go_simp;refine (c_joinA (some ⟨w.heap.size+2+1,0,none⟩) G1 1 e2 [⟨1,t,x.b⟩] (withoutL a.atoms i) _ (AtomsV.one (f:=⟨1,t,x.b⟩) kf) FA.out (by simp<;>omega)).mono ?_;rintro e wq ⟨rB,rfl,oB,hBq⟩;obtain ⟨G2,e3,rfl,-⟩:=oB.reads;rw[HBL.out] at oB;have OB:=Lib.hid (oB.lower (base':=w.heap.size) (by omega));replace OF:=Lib.hid (OF.out.below hBq);clear oB;replace k0:=k0.next hBq;replace kx:=kx.next hBq;replace k6:=k6.next hBq;replace kf:=kf.next hBq;replace HB:=Lib.hid (bgo HB.out hBq);replace hzq:=Nat.le_trans hzq hBq.size;have kBox:=kBox.next hBq)
     refine hK.out _ _ (⟨k0.cell,kf.cell⟩) ?_
     clear hHeld hK K
     intro hHeld
     try simp only[zz]
     clear hBq
     refine tk2 8 rfl hHeld ?_
     try simp only[zz]
     have hlB:=kBox.lt
     have qb:=kBox.cell
     have rb:=kBox.frozen
     refine rdc 10 rfl fun K hK=>?_
     try simp only[zz]
     go_simp
     refine hK.out _ _ (⟨((k0.far (p:=⟨xb,0,none⟩) (by simp only;omega) _).far (p:=⟨xb,1,none⟩) (by simp only;omega) _).cell,((kf.far (p:=⟨xb,0,none⟩) (kf.ne_ kBox (by decide)) _).far (p:=⟨xb,1,none⟩) (kf.ne_ kBox (by decide)) _).cell⟩) ?_
     clear hHeld hK K
     intro hHeld
     try simp only[zz]
     refine wpAnyH_done (by kernel_rfl) ?_ _
     refine NoPanic.normal ?_
     go_wp2_with fail
     go_meet
     case rel=>
      refine ⟨xb,F1,e1,G2,e3,rfl,Lib.hid ((OF.out.setT kBox (by decide) 0 _).setT (kBox.set_ 0 _) (by decide) 1 _),Lib.hid ((OB.out.setT kBox (by decide) 0 _).setT (kBox.set_ 0 _) (by decide) 1 _),?_,(kx.far (p:=⟨xb,0,none⟩) (kx.ne_ kBox (by decide)) _).far (p:=⟨xb,1,none⟩) (kx.ne_ kBox (by decide)) _,(k6.far (p:=⟨xb,0,none⟩) (by simp only;omega) _).far (p:=⟨xb,1,none⟩) (by simp only;omega) _,by omega,Lib.hid ((HB.out.setCell (p:=⟨xb,0,none⟩) (by simp only;omega) _).setCell (p:=⟨xb,1,none⟩) (by simp only;omega) _)⟩
      have:=(kBox.set_ 0 (.slice F1 a.facts.length e1)).set_ 1 (.slice G2 a.atoms.length e3)
      simpa using this
   ·skip
    try simp only[zz]
    go_simp
    refine hK.out _ _ ⟨rowC_ (bbox (Below.refl _ _) _) k0.lt k0.cell,rowC_ (bbox (Below.refl _ _) _) kf.lt kf.cell⟩ (fun hHeldN=>?_)
    clear hHeld hK K
    have hHeld:=hHeldN
    clear hHeldN
    have hBq:Below wq.heap.size wq (wq.alloc (.cells #[.slice none 0 0,.slice none 0 0] tAs)):=bbox (Below.refl _ _) _
    have kBox:Blk (wq.alloc (.cells #[.slice none 0 0,.slice none 0 0] tAs)) wq.heap.size tAs #[.slice none 0 0,.slice none 0 0]:=Blk.new _ _ _
    obtain ⟨xb,hxb⟩:∃ x,x=wq.heap.size:=⟨_,rfl⟩
    have hxb2:W.heap.size≤xb:=by omega
    replace k0:=k0.next hBq
    replace kx:=kx.next hBq
    replace k6:=k6.next hBq
    replace kf:=kf.next hBq
    replace HB:=Lib.hid (bgo HB.out hBq)
    replace hzq:=Nat.le_trans hzq hBq.size
    try replace OF:=Lib.hid (OF.out.below hBq)
    try replace FA:=Lib.hid (FA.out.below hBq)
    try replace OB:=Lib.hid (OB.out.below hBq)
    rw[←hxb] at kBox ⊢
    clear hBq hxb
    generalize wq.alloc (.cells #[.slice none 0 0,.slice none 0 0] tAs)=wq at *
    refine rdc 6 rfl fun K hK=>?_
    try simp only[zz]
    (go_simp;refine (c_impl_without _ a i _ (hV.out.below HB.out) hi).mono ?_;rintro e wq ⟨rA,rfl,oA,hBq⟩;obtain ⟨G1,e2,rfl,fA⟩:=oA.reads;have FA:=Lib.hid fA;replace OF:=Lib.hid (OF.out.below hBq);clear oA fA;replace k0:=k0.next hBq;replace kx:=kx.next hBq;replace k6:=k6.next hBq;replace kf:=kf.next hBq;replace HB:=Lib.hid (bgo HB.out hBq);replace hzq:=Nat.le_trans hzq hBq.size;have kBox:=kBox.next hBq)
    refine hK.out _ _ (⟨k0.cell,kf.cell⟩) ?_
    clear hHeld hK K
    intro hHeld
    try simp only[zz]
    clear hBq
    refine rdc 7 rfl fun K hK=>?_
    try simp only[zz]
    (go_simp;refine (c_joinA (some ⟨w.heap.size+2+1,0,none⟩) G1 1 e2 [⟨1,t,x.b⟩] (withoutL a.atoms i) _ (AtomsV.one (f:=⟨1,t,x.b⟩) kf) FA.out (by simp<;>omega)).mono ?_;rintro e wq ⟨rB,rfl,oB,hBq⟩;obtain ⟨G2,e3,rfl,-⟩:=oB.reads;rw[HBL.out] at oB;have OB:=Lib.hid (oB.lower (base':=w.heap.size) (by omega));replace OF:=Lib.hid (OF.out.below hBq);clear oB;replace k0:=k0.next hBq;replace kx:=kx.next hBq;replace k6:=k6.next hBq;replace kf:=kf.next hBq;replace HB:=Lib.hid (bgo HB.out hBq);replace hzq:=Nat.le_trans hzq hBq.size;have kBox:=kBox.next hBq)
    refine hK.out _ _ (⟨k0.cell,kf.cell⟩) ?_
    clear hHeld hK K
    intro hHeld
    try simp only[zz]
    clear hBq
    refine tk2 8 rfl hHeld ?_
    try simp only[zz]
    have hlB:=kBox.lt
    have qb:=kBox.cell
    have rb:=kBox.frozen
    refine rdc 10 rfl fun K hK=>?_
    try simp only[zz]
    go_simp
    refine hK.out _ _ (⟨((k0.far (p:=⟨xb,0,none⟩) (by simp only;omega) _).far (p:=⟨xb,1,none⟩) (by simp only;omega) _).cell,((kf.far (p:=⟨xb,0,none⟩) (kf.ne_ kBox (by decide)) _).far (p:=⟨xb,1,none⟩) (kf.ne_ kBox (by decide)) _).cell⟩) ?_
    clear hHeld hK K
    intro hHeld
    try simp only[zz]
    refine wpAnyH_done (by kernel_rfl) ?_ _
    refine NoPanic.normal ?_
    go_wp2_with fail
    go_meet
    case rel=>
     refine ⟨xb,F1,e1,G2,e3,rfl,Lib.hid ((OF.out.setT kBox (by decide) 0 _).setT (kBox.set_ 0 _) (by decide) 1 _),Lib.hid ((OB.out.setT kBox (by decide) 0 _).setT (kBox.set_ 0 _) (by decide) 1 _),?_,(kx.far (p:=⟨xb,0,none⟩) (kx.ne_ kBox (by decide)) _).far (p:=⟨xb,1,none⟩) (kx.ne_ kBox (by decide)) _,(k6.far (p:=⟨xb,0,none⟩) (by simp only;omega) _).far (p:=⟨xb,1,none⟩) (by simp only;omega) _,by omega,Lib.hid ((HB.out.setCell (p:=⟨xb,0,none⟩) (by simp only;omega) _).setCell (p:=⟨xb,1,none⟩) (by simp only;omega) _)⟩
     have:=(kBox.set_ 0 (.slice F1 a.facts.length e1)).set_ 1 (.slice G2 a.atoms.length e3)
     simpa using this
  ·skip
   try simp only[zz]
   go_simp
   refine hK.out _ _ ⟨rowC_ (bbox (Below.refl _ _) _) k0.lt k0.cell,rowC_ (bbox (Below.refl _ _) _) kf.lt kf.cell⟩ (fun hHeldN=>?_)
   clear hHeld hK K
   have hHeld:=hHeldN
   clear hHeldN
   have hBq:Below wq.heap.size wq (wq.alloc (.cells #[.slice none 0 0,.slice none 0 0] tAs)):=bbox (Below.refl _ _) _
   have kBox:Blk (wq.alloc (.cells #[.slice none 0 0,.slice none 0 0] tAs)) wq.heap.size tAs #[.slice none 0 0,.slice none 0 0]:=Blk.new _ _ _
   obtain ⟨xb,hxb⟩:∃ x,x=wq.heap.size:=⟨_,rfl⟩
   have hxb2:W.heap.size≤xb:=by omega
   replace k0:=k0.next hBq
   replace kx:=kx.next hBq
   replace k6:=k6.next hBq
   replace kf:=kf.next hBq
   replace HB:=Lib.hid (bgo HB.out hBq)
   replace hzq:=Nat.le_trans hzq hBq.size
   try replace OF:=Lib.hid (OF.out.below hBq)
   try replace FA:=Lib.hid (FA.out.below hBq)
   try replace OB:=Lib.hid (OB.out.below hBq)
   rw[←hxb] at kBox ⊢
   clear hBq hxb
   generalize wq.alloc (.cells #[.slice none 0 0,.slice none 0 0] tAs)=wq at *
   refine rdc 2 rfl fun K hK=>?_
   try simp only[zz]
   (go_simp;refine (c_joinF A1 none c1 0 a.facts [] _ (H1.out.below HB.out) (Rd.nil _ 0 0 _ _) (by simpa using Nat.le_of_succ_le hfl)).mono ?_;rintro e wq ⟨rF,rfl,oF,hBq⟩;rw[List.append_nil] at oF;obtain ⟨F1,e1,rfl,-⟩:=oF.reads;have OF:=Lib.hid (oF.lower (base':=w.heap.size) (by omega));clear oF;replace k0:=k0.next hBq;replace kx:=kx.next hBq;replace k6:=k6.next hBq;replace kf:=kf.next hBq;replace HB:=Lib.hid (bgo HB.out hBq);replace hzq:=Nat.le_trans hzq hBq.size;have kBox:=kBox.next hBq)
   refine hK.out _ _ (⟨k0.cell,kf.cell⟩) ?_
   clear hHeld hK K
   intro hHeld
   try simp only[zz]
   clear hBq
   refine rdc 6 rfl fun K hK=>?_
   try simp only[zz]
   (go_simp;refine (c_impl_without _ a i _ (hV.out.below HB.out) hi).mono ?_;rintro e wq ⟨rA,rfl,oA,hBq⟩;obtain ⟨G1,e2,rfl,fA⟩:=oA.reads;have FA:=Lib.hid fA;replace OF:=Lib.hid (OF.out.below hBq);clear oA fA;replace k0:=k0.next hBq;replace kx:=kx.next hBq;replace k6:=k6.next hBq;replace kf:=kf.next hBq;replace HB:=Lib.hid (bgo HB.out hBq);replace hzq:=Nat.le_trans hzq hBq.size;have kBox:=kBox.next hBq)
   refine hK.out _ _ (⟨k0.cell,kf.cell⟩) ?_
   clear hHeld hK K
   intro hHeld
   try simp only[zz]
   clear hBq
   refine rdc 7 rfl fun K hK=>?_
   try simp only[zz]
   (go_simp;refine (c_joinA (some ⟨w.heap.size+2+1,0,none⟩) G1 1 e2 [⟨1,t,x.b⟩] (withoutL a.atoms i) _ (AtomsV.one (f:=⟨1,t,x.b⟩) kf) FA.out (by simp<;>omega)).mono ?_;rintro e wq ⟨rB,rfl,oB,hBq⟩;obtain ⟨G2,e3,rfl,-⟩:=oB.reads;rw[HBL.out] at oB;have OB:=Lib.hid (oB.lower (base':=w.heap.size) (by omega));replace OF:=Lib.hid (OF.out.below hBq);clear oB;replace k0:=k0.next hBq;replace kx:=kx.next hBq;replace k6:=k6.next hBq;replace kf:=kf.next hBq;replace HB:=Lib.hid (bgo HB.out hBq);replace hzq:=Nat.le_trans hzq hBq.size;have kBox:=kBox.next hBq)
   refine hK.out _ _ (⟨k0.cell,kf.cell⟩) ?_
   clear hHeld hK K
   intro hHeld
   try simp only[zz]
   clear hBq
   refine tk2 8 rfl hHeld ?_
   try simp only[zz]
   have hlB:=kBox.lt
   have qb:=kBox.cell
   have rb:=kBox.frozen
   refine rdc 10 rfl fun K hK=>?_
   try simp only[zz]
   go_simp
   refine hK.out _ _ (⟨((k0.far (p:=⟨xb,0,none⟩) (by simp only;omega) _).far (p:=⟨xb,1,none⟩) (by simp only;omega) _).cell,((kf.far (p:=⟨xb,0,none⟩) (kf.ne_ kBox (by decide)) _).far (p:=⟨xb,1,none⟩) (kf.ne_ kBox (by decide)) _).cell⟩) ?_
   clear hHeld hK K
   intro hHeld
   try simp only[zz]
   refine wpAnyH_done (by kernel_rfl) ?_ _
   refine NoPanic.normal ?_
   go_wp2_with fail
   go_meet
   case rel=>
    refine ⟨xb,F1,e1,G2,e3,rfl,Lib.hid ((OF.out.setT kBox (by decide) 0 _).setT (kBox.set_ 0 _) (by decide) 1 _),Lib.hid ((OB.out.setT kBox (by decide) 0 _).setT (kBox.set_ 0 _) (by decide) 1 _),?_,(kx.far (p:=⟨xb,0,none⟩) (kx.ne_ kBox (by decide)) _).far (p:=⟨xb,1,none⟩) (kx.ne_ kBox (by decide)) _,(k6.far (p:=⟨xb,0,none⟩) (by simp only;omega) _).far (p:=⟨xb,1,none⟩) (by simp only;omega) _,by omega,Lib.hid ((HB.out.setCell (p:=⟨xb,0,none⟩) (by simp only;omega) _).setCell (p:=⟨xb,1,none⟩) (by simp only;omega) _)⟩
    have:=(kBox.set_ 0 (.slice F1 a.facts.length e1)).set_ 1 (.slice G2 a.atoms.length e3)
    simpa using this
 case rest=>
  obtain ⟨xb,F1,e1,G2,e3,rfl,OF,OB,kb,kx,k6,hxb,HB⟩:=hcut
  have hl0:=kb.lt
  by_cases hxt:x.a=t
  ·have HXE:Hid (cellX a x i t=⟨a.facts,[⟨1,t,x.b⟩]++withoutL a.atoms i⟩):=Lib.hid (by unfold cellX;rw[if_pos hxt,List.append_nil];rfl)
   have HVX:Hid (AsnV wc 0 wc.heap.size (.agg #[.slice F1 a.facts.length e1,.slice G2 a.atoms.length e3]) (cellX a x i t)):=Lib.hid (by
    rw[HXE.out]
    refine ⟨F1,e1,G2,e3,?_,OF.out.readsI.2.mono (Nat.zero_le _) (Nat.le_refl _),OB.out.readsI.2.mono (Nat.zero_le _) (Nat.le_refl _)⟩
    rw[HBL.out])
   have hb:(x.a != t)=false:=by simpa using hxt
   clear hxt
   (replace qkb:=kb.cell;replace rkb:=kb.frozen;replace lkb:=kb.lt;replace qkx:=kx.cell;replace rkx:=kx.frozen;replace lkx:=kx.lt;replace qk6:=k6.cell;replace rk6:=k6.frozen;replace lk6:=k6.lt)
   go_upto_region 6 with fail
   clear qkx rkx lkx
   refine wp_region_noPanic ?_
   refine wp_region_held_drew (S:=(fun w'=>∀ i,w'.cell? ⟨xb,i,none⟩=#[.slice F1 a.facts.length e1,.slice G2 a.atoms.length e3][i]?)) (by kernel_rfl) (kb.drew.cell) (fun hHeld=>?_)
   refine tk2 0 rfl hHeld ?_
   try simp only[zz]
   refine tk2 1 rfl hHeld ?_
   try simp only[zz]
   refine rdc 2 rfl fun K hK=>?_
   try simp only[zz]
   (go_simp;refine (c_impl_AssertionValid _ (cellX a x i t) _ (HVX.out.below (Below.refl _ _).drew)).mono ?_;rintro e w8 ⟨rfl,hB8⟩;replace hB8:Below wc.heap.size wc w8:=(Below.refl _ _).drew.trans hB8;have kb8:=kb.next hB8;have k68:=k6.next hB8;have OF8:=Lib.hid (OF.out.below hB8);have OB8:=Lib.hid (OB.out.below hB8);have HB8:=Lib.hid (bgo HB.out hB8);clear hB8)
   refine hK.out _ _ (kb8.cell) ?_
   clear hHeld hK K
   intro hHeld
   try simp only[zz]
   have q68:=k68.cell
   have r68:=k68.frozen
   have l68:=k68.lt
   refine rdc 3 rfl fun K hK=>?_
   try simp only[zz]
   go_simp
   refine hK.out _ _ (((kb8.far (p:=⟨w.heap.size+1,0,none⟩) (by simp only;omega) _).far (p:=⟨w.heap.size+1,1,none⟩) (by simp only;omega) _).cell) ?_
   clear hHeld hK K
   intro hHeld
   try simp only[zz]
   refine rdc 4 rfl fun K hK=>?_
   try simp only[zz]
   go_simp
   refine hK.out _ _ (((kb8.far (p:=⟨w.heap.size+1,0,none⟩) (by simp only;omega) _).far (p:=⟨w.heap.size+1,1,none⟩) (by simp only;omega) _).cell) ?_
   clear hHeld hK K
   intro hHeld
   try simp only[zz]
   refine wpAnyH_done (by kernel_rfl) ?_ _
   refine NoPanic.normal ?_
   go_wp2_with fail
   have z6:=((k68.set_ 0 (.slice F1 a.facts.length e1)).set_ 1 (.slice G2 a.atoms.length e3)).cell
   refine bodyPost_ret (v:=.tuple #[.agg #[.slice F1 a.facts.length e1,.slice G2 a.atoms.length e3],.bool (cellX a x i t).valid]) (by simp[results,Tryz.results215,go_sem,z6]) rfl ⟨_,rfl,⟨_,_,rfl,?_,?_⟩,?_⟩
   ·rw[HXE.out]
    exact (OF8.out.setT k68 (by decide) 0 _).setT (k68.set_ 0 _) (by decide) 1 _
   ·rw[HXE.out]
    exact (OB8.out.setT k68 (by decide) 0 _).setT (k68.set_ 0 _) (by decide) 1 _
   ·exact (HB8.out.setCell (p:=⟨w.heap.size+1,0,none⟩) (by simp only;omega) _).setCell (p:=⟨w.heap.size+1,1,none⟩) (by simp only;omega) _
  ·have HXE:Hid (cellX a x i t=⟨a.facts++[⟨true,x.a,t⟩],[⟨1,t,x.b⟩]++withoutL a.atoms i⟩):=Lib.hid (by unfold cellX;rw[if_neg hxt];rfl)
   have hb:(x.a != t)=true:=by simpa using hxt
   clear hxt
   have hzw:w.heap.size≤wc.heap.size:=HB.out.size
   (replace qkb:=kb.cell;replace rkb:=kb.frozen;replace lkb:=kb.lt;replace qkx:=kx.cell;replace rkx:=kx.frozen;replace lkx:=kx.lt;replace qk6:=k6.cell;replace rk6:=k6.frozen;replace lk6:=k6.lt)
   go_wp2_with (at_builtin;refine appFL (ys:=[⟨true,x.a,t⟩]) (base:=w.heap.size) rfl _ _ rfl rfl (OF.out.below bel) rfl (FactsV.one (f:=⟨true,x.a,t⟩) (Blk.new wc tF _)) (by simpa using hfl) (by simp;omega) ?_;intro A6 c6 w6 o6 hg6 hB6;have kO:=OF.out.below (w':=wc.alloc (.cells #[.bool true,.int .i64 x.a,.int .i64 t] tF)) bel;have kb6:=Blk.grownO (hg:=hg6) (kb.alloc _) kO.1 (by decide);have k66:=Blk.grownO (hg:=hg6) (k6.alloc _) kO.1 (by decide);have OB6:Hid (AtomsO w6 w.heap.size (.slice G2 a.atoms.length e3) ([⟨1,t,x.b⟩]++withoutL a.atoms i)):=Lib.hid ⟨own_grownO (OB.out.below (w':=wc.alloc (.cells #[.bool true,.int .i64 x.a,.int .i64 t] tF)) bel).1 kO.1 hg6 (by decide),OB.out.2⟩;have HB6:Hid (Below w.heap.size w w6):=Lib.hid ((HB.out.alloc hzw _).trans hB6);have OF6:=Lib.hid o6;clear hB6 hg6 o6 kO;have qb6:=kb6.cell;have rb6:=kb6.frozen;have lb6:=kb6.lt)
   have kb7:Blk (w6.setCell ⟨xb,0,none⟩ (.slice A6 (a.facts.length+1) c6)) xb tAs #[.slice A6 (a.facts.length+1) c6,.slice G2 a.atoms.length e3]:=by
    have:=kb6.set_ 0 (.slice A6 (a.facts.length+1) c6)
    simpa using this
   have k67:=k66.far (p:=⟨xb,0,none⟩) (by simp only;omega) (.slice A6 (a.facts.length+1) c6)
   have OF7:Hid (FactsO (w6.setCell ⟨xb,0,none⟩ (.slice A6 (a.facts.length+1) c6)) w.heap.size (.slice A6 (a.facts.length+1) c6) (a.facts++[⟨true,x.a,t⟩])):=Lib.hid (by
    have:=OF6.out.setT kb6 (by decide) 0 (.slice A6 (a.facts.length+1) c6)
    simpa using this)
   have OB7:=Lib.hid (OB6.out.setT kb6 (by decide) 0 (.slice A6 (a.facts.length+1) c6))
   have HB7:=Lib.hid (HB6.out.setCell (p:=⟨xb,0,none⟩) (by simp only;omega) (.slice A6 (a.facts.length+1) c6))
   clear qkb rkb lkb qkx rkx lkx qk6 rk6 lk6 qb6 rb6 lb6 kb kx k6 OF OB HB kb6 k66 OF6 OB6 HB6
   generalize (w6.setCell ⟨xb,0,none⟩ (.slice A6 (a.facts.length+1) c6))=W7 at kb7 k67 OF7 OB7 HB7 ⊢
   have kb:=kb7
   have k6:=k67
   have OF:=OF7
   have OB:=OB7
   have HB:=HB7
   clear kb7 k67 OF7 OB7 HB7
   have HVX:Hid (AsnV W7 0 W7.heap.size (.agg #[.slice A6 (a.facts.length+1) c6,.slice G2 a.atoms.length e3]) (cellX a x i t)):=Lib.hid (by
    rw[HXE.out]
    refine ⟨A6,c6,G2,e3,?_,by simpa using OF.out.readsI.2.mono (Nat.zero_le _) (Nat.le_refl _),OB.out.readsI.2.mono (Nat.zero_le _) (Nat.le_refl _)⟩
    rw[HBL.out];simp)
   refine wp_region_noPanic ?_
   refine wp_region_held_drew (S:=(fun w'=>∀ i,w'.cell? ⟨xb,i,none⟩=#[.slice A6 (a.facts.length+1) c6,.slice G2 a.atoms.length e3][i]?)) (by kernel_rfl) (kb.drew.cell) (fun hHeld=>?_)
   refine tk2 0 rfl hHeld ?_
   try simp only[zz]
   refine tk2 1 rfl hHeld ?_
   try simp only[zz]
   refine rdc 2 rfl fun K hK=>?_
   try simp only[zz]
   (go_simp;refine (c_impl_AssertionValid _ (cellX a x i t) _ (HVX.out.below (Below.refl _ _).drew)).mono ?_;rintro e w8 ⟨rfl,hB8⟩;replace hB8:Below W7.heap.size W7 w8:=(Below.refl _ _).drew.trans hB8;have kb8:=kb.next hB8;have k68:=k6.next hB8;have OF8:=Lib.hid (OF.out.below hB8);have OB8:=Lib.hid (OB.out.below hB8);have HB8:=Lib.hid (bgo HB.out hB8);clear hB8)
   refine hK.out _ _ (kb8.cell) ?_
   clear hHeld hK K
   intro hHeld
   try simp only[zz]
   have q68:=k68.cell
   have r68:=k68.frozen
   have l68:=k68.lt
   refine rdc 3 rfl fun K hK=>?_
   try simp only[zz]
   go_simp
   refine hK.out _ _ (((kb8.far (p:=⟨w.heap.size+1,0,none⟩) (by simp only;omega) _).far (p:=⟨w.heap.size+1,1,none⟩) (by simp only;omega) _).cell) ?_
   clear hHeld hK K
   intro hHeld
   try simp only[zz]
   refine rdc 4 rfl fun K hK=>?_
   try simp only[zz]
   go_simp
   refine hK.out _ _ (((kb8.far (p:=⟨w.heap.size+1,0,none⟩) (by simp only;omega) _).far (p:=⟨w.heap.size+1,1,none⟩) (by simp only;omega) _).cell) ?_
   clear hHeld hK K
   intro hHeld
   try simp only[zz]
   refine wpAnyH_done (by kernel_rfl) ?_ _
   refine NoPanic.normal ?_
   go_wp2_with fail
   have z6:=((k68.set_ 0 (.slice A6 (a.facts.length+1) c6)).set_ 1 (.slice G2 a.atoms.length e3)).cell
   refine bodyPost_ret (v:=.tuple #[.agg #[.slice A6 (a.facts.length+1) c6,.slice G2 a.atoms.length e3],.bool (cellX a x i t).valid]) (by simp[results,Tryz.results215,go_sem,z6]) rfl ⟨_,rfl,⟨_,_,rfl,?_,?_⟩,?_⟩
   ·rw[HXE.out]
    exact (OF8.out.setT k68 (by decide) 0 _).setT (k68.set_ 0 _) (by decide) 1 _
   ·rw[HXE.out]
    exact (OB8.out.setT k68 (by decide) 0 _).setT (k68.set_ 0 _) (by decide) 1 _
   ·exact (HB8.out.setCell (p:=⟨w.heap.size+1,0,none⟩) (by simp only;omega) _).setCell (p:=⟨w.heap.size+1,1,none⟩) (by simp only;omega) _
end

/- Exposing cells; plain. -/
section
open Go Go.RowKit Go.Proofs
theorem imp_iff {a:Asn} {f:Fct}:impB a f=true↔a.valid=true∧f.valid=true∧∀ M,Sat M a→decide (M f.a=M f.b)=f.eq:=by
 unfold impB
 rw[Bool.and_eq_true,Bool.and_eq_true,and_assoc,List.all_eq_true]
 constructor
 ·rintro ⟨h1,h2,h3⟩
  refine ⟨h1,h2,fun M hM=>?_⟩
  have hfo:=Fct.valid_ok h2
  have ha:isTermB f.a=true:=by simp[isTermB];omega
  have hb:isTermB f.b=true:=by simp[isTermB];omega
  have hbit:∀ j:Nat,(factS f).testBit j=(decide (f.a=(j:Int)) || decide (f.b=(j:Int))):=fun j=>by
   rw[tins_bit,tins_bit,Nat.zero_testBit,ha,hb];simp
  have b1:(caseS a (factS f)).testBit f.a.toNat=true:=by rw[caseS_bit,hbit,Int.toNat_of_nonneg hfo.1.1];simp
  have b2:(caseS a (factS f)).testBit f.b.toNat=true:=by rw[caseS_bit,hbit,Int.toNat_of_nonneg hfo.2.1];simp
  have hc:=sat_case h1 (caseS_zero a (factS f)) (caseS_terms h1 (factS f)) hM
  have h4:=h3 _ hc
  have h5:=cl_canon_eq (M:=M) (S:=caseS a (factS f)) ⟨hfo.1,b1⟩ ⟨hfo.2,b2⟩
  simp only[Fct.fits,beq_iff_eq] at h4
  rw[←h4,decide_eq_decide]
  exact h5.symm
 ·rintro ⟨h1,h2,h3⟩
  refine ⟨h1,h2,fun c hc=>?_⟩
  have:=h3 _ (case_sat h1 (caseS_zero a (factS f)) hc)
  simp only[Fct.fits,beq_iff_eq]
  exact this
def emptyX (a:Asn) (x:Atm) (i:Nat):Asn:=⟨a.facts++[⟨true,x.a,x.b⟩],withoutL a.atoms i⟩
def fullX (a:Asn) (x:Atm) (i:Nat) (m:Int):Asn:=⟨a.facts++[⟨false,x.a,x.b⟩],([⟨1,x.a,m⟩]++withoutL a.atoms i)++[⟨2,m,x.b⟩]⟩
theorem without_perm {xs:List Atm} {i:Nat} {x:Atm} (h:xs[i]? = some x):xs.Perm (x :: withoutL xs i):=by
 obtain ⟨hi,rfl⟩:=List.getElem?_eq_some_iff.1 h
 have e:xs=xs.take i++xs[i] :: xs.drop (i+1):=by rw[←List.drop_eq_getElem_cons hi,List.take_append_drop]
 conv=>lhs;rw[e]
 exact List.perm_middle
theorem full_sat {M:Int→Int} {a:Asn} {x:Atm} {i:Nat} {m:Int} (hx:a.atoms[i]? = some x) (hk:x.kind=2) (h:Sat M (fullX a x i m)):Sat M a:=by
 have hp:=without_perm hx
 have hne:decide (M x.a=M x.b)=false:=h.facts ⟨false,x.a,x.b⟩ (by simp[fullX])
 have hfx:fillM M x=true:=by simp[fillM,hne]
 have hf1:fillM M ⟨1,x.a,m⟩=true:=by simp[fillM]
 refine ⟨fun f hf=>h.facts f (by simp[fullX,hf]),fun y hy hfy=>?_,?_⟩
 ·rcases List.mem_cons.1 (hp.mem_iff.1 hy) with rfl|hy
  ·exact h.nil ⟨1,y.a,m⟩ (by simp[fullX]) hf1
  ·exact h.nil y (by simp[fullX,hy]) hfy
 ·have h2:=h.apart
  refine ((hp.filter (fillM M)).map fun x=>M x.a).nodup_iff.2 ?_
  rw[List.filter_cons,if_pos hfx]
  simp only[fullX,List.filter_append,List.map_append,List.append_assoc,List.singleton_append,List.filter_cons,List.cons_append,if_pos hf1,List.map_cons,List.filter_nil,List.nil_append] at h2
  refine List.Nodup.sublist ?_ h2
  simp only[List.map_cons]
  exact List.Sublist.cons_cons _ (List.sublist_append_left _ _)
theorem full_imp {a:Asn} {x:Atm} {i:Nat} {m t:Int} (hx:a.atoms[i]? = some x) (hk:x.kind=2) (hf:(fullX a x i m).valid=true) (h:impB a ⟨true,x.a,t⟩=true):impB (fullX a x i m) ⟨true,x.a,t⟩=true:=by
 rw[imp_iff] at h ⊢
 exact ⟨hf,h.2.1,fun M hM=>h.2.2 M (full_sat hx hk hM)⟩
theorem find_some {a:Asn} {kind t:Int} {i:Nat} (h:findK a kind t=some i):∃ x,a.atoms[i]? = some x∧x.kind=kind∧impB a ⟨true,x.a,t⟩=true∧i<a.atoms.length:=by
 have h1:=List.find?_some h
 unfold findP at h1
 cases e:a.atoms[i]? with
 | none=>rw[e] at h1;cases h1
 | some x=>
  rw[e] at h1
  simp only[Bool.and_eq_true,decide_eq_true_eq] at h1
  exact ⟨x,rfl,h1.1,h1.2,(List.getElem?_eq_some_iff.1 e).1⟩
theorem full_find {a:Asn} {x:Atm} {i:Nat} {m t:Int} (hx:a.atoms[i]? = some x) (hk:x.kind=2) (hf:(fullX a x i m).valid=true) (h:impB a ⟨true,x.a,t⟩=true):findK (fullX a x i m) 1 t=some 0:=by
 refine findK_yes (by simp[fullX]) (fun j hj=>by omega) ?_
 unfold findP
 have:(fullX a x i m).atoms[0]? = some ⟨1,x.a,m⟩:=by simp[fullX]
 rw[this]
 simp[full_imp hx hk hf h]
def exposeF:Nat→Asn→Int→Nat→Option (List Asn)
 | 0,_,_,_=>none
 | n+1,a,t,K=>
  if a.valid=false then none
  else if consB a=false then some []
  else match findK a 1 t with
   | some i=>if (cellX a (a.atoms[i]?.getD default) i t).valid then some [cellX a (a.atoms[i]?.getD default) i t] else none
   | none=>match findK a 2 t with
    | none=>none
    | some i=>match newT (tset (termsL a)|||tins K t) with
     | none=>none
     | some m=>match exposeF n (emptyX a (a.atoms[i]?.getD default) i) t K with
      | none=>none
      | some l1=>match exposeF n (fullX a (a.atoms[i]?.getD default) i (m:Int)) t K with
       | none=>none
       | some l2=>some (l1++l2)
end

/- Exposing cells: impl.expose by its parts. -/
section
open Go Go.RowKit Go.Proofs
attribute [local go_sem ↓] Go.wp_at_zero Go.wp_at_succ
def listF (n:Nat) (a:Asn) (x:Atm) (i:Nat) (t:Int) (K:Nat):Option (List Asn):=
 match newT (tset (termsL a)|||tins K t) with
 | none=>none
 | some m=>match exposeF n (emptyX a x i) t K with
  | none=>none
  | some l1=>match exposeF n (fullX a x i (m:Int)) t K with
   | none=>none
   | some l2=>some (l1++l2)
theorem expose_bad {n:Nat} {a:Asn} {t:Int} {K:Nat} (h:a.valid=false):exposeF n a t K=none:=by
 cases n with
 | zero=>rfl
 | succ n=>simp[exposeF,h]
theorem expose_no {n:Nat} {a:Asn} {t:Int} {K:Nat} (h:a.valid=true) (hc:consB a=false):exposeF (n+1) a t K=some []:=by simp[exposeF,h,hc]
theorem expose_cell {n:Nat} {a:Asn} {t:Int} {K i:Nat} {x:Atm} (h:a.valid=true) (hc:consB a=true) (hf:findK a 1 t=some i) (hx:a.atoms[i]? = some x):exposeF (n+1) a t K=if (cellX a x i t).valid then some [cellX a x i t] else none:=by
 simp[exposeF,h,hc,hf,hx]
theorem expose_none {n:Nat} {a:Asn} {t:Int} {K:Nat} (h:a.valid=true) (hc:consB a=true) (hf:findK a 1 t=none) (hg:findK a 2 t=none):exposeF (n+1) a t K=none:=by simp[exposeF,h,hc,hf,hg]
theorem expose_list {n:Nat} {a:Asn} {t:Int} {K i:Nat} {x:Atm} (h:a.valid=true) (hc:consB a=true) (hf:findK a 1 t=none) (hg:findK a 2 t=some i) (hx:a.atoms[i]? = some x):exposeF (n+1) a t K=listF n a x i t K:=by
 simp only[exposeF,h,hc,hf,hg,hx,listF,Option.getD_some];rfl
theorem expose_ok:∀ {n:Nat} {a:Asn} {t:Int} {K:Nat} {l:List Asn},exposeF n a t K=some l→l.length≤2 ^ n∧∀ b∈l,b.valid=true
 | 0,_,_,_,_,h=>by cases h
 | n+1,a,t,K,l,h=>by
  unfold exposeF at h
  split at h
  ·cases h
  ·split at h
   ·obtain rfl:=Option.some.inj h;simp
   ·split at h
    ·split at h
     ·rename_i hv
      obtain rfl:=Option.some.inj h
      refine ⟨by simp;exact Nat.one_le_two_pow,fun b hb=>?_⟩
      obtain rfl:=List.mem_singleton.1 hb
      exact hv
     ·cases h
    ·split at h
     ·cases h
     ·split at h
      ·cases h
      ·split at h
       ·cases h
       ·split at h
        ·cases h
        ·rename_i e1 _ _ e2
         obtain rfl:=Option.some.inj h
         have h1:=expose_ok e1
         have h2:=expose_ok e2
         refine ⟨by rw[List.length_append,Nat.pow_succ];omega,fun b hb=>?_⟩
         rcases List.mem_append.1 hb with hb|hb
         ·exact h1.2 b hb
         ·exact h2.2 b hb
def ExpC (n:Nat) (a:Asn) (t:Int) (K:Nat):Prop:=∀ (lo hi:Nat) (v:Value) (w:World),AsnC w lo hi v a→hi≤w.heap.size→a.valid=true→
 Calls Tryz.prog 140 #[v,.int .i64 t,.int .u16 K] w fun e w'=>∃ r vs,e=.returned (.tuple #[r,.bool (exposeF n a t K).isSome])∧A2O w' w.heap.size r vs ((exposeF n a t K).getD [])∧Below w.heap.size w w'
def ExpL (n:Nat) (a:Asn) (x:Atm) (i:Nat) (t:Int) (K:Nat):Prop:=∀ (lo hi:Nat) (v:Value) (w:World),AsnC w lo hi v a→hi≤w.heap.size→
 Calls Tryz.prog 216 #[v,.int .i64 i,.int .i64 t,.int .u16 K] w fun e w'=>∃ r vs,e=.returned (.tuple #[r,.bool (listF n a x i t K).isSome])∧A2O w' w.heap.size r vs ((listF n a x i t K).getD [])∧Below w.heap.size w w'
theorem c_expose_step (n:Nat) (a:Asn) (t:Int) (K:Nat) (HL:∀ i x,findK a 1 t=none→findK a 2 t=some i→a.atoms[i]? = some x→x.kind=2→impB a ⟨true,x.a,t⟩=true→ExpL n a x i t K):ExpC (n+1) a t K:=by
 intro lo hi v w h hhi hv
 have hV:=Lib.hid h
 obtain ⟨A1,c1,A2,c2,rfl,-⟩:=h
 have HLL:=Lib.hid HL
 have hvl:=valid_len hv
 have HV:=Lib.hid hv
 clear HL hv
 go_enter Tryz.func140,Tryz.ntmps140
 have k0:Blk (w.alloc (.cells #[.slice A1 a.facts.length c1,.slice A2 a.atoms.length c2] tAs)) w.heap.size tAs #[.slice A1 a.facts.length c1,.slice A2 a.atoms.length c2]:=blks
 go_wp2_with fail
 refine (c_impl_Consistent _ a _ (hV.out.V.below bel) (by simp;omega)).mono ?_
 rintro e w1 ⟨rfl,hB1⟩
 rw[show (a.valid && !(cases a (caseS a 0)).isEmpty)=consB a from rfl]
 have hB:=bgo (w:=w) bel hB1
 replace k0:=k0.next hB1
 clear hB1
 have hz1:=hB.size
 cases hc:consB a
 ·have E:=Lib.hid (expose_no (n:=n) (t:=t) (K:=K) HV.out hc)
  clear hc
  go_wp2_with fail
  go_ret2
  exact ⟨_,_,by rw[E.out];rfl,by rw[E.out];exact A2O.nil _ _,hB⟩
 have HC:=Lib.hid hc
 clear hc
 (replace qk0:=k0.cell;replace rk0:=k0.frozen;replace lk0:=k0.lt)
 go_wp2_with fail
 refine (c_impl_firstAtomAt _ a 1 t _ (hV.out.V.below bel) (by omega)).mono ?_
 rintro e w2 ⟨rfl,hB2⟩
 (replace hB:=bgo hB hB2;replace k0:=k0.next hB2;replace qk0:=k0.cell;replace rk0:=k0.frozen;replace lk0:=k0.lt)
 clear hB2
 have hz2:=hB.size
 cases hf:findK a 1 t
 case some i=>
  obtain ⟨x,hx,-,-,hil⟩:=find_some hf
  have E:=Lib.hid (expose_cell (n:=n) (K:=K) HV.out HC.out hf hx)
  have EI:findI a 1 t=(i:Int):=by unfold findI;rw[hf]
  rw[EI]
  have hxe:a.atoms[i]=x:=by rw[List.getElem?_eq_getElem hil] at hx;exact Option.some.inj hx
  clear hf hx EI
  go_wp2_with fail
  refine (c_impl_exposeCellAt _ a i t _ (hV.out.below bel) hil (by omega)).mono ?_
  rw[hxe]
  rintro e w3 ⟨r,rfl,oC,hB3⟩
  (replace hB:=bgo hB hB3;replace k0:=k0.next hB3)
  clear hB3 hxe
  have OC:=Lib.hid oC
  obtain ⟨F3,f3,G3,g3,rfl,-⟩:=oC.C
  have hz3:=hB.size
  clear qk0 rk0 lk0
  cases hcv:(cellX a x i t).valid
  ·have E2:Hid (exposeF (n+1) a t K=none):=Lib.hid (by rw[E.out,hcv];rfl)
   clear hcv
   go_wp2_with fail
   go_ret2
   exact ⟨_,_,by rw[E2.out];rfl,by rw[E2.out];exact A2O.nil _ _,bel⟩
  ·have E2:Hid (exposeF (n+1) a t K=some [cellX a x i t]):=Lib.hid (by rw[E.out,hcv];rfl)
   clear hcv
   go_wp2_with fail
   go_ret2
   refine ⟨.slice (some ⟨w3.heap.size+1,0,none⟩) 1 1,[.slice F3 (cellX a x i t).facts.length f3,.slice G3 (cellX a x i t).atoms.length g3],by rw[E2.out];rfl,?_,bel⟩
   rw[E2.out]
   refine A2O.one (Blk.newE ?_) ?_ (AsnO.below (AsnO.lower OC.out (by omega)) bel)
   ·simp
   ·omega
 have HF1:=Lib.hid hf
 have EI:findI a 1 t=0:=by unfold findI;rw[hf]
 rw[EI]
 clear hf EI
 go_wp2_with fail
 refine (c_impl_firstAtomAt _ a 2 t _ (hV.out.V.below bel) (by omega)).mono ?_
 rintro e w3 ⟨rfl,hB3⟩
 (replace hB:=bgo hB hB3;replace k0:=k0.next hB3;replace qk0:=k0.cell;replace rk0:=k0.frozen;replace lk0:=k0.lt)
 clear hB3
 have hz3:=hB.size
 cases hg:findK a 2 t
 case none=>
  have E:=Lib.hid (expose_none (n:=n) (K:=K) HV.out HC.out HF1.out hg)
  clear hg
  go_wp2_with fail
  go_ret2
  exact ⟨_,_,by rw[E.out];rfl,by rw[E.out];exact A2O.nil _ _,hB⟩
 case some i=>
  obtain ⟨x,hx,hk2,himp,hil⟩:=find_some hg
  have E:=Lib.hid (expose_list (n:=n) (K:=K) HV.out HC.out HF1.out hg hx)
  have EI:findI a 2 t=(i:Int):=by unfold findI;rw[hg]
  rw[EI]
  have HX:=Lib.hid (HLL.out i x HF1.out hg hx hk2 himp)
  clear hg hx EI hk2 himp
  go_wp2_with fail
  refine (HX.out lo hi _ _ (hV.out.below bel) (by omega)).mono ?_
  rintro e w4 ⟨r,vs,rfl,oR,hB4⟩
  have OR:=Lib.hid oR
  obtain ⟨R1,r1,rfl⟩:=oR.form
  clear oR
  (replace hB:=bgo hB hB4)
  go_wp2_with fail
  go_ret2
  refine ⟨_,vs,by rw[E.out];rfl,?_,bel⟩
  rw[E.out]
  exact OR.out.lower (by omega)
end

/- Exposing cells: impl.exposeListAt. Printed by genExpD2.py. -/
section
open Go Go.RowKit Go.Proofs
attribute [local go_sem ↓] Go.wp_at_zero Go.wp_at_succ
theorem list_none {n:Nat} {a:Asn} {x:Atm} {i:Nat} {t:Int} {K:Nat} (h:newT (tset (termsL a)|||tins K t)=none):listF n a x i t K=none:=by unfold listF;rw[h]
theorem list_bad {n m:Nat} {a:Asn} {x:Atm} {i:Nat} {t:Int} {K:Nat} (h:newT (tset (termsL a)|||tins K t)=some m) (hv:(emptyX a x i).valid=false∨(fullX a x i m).valid=false):listF n a x i t K=none:=by
 unfold listF
 rw[h]
 rcases hv with hv|hv
 ·simp only[expose_bad hv]
 ·simp only[expose_bad hv]
  cases exposeF n (emptyX a x i) t K<;>rfl
theorem list_first {n m:Nat} {a:Asn} {x:Atm} {i:Nat} {t:Int} {K:Nat} (h:newT (tset (termsL a)|||tins K t)=some m) (h1:exposeF n (emptyX a x i) t K=none):listF n a x i t K=none:=by
 unfold listF;rw[h];simp only[h1]
theorem list_second {n m:Nat} {a:Asn} {x:Atm} {i:Nat} {t:Int} {K:Nat} (h:newT (tset (termsL a)|||tins K t)=some m) (h1:exposeF n (fullX a x i m) t K=none):listF n a x i t K=none:=by
 unfold listF;rw[h];simp only[h1]
 cases exposeF n (emptyX a x i) t K<;>rfl
theorem list_both {n m:Nat} {a:Asn} {x:Atm} {i:Nat} {t:Int} {K:Nat} {l1 l2:List Asn} (h:newT (tset (termsL a)|||tins K t)=some m) (h1:exposeF n (emptyX a x i) t K=some l1) (h2:exposeF n (fullX a x i m) t K=some l2):listF n a x i t K=some (l1++l2):=by
 unfold listF;rw[h];simp only[h1,h2]
theorem c_joinFn {lo hi lo' hi':Nat} (A A':Option Addr) (c c' n:Nat) (fs gs:List Fct) (w:World) (h:FactsV w lo hi A fs) (h':FactsV w lo' hi' A' gs) (hn:n=fs.length+gs.length) (hl:n≤1049600) :
  Calls Tryz.prog 80 #[.slice A fs.length c,.slice A' gs.length c'] w fun e w'=>∃ F d,e=.returned (.slice F n d)∧FactsO w' w.heap.size (.slice F n d) (fs++gs)∧Below w.heap.size w w':=by
 refine (c_joinF A A' c c' fs gs w h h' (by omega)).mono ?_
 rintro e w' ⟨r,rfl,o,hB⟩
 obtain ⟨F,d,rfl,-⟩:=o.reads
 rw[List.length_append,←hn] at o ⊢
 exact ⟨F,d,rfl,o,hB⟩
theorem c_joinAn {lo hi lo' hi':Nat} (A A':Option Addr) (c c' n:Nat) (fs gs:List Atm) (w:World) (h:AtomsV w lo hi A fs) (h':AtomsV w lo' hi' A' gs) (hn:n=fs.length+gs.length) (hl:n≤1049600) :
  Calls Tryz.prog 81 #[.slice A fs.length c,.slice A' gs.length c'] w fun e w'=>∃ F d,e=.returned (.slice F n d)∧AtomsO w' w.heap.size (.slice F n d) (fs++gs)∧Below w.heap.size w w':=by
 refine (c_joinA A A' c c' fs gs w h h' (by omega)).mono ?_
 rintro e w' ⟨r,rfl,o,hB⟩
 obtain ⟨F,d,rfl,-⟩:=o.reads
 rw[List.length_append,←hn] at o ⊢
 exact ⟨F,d,rfl,o,hB⟩
section
variable {ops:Array Oper} {o:Oper} {a:Act} {K:Act→World→Prop} {Q:Exit→Act→World→Prop} {E:Prop} {w:World} {base lo hi c n:Nat} {v:Value} {A:Option Addr}
theorem stepALn {Y:Nat→Option Bool} (hgd:o.guard=none) (s x:Operand) (ho:o.op=.call { callee:=.builtin .append,args:=#[s,x],argTypes:=#[24,24] })
  {xs ys:List Atm} (hs:a.eval s=v) (hown:AtomsO w base v xs) (hx:a.eval x=.slice A ys.length c) (hR:AtomsV w lo hi A ys) (hn:n=xs.length+ys.length) (hl:n≤1049600) (hb:base≤w.heap.size)
  (h:∀ A' c' w',AtomsO w' base (.slice A' n c') (xs++ys)→w.grownBy w' v.ownBlock→Below base w w'→K (a.put o.dst (.slice A' n c')) w'):if Region.wanted o Y=true then Oper.wp Tryz.prog o a w K Q else E:=by
 have hw:Region.wanted o Y=true:=by simp[Region.wanted,hgd]
 have hw':Region.wanted o (yielded #[] a.tmps)=true:=by simp[Region.wanted,hgd]
 rw[if_pos hw]
 suffices H:if Region.wanted o (yielded #[] a.tmps)=true then Oper.wp Tryz.prog o a w K Q else E by rwa [if_pos hw'] at H
 refine stepAL hgd s x ho hs hown hx hR (by omega) hb ?_
 intro A' c' w' h1 h2 h3
 rw[List.length_append,←hn] at h1 ⊢
 exact h A' c' w' h1 h2 h3
end
theorem A2O.rd {w:World} {base n c:Nat} {A:Option Addr} {vs:List Value} {ss:List Asn} (h:A2O w base (.slice A n c) vs ss):Rd w base w.heap.size 2 A ss.length vs:=by
 obtain ⟨A',c',e,h1⟩:=own_reads h.row h.lim
 injection e with e1 e2 e3
 subst e1
 exact h1
theorem A2O.join {w1 w2 w3:World} {b1 b2 b3 base:Nat} {v1 v2 r:Value} {vs1 vs2:List Value} {l1 l2:List Asn} (h1:A2O w1 b1 v1 vs1 l1) (hB1:Below w1.heap.size w1 w2) (h2:A2O w2 b2 v2 vs2 l2) (hb2:w1.heap.size≤b2) (hB2:Below w2.heap.size w2 w3)
  (hb:base≤b1) (hbb:base≤b2) (hr:w3.ownsRow b3 tAs 2 r (l1.length+l2.length) (vs1++vs2)) (hb3:base≤b3) (hl:l1.length+l2.length≤1049600):A2O w3 base r (vs1++vs2) (l1++l2):=
 ⟨by rw[List.length_append];exact own_lower hr hb3,by rw[List.length_append];exact hl,(((h1.els.below hB1).lower hb).cat h2.els hbb fun k hk=>(h1.els.und k hk).mono hb2).below hB2⟩
theorem c_exposeListAt (n:Nat) (a:Asn) (x:Atm) (i:Nat) (t:Int) (Ks:Nat) (hv:a.valid=true) (hx:a.atoms[i]? = some x) (hKs:Ks<512) (hn:n≤6)
  (HE:ExpC n (emptyX a x i) t Ks) (HF:∀ m:Nat,ExpC n (fullX a x i (m:Int)) t Ks):ExpL n a x i t Ks:=by
 intro lo hi0 v w h hhi
 have hV:=Lib.hid h
 obtain ⟨A1,c1,A2,c2,rfl,h1,h2,-⟩:=h
 have H1:=Lib.hid h1
 have hvl:=valid_len hv
 obtain ⟨hi,hxe⟩:=List.getElem?_eq_some_iff.1 hx
 have hwl:=withoutL_len hi
 obtain ⟨b,o,rfl,g0,g1,g2⟩:=h2.at hi
 rw[hxe] at g0 g1 g2
 have hbl:=block_lt_of_cell g0
 simp only at hbl
 have hii:(i:Int)<(a.atoms.length:Int):=by omega
 have HEH:=Lib.hid HE
 have HFH:=Lib.hid HF
 have HK:=Lib.hid (tins_lt hKs t)
 have HN:=Lib.hid (Nat.pow_le_pow_right (show 0<2 from by decide) hn)
 clear h1 h2 HE HF hx hxe hv hhi
 go_enter Tryz.func216,Tryz.ntmps216
 have k0:Blk (w.alloc (.cells #[.slice A1 a.facts.length c1,.slice (some ⟨b,o,none⟩) a.atoms.length c2] tAs)) w.heap.size tAs #[.slice A1 a.facts.length c1,.slice (some ⟨b,o,none⟩) a.atoms.length c2]:=blks
 have hB:Below w.heap.size w (w.alloc (.cells #[.slice A1 a.facts.length c1,.slice (some ⟨b,o,none⟩) a.atoms.length c2] tAs)):=bel
 go_upto_region 2 with fail
 have hB2:=bbox hB (.cells #[.int .i64 x.kind,.int .i64 x.a,.int .i64 x.b] tA)
 have kx:Blk ((w.alloc (.cells #[.slice A1 a.facts.length c1,.slice (some ⟨b,o,none⟩) a.atoms.length c2] tAs)).alloc (.cells #[.int .i64 x.kind,.int .i64 x.a,.int .i64 x.b] tA)) (w.heap.size+1) tA #[.int .i64 x.kind,.int .i64 x.a,.int .i64 x.b]:=blks
 replace k0:=k0.alloc (.cells #[.int .i64 x.kind,.int .i64 x.a,.int .i64 x.b] tA)
 have hs2:((w.alloc (.cells #[.slice A1 a.facts.length c1,.slice (some ⟨b,o,none⟩) a.atoms.length c2] tAs)).alloc (.cells #[.int .i64 x.kind,.int .i64 x.a,.int .i64 x.b] tA)).heap.size=w.heap.size+2:=by simp
 generalize ((w.alloc (.cells #[.slice A1 a.facts.length c1,.slice (some ⟨b,o,none⟩) a.atoms.length c2] tAs)).alloc (.cells #[.int .i64 x.kind,.int .i64 x.a,.int .i64 x.b] tA))=W2 at k0 kx hB2 hs2 ⊢
 clear hB g0 g1 g2
 have HB2:=Lib.hid hB2
 clear hB2
 (replace qk0:=k0.cell;replace rk0:=k0.frozen;replace lk0:=k0.lt)
 go_wp2_with fail
 refine (c_impl_without _ a i _ (hV.out.below HB2.out) hi).mono ?_
 rintro e w3 ⟨r,rfl,oR,hB3⟩
 obtain ⟨G1,d1,rfl,-⟩:=oR.reads
 have OR:=Lib.hid oR
 have HB3:=Lib.hid (bgo HB2.out hB3)
 replace k0:=k0.next hB3
 replace kx:=kx.next hB3
 have hs3:w.heap.size+2≤w3.heap.size:=by have:=hB3.size;omega
 have hs3':=hB3.size
 clear hB3 oR HB2
 (replace qk0:=k0.cell;replace rk0:=k0.frozen;replace lk0:=k0.lt)
 go_wp2_with fail
 clear qk0 rk0 lk0
 refine wp_region_noPanic ?_
 refine wp_region_held_drew (S:=(fun w'=>∀ i,w'.cell? ⟨w.heap.size,i,none⟩=#[.slice A1 a.facts.length c1,.slice (some ⟨b,o,none⟩) a.atoms.length c2][i]?)) (by kernel_rfl) (k0.drew.cell) (fun hHeld=>?_)
 refine tk2 0 rfl hHeld ?_
 try simp only[zz]
 refine tk2 1 rfl hHeld ?_
 try simp only[zz]
 refine tk2 2 rfl hHeld ?_
 try simp only[zz]
 refine rdc 3 rfl fun K hK=>?_
 try simp only[zz]
 (go_simp;refine (c_impl_with Ks t _ hKs).mono ?_;rintro e w4 ⟨rfl,rfl⟩)
 refine hK.out _ _ (k0.drew.cell) ?_
 clear hHeld hK K
 intro hHeld
 try simp only[zz]
 refine rdc 4 rfl fun K hK=>?_
 try simp only[zz]
 (go_simp;refine (c_impl_newVariable _ a (tins Ks t) _ (hV.out.V.below (HB3.out.drew)) HK.out).mono ?_;rintro e w4 ⟨rfl,hB4⟩;replace hB4:Below w3.heap.size w3 w4:=(Below.refl _ _).drew.trans hB4;replace k0:=k0.next hB4;replace kx:=kx.next hB4;have HB4:=Lib.hid (bgo HB3.out hB4);have OR4:=Lib.hid (OR.out.below hB4);have hs4:=hB4.size;clear hB4 OR HB3)
 refine hK.out _ _ (k0.cell) ?_
 clear hHeld hK K
 intro hHeld
 try simp only[zz]
 refine tk2 5 rfl hHeld ?_
 try simp only[zz]
 refine tk2 6 rfl hHeld ?_
 try simp only[zz]
 refine tk2 7 rfl hHeld ?_
 try simp only[zz]
 refine rdc 8 rfl fun K hK=>?_
 try simp only[zz]
 go_simp
 refine hK.out _ _ (k0.cell) ?_
 clear hHeld hK K
 intro hHeld
 try simp only[zz]
 refine rdc 9 rfl fun K hK=>?_
 try simp only[zz]
 go_simp
 refine hK.out _ _ (k0.cell) ?_
 clear hHeld hK K
 intro hHeld
 try simp only[zz]
 refine wpAnyH_done (by kernel_rfl) ?_ _
 refine NoPanic.normal ?_
 cases hnt:newT (tset (termsL a)|||tins Ks t)
 case none=>
  have E:=Lib.hid (list_none (n:=n) (x:=x) (i:=i) hnt)
  clear hnt
  go_wp2_with fail
  go_ret2
  exact ⟨_,_,by rw[E.out];rfl,by rw[E.out];exact A2O.nil _ _,HB4.out⟩
 case some m=>
  have EI:unusedI (tset (termsL a)|||tins Ks t)=(m:Int):=by unfold unusedI;rw[hnt]
  rw[EI]
  clear EI
  have HNT:=Lib.hid hnt
  clear hnt
  (replace qk0:=k0.cell;replace rk0:=k0.frozen;replace lk0:=k0.lt;replace qkx:=kx.cell;replace rkx:=kx.frozen;replace lkx:=kx.lt)
  go_upto_region 8 with (go_at_call 80;refine (c_joinFn A1 (some ⟨w4.heap.size,0,none⟩) c1 1 (a.facts.length+1) a.facts [⟨true,x.a,x.b⟩] _ (H1.out.below (bbox HB4.out _)) (FactsV.one (f:=⟨true,x.a,x.b⟩) (Blk.new _ _ _)) rfl (by omega)).mono ?_;rintro e w5 ⟨F1,e1,rfl,oF,hB5⟩;replace hB5:Below w4.heap.size w4 w5:=(bbox (Below.refl _ _) _).trans (hB5.mono (by simp));have OF1:=Lib.hid (oF.lower (base':=w.heap.size) (by simp;omega));have HB5:=Lib.hid (bgo HB4.out hB5);have hs5:=hB5.size;replace k0:=k0.next hB5;replace kx:=kx.next hB5;have OR5:=Lib.hid (OR4.out.below hB5);clear oF hB5 HB4 OR4 qk0 rk0 lk0 qkx rkx lkx;(replace qk0:=k0.cell;replace rk0:=k0.frozen;replace lk0:=k0.lt;replace qkx:=kx.cell;replace rkx:=kx.frozen;replace lkx:=kx.lt))
  have kE:Blk ((w5.alloc (.cells #[.slice F1 (a.facts.length+1) e1,.slice G1 (withoutL a.atoms i).length d1] tAs)).alloc (.cells #[.int .i64 1,.int .i64 x.a,.int .i64 m] tA)) w5.heap.size tAs #[.slice F1 (a.facts.length+1) e1,.slice G1 (withoutL a.atoms i).length d1]:=(Blk.new _ _ _).alloc _
  have kf:Blk ((w5.alloc (.cells #[.slice F1 (a.facts.length+1) e1,.slice G1 (withoutL a.atoms i).length d1] tAs)).alloc (.cells #[.int .i64 1,.int .i64 x.a,.int .i64 m] tA)) (w5.heap.size+1) tA #[.int .i64 1,.int .i64 x.a,.int .i64 m]:=Blk.newE (by simp)
  have hbW:Below w5.heap.size w5 ((w5.alloc (.cells #[.slice F1 (a.facts.length+1) e1,.slice G1 (withoutL a.atoms i).length d1] tAs)).alloc (.cells #[.int .i64 1,.int .i64 x.a,.int .i64 m] tA)):=bbox (bbox (Below.refl _ _) _) _
  have hsW:((w5.alloc (.cells #[.slice F1 (a.facts.length+1) e1,.slice G1 (withoutL a.atoms i).length d1] tAs)).alloc (.cells #[.int .i64 1,.int .i64 x.a,.int .i64 m] tA)).heap.size=w5.heap.size+2:=by simp
  replace k0:=k0.next hbW
  replace kx:=kx.next hbW
  have HB:=Lib.hid (bgo HB5.out hbW)
  have OF:=Lib.hid (OF1.out.below hbW)
  have OR:=Lib.hid ((OR5.out.below hbW).lower (base':=w.heap.size) (by omega))
  clear hbW HB5 OF1 OR5 qk0 rk0 lk0 qkx rkx lkx
  generalize ((w5.alloc (.cells #[.slice F1 (a.facts.length+1) e1,.slice G1 (withoutL a.atoms i).length d1] tAs)).alloc (.cells #[.int .i64 1,.int .i64 x.a,.int .i64 m] tA))=W at k0 kx kE kf hsW HB OF OR ⊢
  obtain ⟨yE,hyE⟩:∃ y,y=w5.heap.size:=⟨_,rfl⟩
  rw[←hyE] at kE kf hsW ⊢
  have hyw:w.heap.size+2≤yE:=by omega
  clear hyE hs5 hs4 hs3 hs3' hs2
  go_cut [16] (fun s16 wc=>∃ (xb:Nat) (F2:Option Addr) (e2:Nat) (G2:Option Addr) (e3:Nat),s16=.pointer (some ⟨xb,0,none⟩)∧Hid (FactsO wc W.heap.size (.slice F2 (a.facts.length+1) e2) (a.facts++[⟨false,x.a,x.b⟩]))∧Hid (AtomsO wc W.heap.size (.slice G2 (a.atoms.length+1) e3) (([⟨1,x.a,(m:Int)⟩]++withoutL a.atoms i)++[⟨2,(m:Int),x.b⟩]))∧Blk wc xb tAs #[.slice F2 (a.facts.length+1) e2,.slice G2 (a.atoms.length+1) e3]∧W.heap.size≤xb∧Hid (Below W.heap.size W wc))
  case first=>
   (replace qk0:=k0.cell;replace rk0:=k0.frozen;replace lk0:=k0.lt;replace qkx:=kx.cell;replace rkx:=kx.frozen;replace lkx:=kx.lt)
   go_wp2_with fail
   refine wp_region_noPanic ?_
   refine wp_region_held_drew (S:=(fun w'=>(∀ i,w'.cell? ⟨w.heap.size,i,none⟩=#[.slice A1 a.facts.length c1,.slice (some ⟨b,o,none⟩) a.atoms.length c2][i]?)∧(∀ i,w'.cell? ⟨w.heap.size+1,i,none⟩=#[.int .i64 x.kind,.int .i64 x.a,.int .i64 x.b][i]?))) (by kernel_rfl) (⟨k0.drew.cell,kx.drew.cell⟩) (fun hHeld=>?_)
   clear qk0 rk0 lk0 qkx rkx lkx
   have HBQ:Hid (Below W.heap.size W W.drew):=Lib.hid (Below.refl _ _).drew
   have hzq:W.heap.size≤W.drew.heap.size:=Nat.le_refl _
   generalize W.drew=wq at HBQ hzq hHeld ⊢
   refine tk2 0 rfl hHeld ?_
   try simp only[zz]
   refine tk2 1 rfl hHeld ?_
   try simp only[zz]
   refine tk2 2 rfl hHeld ?_
   try simp only[zz]
   refine tk2 3 rfl hHeld ?_
   try simp only[zz]
   refine tk2 4 rfl hHeld ?_
   try simp only[zz]
   refine tk2 5 rfl hHeld ?_
   try simp only[zz]
   refine tk2 6 rfl hHeld ?_
   try simp only[zz]
   refine tk2 9 rfl hHeld ?_
   try simp only[zz]
   refine tk2 10 rfl hHeld ?_
   try simp only[zz]
   refine tk2 12 rfl hHeld ?_
   try simp only[zz]
   refine tk2 13 rfl hHeld ?_
   try simp only[zz]
   refine tk2 14 rfl hHeld ?_
   try simp only[zz]
   refine tk2 15 rfl hHeld ?_
   try simp only[zz]
   refine wpAnyH_par [7,8,11,16,17,18,19] #[true,true,true,true,true,true,true,true,true,true,true,true,true,true,true,true,true,true,true,true,false] 7 (by kernel_rfl) hHeld
    (fun a0 D a1 w'=>Hid (Below W.heap.size W w')∧∃ v61 v62 v65 v70 v71 v72 v16,a1=(((((((a0.put (some 61) v61).put (some 62) v62).put (some 65) v65).put (some 70) v70).put (some 71) v71).put (some 72) v72).put (some 16) v16)∧
     Hid (dn D 7=true→∃ y,v61=.slice (some ⟨y,0,none⟩) 1 1∧W.heap.size≤y∧Blk w' y tF #[.bool false,.int .i64 x.a,.int .i64 x.b])∧
     Hid (dn D 8=true→∃ F e,v62=.slice F (a.facts.length+1) e∧FactsO w' W.heap.size (.slice F (a.facts.length+1) e) (a.facts++[⟨false,x.a,x.b⟩]))∧
     Hid (dn D 11=true→dn D 17=false→∃ G e,v65=.slice G a.atoms.length e∧AtomsO w' W.heap.size (.slice G a.atoms.length e) ([⟨1,x.a,(m:Int)⟩]++withoutL a.atoms i))∧
     Hid (dn D 16=true→dn D 17=false→∃ y,v70=.slice (some ⟨y,0,none⟩) 1 1∧W.heap.size≤y∧Blk w' y tA #[.int .i64 2,.int .i64 m,.int .i64 x.b])∧
     Hid (dn D 17=true→∃ G e,v71=.slice G (a.atoms.length+1) e∧AtomsO w' W.heap.size (.slice G (a.atoms.length+1) e) (([⟨1,x.a,(m:Int)⟩]++withoutL a.atoms i)++[⟨2,(m:Int),x.b⟩]))∧
     Hid (dn D 18=true→(dn D 8=true∧dn D 17=true)∧v72=.agg #[v62,v71])∧
     Hid (dn D 19=true→∃ y,v16=.pointer (some ⟨y,0,none⟩)∧W.heap.size≤y∧Blk w' y tAs #[.slice none 0 0,.slice none 0 0])) ?start ?steps ?fin
   case start=>exact ⟨HBQ,undef,undef,undef,undef,undef,undef,undef,(by simp only[Act.put,List.setIfInBounds_toArray,List.set_cons_zero,List.set_cons_succ]),fun h=>absurd h (by decide),fun h=>absurd h (by decide),fun h=>absurd h (by decide),fun h=>absurd h (by decide),fun h=>absurd h (by decide),fun h=>absurd h (by decide),fun h=>absurd h (by decide)⟩
   case steps=>
    refine ParSteps.cons rfl (fun D a1 w' hu hd hI hS K' hK G hG=>?_) (ParSteps.cons rfl (fun D a1 w' hu hd hI hS K' hK G hG=>?_) (ParSteps.cons rfl (fun D a1 w' hu hd hI hS K' hK G hG=>?_) (ParSteps.cons rfl (fun D a1 w' hu hd hI hS K' hK G hG=>?_) (ParSteps.cons rfl (fun D a1 w' hu hd hI hS K' hK G hG=>?_) (ParSteps.cons rfl (fun D a1 w' hu hd hI hS K' hK G hG=>?_) (ParSteps.cons rfl (fun D a1 w' hu hd hI hS K' hK G hG=>?_) (ParSteps.nil)))))))
    ·obtain ⟨HW,v61,v62,v65,v70,v71,v72,v16,ha,h7,h8,h11,h16,h17,h18,h19⟩:=hI
     rw[ha] at hG
     clear ha a1
     have hsz:=HW.out.size
     refine hG ?_
     clear hG hd
     try simp only[zz]
     go_simp
     have hBq:Below w'.heap.size w' (w'.alloc (.cells #[.bool false,.int .i64 x.a,.int .i64 x.b] tF)):=bbox (Below.refl _ _) _
     exact hK.out _ _ ⟨((k0.next HW.out).alloc _).cell,((kx.next HW.out).alloc _).cell⟩ ⟨HW.out.trans (hBq.mono hsz),(.slice (some ⟨w'.heap.size,0,none⟩) 1 1),v62,v65,v70,v71,v72,v16,(by simp only[Act.put,List.setIfInBounds_toArray,List.set_cons_zero,List.set_cons_succ]),(fun _=>⟨_,rfl,hsz,Blk.new _ _ _⟩),(dn_keep (by decide) h8.out fun ⟨F,e,r,o⟩=>⟨F,e,r,o.below hBq⟩),(fun p q=>by rw[dn_ne (by decide)] at p q;obtain ⟨G,e,r,o⟩:=h11.out p q;exact ⟨G,e,r,o.below hBq⟩),(fun p q=>by rw[dn_ne (by decide)] at p q;obtain ⟨y,e,hy,k⟩:=h16.out p q;exact ⟨y,e,hy,k.next hBq⟩),(dn_keep (by decide) h17.out fun ⟨F,e,r,o⟩=>⟨F,e,r,o.below hBq⟩),(fun p=>by rw[dn_ne (by decide)] at p;rw[dn_ne (by decide),dn_ne (by decide)];exact h18.out p),(dn_keep (by decide) h19.out fun ⟨y,e,hy,k⟩=>⟨y,e,hy,k.next hBq⟩)⟩
    ·obtain ⟨HW,v61,v62,v65,v70,v71,v72,v16,ha,h7,h8,h11,h16,h17,h18,h19⟩:=hI
     rw[ha] at hG
     clear ha a1
     have hsz:=HW.out.size
     obtain ⟨y,rfl,hy,k7⟩:=h7.out (hd ⟨7,.data⟩ (by simp) (by decide))
     have K7:=Lib.hid k7
     clear k7
     refine hG ?_
     clear hG hd
     try simp only[zz]
     go_simp
     refine (c_joinFn A1 (some ⟨y,0,none⟩) c1 1 (a.facts.length+1) a.facts [⟨false,x.a,x.b⟩] _ (H1.out.below (bgo HB.out HW.out)) (FactsV.one (f:=⟨false,x.a,x.b⟩) K7.out) rfl (by omega)).mono ?_
     rintro e wq ⟨F2,e2,rfl,oF,hBq⟩
     exact hK.out _ _ ⟨((k0.next HW.out).next hBq).cell,((kx.next HW.out).next hBq).cell⟩ ⟨HW.out.trans (hBq.mono hsz),(.slice (some ⟨y,0,none⟩) 1 1),(.slice F2 (a.facts.length+1) e2),v65,v70,v71,v72,v16,(by simp only[Act.put,List.setIfInBounds_toArray,List.set_cons_zero,List.set_cons_succ]),fun _=>⟨y,rfl,hy,K7.out.next hBq⟩,fun _=>⟨F2,e2,rfl,oF.lower hsz⟩,(fun p q=>by rw[dn_ne (by decide)] at p q;obtain ⟨G,e,r,o⟩:=h11.out p q;exact ⟨G,e,r,o.below hBq⟩),(fun p q=>by rw[dn_ne (by decide)] at p q;obtain ⟨y,e,hy,k⟩:=h16.out p q;exact ⟨y,e,hy,k.next hBq⟩),(dn_keep (by decide) h17.out fun ⟨F,e,r,o⟩=>⟨F,e,r,o.below hBq⟩),(fun p=>by rw[dn_ne (by decide)] at p;have:=(h18.out p).1.1;rw[dn_un hu] at this;cases this),(dn_keep (by decide) h19.out fun ⟨y,e,hy,k⟩=>⟨y,e,hy,k.next hBq⟩)⟩
    ·obtain ⟨HW,v61,v62,v65,v70,v71,v72,v16,ha,h7,h8,h11,h16,h17,h18,h19⟩:=hI
     rw[ha] at hG
     clear ha a1
     have hsz:=HW.out.size
     refine hG ?_
     clear hG hd
     try simp only[zz]
     go_simp
     refine (c_joinAn (some ⟨yE+1,0,none⟩) G1 1 d1 a.atoms.length [⟨1,x.a,(m:Int)⟩] (withoutL a.atoms i) _ (AtomsV.one (f:=⟨1,x.a,(m:Int)⟩) (kf.next HW.out)) (OR.out.readsI.2.below HW.out) (by simp<;>omega) (by omega)).mono ?_
     rintro e wq ⟨G2,e3,rfl,oJ,hBq⟩
     exact hK.out _ _ ⟨((k0.next HW.out).next hBq).cell,((kx.next HW.out).next hBq).cell⟩ ⟨HW.out.trans (hBq.mono hsz),v61,v62,(.slice G2 a.atoms.length e3),v70,v71,v72,v16,(by simp only[Act.put,List.setIfInBounds_toArray,List.set_cons_zero,List.set_cons_succ]),(dn_keep (by decide) h7.out fun ⟨y,e,hy,k⟩=>⟨y,e,hy,k.next hBq⟩),(dn_keep (by decide) h8.out fun ⟨F,e,r,o⟩=>⟨F,e,r,o.below hBq⟩),(fun _ _=>⟨G2,e3,rfl,oJ.lower hsz⟩),(fun p q=>by rw[dn_ne (by decide)] at p q;obtain ⟨y,e,hy,k⟩:=h16.out p q;exact ⟨y,e,hy,k.next hBq⟩),(dn_keep (by decide) h17.out fun ⟨F,e,r,o⟩=>⟨F,e,r,o.below hBq⟩),(fun p=>by rw[dn_ne (by decide)] at p;rw[dn_ne (by decide),dn_ne (by decide)];exact h18.out p),(dn_keep (by decide) h19.out fun ⟨y,e,hy,k⟩=>⟨y,e,hy,k.next hBq⟩)⟩
    ·obtain ⟨HW,v61,v62,v65,v70,v71,v72,v16,ha,h7,h8,h11,h16,h17,h18,h19⟩:=hI
     rw[ha] at hG
     clear ha a1
     have hsz:=HW.out.size
     refine hG ?_
     clear hG hd
     try simp only[zz]
     go_simp
     have hBq:Below w'.heap.size w' (w'.alloc (.cells #[.int .i64 2,.int .i64 m,.int .i64 x.b] tA)):=bbox (Below.refl _ _) _
     exact hK.out _ _ ⟨((k0.next HW.out).alloc _).cell,((kx.next HW.out).alloc _).cell⟩ ⟨HW.out.trans (hBq.mono hsz),v61,v62,v65,(.slice (some ⟨w'.heap.size,0,none⟩) 1 1),v71,v72,v16,(by simp only[Act.put,List.setIfInBounds_toArray,List.set_cons_zero,List.set_cons_succ]),(dn_keep (by decide) h7.out fun ⟨y,e,hy,k⟩=>⟨y,e,hy,k.next hBq⟩),(dn_keep (by decide) h8.out fun ⟨F,e,r,o⟩=>⟨F,e,r,o.below hBq⟩),(fun p q=>by rw[dn_ne (by decide)] at p q;obtain ⟨G,e,r,o⟩:=h11.out p q;exact ⟨G,e,r,o.below hBq⟩),(fun _ _=>⟨_,rfl,hsz,Blk.new _ _ _⟩),(dn_keep (by decide) h17.out fun ⟨F,e,r,o⟩=>⟨F,e,r,o.below hBq⟩),(fun p=>by rw[dn_ne (by decide)] at p;rw[dn_ne (by decide),dn_ne (by decide)];exact h18.out p),(dn_keep (by decide) h19.out fun ⟨y,e,hy,k⟩=>⟨y,e,hy,k.next hBq⟩)⟩
    ·obtain ⟨HW,v61,v62,v65,v70,v71,v72,v16,ha,h7,h8,h11,h16,h17,h18,h19⟩:=hI
     rw[ha] at hG
     clear ha a1
     have hsz:=HW.out.size
     obtain ⟨G2,e3,rfl,oj⟩:=h11.out (hd ⟨11,.data⟩ (by simp) (by decide)) (dn_un hu)
     obtain ⟨y,rfl,hy,k16⟩:=h16.out (hd ⟨16,.data⟩ (by simp) (by decide)) (dn_un hu)
     refine hG ?_
     clear hG hd
     try simp only[zz]
     refine stepALn (ys:=[⟨2,(m:Int),x.b⟩]) (n:=a.atoms.length+1) rfl _ _ rfl rfl oj rfl (AtomsV.one (f:=⟨2,(m:Int),x.b⟩) k16) (by simp<;>omega) (by omega) hsz ?_
     intro G3 e4 wq oB hg hBq
     try simp only[zz]
     refine hK.out _ _ ⟨(k0.next (HW.out.trans hBq)).cell,(kx.next (HW.out.trans hBq)).cell⟩ ?_
     exact ⟨HW.out.trans hBq,v61,v62,(.slice G2 a.atoms.length e3),(.slice (some ⟨y,0,none⟩) 1 1),(.slice G3 (a.atoms.length+1) e4),v72,v16,(by simp only[Act.put,List.setIfInBounds_toArray,List.set_cons_zero,List.set_cons_succ]),(dn_keep (by decide) h7.out fun ⟨y,e,hy,k⟩=>⟨y,e,hy,Blk.grownO k oj.1 hg (by decide)⟩),(dn_keep (by decide) h8.out fun ⟨F,e,r,o⟩=>⟨F,e,r,o.grownA oj hg⟩),(fun _ q=>by rw[dn_self hu] at q;cases q),(fun _ q=>by rw[dn_self hu] at q;cases q),fun _=>⟨G3,e4,rfl,oB⟩,(fun p=>by rw[dn_ne (by decide)] at p;have:=(h18.out p).1.2;rw[dn_un hu] at this;cases this),(dn_keep (by decide) h19.out fun ⟨y,e,hy,k⟩=>⟨y,e,hy,Blk.grownO k oj.1 hg (by decide)⟩)⟩
    ·obtain ⟨HW,v61,v62,v65,v70,v71,v72,v16,ha,h7,h8,h11,h16,h17,h18,h19⟩:=hI
     rw[ha] at hG
     clear ha a1
     have hsz:=HW.out.size
     have d8:=hd ⟨8,.data⟩ (by simp) (by decide)
     have d17:=hd ⟨17,.data⟩ (by simp) (by decide)
     obtain ⟨F2,e2,rfl,oF⟩:=h8.out d8
     obtain ⟨G3,e4,rfl,oB⟩:=h17.out d17
     replace oF:=Lib.hid oF
     replace oB:=Lib.hid oB
     replace d8:=Lib.hid d8
     replace d17:=Lib.hid d17
     refine hG ?_
     clear hG hd
     try simp only[zz]
     go_simp
     exact hK.out _ _ hS ⟨HW.out,v61,(.slice F2 (a.facts.length+1) e2),v65,v70,(.slice G3 (a.atoms.length+1) e4),(.agg #[(.slice F2 (a.facts.length+1) e2),(.slice G3 (a.atoms.length+1) e4)]),v16,(by simp only[Act.put,List.setIfInBounds_toArray,List.set_cons_zero,List.set_cons_succ]),(dn_keep (by decide) h7.out fun ⟨y,e,hy,k⟩=>⟨y,e,hy,k⟩),fun _=>⟨F2,e2,rfl,oF.out⟩,(fun p q=>by rw[dn_ne (by decide)] at p q;obtain ⟨G,e,r,o⟩:=h11.out p q;exact ⟨G,e,r,o⟩),(fun p q=>by rw[dn_ne (by decide)] at p q;obtain ⟨y,e,hy,k⟩:=h16.out p q;exact ⟨y,e,hy,k⟩),fun _=>⟨G3,e4,rfl,oB.out⟩,fun _=>⟨⟨by rw[dn_ne (by decide)];exact d8.out,by rw[dn_ne (by decide)];exact d17.out⟩,rfl⟩,(dn_keep (by decide) h19.out fun ⟨y,e,hy,k⟩=>⟨y,e,hy,k⟩)⟩
    ·obtain ⟨HW,v61,v62,v65,v70,v71,v72,v16,ha,h7,h8,h11,h16,h17,h18,h19⟩:=hI
     rw[ha] at hG
     clear ha a1
     have hsz:=HW.out.size
     refine hG ?_
     clear hG hd
     try simp only[zz]
     go_simp
     have hBq:Below w'.heap.size w' (w'.alloc (.cells #[.slice none 0 0,.slice none 0 0] tAs)):=bbox (Below.refl _ _) _
     exact hK.out _ _ ⟨((k0.next HW.out).alloc _).cell,((kx.next HW.out).alloc _).cell⟩ ⟨HW.out.trans (hBq.mono hsz),v61,v62,v65,v70,v71,v72,(.pointer (some ⟨w'.heap.size,0,none⟩)),(by simp only[Act.put,List.setIfInBounds_toArray,List.set_cons_zero,List.set_cons_succ]),(dn_keep (by decide) h7.out fun ⟨y,e,hy,k⟩=>⟨y,e,hy,k.next hBq⟩),(dn_keep (by decide) h8.out fun ⟨F,e,r,o⟩=>⟨F,e,r,o.below hBq⟩),(fun p q=>by rw[dn_ne (by decide)] at p q;obtain ⟨G,e,r,o⟩:=h11.out p q;exact ⟨G,e,r,o.below hBq⟩),(fun p q=>by rw[dn_ne (by decide)] at p q;obtain ⟨y,e,hy,k⟩:=h16.out p q;exact ⟨y,e,hy,k.next hBq⟩),(dn_keep (by decide) h17.out fun ⟨F,e,r,o⟩=>⟨F,e,r,o.below hBq⟩),(fun p=>by rw[dn_ne (by decide)] at p;rw[dn_ne (by decide),dn_ne (by decide)];exact h18.out p),(fun _=>⟨_,rfl,hsz,Blk.new _ _ _⟩)⟩
   case fin=>
    rintro a1 wz hHeld ⟨HBQ,v61,v62,v65,v70,v71,v72,v16,rfl,h7,h8,h11,h16,h17,h18,h19⟩
    obtain ⟨F2,e2,rfl,oF⟩:=h8.out (by decide)
    obtain ⟨G3,e4,rfl,oB⟩:=h17.out (by decide)
    obtain rfl:=(h18.out (by decide)).2
    obtain ⟨xb,rfl,hxbb,kBox⟩:=h19.out (by decide)
    have OF2:=Lib.hid oF
    have OB:=Lib.hid oB
    have hzq:=HBQ.out.size
    clear h7 h8 h11 h16 h17 h18 h19 oF oB
    try simp only[zz]
    have hlB:=kBox.lt
    have qb:=kBox.cell
    have rb:=kBox.frozen
    refine rdc 20 rfl fun K hK=>?_
    try simp only[zz]
    go_simp
    refine hK.out _ _ (⟨(((k0.next HBQ.out).far (p:=⟨xb,0,none⟩) (by simp only;omega) _).far (p:=⟨xb,1,none⟩) (by simp only;omega) _).cell,(((kx.next HBQ.out).far (p:=⟨xb,0,none⟩) (by simp only;omega) _).far (p:=⟨xb,1,none⟩) (by simp only;omega) _).cell⟩) ?_
    clear hHeld hK K
    intro hHeld
    try simp only[zz]
    refine wpAnyH_done (by kernel_rfl) ?_ _
    refine NoPanic.normal ?_
    go_wp2_with fail
    go_meet
    case rel=>
     refine ⟨xb,_,_,_,_,rfl,Lib.hid ((OF2.out.setT kBox (by decide) 0 _).setT (kBox.set_ 0 _) (by decide) 1 _),Lib.hid ((OB.out.setT kBox (by decide) 0 _).setT (kBox.set_ 0 _) (by decide) 1 _),?_,hxbb,Lib.hid ((HBQ.out.setCell (p:=⟨xb,0,none⟩) (by simp only;omega) _).setCell (p:=⟨xb,1,none⟩) (by simp only;omega) _)⟩
     have:=(kBox.set_ 0 (.slice F2 (a.facts.length+1) e2)).set_ 1 (.slice G3 (a.atoms.length+1) e4)
     simpa using this
  case rest=>
   obtain ⟨xb,F2,e2,G2,e3,rfl,OF2,OB2,kb,hxb,HBC⟩:=hcut
   have kE1:=kE.next HBC.out
   have HBw:=Lib.hid (bgo HB.out HBC.out)
   have hsc:=HBC.out.size
   have OE:Hid (AsnO wc w.heap.size (.agg #[.slice F1 (a.facts.length+1) e1,.slice G1 (withoutL a.atoms i).length d1]) (emptyX a x i)):=Lib.hid ⟨_,_,rfl,OF.out.below HBC.out,OR.out.below HBC.out⟩
   have OX:Hid (AsnO wc W.heap.size (.agg #[.slice F2 (a.facts.length+1) e2,.slice G2 (a.atoms.length+1) e3]) (fullX a x i (m:Int))):=Lib.hid ⟨_,_,rfl,OF2.out,OB2.out⟩
   clear HBC kE kf OF OR k0 kx OF2 OB2 HB
   (replace qkE1:=kE1.cell;replace rkE1:=kE1.frozen;replace lkE1:=kE1.lt)
   have hlb0:=kb.lt
   go_wp2_with fail
   refine (c_impl_AssertionValid _ (emptyX a x i) _ (OE.out.reads.below bel)).mono ?_
   rintro e w6 ⟨rfl,hB6⟩
   replace kE1:=kE1.next hB6
   replace kb:=kb.next hB6
   have HB6:=Lib.hid (bgo HBw.out hB6)
   have hs6:=hB6.size
   replace OE:=Lib.hid (OE.out.below hB6)
   replace OX:=Lib.hid (OX.out.below hB6)
   clear hB6 HBw qkE1 rkE1 lkE1
   cases hve:(emptyX a x i).valid
   ·have E:=Lib.hid (list_bad (n:=n) HNT.out (.inl hve))
    clear hve
    go_wp2_with fail
    go_ret2
    exact ⟨_,_,by rw[E.out];rfl,by rw[E.out];exact A2O.nil _ _,HB6.out⟩
   have HVE:=Lib.hid hve
   clear hve
   (replace qkb:=kb.cell;replace rkb:=kb.frozen;replace lkb:=kb.lt)
   go_wp2_with fail
   refine (c_impl_AssertionValid _ (fullX a x i (m:Int)) _ (OX.out.reads.below bel)).mono ?_
   rintro e w7 ⟨rfl,hB7⟩
   replace kE1:=kE1.next hB7
   replace kb:=kb.next hB7
   have HB7:=Lib.hid (bgo HB6.out hB7)
   have hs7:=hB7.size
   replace OE:=Lib.hid (OE.out.below hB7)
   replace OX:=Lib.hid (OX.out.below hB7)
   clear hB7 HB6 qkb rkb lkb
   cases hvf:(fullX a x i (m:Int)).valid
   ·have E:=Lib.hid (list_bad (n:=n) HNT.out (.inr hvf))
    clear hvf
    go_wp2_with fail
    go_ret2
    exact ⟨_,_,by rw[E.out];rfl,by rw[E.out];exact A2O.nil _ _,HB7.out⟩
   have HVF:=Lib.hid hvf
   clear hvf
   (replace qkE1:=kE1.cell;replace rkE1:=kE1.frozen;replace lkE1:=kE1.lt)
   go_wp2_with fail
   refine (HEH.out w.heap.size _ _ _ OE.out.C (Nat.le_refl _) HVE.out).mono ?_
   rintro e w8 ⟨r1,vs1,rfl,o1,hB8⟩
   obtain ⟨R1,z1,rfl⟩:=o1.form
   replace kb:=kb.next hB8
   have HB8:=Lib.hid (bgo HB7.out hB8)
   have hs8:=hB8.size
   have O1:=Lib.hid o1
   replace OX:=Lib.hid (OX.out.below hB8)
   clear hB8 HB7 qkE1 rkE1 lkE1 kE1 o1 OE
   cases he1:exposeF n (emptyX a x i) t Ks
   case none=>
    have E:=Lib.hid (list_first (n:=n) HNT.out he1)
    clear he1
    go_wp2_with fail
    go_ret2
    exact ⟨_,_,by rw[E.out];rfl,by rw[E.out];exact A2O.nil _ _,HB8.out⟩
   case some l1=>
   have HE1:=Lib.hid he1
   rw[he1] at O1
   clear he1
   (replace qkb:=kb.cell;replace rkb:=kb.frozen;replace lkb:=kb.lt)
   go_wp2_with fail
   refine (HFH.out m w.heap.size _ _ _ (AsnO.C (OX.out.lower (by omega))) (Nat.le_refl _) HVF.out).mono ?_
   rintro e w9 ⟨r2,vs2,rfl,o2,hB9⟩
   obtain ⟨R2,z2,rfl⟩:=o2.form
   have HB9:=Lib.hid (bgo HB8.out hB9)
   have hs9:=hB9.size
   have HB9':=Lib.hid hB9
   have O2:=Lib.hid o2
   clear hB9 HB8 qkb rkb lkb kb o2 OX
   cases he2:exposeF n (fullX a x i (m:Int)) t Ks
   case none=>
    have E:=Lib.hid (list_second (n:=n) HNT.out he2)
    clear he2
    go_wp2_with fail
    go_ret2
    exact ⟨_,_,by rw[E.out];rfl,by rw[E.out];exact A2O.nil _ _,HB9.out⟩
   case some l2=>
   have HE2:=Lib.hid he2
   rw[he2] at O2
   clear he2
   simp only[Option.getD_some] at O1 O2 ⊢
   have E:=Lib.hid (list_both (n:=n) HNT.out HE1.out HE2.out)
   have hl1:=(expose_ok HE1.out).1
   have hl2:=(expose_ok HE2.out).1
   have hll:l1.length+l2.length≤1049600:=by have:=HN.out;omega
   clear hl1 hl2
   go_wp2_with fail
   refine (c_joinAs R1 R2 l1.length l2.length z1 z2 vs1 vs2 _ (O1.out.rd.below HB9'.out) O2.out.rd O1.out.els.one_cell O2.out.els.one_cell hll).mono ?_
   rintro e w10 ⟨r3,rfl,o3,hB10⟩
   have O3:=Lib.hid o3
   have HB10:=Lib.hid hB10
   have HB11:=Lib.hid (bgo HB9.out hB10)
   obtain ⟨R3,z3,rfl,-⟩:=own_reads o3 hll
   clear o3 hB10
   go_wp2_with fail
   go_ret2
   refine ⟨_,vs1++vs2,by rw[E.out];rfl,?_,HB11.out⟩
   rw[E.out]
   exact A2O.join O1.out HB9'.out O2.out (Nat.le_refl _) HB10.out (by omega) (by omega) O3.out (by omega) hll
end

/- Exposing cells: impl.expose, impl.ExposeCell. -/
section
open Go Go.RowKit Go.Proofs
attribute [local go_sem ↓] Go.wp_at_zero Go.wp_at_succ
def exposeR (a:Asn) (t:Int) (ks:List Int):Option (List Asn):=if a.valid&&isTermB t then exposeF 7 a t (tset ks) else none
theorem c_impl_expose:∀ (n:Nat),n≤7→∀ (a:Asn) (t:Int) (K:Nat),K<512→a.atoms.length<n→ExpC n a t K
 | 0,_,a,_,_,_,h=>absurd h (Nat.not_lt_zero _)
 | n+1,hn,a,t,K,hK,h=>fun lo hi v w h1 h2 hv=>
  c_expose_step n a t K (fun i x _ _ hx hk himp=>by
   have hi:=(List.getElem?_eq_some_iff.1 hx).1
   have hwl:=withoutL_len hi
   refine c_exposeListAt n a x i t K hv hx hK (by omega) (c_impl_expose n (by omega) _ t K hK (by simp only[emptyX];omega)) fun m=>?_
   obtain ⟨n',rfl⟩:∃ n',n=n'+1:=⟨n - 1,by omega⟩
   intro lo hi v w g1 g2 gv
   exact c_expose_step n' _ t K (fun i' x' hf _ _ _ _=>by rw[full_find hx hk gv himp] at hf;cases hf) lo hi v w g1 g2 gv) lo hi v w h1 h2 hv
end

end Go.Proofs.YtmcgbeladjlcpaaGreat
