/- What the reader draws: l8Mutate. Printed by genDrawQ.py. -/
import Derived.Test.YtmcgbeladjlcpaaGreatMDrawO
set_option linter.unusedSimpArgs false
set_option linter.unusedVariables false
set_option maxRecDepth 100000
set_option maxHeartbeats 25600000
namespace Go.Proofs.YtmcgbeladjlcpaaGreat
section
open Go Go.RowKit Go.Proofs
theorem c_l8Mutate (g p:Nat) (w:World) (L:Cms) (A:Option Addr) (c lo hi:Nat) (hR:Rdr w g p) (hp:p≤900000) (hV:CmsV w lo hi A L) (hL1:1≤L.len) (hLS:L.len+L.cost≤903) :
  Calls Tryz.prog 60 #[.pointer (some ⟨g,0,none⟩),.slice A L.len c] w fun e w'=>∃ A' c' L',e=.returned (.slice A' L'.len c')∧CmsV w' w.heap.size w'.heap.size A' L'∧L'.len+L'.cost≤1000∧(∃ q,q≤p+3∧Rdf g q w w')∧L'.len≤c'∧1≤L'.len:=by
 have hlt:=hR.lt
 have hR0:=Lib.hid hR
 replace hV:=Lib.hid hV
 have hsm:=Lib.hid (Cms.cost_small (n:=1049600) (L:=L) (by omega))
 replace hLS:=Lib.hid hLS
 clear hR
 obtain ⟨n,hn⟩:∃ n,n=L.len:=⟨_,rfl⟩
 rw[←hn] at hL1 ⊢
 have hn9:n≤903:=by have:=hLS.out;omega
 replace hn:=Lib.hid hn
 go_enter Tryz.func60,Tryz.ntmps60
 go_wp2_with fail
 rw[hn.out]
 refine (l8Copy_go (L.sz+1) L (by omega) A c _ lo hi hV.out (by have:=hLS.out;omega) hsm.out).mono ?_
 rintro e w1 ⟨A1,c1,rfl,hC,hB1⟩
 rw[←hn.out] at hC ⊢
 replace hC:=Lib.hid hC
 have z1:=hB1.size
 have F1:=Lib.hid (Fr.ofBelow (g:=g) hB1)
 have hR1:=Lib.hid (hR0.out.below hB1)
 clear hB1 hR0 hV
 have hn0:((n:Int) == 0)=false:=by simp;omega
 go_wp2_with fail
 refine (c_pick g p n _ hR1.out (by omega)).mono ?_
 rintro e w2 ⟨k,rfl,hk,hR2,hF2⟩
 have hkn:k<n:=by omega
 have hki:(k:Int)<(n:Int):=by omega
 have hC2:=Lib.hid (hC.out.fr hF2 hlt)
 have F2:=Lib.hid (F1.out.trans hF2)
 replace hR2:=Lib.hid hR2
 clear hF2 hC hR1 F1 hk
 go_wp2_with fail
 refine (c_pick g (p+1) 50 _ hR2.out (by omega)).mono ?_
 rintro e w3 ⟨m,rfl,-,hR3,hF3⟩
 have hC3:=Lib.hid (hC2.out.fr hF3 hlt)
 have F3:=Lib.hid (show Rdf g (p+1+1) w w3 from ⟨hlt,F2.out.trans hF3,hR3⟩)
 replace hR3:=Lib.hid hR3
 clear hF3 hC2 hR2 F2
 obtain ⟨cs,ho,hT,-⟩:=hC3.out
 obtain ⟨P,kd,a,b,t,i,body,els,R,AF,cF,AA,cA,AB,cB,AE,cE,pre,post,eL,eP,ecs,s1,s2,s3,s4,s5,s6,csB,s7,s8⟩:=hT.split (k:=k) (by rw[←hn.out];exact hkn)
 rw[←hn.out] at ho
 have hcap:=Lib.hid (row_cap ho)
 obtain ⟨gb,cur,rfl,hgb,hkb,hob,hc⟩:=row_open ho (by omega)
 rw[ecs] at hc
 have hpl:pre.length=k * 10:=by rw[s2.len,eP]
 have hlb:=hkb.lt
 have frb:=hkb.frozen
 have y0:w3.cell? ⟨gb,k * 10+0,none⟩=some (.int .i64 kd):=hc _ _ (mid hpl (by rfl))
 have y1:w3.cell? ⟨gb,k * 10+1,none⟩=some (.int .i64 a):=hc _ _ (mid hpl (by rfl))
 have y2:w3.cell? ⟨gb,k * 10+2,none⟩=some (.int .i64 b):=hc _ _ (mid hpl (by rfl))
 have y3:w3.cell? ⟨gb,k * 10+3,none⟩=some (.bool t.eq):=hc _ _ (mid hpl (by rfl))
 have y4:w3.cell? ⟨gb,k * 10+4,none⟩=some (.int .i64 t.a):=hc _ _ (mid hpl (by rfl))
 have y5:w3.cell? ⟨gb,k * 10+5,none⟩=some (.int .i64 t.b):=hc _ _ (mid hpl (by rfl))
 have y6:w3.cell? ⟨gb,k * 10+6,none⟩=some (.slice AF i.facts.length cF):=hc _ _ (mid hpl (by rfl))
 have y7:w3.cell? ⟨gb,k * 10+7,none⟩=some (.slice AA i.atoms.length cA):=hc _ _ (mid hpl (by rfl))
 have y8:w3.cell? ⟨gb,k * 10+8,none⟩=some (.slice AB body.len cB):=hc _ _ (mid hpl (by rfl))
 have y9:w3.cell? ⟨gb,k * 10+9,none⟩=some (.slice AE els.len cE):=hc _ _ (mid hpl (by rfl))
 rw[Nat.add_zero] at y0
 rw[hob] at s1 s2 s3 s4 s5 s6 s8
 have hgg:g<gb:=by omega
 have Y2:=Lib.hid (s2.mono (Y:=fun x=>w.heap.size≤x∧x≠gb) fun x hx _=>⟨hx.1,fun e=>hx.2.1 (by rw[e])⟩)
 have Y3:=Lib.hid (s3.mono (Y:=fun x=>w.heap.size≤x∧x≠gb) fun x hx _=>⟨hx.1,fun e=>hx.2.1 (by rw[e])⟩)
 have Y4:=Lib.hid (s4.mono (Y:=fun x=>w.heap.size≤x∧x≠gb) fun x hx _=>⟨hx.1,fun e=>hx.2.1 (by rw[e])⟩)
 have Y5:=Lib.hid (s5.mono (Y:=fun x=>w.heap.size≤x∧x≠gb) fun x hx _=>⟨hx.1,fun e=>hx.2.1 (by rw[e])⟩)
 have Y6:=Lib.hid (s6.mono (Y:=fun x=>w.heap.size≤x∧x≠gb) fun x hx _=>⟨hx.1,fun e=>hx.2.1 (by rw[e])⟩)
 have Y8:=Lib.hid (part_of (Y:=fun x=>w.heap.size≤x∧x≠gb) s7 s8 (fun x hx=>⟨hx.1,fun e=>hx.2.1 (by rw[e])⟩) (fun x hx=>by have:=s1 x hx;exact ⟨this.1,fun e=>this.2 (by rw[e])⟩))
 have hLc:L.len=P.len+R.len+1∧L.cost=P.cost+(i.facts.length+i.atoms.length+(body.len+body.cost)+(els.len+els.cost)+R.cost):=by
  rw[eL,Cms.len_app,Cms.cost_app];simp only[Cms.len,Cms.cost];exact ⟨by omega,trivial⟩
 replace hLc:=Lib.hid hLc
 replace eL:=Lib.hid eL
 replace hc:=Lib.hid hc
 replace hkb:=Lib.hid hkb
 replace s1:=Lib.hid s1
 replace s2:=Lib.hid s2
 replace s3:=Lib.hid s3
 replace s4:=Lib.hid s4
 replace s5:=Lib.hid s5
 replace s6:=Lib.hid s6
 replace s7:=Lib.hid s7
 replace s8:=Lib.hid s8
 replace hT:=Lib.hid hT
 replace ho:=Lib.hid ho
 replace hob:=Lib.hid hob
 replace ecs:=Lib.hid ecs
 replace hpl:=Lib.hid hpl
 replace eP:=Lib.hid eP
 by_cases hm0:(m:Int)=0
 ·have b0:((m:Int) == 0)=true:=by simpa using hm0
  clear hm0
  go_wp2_with fail
  refine (c_numL g (p+1+1) [0,8,1,6,7] _ _ _ _ (hR3.out.below bel) (by omega) (Blk.new _ _ _) (by rfl) (by omega) (by rfl) (by simp) (by simp)).mono ?_
  rintro e w4 ⟨x,-,rfl,hR4,hF4⟩
  have hsame:∀ x,x≠g→x<w3.heap.size→w4.heap[x]? = w3.heap[x]?:=fun x h1 h2=>(hF4.block x (by simp;omega) h1).trans ((bbox (Below.refl _ w3) _).block x h2)
  have z4:=hF4.size
  simp only[World.size_alloc] at z4
  have hcell:∀ j,w4.cell? ⟨gb,j,none⟩=w3.cell? ⟨gb,j,none⟩:=fun j=>World.cell?_of_block (a:=⟨gb,j,none⟩) (hsame gb (by omega) hlb)
  have kb4:=(hkb.out.alloc (.cells (encI [0,8,1,6,7]).toArray tI)).fr hF4 (by omega)
  have C4:∀ j u,(pre++((tenL kd a b t (.slice AF i.facts.length cF) (.slice AA i.atoms.length cA) (.slice AB body.len cB) (.slice AE els.len cE))++post))[j]? = some u→w4.cell? ⟨gb,j,none⟩=some u:=fun j u hu=>(hcell j).trans (hc.out j u hu)
  replace C4:=Lib.hid C4
  have F4:=Lib.hid ((F3.out.alloc (.cells (encI [0,8,1,6,7]).toArray tI)).pick hF4 hR4)
  have frb4:=kb4.frozen
  replace kb4:=Lib.hid kb4
  rw[←hcell] at y0 y1 y2 y3 y4 y5 y6 y7 y8 y9
  replace hsame:=Lib.hid hsame
  have hlb4:gb<w4.heap.size:=by omega
  clear hF4 hcell frb
  go_wp2_with fail
  have D0:=cells_set kb4.out C4.out (mid (d:=0) hpl.out (by rfl)) (.int .i64 x)
  rw[mid_set hpl.out (by simp[tenL])] at D0
  have hl':(P.app (.cons x a b t i body els R)).len=n:=by rw[hn.out,hLc.out.1,Cms.len_app];simp only[Cms.len];omega
  refine bodyPost_ret (v:=.slice (some ⟨gb,0,none⟩) n c1) (by simp[results,Tryz.results60,go_sem]) rfl ⟨_,c1,P.app (.cons x a b t i body els R),by rw[hl'],?_,?_,?_,by rw[hl'];exact hcap.out,by rw[hl'];exact hL1⟩
  ·exact mut_close Y2.out Y3.out Y4.out Y5.out Y8.out Y6.out (fun x h1 h2 hl=>(Below.heap_setCell _ _ _ x h2).trans ((hsame.out x (by omega) hl))) hgb (by simp;omega) D0
  ·have h1:=hLc.out;have h2:=hLS.out;rw[Cms.len_app,Cms.cost_app];simp only[Cms.len,Cms.cost];omega
  ·exact ⟨_,by omega,(F4.out.set_ (Or.inr (by simp only;omega)) _)⟩
 have b0:((m:Int) == 0)=false:=by simpa using hm0
 clear hm0
 by_cases hm1:(m:Int)=1
 ·have b1:((m:Int) == 1)=true:=by simpa using hm1
  clear hm1
  go_wp2_with fail
  refine (c_numL g (p+1+1) [0,5,9,(-1)] _ _ _ _ (hR3.out.below bel) (by omega) (Blk.new _ _ _) (by rfl) (by omega) (by rfl) (by simp) (by simp)).mono ?_
  rintro e w4 ⟨x,-,rfl,hR4,hF4⟩
  have hsame:∀ x,x≠g→x<w3.heap.size→w4.heap[x]? = w3.heap[x]?:=fun x h1 h2=>(hF4.block x (by simp;omega) h1).trans ((bbox (Below.refl _ w3) _).block x h2)
  have z4:=hF4.size
  simp only[World.size_alloc] at z4
  have hcell:∀ j,w4.cell? ⟨gb,j,none⟩=w3.cell? ⟨gb,j,none⟩:=fun j=>World.cell?_of_block (a:=⟨gb,j,none⟩) (hsame gb (by omega) hlb)
  have kb4:=(hkb.out.alloc (.cells (encI [0,5,9,(-1)]).toArray tI)).fr hF4 (by omega)
  have C4:∀ j u,(pre++((tenL kd a b t (.slice AF i.facts.length cF) (.slice AA i.atoms.length cA) (.slice AB body.len cB) (.slice AE els.len cE))++post))[j]? = some u→w4.cell? ⟨gb,j,none⟩=some u:=fun j u hu=>(hcell j).trans (hc.out j u hu)
  replace C4:=Lib.hid C4
  have F4:=Lib.hid ((F3.out.alloc (.cells (encI [0,5,9,(-1)]).toArray tI)).pick hF4 hR4)
  have frb4:=kb4.frozen
  replace kb4:=Lib.hid kb4
  rw[←hcell] at y0 y1 y2 y3 y4 y5 y6 y7 y8 y9
  replace hsame:=Lib.hid hsame
  have hlb4:gb<w4.heap.size:=by omega
  clear hF4 hcell frb
  go_wp2_with fail
  have D0:=cells_set kb4.out C4.out (mid (d:=1) hpl.out (by rfl)) (.int .i64 x)
  rw[mid_set hpl.out (by simp[tenL])] at D0
  have hl':(P.app (.cons kd x b t i body els R)).len=n:=by rw[hn.out,hLc.out.1,Cms.len_app];simp only[Cms.len];omega
  refine bodyPost_ret (v:=.slice (some ⟨gb,0,none⟩) n c1) (by simp[results,Tryz.results60,go_sem]) rfl ⟨_,c1,P.app (.cons kd x b t i body els R),by rw[hl'],?_,?_,?_,by rw[hl'];exact hcap.out,by rw[hl'];exact hL1⟩
  ·exact mut_close Y2.out Y3.out Y4.out Y5.out Y8.out Y6.out (fun x h1 h2 hl=>(Below.heap_setCell _ _ _ x h2).trans ((hsame.out x (by omega) hl))) hgb (by simp;omega) D0
  ·have h1:=hLc.out;have h2:=hLS.out;rw[Cms.len_app,Cms.cost_app];simp only[Cms.len,Cms.cost];omega
  ·exact ⟨_,by omega,(F4.out.set_ (Or.inr (by simp only;omega)) _)⟩
 have b1:((m:Int) == 1)=false:=by simpa using hm1
 clear hm1
 by_cases hm2:(m:Int)=2
 ·have b2:((m:Int) == 2)=true:=by simpa using hm2
  clear hm2
  go_wp2_with fail
  refine (c_numL g (p+1+1) [1,9] _ _ _ _ (hR3.out.below bel) (by omega) (Blk.new _ _ _) (by rfl) (by omega) (by rfl) (by simp) (by simp)).mono ?_
  rintro e w4 ⟨x,-,rfl,hR4,hF4⟩
  have hsame:∀ x,x≠g→x<w3.heap.size→w4.heap[x]? = w3.heap[x]?:=fun x h1 h2=>(hF4.block x (by simp;omega) h1).trans ((bbox (Below.refl _ w3) _).block x h2)
  have z4:=hF4.size
  simp only[World.size_alloc] at z4
  have hcell:∀ j,w4.cell? ⟨gb,j,none⟩=w3.cell? ⟨gb,j,none⟩:=fun j=>World.cell?_of_block (a:=⟨gb,j,none⟩) (hsame gb (by omega) hlb)
  have kb4:=(hkb.out.alloc (.cells (encI [1,9]).toArray tI)).fr hF4 (by omega)
  have C4:∀ j u,(pre++((tenL kd a b t (.slice AF i.facts.length cF) (.slice AA i.atoms.length cA) (.slice AB body.len cB) (.slice AE els.len cE))++post))[j]? = some u→w4.cell? ⟨gb,j,none⟩=some u:=fun j u hu=>(hcell j).trans (hc.out j u hu)
  replace C4:=Lib.hid C4
  have F4:=Lib.hid ((F3.out.alloc (.cells (encI [1,9]).toArray tI)).pick hF4 hR4)
  have frb4:=kb4.frozen
  replace kb4:=Lib.hid kb4
  rw[←hcell] at y0 y1 y2 y3 y4 y5 y6 y7 y8 y9
  replace hsame:=Lib.hid hsame
  have hlb4:gb<w4.heap.size:=by omega
  clear hF4 hcell frb
  go_wp2_with fail
  have D0:=cells_set kb4.out C4.out (mid (d:=3) hpl.out (by rfl)) (.bool false)
  rw[mid_set hpl.out (by simp[tenL])] at D0
  have D1:=cells_set (kb4.out.set_ (k * 10+3) (.bool false)) D0 (mid (d:=4) hpl.out (by rfl)) (.int .i64 x)
  rw[mid_set hpl.out (by simp[tenL])] at D1
  have D2:=cells_set ((kb4.out.set_ (k * 10+3) (.bool false)).set_ (k * 10+4) (.int .i64 x)) D1 (mid (d:=5) hpl.out (by rfl)) (.int .i64 2)
  rw[mid_set hpl.out (by simp[tenL])] at D2
  have hl':(P.app (.cons kd a b ⟨false,x,2⟩ i body els R)).len=n:=by rw[hn.out,hLc.out.1,Cms.len_app];simp only[Cms.len];omega
  refine bodyPost_ret (v:=.slice (some ⟨gb,0,none⟩) n c1) (by simp[results,Tryz.results60,go_sem]) rfl ⟨_,c1,P.app (.cons kd a b ⟨false,x,2⟩ i body els R),by rw[hl'],?_,?_,?_,by rw[hl'];exact hcap.out,by rw[hl'];exact hL1⟩
  ·exact mut_close Y2.out Y3.out Y4.out Y5.out Y8.out Y6.out (fun x h1 h2 hl=>(Below.heap_setCell _ _ _ x h2).trans ((Below.heap_setCell _ _ _ x h2).trans ((Below.heap_setCell _ _ _ x h2).trans ((hsame.out x (by omega) hl))))) hgb (by simp;omega) D2
  ·have h1:=hLc.out;have h2:=hLS.out;rw[Cms.len_app,Cms.cost_app];simp only[Cms.len,Cms.cost];omega
  ·exact ⟨_,by omega,(((F4.out.set_ (Or.inr (by simp only;omega)) _).set_ (Or.inr (by simp only;omega)) _).set_ (Or.inr (by simp only;omega)) _)⟩
 have b2:((m:Int) == 2)=false:=by simpa using hm2
 clear hm2
 by_cases hm3:(m:Int)=3
 ·have b3:((m:Int) == 3)=true:=by simpa using hm3
  clear hm3 y0 y1 y2 y3 y4 y5 y6 y7 y8 y9 frb s1 s2 s3 s4 s5 s6 s7 s8 Y2 Y3 Y4 Y5 Y6 Y8 hkb hc eL hLc ecs hpl eP hT ho hob
  have hN:=Lib.hid hC3.out.n
  clear hC3
  go_wp2_with fail
  go_loopg [5] 17 (fun gh q5 wr=>∃ (A5:Option Addr) (c5:Nat) (M:Cms),q5=.slice A5 M.len c5∧17≤gh+M.len∧(M.len≤17∨M.len=n)∧Hid (M.cost=L.cost)∧Hid (CmsN wr w.heap.size (.slice A5 M.len c5) M)∧Hid (Rdf g (p+1+1) w wr))
  case atStart=>exact ⟨_,c1,L,by rw[←hn.out],by omega,Or.inr hn.out.symm,Lib.hid rfl,by rw[←hn.out];exact hN.out,F3.out⟩
  case round=>
   clear hN F3 hlb
   obtain ⟨A5,c5,M,rfl,hgm,hM,hcost,hN,hF⟩:=hrel
   obtain ⟨wo,rfl⟩:∃ x,x=wr:=⟨_,rfl⟩
   have hsz:=hF.out.2.1.size
   by_cases hle:M.len≤16
   ·have hlei:(M.len:Int)≤16:=by omega
    obtain ⟨cs,ho,hT,-⟩:=hN.out
    replace hT:=Lib.hid hT
    replace ho:=Lib.hid ho
    go_wp2_with (at_builtin;go_loud (refine appCX (base:=w.heap.size) (g0:=wo.heap.size) rfl _ _ rfl rfl (own_below ho.out (bbox (Below.refl _ _) _)) (tenL 4 1 0 ⟨false,0,0⟩ (.slice none 0 0) (.slice none 0 0) (.slice none 0 0) (.slice none 0 0)) rfl (Blk.new _ _ _) rfl rfl (tenOne _ _ _ _ _ _ _ _ _ _ _ _ _ _ _ _) (by omega) (by simp;omega) ?_);(intro A9 c9 w9 o9 g9 B9 v9;have o9:=Lib.hid o9;have g9:=Lib.hid g9;have v9:=Lib.hid v9;have B9:=Lib.hid B9))
    have hl:(M.app (.cons 4 1 0 ⟨false,0,0⟩ ⟨[],[]⟩ .nil .nil .nil)).len=M.len+1:=by rw[Cms.len_app];rfl
    have hc:(M.app (.cons 4 1 0 ⟨false,0,0⟩ ⟨[],[]⟩ .nil .nil .nil)).cost=M.cost:=by rw[Cms.cost_app];simp[Cms.cost,Cms.len]
    have N9:CmsN w9 w.heap.size (.slice A9 (M.len+1) c9) (M.app (.cons 4 1 0 ⟨false,0,0⟩ ⟨[],[]⟩ .nil .nil .nil)):=
     CmsN.grow (w:=wo.alloc (.cells ((tenL 4 1 0 ⟨false,0,0⟩ (.slice none 0 0) (.slice none 0 0) (.slice none 0 0) (.slice none 0 0))).toArray tC)) (v:=.slice A5 M.len c5) (AF:=none) (AA:=none) (AB:=none) (AE:=none) (cF:=0) (cA:=0) (cB:=0) (cE:=0) (hT.out.keep fun x _ hx=>(bbox (Below.refl _ wo) _).block x hx) (by omega) (RwX.none ..) (RwX.none ..) (PartX.nil _) (PartX.nil _) o9.out g9.out v9.out
    have F9:Rdf g (p+1+1) w w9:=(hF.out.alloc _).goB B9.out (Nat.le_refl _)
    go_roundg (gk - 1)
    case rel=>exact ⟨A9,c9,_,by rw[hl],by rw[hl];omega,Or.inl (by rw[hl];omega),Lib.hid (hc.trans hcost.out),by rw[hl];exact N9,F9⟩
    case measure=>omega
   ·have hlei:¬(M.len:Int)≤16:=by omega
    go_wp2_with fail
    have hcM:Hid (M.len≤c5):=Lib.hid (by obtain ⟨cs,ho,-,-⟩:=hN.out;exact row_cap ho)
    obtain ⟨A',c',e,hV⟩:=hN.out.reads
    injection e with e1 e2 e3
    subst e1
    refine bodyPost_ret (v:=.slice A5 M.len c5) (by simp[results,Tryz.results60,go_sem]) rfl ⟨_,c5,M,rfl,hV,?_,⟨_,by omega,hF.out⟩,hcM.out,by omega⟩
    have h1:=hcost.out;have h2:=hLS.out;have h3:=hn.out;omega
 have b3:((m:Int) == 3)=false:=by simpa using hm3
 clear hm3
 by_cases hm4:(m:Int)=4
 ·have b4:((m:Int) == 4)=true:=by simpa using hm4
  clear hm4
  have hkd:=hkb.out.drew
  have hbl:body.len≤903:=by have:=hLc.out;have:=hLS.out;omega
  have own7:(w3.drew.alloc (.cells ((tenL 0 0 0 ⟨false,0,0⟩ (.slice none 0 0) (.slice none 0 0) (.slice none 0 0) (.slice none 0 0))).toArray tC)).ownsRow w.heap.size tC 10 (.slice AB body.len cB) body.len csB:=own_keep s7.out fun x hx hl=>(bbox (Below.refl _ w3.drew) _).block x hl
  have kept:∀ x,x<w3.heap.size→(w3.drew.alloc (.cells ((tenL 0 0 0 ⟨false,0,0⟩ (.slice none 0 0) (.slice none 0 0) (.slice none 0 0) (.slice none 0 0))).toArray tC)).heap[x]? = w3.heap[x]?:=fun x hl=>(bbox (Below.refl _ w3.drew) _).block x hl
  replace own7:=Lib.hid own7
  replace kept:=Lib.hid kept
  go_wp2_with fail
  refine wp_region_noPanic ?_
  refine wp_region_held_drew (S:=(fun _=>True)) (by kernel_rfl) (trivial) (fun hHeld=>?_)
  refine tk2 0 rfl hHeld ?_
  try simp only[zz]
  refine tk2 1 rfl hHeld ?_
  try simp only[zz]
  refine tk2 2 rfl hHeld ?_
  try simp only[zz]
  refine tk2 3 rfl hHeld ?_
  try simp only[zz]
  refine tk2 5 rfl hHeld ?_
  try simp only[zz]
  refine wpAnyH_ready (rs:=[4,7]) (by kernel_rfl) (by simp) ?_
  refine AllReadyH.cons rfl (fun K hK=>?_) (AllReadyH.cons rfl (fun K hK=>?_) (AllReadyH.nil))
  ·try simp only[zz]
   go_simp
   refine hK.out _ _ trivial (fun hHeldN=>?_)
   clear hHeld hK K
   have hHeld:=hHeldN
   clear hHeldN
   try simp only[zz]
   refine wpAnyH_ready (rs:=[6,7]) (by kernel_rfl) (by simp) ?_
   refine AllReadyH.cons rfl (fun K hK=>?_) (AllReadyH.cons rfl (fun K hK=>?_) (AllReadyH.nil))
   ·try simp only[zz]
    go_simp
    refine hK.out _ _ trivial (fun hHeldN=>?_)
    clear hHeld hK K
    have hHeld:=hHeldN
    clear hHeldN
    try simp only[zz]
    refine wpAnyH_ready (rs:=[7]) (by kernel_rfl) (by simp) ?_
    refine AllReadyH.cons rfl (fun K hK=>?_) (AllReadyH.nil)
    try simp only[zz]
    go_simp
    refine hK.out _ _ trivial (fun hHeldN=>?_)
    clear hHeld hK K
    have hHeld:=hHeldN
    clear hHeldN
    try simp only[zz]
    refine wpAnyH_ready (rs:=[8]) (by kernel_rfl) (by simp) ?_
    refine AllReadyH.cons rfl (fun K hK=>?_) (AllReadyH.nil)
    skip
    refine stepCX (base:=w.heap.size) (g0:=w3.heap.size) rfl _ _ rfl rfl own7.out (tenL 0 0 0 ⟨false,0,0⟩ (.slice none 0 0) (.slice none 0 0) (.slice none 0 0) (.slice none 0 0)) rfl (Blk.new w3.drew tC _) rfl rfl (tenOne _ _ _ _ _ _ _ _ _ _ _ _ _ _ _ _) (by omega) (by simp;omega) ?_;intro A9 c9 w9 o9 g9 B9 v9;obtain ⟨g8,cur8,rfl,e8,hk8,hob8,hc8⟩:=row_open o9 (by omega)
    have hgn:(Value.slice AB body.len cB).ownBlock≠some gb:=fun e=>(s1.out gb e).2 rfl
    have same9:∀ x,x<w3.heap.size→(Value.slice AB body.len cB).ownBlock≠some x→w9.heap[x]? = w3.heap[x]?:=fun x h1 h2=>(g9.block x (by simp;omega) (fun e=>h2 e.symm)).trans (kept.out x h1)
    have y89:w9.cell? ⟨gb,k * 10+8,none⟩=some (.slice AB body.len cB):=(World.cell?_of_block (a:=⟨gb,k * 10+8,none⟩) (same9 gb hlb hgn)).trans y8
    have hkb9:Blk w9 gb tC cur:=(same9 gb hlb hgn).trans hkb.out
    have fr9:=hkb9.frozen
    have fr8:=hk8.frozen
    have hpl8:csB.length=body.len * 10:=s8.out.len
    have hne8:gb≠g8:=fun e=>v9.elim (fun h=>hgn (Eq.trans (show (Value.slice AB body.len cB).ownBlock=(Value.slice (some ⟨g8,0,none⟩) (body.len+1) c9).ownBlock from h.symm) (hob8.trans (by rw[e])))) (fun h=>by rw[hob8] at h;injection h with h;simp at h;omega)
    have hc8':∀ j u,(csB++([.int .i64 0,.int .i64 0,.int .i64 0,.bool false,.int .i64 0,.int .i64 0,.slice none 0 0,.slice none 0 0,.slice none 0 0,.slice none 0 0]++[]))[j]? = some u→w9.cell? ⟨g8,j,none⟩=some u:=fun j u hu=>hc8 j u (by rw[List.append_nil] at hu;exact hu)
    have zz0:w9.cell? ⟨g8,body.len * 10,none⟩=some (.int .i64 0):=hc8' _ _ (mid (d:=0) hpl8 (by rfl))
    have zz1:w9.cell? ⟨g8,body.len * 10+1,none⟩=some (.int .i64 0):=hc8' _ _ (mid (d:=1) hpl8 (by rfl))
    have zz2:w9.cell? ⟨g8,body.len * 10+2,none⟩=some (.int .i64 0):=hc8' _ _ (mid (d:=2) hpl8 (by rfl))
    have zz3:w9.cell? ⟨g8,body.len * 10+3,none⟩=some (.bool false):=hc8' _ _ (mid (d:=3) hpl8 (by rfl))
    have zz4:w9.cell? ⟨g8,body.len * 10+4,none⟩=some (.int .i64 0):=hc8' _ _ (mid (d:=4) hpl8 (by rfl))
    have zz5:w9.cell? ⟨g8,body.len * 10+5,none⟩=some (.int .i64 0):=hc8' _ _ (mid (d:=5) hpl8 (by rfl))
    have zz6:w9.cell? ⟨g8,body.len * 10+6,none⟩=some (.slice none 0 0):=hc8' _ _ (mid (d:=6) hpl8 (by rfl))
    have zz7:w9.cell? ⟨g8,body.len * 10+7,none⟩=some (.slice none 0 0):=hc8' _ _ (mid (d:=7) hpl8 (by rfl))
    have zz8:w9.cell? ⟨g8,body.len * 10+8,none⟩=some (.slice none 0 0):=hc8' _ _ (mid (d:=8) hpl8 (by rfl))
    have zz9:w9.cell? ⟨g8,body.len * 10+9,none⟩=some (.slice none 0 0):=hc8' _ _ (mid (d:=9) hpl8 (by rfl))
    have hb1:(body.len:Int)<(body.len:Int)+1:=by omega
    have hx8:∀ x,x<w3.heap.size→(Value.slice AB body.len cB).ownBlock≠some x→x≠g8:=fun x h1 h2 e=>v9.elim (fun h=>h2 (Eq.trans (show (Value.slice AB body.len cB).ownBlock=(Value.slice (some ⟨g8,0,none⟩) (body.len+1) c9).ownBlock from h.symm) (hob8.trans (by rw[e])))) (fun h=>by rw[hob8] at h;injection h with h;simp at h;omega)
    have F9:Rdf g (p+1+1) w w9:=((F3.out.drew).alloc _).goB B9 (Nat.le_refl _)
    have hgb9:w9.heap[gb]? = w3.heap[gb]?:=same9 gb hlb hgn
    have z9:=B9.size
    simp at z9
    replace hx8:=Lib.hid hx8
    replace F9:=Lib.hid F9
    replace hgb9:=Lib.hid hgb9
    replace same9:=Lib.hid same9
    replace hc8':=Lib.hid hc8'
    replace hk8:=Lib.hid hk8
    replace hkb9:=Lib.hid hkb9
    replace g9:=Lib.hid g9
    replace B9:=Lib.hid B9
    replace v9:=Lib.hid v9
    replace o9:=Lib.hid o9
    replace hpl8:=Lib.hid hpl8
    replace hob8:=Lib.hid hob8
    clear hc8 hgn
    refine hK.out _ _ trivial (fun hHeldN=>?_)
    clear hHeld hK K
    have hHeld:=hHeldN
    clear hHeldN
    try simp only[zz]
    refine tk2 11 rfl hHeld ?_
    try simp only[zz]
    refine tk2 12 rfl hHeld ?_
    try simp only[zz]
    refine wpAnyH_ready (rs:=[9,13]) (by kernel_rfl) (by simp) ?_
    refine AllReadyH.cons rfl (fun K hK=>?_) (AllReadyH.cons rfl (fun K hK=>?_) (AllReadyH.nil))
    ·try simp only[zz]
     go_simp
     refine hK.out _ _ trivial (fun hHeldN=>?_)
     clear hHeld hK K
     have hHeld:=hHeldN
     clear hHeldN
     try simp only[zz]
     refine wpAnyH_ready (rs:=[10,13]) (by kernel_rfl) (by simp) ?_
     refine AllReadyH.cons rfl (fun K hK=>?_) (AllReadyH.cons rfl (fun K hK=>?_) (AllReadyH.nil))
     ·try simp only[zz]
      go_simp
      refine hK.out _ _ trivial (fun hHeldN=>?_)
      clear hHeld hK K
      have hHeld:=hHeldN
      clear hHeldN
      try simp only[zz]
      refine wpAnyH_ready (rs:=[13]) (by kernel_rfl) (by simp) ?_
      refine AllReadyH.cons rfl (fun K hK=>?_) (AllReadyH.nil)
      try simp only[zz]
      go_simp
      refine hK.out _ _ trivial (fun hHeldN=>?_)
      clear hHeld hK K
      have hHeld:=hHeldN
      clear hHeldN
      try simp only[zz]
      refine wpAnyH_done (by kernel_rfl) ?_ _
      refine NoPanic.normal ?_
      have hl':(P.app (.cons kd a b t i (body.app (.cons 5 1 0 ⟨false,0,0⟩ ⟨[],[]⟩ .nil .nil .nil)) els R)).len=n:=by rw[hn.out,hLc.out.1,Cms.len_app];simp only[Cms.len];omega
      have hT:=mut4A (c9:=c9) (cF:=cF) (cA:=cA) (cE:=cE) s2.out s3.out s4.out s5.out s6.out s8.out hx8.out same9.out e8 hne8 hk8.out hpl8.out hc8'.out hkb9.out hgb9.out hc.out hpl.out hgb F9.out
      replace hT:=Lib.hid hT
      replace hl':=Lib.hid hl'
      go_wp2_with fail
      refine bodyPost_ret (v:=.slice (some ⟨gb,0,none⟩) n c1) (by simp[results,Tryz.results60,go_sem]) rfl ⟨_,c1,P.app (.cons kd a b t i (body.app (.cons 5 1 0 ⟨false,0,0⟩ ⟨[],[]⟩ .nil .nil .nil)) els R),by rw[hl'.out],hT.out.1,?_,⟨_,by omega,hT.out.2⟩,by rw[hl'.out];exact hcap.out,by rw[hl'.out];exact hL1⟩
      have h1:=hLc.out;have h2:=hLS.out;rw[Cms.len_app,Cms.cost_app];simp only[Cms.len,Cms.cost,Cms.len_app,Cms.cost_app];simp;omega
     ·try simp only[zz]
      go_simp
      refine hK.out _ _ trivial (fun hHeldN=>?_)
      clear hHeld hK K
      have hHeld:=hHeldN
      clear hHeldN
      try simp only[zz]
      refine wpAnyH_ready (rs:=[10]) (by kernel_rfl) (by simp) ?_
      refine AllReadyH.cons rfl (fun K hK=>?_) (AllReadyH.nil)
      try simp only[zz]
      go_simp
      refine hK.out _ _ trivial (fun hHeldN=>?_)
      clear hHeld hK K
      have hHeld:=hHeldN
      clear hHeldN
      try simp only[zz]
      refine wpAnyH_done (by kernel_rfl) ?_ _
      refine NoPanic.normal ?_
      have hl':(P.app (.cons kd a b t i (body.app (.cons 5 1 0 ⟨false,0,0⟩ ⟨[],[]⟩ .nil .nil .nil)) els R)).len=n:=by rw[hn.out,hLc.out.1,Cms.len_app];simp only[Cms.len];omega
      have hT:=mut4B (c9:=c9) (cF:=cF) (cA:=cA) (cE:=cE) s2.out s3.out s4.out s5.out s6.out s8.out hx8.out same9.out e8 hne8 hk8.out hpl8.out hc8'.out hkb9.out hgb9.out hc.out hpl.out hgb F9.out
      replace hT:=Lib.hid hT
      replace hl':=Lib.hid hl'
      go_wp2_with fail
      refine bodyPost_ret (v:=.slice (some ⟨gb,0,none⟩) n c1) (by simp[results,Tryz.results60,go_sem]) rfl ⟨_,c1,P.app (.cons kd a b t i (body.app (.cons 5 1 0 ⟨false,0,0⟩ ⟨[],[]⟩ .nil .nil .nil)) els R),by rw[hl'.out],hT.out.1,?_,⟨_,by omega,hT.out.2⟩,by rw[hl'.out];exact hcap.out,by rw[hl'.out];exact hL1⟩
      have h1:=hLc.out;have h2:=hLS.out;rw[Cms.len_app,Cms.cost_app];simp only[Cms.len,Cms.cost,Cms.len_app,Cms.cost_app];simp;omega
    ·try simp only[zz]
     go_simp
     refine hK.out _ _ trivial (fun hHeldN=>?_)
     clear hHeld hK K
     have hHeld:=hHeldN
     clear hHeldN
     try simp only[zz]
     refine wpAnyH_ready (rs:=[9]) (by kernel_rfl) (by simp) ?_
     refine AllReadyH.cons rfl (fun K hK=>?_) (AllReadyH.nil)
     try simp only[zz]
     go_simp
     refine hK.out _ _ trivial (fun hHeldN=>?_)
     clear hHeld hK K
     have hHeld:=hHeldN
     clear hHeldN
     try simp only[zz]
     refine wpAnyH_ready (rs:=[10]) (by kernel_rfl) (by simp) ?_
     refine AllReadyH.cons rfl (fun K hK=>?_) (AllReadyH.nil)
     try simp only[zz]
     go_simp
     refine hK.out _ _ trivial (fun hHeldN=>?_)
     clear hHeld hK K
     have hHeld:=hHeldN
     clear hHeldN
     try simp only[zz]
     refine wpAnyH_done (by kernel_rfl) ?_ _
     refine NoPanic.normal ?_
     have hl':(P.app (.cons kd a b t i (body.app (.cons 5 1 0 ⟨false,0,0⟩ ⟨[],[]⟩ .nil .nil .nil)) els R)).len=n:=by rw[hn.out,hLc.out.1,Cms.len_app];simp only[Cms.len];omega
     have hT:=mut4B (c9:=c9) (cF:=cF) (cA:=cA) (cE:=cE) s2.out s3.out s4.out s5.out s6.out s8.out hx8.out same9.out e8 hne8 hk8.out hpl8.out hc8'.out hkb9.out hgb9.out hc.out hpl.out hgb F9.out
     replace hT:=Lib.hid hT
     replace hl':=Lib.hid hl'
     go_wp2_with fail
     refine bodyPost_ret (v:=.slice (some ⟨gb,0,none⟩) n c1) (by simp[results,Tryz.results60,go_sem]) rfl ⟨_,c1,P.app (.cons kd a b t i (body.app (.cons 5 1 0 ⟨false,0,0⟩ ⟨[],[]⟩ .nil .nil .nil)) els R),by rw[hl'.out],hT.out.1,?_,⟨_,by omega,hT.out.2⟩,by rw[hl'.out];exact hcap.out,by rw[hl'.out];exact hL1⟩
     have h1:=hLc.out;have h2:=hLS.out;rw[Cms.len_app,Cms.cost_app];simp only[Cms.len,Cms.cost,Cms.len_app,Cms.cost_app];simp;omega
   ·try simp only[zz]
    go_simp
    refine hK.out _ _ trivial (fun hHeldN=>?_)
    clear hHeld hK K
    have hHeld:=hHeldN
    clear hHeldN
    try simp only[zz]
    refine wpAnyH_ready (rs:=[6]) (by kernel_rfl) (by simp) ?_
    refine AllReadyH.cons rfl (fun K hK=>?_) (AllReadyH.nil)
    try simp only[zz]
    go_simp
    refine hK.out _ _ trivial (fun hHeldN=>?_)
    clear hHeld hK K
    have hHeld:=hHeldN
    clear hHeldN
    try simp only[zz]
    refine wpAnyH_ready (rs:=[8]) (by kernel_rfl) (by simp) ?_
    refine AllReadyH.cons rfl (fun K hK=>?_) (AllReadyH.nil)
    skip
    refine stepCX (base:=w.heap.size) (g0:=w3.heap.size) rfl _ _ rfl rfl own7.out (tenL 0 0 0 ⟨false,0,0⟩ (.slice none 0 0) (.slice none 0 0) (.slice none 0 0) (.slice none 0 0)) rfl (Blk.new w3.drew tC _) rfl rfl (tenOne _ _ _ _ _ _ _ _ _ _ _ _ _ _ _ _) (by omega) (by simp;omega) ?_;intro A9 c9 w9 o9 g9 B9 v9;obtain ⟨g8,cur8,rfl,e8,hk8,hob8,hc8⟩:=row_open o9 (by omega)
    have hgn:(Value.slice AB body.len cB).ownBlock≠some gb:=fun e=>(s1.out gb e).2 rfl
    have same9:∀ x,x<w3.heap.size→(Value.slice AB body.len cB).ownBlock≠some x→w9.heap[x]? = w3.heap[x]?:=fun x h1 h2=>(g9.block x (by simp;omega) (fun e=>h2 e.symm)).trans (kept.out x h1)
    have y89:w9.cell? ⟨gb,k * 10+8,none⟩=some (.slice AB body.len cB):=(World.cell?_of_block (a:=⟨gb,k * 10+8,none⟩) (same9 gb hlb hgn)).trans y8
    have hkb9:Blk w9 gb tC cur:=(same9 gb hlb hgn).trans hkb.out
    have fr9:=hkb9.frozen
    have fr8:=hk8.frozen
    have hpl8:csB.length=body.len * 10:=s8.out.len
    have hne8:gb≠g8:=fun e=>v9.elim (fun h=>hgn (Eq.trans (show (Value.slice AB body.len cB).ownBlock=(Value.slice (some ⟨g8,0,none⟩) (body.len+1) c9).ownBlock from h.symm) (hob8.trans (by rw[e])))) (fun h=>by rw[hob8] at h;injection h with h;simp at h;omega)
    have hc8':∀ j u,(csB++([.int .i64 0,.int .i64 0,.int .i64 0,.bool false,.int .i64 0,.int .i64 0,.slice none 0 0,.slice none 0 0,.slice none 0 0,.slice none 0 0]++[]))[j]? = some u→w9.cell? ⟨g8,j,none⟩=some u:=fun j u hu=>hc8 j u (by rw[List.append_nil] at hu;exact hu)
    have zz0:w9.cell? ⟨g8,body.len * 10,none⟩=some (.int .i64 0):=hc8' _ _ (mid (d:=0) hpl8 (by rfl))
    have zz1:w9.cell? ⟨g8,body.len * 10+1,none⟩=some (.int .i64 0):=hc8' _ _ (mid (d:=1) hpl8 (by rfl))
    have zz2:w9.cell? ⟨g8,body.len * 10+2,none⟩=some (.int .i64 0):=hc8' _ _ (mid (d:=2) hpl8 (by rfl))
    have zz3:w9.cell? ⟨g8,body.len * 10+3,none⟩=some (.bool false):=hc8' _ _ (mid (d:=3) hpl8 (by rfl))
    have zz4:w9.cell? ⟨g8,body.len * 10+4,none⟩=some (.int .i64 0):=hc8' _ _ (mid (d:=4) hpl8 (by rfl))
    have zz5:w9.cell? ⟨g8,body.len * 10+5,none⟩=some (.int .i64 0):=hc8' _ _ (mid (d:=5) hpl8 (by rfl))
    have zz6:w9.cell? ⟨g8,body.len * 10+6,none⟩=some (.slice none 0 0):=hc8' _ _ (mid (d:=6) hpl8 (by rfl))
    have zz7:w9.cell? ⟨g8,body.len * 10+7,none⟩=some (.slice none 0 0):=hc8' _ _ (mid (d:=7) hpl8 (by rfl))
    have zz8:w9.cell? ⟨g8,body.len * 10+8,none⟩=some (.slice none 0 0):=hc8' _ _ (mid (d:=8) hpl8 (by rfl))
    have zz9:w9.cell? ⟨g8,body.len * 10+9,none⟩=some (.slice none 0 0):=hc8' _ _ (mid (d:=9) hpl8 (by rfl))
    have hb1:(body.len:Int)<(body.len:Int)+1:=by omega
    have hx8:∀ x,x<w3.heap.size→(Value.slice AB body.len cB).ownBlock≠some x→x≠g8:=fun x h1 h2 e=>v9.elim (fun h=>h2 (Eq.trans (show (Value.slice AB body.len cB).ownBlock=(Value.slice (some ⟨g8,0,none⟩) (body.len+1) c9).ownBlock from h.symm) (hob8.trans (by rw[e])))) (fun h=>by rw[hob8] at h;injection h with h;simp at h;omega)
    have F9:Rdf g (p+1+1) w w9:=((F3.out.drew).alloc _).goB B9 (Nat.le_refl _)
    have hgb9:w9.heap[gb]? = w3.heap[gb]?:=same9 gb hlb hgn
    have z9:=B9.size
    simp at z9
    replace hx8:=Lib.hid hx8
    replace F9:=Lib.hid F9
    replace hgb9:=Lib.hid hgb9
    replace same9:=Lib.hid same9
    replace hc8':=Lib.hid hc8'
    replace hk8:=Lib.hid hk8
    replace hkb9:=Lib.hid hkb9
    replace g9:=Lib.hid g9
    replace B9:=Lib.hid B9
    replace v9:=Lib.hid v9
    replace o9:=Lib.hid o9
    replace hpl8:=Lib.hid hpl8
    replace hob8:=Lib.hid hob8
    clear hc8 hgn
    refine hK.out _ _ trivial (fun hHeldN=>?_)
    clear hHeld hK K
    have hHeld:=hHeldN
    clear hHeldN
    try simp only[zz]
    refine tk2 11 rfl hHeld ?_
    try simp only[zz]
    refine tk2 12 rfl hHeld ?_
    try simp only[zz]
    refine wpAnyH_ready (rs:=[9,13]) (by kernel_rfl) (by simp) ?_
    refine AllReadyH.cons rfl (fun K hK=>?_) (AllReadyH.cons rfl (fun K hK=>?_) (AllReadyH.nil))
    ·try simp only[zz]
     go_simp
     refine hK.out _ _ trivial (fun hHeldN=>?_)
     clear hHeld hK K
     have hHeld:=hHeldN
     clear hHeldN
     try simp only[zz]
     refine wpAnyH_ready (rs:=[10,13]) (by kernel_rfl) (by simp) ?_
     refine AllReadyH.cons rfl (fun K hK=>?_) (AllReadyH.cons rfl (fun K hK=>?_) (AllReadyH.nil))
     ·try simp only[zz]
      go_simp
      refine hK.out _ _ trivial (fun hHeldN=>?_)
      clear hHeld hK K
      have hHeld:=hHeldN
      clear hHeldN
      try simp only[zz]
      refine wpAnyH_ready (rs:=[13]) (by kernel_rfl) (by simp) ?_
      refine AllReadyH.cons rfl (fun K hK=>?_) (AllReadyH.nil)
      try simp only[zz]
      go_simp
      refine hK.out _ _ trivial (fun hHeldN=>?_)
      clear hHeld hK K
      have hHeld:=hHeldN
      clear hHeldN
      try simp only[zz]
      refine wpAnyH_done (by kernel_rfl) ?_ _
      refine NoPanic.normal ?_
      have hl':(P.app (.cons kd a b t i (body.app (.cons 5 1 0 ⟨false,0,0⟩ ⟨[],[]⟩ .nil .nil .nil)) els R)).len=n:=by rw[hn.out,hLc.out.1,Cms.len_app];simp only[Cms.len];omega
      have hT:=mut4A (c9:=c9) (cF:=cF) (cA:=cA) (cE:=cE) s2.out s3.out s4.out s5.out s6.out s8.out hx8.out same9.out e8 hne8 hk8.out hpl8.out hc8'.out hkb9.out hgb9.out hc.out hpl.out hgb F9.out
      replace hT:=Lib.hid hT
      replace hl':=Lib.hid hl'
      go_wp2_with fail
      refine bodyPost_ret (v:=.slice (some ⟨gb,0,none⟩) n c1) (by simp[results,Tryz.results60,go_sem]) rfl ⟨_,c1,P.app (.cons kd a b t i (body.app (.cons 5 1 0 ⟨false,0,0⟩ ⟨[],[]⟩ .nil .nil .nil)) els R),by rw[hl'.out],hT.out.1,?_,⟨_,by omega,hT.out.2⟩,by rw[hl'.out];exact hcap.out,by rw[hl'.out];exact hL1⟩
      have h1:=hLc.out;have h2:=hLS.out;rw[Cms.len_app,Cms.cost_app];simp only[Cms.len,Cms.cost,Cms.len_app,Cms.cost_app];simp;omega
     ·try simp only[zz]
      go_simp
      refine hK.out _ _ trivial (fun hHeldN=>?_)
      clear hHeld hK K
      have hHeld:=hHeldN
      clear hHeldN
      try simp only[zz]
      refine wpAnyH_ready (rs:=[10]) (by kernel_rfl) (by simp) ?_
      refine AllReadyH.cons rfl (fun K hK=>?_) (AllReadyH.nil)
      try simp only[zz]
      go_simp
      refine hK.out _ _ trivial (fun hHeldN=>?_)
      clear hHeld hK K
      have hHeld:=hHeldN
      clear hHeldN
      try simp only[zz]
      refine wpAnyH_done (by kernel_rfl) ?_ _
      refine NoPanic.normal ?_
      have hl':(P.app (.cons kd a b t i (body.app (.cons 5 1 0 ⟨false,0,0⟩ ⟨[],[]⟩ .nil .nil .nil)) els R)).len=n:=by rw[hn.out,hLc.out.1,Cms.len_app];simp only[Cms.len];omega
      have hT:=mut4B (c9:=c9) (cF:=cF) (cA:=cA) (cE:=cE) s2.out s3.out s4.out s5.out s6.out s8.out hx8.out same9.out e8 hne8 hk8.out hpl8.out hc8'.out hkb9.out hgb9.out hc.out hpl.out hgb F9.out
      replace hT:=Lib.hid hT
      replace hl':=Lib.hid hl'
      go_wp2_with fail
      refine bodyPost_ret (v:=.slice (some ⟨gb,0,none⟩) n c1) (by simp[results,Tryz.results60,go_sem]) rfl ⟨_,c1,P.app (.cons kd a b t i (body.app (.cons 5 1 0 ⟨false,0,0⟩ ⟨[],[]⟩ .nil .nil .nil)) els R),by rw[hl'.out],hT.out.1,?_,⟨_,by omega,hT.out.2⟩,by rw[hl'.out];exact hcap.out,by rw[hl'.out];exact hL1⟩
      have h1:=hLc.out;have h2:=hLS.out;rw[Cms.len_app,Cms.cost_app];simp only[Cms.len,Cms.cost,Cms.len_app,Cms.cost_app];simp;omega
    ·try simp only[zz]
     go_simp
     refine hK.out _ _ trivial (fun hHeldN=>?_)
     clear hHeld hK K
     have hHeld:=hHeldN
     clear hHeldN
     try simp only[zz]
     refine wpAnyH_ready (rs:=[9]) (by kernel_rfl) (by simp) ?_
     refine AllReadyH.cons rfl (fun K hK=>?_) (AllReadyH.nil)
     try simp only[zz]
     go_simp
     refine hK.out _ _ trivial (fun hHeldN=>?_)
     clear hHeld hK K
     have hHeld:=hHeldN
     clear hHeldN
     try simp only[zz]
     refine wpAnyH_ready (rs:=[10]) (by kernel_rfl) (by simp) ?_
     refine AllReadyH.cons rfl (fun K hK=>?_) (AllReadyH.nil)
     try simp only[zz]
     go_simp
     refine hK.out _ _ trivial (fun hHeldN=>?_)
     clear hHeld hK K
     have hHeld:=hHeldN
     clear hHeldN
     try simp only[zz]
     refine wpAnyH_done (by kernel_rfl) ?_ _
     refine NoPanic.normal ?_
     have hl':(P.app (.cons kd a b t i (body.app (.cons 5 1 0 ⟨false,0,0⟩ ⟨[],[]⟩ .nil .nil .nil)) els R)).len=n:=by rw[hn.out,hLc.out.1,Cms.len_app];simp only[Cms.len];omega
     have hT:=mut4B (c9:=c9) (cF:=cF) (cA:=cA) (cE:=cE) s2.out s3.out s4.out s5.out s6.out s8.out hx8.out same9.out e8 hne8 hk8.out hpl8.out hc8'.out hkb9.out hgb9.out hc.out hpl.out hgb F9.out
     replace hT:=Lib.hid hT
     replace hl':=Lib.hid hl'
     go_wp2_with fail
     refine bodyPost_ret (v:=.slice (some ⟨gb,0,none⟩) n c1) (by simp[results,Tryz.results60,go_sem]) rfl ⟨_,c1,P.app (.cons kd a b t i (body.app (.cons 5 1 0 ⟨false,0,0⟩ ⟨[],[]⟩ .nil .nil .nil)) els R),by rw[hl'.out],hT.out.1,?_,⟨_,by omega,hT.out.2⟩,by rw[hl'.out];exact hcap.out,by rw[hl'.out];exact hL1⟩
     have h1:=hLc.out;have h2:=hLS.out;rw[Cms.len_app,Cms.cost_app];simp only[Cms.len,Cms.cost,Cms.len_app,Cms.cost_app];simp;omega
  ·try simp only[zz]
   go_simp
   refine hK.out _ _ trivial (fun hHeldN=>?_)
   clear hHeld hK K
   have hHeld:=hHeldN
   clear hHeldN
   try simp only[zz]
   refine wpAnyH_ready (rs:=[4]) (by kernel_rfl) (by simp) ?_
   refine AllReadyH.cons rfl (fun K hK=>?_) (AllReadyH.nil)
   try simp only[zz]
   go_simp
   refine hK.out _ _ trivial (fun hHeldN=>?_)
   clear hHeld hK K
   have hHeld:=hHeldN
   clear hHeldN
   try simp only[zz]
   refine wpAnyH_ready (rs:=[6]) (by kernel_rfl) (by simp) ?_
   refine AllReadyH.cons rfl (fun K hK=>?_) (AllReadyH.nil)
   try simp only[zz]
   go_simp
   refine hK.out _ _ trivial (fun hHeldN=>?_)
   clear hHeld hK K
   have hHeld:=hHeldN
   clear hHeldN
   try simp only[zz]
   refine wpAnyH_ready (rs:=[8]) (by kernel_rfl) (by simp) ?_
   refine AllReadyH.cons rfl (fun K hK=>?_) (AllReadyH.nil)
   skip
   refine stepCX (base:=w.heap.size) (g0:=w3.heap.size) rfl _ _ rfl rfl own7.out (tenL 0 0 0 ⟨false,0,0⟩ (.slice none 0 0) (.slice none 0 0) (.slice none 0 0) (.slice none 0 0)) rfl (Blk.new w3.drew tC _) rfl rfl (tenOne _ _ _ _ _ _ _ _ _ _ _ _ _ _ _ _) (by omega) (by simp;omega) ?_;intro A9 c9 w9 o9 g9 B9 v9;obtain ⟨g8,cur8,rfl,e8,hk8,hob8,hc8⟩:=row_open o9 (by omega)
   have hgn:(Value.slice AB body.len cB).ownBlock≠some gb:=fun e=>(s1.out gb e).2 rfl
   have same9:∀ x,x<w3.heap.size→(Value.slice AB body.len cB).ownBlock≠some x→w9.heap[x]? = w3.heap[x]?:=fun x h1 h2=>(g9.block x (by simp;omega) (fun e=>h2 e.symm)).trans (kept.out x h1)
   have y89:w9.cell? ⟨gb,k * 10+8,none⟩=some (.slice AB body.len cB):=(World.cell?_of_block (a:=⟨gb,k * 10+8,none⟩) (same9 gb hlb hgn)).trans y8
   have hkb9:Blk w9 gb tC cur:=(same9 gb hlb hgn).trans hkb.out
   have fr9:=hkb9.frozen
   have fr8:=hk8.frozen
   have hpl8:csB.length=body.len * 10:=s8.out.len
   have hne8:gb≠g8:=fun e=>v9.elim (fun h=>hgn (Eq.trans (show (Value.slice AB body.len cB).ownBlock=(Value.slice (some ⟨g8,0,none⟩) (body.len+1) c9).ownBlock from h.symm) (hob8.trans (by rw[e])))) (fun h=>by rw[hob8] at h;injection h with h;simp at h;omega)
   have hc8':∀ j u,(csB++([.int .i64 0,.int .i64 0,.int .i64 0,.bool false,.int .i64 0,.int .i64 0,.slice none 0 0,.slice none 0 0,.slice none 0 0,.slice none 0 0]++[]))[j]? = some u→w9.cell? ⟨g8,j,none⟩=some u:=fun j u hu=>hc8 j u (by rw[List.append_nil] at hu;exact hu)
   have zz0:w9.cell? ⟨g8,body.len * 10,none⟩=some (.int .i64 0):=hc8' _ _ (mid (d:=0) hpl8 (by rfl))
   have zz1:w9.cell? ⟨g8,body.len * 10+1,none⟩=some (.int .i64 0):=hc8' _ _ (mid (d:=1) hpl8 (by rfl))
   have zz2:w9.cell? ⟨g8,body.len * 10+2,none⟩=some (.int .i64 0):=hc8' _ _ (mid (d:=2) hpl8 (by rfl))
   have zz3:w9.cell? ⟨g8,body.len * 10+3,none⟩=some (.bool false):=hc8' _ _ (mid (d:=3) hpl8 (by rfl))
   have zz4:w9.cell? ⟨g8,body.len * 10+4,none⟩=some (.int .i64 0):=hc8' _ _ (mid (d:=4) hpl8 (by rfl))
   have zz5:w9.cell? ⟨g8,body.len * 10+5,none⟩=some (.int .i64 0):=hc8' _ _ (mid (d:=5) hpl8 (by rfl))
   have zz6:w9.cell? ⟨g8,body.len * 10+6,none⟩=some (.slice none 0 0):=hc8' _ _ (mid (d:=6) hpl8 (by rfl))
   have zz7:w9.cell? ⟨g8,body.len * 10+7,none⟩=some (.slice none 0 0):=hc8' _ _ (mid (d:=7) hpl8 (by rfl))
   have zz8:w9.cell? ⟨g8,body.len * 10+8,none⟩=some (.slice none 0 0):=hc8' _ _ (mid (d:=8) hpl8 (by rfl))
   have zz9:w9.cell? ⟨g8,body.len * 10+9,none⟩=some (.slice none 0 0):=hc8' _ _ (mid (d:=9) hpl8 (by rfl))
   have hb1:(body.len:Int)<(body.len:Int)+1:=by omega
   have hx8:∀ x,x<w3.heap.size→(Value.slice AB body.len cB).ownBlock≠some x→x≠g8:=fun x h1 h2 e=>v9.elim (fun h=>h2 (Eq.trans (show (Value.slice AB body.len cB).ownBlock=(Value.slice (some ⟨g8,0,none⟩) (body.len+1) c9).ownBlock from h.symm) (hob8.trans (by rw[e])))) (fun h=>by rw[hob8] at h;injection h with h;simp at h;omega)
   have F9:Rdf g (p+1+1) w w9:=((F3.out.drew).alloc _).goB B9 (Nat.le_refl _)
   have hgb9:w9.heap[gb]? = w3.heap[gb]?:=same9 gb hlb hgn
   have z9:=B9.size
   simp at z9
   replace hx8:=Lib.hid hx8
   replace F9:=Lib.hid F9
   replace hgb9:=Lib.hid hgb9
   replace same9:=Lib.hid same9
   replace hc8':=Lib.hid hc8'
   replace hk8:=Lib.hid hk8
   replace hkb9:=Lib.hid hkb9
   replace g9:=Lib.hid g9
   replace B9:=Lib.hid B9
   replace v9:=Lib.hid v9
   replace o9:=Lib.hid o9
   replace hpl8:=Lib.hid hpl8
   replace hob8:=Lib.hid hob8
   clear hc8 hgn
   refine hK.out _ _ trivial (fun hHeldN=>?_)
   clear hHeld hK K
   have hHeld:=hHeldN
   clear hHeldN
   try simp only[zz]
   refine tk2 11 rfl hHeld ?_
   try simp only[zz]
   refine tk2 12 rfl hHeld ?_
   try simp only[zz]
   refine wpAnyH_ready (rs:=[9,13]) (by kernel_rfl) (by simp) ?_
   refine AllReadyH.cons rfl (fun K hK=>?_) (AllReadyH.cons rfl (fun K hK=>?_) (AllReadyH.nil))
   ·try simp only[zz]
    go_simp
    refine hK.out _ _ trivial (fun hHeldN=>?_)
    clear hHeld hK K
    have hHeld:=hHeldN
    clear hHeldN
    try simp only[zz]
    refine wpAnyH_ready (rs:=[10,13]) (by kernel_rfl) (by simp) ?_
    refine AllReadyH.cons rfl (fun K hK=>?_) (AllReadyH.cons rfl (fun K hK=>?_) (AllReadyH.nil))
    ·try simp only[zz]
     go_simp
     refine hK.out _ _ trivial (fun hHeldN=>?_)
     clear hHeld hK K
     have hHeld:=hHeldN
     clear hHeldN
     try simp only[zz]
     refine wpAnyH_ready (rs:=[13]) (by kernel_rfl) (by simp) ?_
     refine AllReadyH.cons rfl (fun K hK=>?_) (AllReadyH.nil)
     try simp only[zz]
     go_simp
     refine hK.out _ _ trivial (fun hHeldN=>?_)
     clear hHeld hK K
     have hHeld:=hHeldN
     clear hHeldN
     try simp only[zz]
     refine wpAnyH_done (by kernel_rfl) ?_ _
     refine NoPanic.normal ?_
     have hl':(P.app (.cons kd a b t i (body.app (.cons 5 1 0 ⟨false,0,0⟩ ⟨[],[]⟩ .nil .nil .nil)) els R)).len=n:=by rw[hn.out,hLc.out.1,Cms.len_app];simp only[Cms.len];omega
     have hT:=mut4A (c9:=c9) (cF:=cF) (cA:=cA) (cE:=cE) s2.out s3.out s4.out s5.out s6.out s8.out hx8.out same9.out e8 hne8 hk8.out hpl8.out hc8'.out hkb9.out hgb9.out hc.out hpl.out hgb F9.out
     replace hT:=Lib.hid hT
     replace hl':=Lib.hid hl'
     go_wp2_with fail
     refine bodyPost_ret (v:=.slice (some ⟨gb,0,none⟩) n c1) (by simp[results,Tryz.results60,go_sem]) rfl ⟨_,c1,P.app (.cons kd a b t i (body.app (.cons 5 1 0 ⟨false,0,0⟩ ⟨[],[]⟩ .nil .nil .nil)) els R),by rw[hl'.out],hT.out.1,?_,⟨_,by omega,hT.out.2⟩,by rw[hl'.out];exact hcap.out,by rw[hl'.out];exact hL1⟩
     have h1:=hLc.out;have h2:=hLS.out;rw[Cms.len_app,Cms.cost_app];simp only[Cms.len,Cms.cost,Cms.len_app,Cms.cost_app];simp;omega
    ·try simp only[zz]
     go_simp
     refine hK.out _ _ trivial (fun hHeldN=>?_)
     clear hHeld hK K
     have hHeld:=hHeldN
     clear hHeldN
     try simp only[zz]
     refine wpAnyH_ready (rs:=[10]) (by kernel_rfl) (by simp) ?_
     refine AllReadyH.cons rfl (fun K hK=>?_) (AllReadyH.nil)
     try simp only[zz]
     go_simp
     refine hK.out _ _ trivial (fun hHeldN=>?_)
     clear hHeld hK K
     have hHeld:=hHeldN
     clear hHeldN
     try simp only[zz]
     refine wpAnyH_done (by kernel_rfl) ?_ _
     refine NoPanic.normal ?_
     have hl':(P.app (.cons kd a b t i (body.app (.cons 5 1 0 ⟨false,0,0⟩ ⟨[],[]⟩ .nil .nil .nil)) els R)).len=n:=by rw[hn.out,hLc.out.1,Cms.len_app];simp only[Cms.len];omega
     have hT:=mut4B (c9:=c9) (cF:=cF) (cA:=cA) (cE:=cE) s2.out s3.out s4.out s5.out s6.out s8.out hx8.out same9.out e8 hne8 hk8.out hpl8.out hc8'.out hkb9.out hgb9.out hc.out hpl.out hgb F9.out
     replace hT:=Lib.hid hT
     replace hl':=Lib.hid hl'
     go_wp2_with fail
     refine bodyPost_ret (v:=.slice (some ⟨gb,0,none⟩) n c1) (by simp[results,Tryz.results60,go_sem]) rfl ⟨_,c1,P.app (.cons kd a b t i (body.app (.cons 5 1 0 ⟨false,0,0⟩ ⟨[],[]⟩ .nil .nil .nil)) els R),by rw[hl'.out],hT.out.1,?_,⟨_,by omega,hT.out.2⟩,by rw[hl'.out];exact hcap.out,by rw[hl'.out];exact hL1⟩
     have h1:=hLc.out;have h2:=hLS.out;rw[Cms.len_app,Cms.cost_app];simp only[Cms.len,Cms.cost,Cms.len_app,Cms.cost_app];simp;omega
   ·try simp only[zz]
    go_simp
    refine hK.out _ _ trivial (fun hHeldN=>?_)
    clear hHeld hK K
    have hHeld:=hHeldN
    clear hHeldN
    try simp only[zz]
    refine wpAnyH_ready (rs:=[9]) (by kernel_rfl) (by simp) ?_
    refine AllReadyH.cons rfl (fun K hK=>?_) (AllReadyH.nil)
    try simp only[zz]
    go_simp
    refine hK.out _ _ trivial (fun hHeldN=>?_)
    clear hHeld hK K
    have hHeld:=hHeldN
    clear hHeldN
    try simp only[zz]
    refine wpAnyH_ready (rs:=[10]) (by kernel_rfl) (by simp) ?_
    refine AllReadyH.cons rfl (fun K hK=>?_) (AllReadyH.nil)
    try simp only[zz]
    go_simp
    refine hK.out _ _ trivial (fun hHeldN=>?_)
    clear hHeld hK K
    have hHeld:=hHeldN
    clear hHeldN
    try simp only[zz]
    refine wpAnyH_done (by kernel_rfl) ?_ _
    refine NoPanic.normal ?_
    have hl':(P.app (.cons kd a b t i (body.app (.cons 5 1 0 ⟨false,0,0⟩ ⟨[],[]⟩ .nil .nil .nil)) els R)).len=n:=by rw[hn.out,hLc.out.1,Cms.len_app];simp only[Cms.len];omega
    have hT:=mut4B (c9:=c9) (cF:=cF) (cA:=cA) (cE:=cE) s2.out s3.out s4.out s5.out s6.out s8.out hx8.out same9.out e8 hne8 hk8.out hpl8.out hc8'.out hkb9.out hgb9.out hc.out hpl.out hgb F9.out
    replace hT:=Lib.hid hT
    replace hl':=Lib.hid hl'
    go_wp2_with fail
    refine bodyPost_ret (v:=.slice (some ⟨gb,0,none⟩) n c1) (by simp[results,Tryz.results60,go_sem]) rfl ⟨_,c1,P.app (.cons kd a b t i (body.app (.cons 5 1 0 ⟨false,0,0⟩ ⟨[],[]⟩ .nil .nil .nil)) els R),by rw[hl'.out],hT.out.1,?_,⟨_,by omega,hT.out.2⟩,by rw[hl'.out];exact hcap.out,by rw[hl'.out];exact hL1⟩
    have h1:=hLc.out;have h2:=hLS.out;rw[Cms.len_app,Cms.cost_app];simp only[Cms.len,Cms.cost,Cms.len_app,Cms.cost_app];simp;omega
 have b4:((m:Int) == 4)=false:=by simpa using hm4
 clear hm4
 go_wp2_with fail
 refine bodyPost_ret (v:=.slice (some ⟨gb,0,none⟩) n c1) (by simp[results,Tryz.results60,go_sem]) rfl ⟨_,c1,L,by rw[←hn.out],?_,?_,⟨_,by omega,F3.out⟩,by rw[←hn.out];exact hcap.out,by rw[←hn.out];exact hL1⟩
 ·rw[eL.out]
  exact mut_close Y2.out Y3.out Y4.out Y5.out Y8.out Y6.out (fun _ _ _ _=>rfl) hgb hlb hc.out
 ·have:=hLS.out;omega
end

end Go.Proofs.YtmcgbeladjlcpaaGreat
