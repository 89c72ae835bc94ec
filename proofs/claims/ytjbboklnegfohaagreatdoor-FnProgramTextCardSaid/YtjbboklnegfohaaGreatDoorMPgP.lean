/- Contracts: blocks of commands from texts (impl): block. -/
import Derived.Test.YtjbboklnegfohaaGreatDoorMPgD
import Derived.Test.YtjbboklnegfohaaGreatDoorMPrgM
import Derived.Test.YtjbboklnegfohaaGreatDoorCmdJ
import Derived.Test.YtjbboklnegfohaaGreatDoorMFrame
set_option linter.unusedSimpArgs false
set_option linter.unusedVariables false
namespace Go.Proofs.YtjbboklnegfohaaGreatDoor
open Go Go.RowKit Go.Proofs
theorem preC_app (A:Cms) (c:Cr) (x:Option (Cms×Bs)):preC A (consI c x)=preC (A.app (.one1 c.1 c.2.1 c.2.2.1 .nil)) x:=by
 obtain ⟨h,body,els,r⟩:=c
 exact preC_cons A h body els r x
theorem cut_fst_le (l s:Bs):(Lib.cut l s).1.length≤l.length:=(cut_len l s).1
theorem Fr.thenB {w a b:World} {g B:Nat} (h:Fr g w a) (k:Below B a b) (hB:w.heap.size≤B):Fr g w b:=⟨k.os.trans h.os,k.tape.trans h.tape,k.output.trans h.output,Nat.le_trans h.size k.size,fun i h1 h2=>(k.block i (by omega)).trans (h.block i h1 h2)⟩
set_option maxRecDepth 100000 in
set_option maxHeartbeats 25600000 in
theorem c_blk {rb:Nat} (hrb:1<rb) (m:Nat):m≤1049001→∀ d:Nat,d≤5→SubOk rb d m (rdB m d 0):=by
 induction m using Nat.strongRecOn with
 | _ m IH=>
 intro hm d hd w l hT hk hl
 replace IH:=Lib.hid IH
 obtain ⟨R,hR⟩:∃ R,R=rdB m d 0 l:=⟨_,rfl⟩
 rw[←hR]
 have HR:=Lib.hid (show preC .nil (rdB m d Cms.nil.len l)=R by rw[preC_nil];exact hR.symm)
 have HT:=Lib.hid hT
 have hrl:=hk.lt
 clear hR hT
 go_enter Tryz.func15,Tryz.ntmps15
 go_wp2_with fail
 go_loopg [6] m (fun gh s6 wr=>∃ (A:Cms) (t:Bs) (k:Nat),Hid (QR wr w.heap.size wr.heap.size s6 A)∧Hid (preC A (rdB k d A.len t)=R)∧t.length<k∧k≤gh∧k≤m∧A.len≤16∧Hid (TM wr)∧Blk wr rb tLR #[sv t]∧Hid (Fr rb w wr)∧w.heap.size≤wr.heap.size)
 case atStart=>exact ⟨.nil,l,m,Lib.hid (QR.nil _ (Nat.le_refl _)),HR,hl,Nat.le_refl _,Nat.le_refl _,by simp[Cms.len],HT,hk,Lib.hid (Fr.refl _ _),Nat.le_refl _⟩
 case round=>
  clear hk HR HT hl
  obtain ⟨A,t,k,hQ,hR,htk,hkg,hkm,hA,HT,kr,HB,hz⟩:=hrel
  obtain ⟨k,rfl⟩:∃ q,k=q+1:=⟨k - 1,by omega⟩
  obtain ⟨AL,cL,rfl,-⟩:=hQ.out.reads
  have K1:=Lib.hid (c_peek wr HT.out kr (by omega))
  have K2:=Lib.hid fun (W:World) (hT:TM W) (h:Blk W rb tLR #[sv t])=>c_skip W hT h (by omega)
  have hstop:=Lib.hid fun h=>rdB_stop (m:=k) (d:=d) (n:=A.len) (l:=t) h
  have hfull:=Lib.hid fun h=>rdB_full (m:=k) (d:=d) (n:=A.len) (l:=t) h
  have hnext:=Lib.hid fun h=>rdB_next (m:=k) (d:=d) (n:=A.len) (l:=t) h
  have hcl:=cut_fst_le t [10]
  have hcs:=Lib.hid fun h=>cut_lt (l:=t) (s:=[10]) h (by simp)
  obtain ⟨line,hline⟩:∃ x,x=(Lib.cut t [10]).1:=⟨_,rfl⟩
  obtain ⟨rest,hrest⟩:∃ x,x=(Lib.cut t [10]).2.1:=⟨_,rfl⟩
  obtain ⟨fd,hfd⟩:∃ x,x=(Lib.cut t [10]).2.2:=⟨_,rfl⟩
  rw[←hline,←hfd] at K1 hstop hfull hnext
  rw[←hrest] at K2 hnext hcs
  rw[←hline] at hcl
  rw[←hfd] at hcs
  clear hline hrest hfd
  go_wp2_with fail
  refine K1.out.mono ?_
  rintro e w1 ⟨rfl,hB1⟩
  have hz1:=hB1.size
  replace HB:=Lib.hid (HB.out.go hB1)
  replace HT:=Lib.hid (HT.out.below hB1)
  replace kr:=kr.next hB1
  replace hQ:=Lib.hid (hQ.out.below hB1)
  clear K1 hB1
  by_cases hst:fd=false∨line=elseL∨line=endL
  ·have hE:R=some (A,t):=by
    have:=hR.out
    rw[hstop.out hst] at this
    simp only[preC,Cms.app_nil] at this
    exact this.symm
   have hfin:∀ W:World,W=w1→∃ v,(Ending.returned (.tuple #[.slice AL A.len cL,.bool true]):Ending)=.returned (.tuple #[v,.bool R.isSome])∧∃ t,BkAns rb w W v t R:=by
    rintro W rfl
    rw[hE]
    exact ⟨_,rfl,t,⟨_,_,_,rfl⟩,HB.out,kr,fun L r h=>by injection h with h;injection h with h1 h2;subst h1 h2;exact ⟨rfl,hQ.out.mono (Nat.le_refl _) hz1⟩⟩
   replace hfin:=Lib.hid hfin
   clear hstop hfull hnext K2 hcs hE
   cases fd with
   | false=>
    clear hst
    go_wp2_with fail
    refine bodyPost_ret (v:=.tuple #[.slice AL A.len cL,.bool true]) (by simp[results,Tryz.results15,go_sem]) rfl (hfin.out _ rfl)
   | true=>
    by_cases he:line=elseL
    ·subst he
     clear hst
     go_wp2_with fail
     refine bodyPost_ret (v:=.tuple #[.slice AL A.len cL,.bool true]) (by simp[results,Tryz.results15,go_sem]) rfl (hfin.out _ rfl)
    ·have hen:line=endL:=by rcases hst with h|h|h;cases h;exact absurd h he;exact h
     subst hen
     clear hst he
     go_wp2_with fail
     refine bodyPost_ret (v:=.tuple #[.slice AL A.len cL,.bool true]) (by simp[results,Tryz.results15,go_sem]) rfl (hfin.out _ rfl)
  ·have hfd:fd=true:=by cases fd;exact absurd (Or.inl rfl) hst;rfl
   have he1:¬line=elseL:=fun h=>hst (Or.inr (Or.inl h))
   have he2:¬line=endL:=fun h=>hst (Or.inr (Or.inr h))
   have he1b:(line == [101,108,115,101])=false:=by rw[bytes_eq];simpa using he1
   have he2b:(line == [101,110,100])=false:=by rw[bytes_eq];simpa using he2
   replace hfull:=Lib.hid (hfull.out hst)
   replace hnext:=Lib.hid (hnext.out hst)
   have hrest:=hcs.out hfd
   subst hfd
   clear hst he1 he2 hstop hcs
   by_cases hF:4<d∨A.len=16
   ·have hE:R=none:=by
     have:=hR.out
     rw[hfull.out hF] at this
     exact this.symm
    have hfin:∀ W:World,W=w1→∃ v,(Ending.returned (.tuple #[.slice none 0 0,.bool false]):Ending)=.returned (.tuple #[v,.bool R.isSome])∧∃ t,BkAns rb w W v t R:=by
     rintro W rfl
     rw[hE]
     exact ⟨_,rfl,t,⟨_,_,_,rfl⟩,HB.out,kr,fun L r h=>by cases h⟩
    replace hfin:=Lib.hid hfin
    clear hfull hnext K2 hE
    by_cases h4:4<d
    ·have h4i:(4:Int)<(d:Int):=by omega
     clear hF
     go_wp2_with fail
     refine bodyPost_ret (v:=.tuple #[.slice none 0 0,.bool false]) (by simp[results,Tryz.results15,go_sem]) rfl (hfin.out _ rfl)
    ·have h4i:¬(4:Int)<(d:Int):=by omega
     have h16:(((A.len:Nat):Int) == 16)=true:=by simp;omega
     clear hF
     go_wp2_with fail
     refine bodyPost_ret (v:=.tuple #[.slice none 0 0,.bool false]) (by simp[results,Tryz.results15,go_sem]) rfl (hfin.out _ rfl)
   ·have h4i:¬(4:Int)<(d:Int):=by omega
    have h16:(((A.len:Nat):Int) == 16)=false:=by simp;omega
    have hd4:d≤4:=by omega
    have hA15:A.len≤15:=by omega
    have hN:=Lib.hid (hnext.out hF)
    clear hF hfull hnext
    have KC:=Lib.hid fun (W:World) (hT:TM W) (h:Blk W rb tLR #[sv rest])=>c_cmd (rb:=rb) (M:=k) (sub:=rdB k (d+1) 0) d (by have:=IH.out k (by omega) (by omega) (d+1) (by omega);simpa only[Int.natCast_add,Int.cast_ofNat_Int] using this) (rdB_le _ _ _) (by omega) line rest W hT hrb h (by omega) (by omega) hd4
    have hCL:=Lib.hid fun c h=>cmI_len (rdB_le k (d+1) 0) (line:=line) (rest:=rest) (c:=c) h
    obtain ⟨X,hX⟩:∃ X,X=cmI (rdB k (d+1) 0) line rest:=⟨_,rfl⟩
    rw[←hX] at KC hN hCL
    clear hX
    go_wp2_with fail
    refine (K2.out w1 HT.out kr).mono ?_
    rintro e w2 ⟨rfl,kr2,hF2⟩
    have hz2:=hF2.size
    replace HB:=Lib.hid (HB.out.trans hF2)
    replace HT:=Lib.hid (HT.out.fr hF2 hrb)
    replace hQ:=Lib.hid (hQ.out.fr hF2 (by omega))
    clear K2 kr hF2
    go_wp2_with fail
    refine (KC.out w2 HT.out kr2).mono ?_
    rintro e w3 ⟨v,rfl,t3,hC⟩
    have hF3:=hC.2.1
    have hz3:=hF3.size
    replace HB:=Lib.hid (HB.out.trans hF3)
    replace HT:=Lib.hid (HT.out.fr hF3 hrb)
    replace hQ:=Lib.hid (hQ.out.fr hF3 (by omega))
    have kr:=hC.2.2.1
    clear KC kr2 hF3
    cases X with
    | none=>
     have hE:R=none:=by
      have:=hR.out
      rw[hN.out] at this
      exact this.symm
     obtain ⟨ck,ca,cb,ct,cx,cy,A6,A7,A8,A9,n6,c6,n7,c7,n8,c8,n9,c9,rfl⟩:=hC.1
     clear hC hN hCL
     have hfin:∀ W:World,Below w3.heap.size w3 W→∃ v,(Ending.returned (.tuple #[.slice none 0 0,.bool false]):Ending)=.returned (.tuple #[v,.bool R.isSome])∧∃ t,BkAns rb w W v t R:=by
      intro W hW
      rw[hE]
      exact ⟨_,rfl,t3,⟨_,_,_,rfl⟩,HB.out.go hW,kr.next hW,fun L r h=>by cases h⟩
     replace hfin:=Lib.hid hfin
     clear hE
     go_wp2_with fail
     refine bodyPost_ret (v:=.tuple #[.slice none 0 0,.bool false]) (by simp[results,Tryz.results15,go_sem]) rfl (hfin.out _ (bbox (Below.refl _ _) _))
    | some c=>
     obtain ⟨⟨hk,ha,hb,ht,hi⟩,body,els,r⟩:=c
     obtain ⟨e1,hC1⟩:=hC.2.2.2 _ rfl
     simp only at e1 hC1
     subst e1
     have hrl3:=hCL.out _ rfl
     simp only at hrl3
     obtain ⟨AF,cF,AA,cA,AB,cB,AE,cE,rfl⟩:=hC1.form
     simp only at hC1 ⊢
     have hR3:Hid (preC (A.app (.one1 ⟨hk,ha,hb,ht,hi⟩ body els .nil)) (rdB k d (A.len+1) t3)=R):=Lib.hid (by
      have:=hR.out
      rw[hN.out] at this
      simp only[preC_app] at this
      exact this)
     clear hC hN hCL hR
     go_upto_region 9 with fail
     refine bx1 (w:=w3) (F:=Code.wp _ _ _ _) ?_
     rintro w4 k4 hB4 hz4
     replace hz4:w3.heap.size<w4.heap.size:=by omega
     replace HB:=Lib.hid (HB.out.go hB4)
     replace HT:=Lib.hid (HT.out.below hB4)
     replace kr:=Lib.hid (kr.next hB4)
     replace hQ:=Lib.hid (hQ.out.below hB4)
     have hC4:=Lib.hid ((hC1.keep fun b _ _ h3=>hB4.block b h3).low (show wr.heap.size≤w2.heap.size by omega) (Nat.le_refl _))
     obtain ⟨cs,ho,hU,hlim,hT⟩:=hQ.out
     have ho9:=Lib.hid ho
     have hT9:=Lib.hid hT
     have hU9:=Lib.hid hU
     clear ho hT hU hC1 hQ hB4
     have q4:=k4.cell
     have r4:=k4.frozen
     have l4:=k4.lt
     have hfin:A.len+1≤1049600:=by omega
     have hw4:w.heap.size≤w4.heap.size:=by omega
     go_wp2_with (at_builtin;(refine appCX (base:=w.heap.size) (g0:=w4.heap.size) rfl _ _ rfl rfl (own_below ho9.out (bbox (Below.refl _ _) _)) (tenL hk ha hb ht (.slice AF hi.facts.length cF) (.slice AA hi.atoms.length cA) (.slice AB body.len cB) (.slice AE els.len cE)) rfl (Blk.new _ _ _) rfl rfl (tenOne _ _ _ _ _ _ _ _ _ _ _ _ _ _ _ _) hfin (by simp;omega) ?_);(intro A8 c8 w8 o8 g8 B8 v8;have o8:=Lib.hid o8;have g8:=Lib.hid g8;have v8:=Lib.hid v8;have B8:=Lib.hid B8))
     obtain ⟨wy,hwy⟩:∃ z,z=w4.alloc (.cells (tenL hk ha hb ht (.slice AF hi.facts.length cF) (.slice AA hi.atoms.length cA) (.slice AB body.len cB) (.slice AE els.len cE)).toArray tC):=⟨_,rfl⟩
     have hBy:Below w4.heap.size w4 wy:=by rw[hwy];exact bbox (Below.refl _ _) _
     have hzy:=hBy.size
     have N8:QR w8 w.heap.size w8.heap.size (.slice A8 (A.len+1) c8) (A.app (.one1 ⟨hk,ha,hb,ht,hi⟩ body els .nil)):=QR.grow (w:=wy) (h:=⟨hk,ha,hb,ht,hi⟩) (hT9.out.keep fun b _ _ _ h=>hBy.block b h) hfin hU9.out ⟨(by omega:wr.heap.size≤w3.heap.size),by omega⟩ (hC4.out.keep fun b _ _ h=>hBy.block b h) o8.out (by rw[hwy];exact g8.out) (by rw[hwy];exact v8.out)
     have B9:Below w.heap.size wy w8:=by rw[hwy];exact B8.out
     have HB8:=Lib.hid ((HB.out.go hBy).thenB B9 (Nat.le_refl _))
     have HT8:=Lib.hid ((HT.out.below hBy).nb B9 (by omega))
     have kr8:Blk w8 rb tLR #[sv t3]:=(B9.block rb hrl).trans (kr.out.next hBy)
     have hz8:=B9.size
     have hLl:(A.app (.one1 ⟨hk,ha,hb,ht,hi⟩ body els .nil)).len=A.len+1:=by rw[Cms.len_app];rfl
     replace N8:=Lib.hid N8
     clear hwy
     go_roundg (gk - 1)
     case rel=>exact ⟨_,t3,k,N8,Lib.hid (by rw[hLl];exact hR3.out),by omega,by omega,by omega,by rw[hLl];omega,HT8,kr8,HB8,by omega⟩
     case measure=>omega
end Go.Proofs.YtjbboklnegfohaaGreatDoor

/- Contracts: programs from texts (impl.ParseProgram). -/
namespace Go.Proofs.YtjbboklnegfohaaGreatDoor
open Go Go.RowKit Go.Proofs
set_option maxRecDepth 100000 in
set_option maxHeartbeats 12800000 in
theorem c_iPP (l:Bs) (w:World) (hT:TM w) (hl:l.length≤1049000):Calls Tryz.prog 6 #[sv l] w fun e w'=>∃ v,e=.returned (.tuple #[v,.bool (pPI l).isSome])∧QR w' w.heap.size w'.heap.size v ((pPI l).getD .nil)∧Below w.heap.size w w':=by
 obtain ⟨P,hP⟩:∃ P,P=pPI l:=⟨_,rfl⟩
 rw[←hP]
 unfold pPI at hP
 have hw1:=hT.2.1
 have KB:=Lib.hid fun (W:World) (hT:TM W) (h:Blk W w.heap.size tLR #[sv l])=>c_blk (rb:=w.heap.size) hw1 (l.length+1) (by omega) 1 (by omega) W l hT h (by omega)
 obtain ⟨R,hR⟩:∃ R,R=rdB (l.length+1) 1 0 l:=⟨_,rfl⟩
 rw[←hR] at hP KB
 have h1:((1:Nat):Int)=1:=rfl
 rw[h1] at KB
 clear hR h1
 have HT:=Lib.hid hT
 replace hP:=Lib.hid hP
 go_enter Tryz.func6,Tryz.ntmps6
 go_upto_region 2 with fail
 refine bx1 (w:=w) (F:=Code.wp _ _ _ _) ?_
 rintro W k0 hB hWs
 replace HT:=Lib.hid (HT.out.below hB)
 replace hWs:w.heap.size<W.heap.size:=by omega
 have HB:=Lib.hid hB
 clear hB hT
 go_wp2_with fail
 refine (KB.out W HT.out k0).mono ?_
 rintro e w1 ⟨v,rfl,t,⟨A,n,c,rfl⟩,hF,k1,hX⟩
 have hz:=hF.size
 replace HB:=Lib.hid (HB.out.trans (hF.below (Nat.le_refl _) (by omega)))
 have q1:=k1.cell
 have r1:=k1.frozen
 clear KB k0
 cases R with
 | none=>
  have e1:P=none:=hP.out
  subst e1
  clear hX hP
  go_wp2_with fail
  go_ret2
  exact ⟨_,rfl,QR.nil _ (by omega),HB.out⟩
 | some p=>
  obtain ⟨L,r⟩:=p
  obtain ⟨rfl,hQ⟩:=hX _ _ rfl
  obtain ⟨A',c',e',hV⟩:=hQ.reads
  injection e' with e1 e2 e3
  subst e1 e2 e3
  have hP1:Hid (P=if t=[]∧L.prog=true then some L else none):=hP
  have KV:=Lib.hid (c_impl_ProgramValid (lo:=W.heap.size) (hi:=w1.heap.size) L A c w1 hV hQ.lim hQ.small)
  replace hQ:=Lib.hid hQ
  clear hX hP hV
  by_cases ht:t=[]
  ·subst ht
   cases hp:L.prog with
   | true=>
    rw[hp] at KV
    have e1:P=some L:=by rw[hP1.out,if_pos ⟨rfl,hp⟩]
    subst e1
    replace hp:=Lib.hid hp
    clear hP1
    go_wp2_with fail
    refine KV.out.mono ?_
    rintro e w2 ⟨rfl,hB2⟩
    go_wp2_with fail
    go_ret2
    exact ⟨_,rfl,(hQ.out.below hB2).mono (by omega) hB2.size,bgo HB.out hB2⟩
   | false=>
    rw[hp] at KV
    have e1:P=none:=by rw[hP1.out,if_neg (by rintro ⟨-,h⟩;rw[hp] at h;cases h)]
    subst e1
    clear hP1 hp
    go_wp2_with fail
    refine KV.out.mono ?_
    rintro e w2 ⟨rfl,hB2⟩
    go_wp2_with fail
    go_ret2
    exact ⟨_,rfl,QR.nil _ (by have:=hB2.size;omega),bgo HB.out hB2⟩
  ·have e1:P=none:=by rw[hP1.out,if_neg (fun h=>ht h.1)]
   subst e1
   have htb:(t == [])=false:=by rw[bytes_eq];simpa using ht
   replace ht:=Lib.hid ht
   clear hP1 KV
   go_wp2_with fail
   go_ret2
   exact ⟨_,rfl,QR.nil _ (by omega),HB.out⟩
end Go.Proofs.YtjbboklnegfohaaGreatDoor
