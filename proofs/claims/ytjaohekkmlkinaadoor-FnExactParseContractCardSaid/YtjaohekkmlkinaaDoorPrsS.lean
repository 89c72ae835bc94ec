/- Contracts: contracts from texts (spec). -/
import Derived.Test.YtjaohekkmlkinaaDoorPrsC
import Derived.Test.YtjaohekkmlkinaaDoorStrJ
set_option linter.unusedSimpArgs false
set_option linter.unusedVariables false
namespace Go.Proofs.YtjaohekkmlkinaaDoor
open Go Go.RowKit Go.Proofs
theorem splitA_mem {c:UInt8} {x:Bs}:∀ (l acc:Bs),x∈splitA c acc l→x.length≤acc.length+l.length
 | [],acc,h=>by simp[splitA] at h;subst h;simp
 | y :: r,acc,h=>by
  unfold splitA at h
  split at h
  ·rcases List.mem_cons.1 h with rfl|h
   ·simp
   ·have:=splitA_mem r [] h
    simp at this ⊢;omega
  ·have:=splitA_mem r _ h
   simp at this ⊢;omega
theorem sliceLQ (l:Bs) (i:Nat) (ii:Int) (hi:ii=i) (hil:i≤l.length) (w:World):(Instr.slice 9 (sv l) (some (.int .i64 ii)) none none).run Tryd.prog w=.ok (sv (l.drop i)) w:=by
 subst hi
 rw[run_slice_string_l w 9 _ Tryd.underlying9 .i64 _ (by omega) (by simp[ByteArray.size];omega)]
 simp only[Int.toNat_natCast,bext]
 rw[List.take_of_length_le (by simp[ByteArray.size])]
section
variable {w w':World} {b b':Nat} {v v':Value}
theorem AsnO.setQ {a:Asn} (h:AsnO w b v a) {g:Nat} {t:TypeId} {cs:Array Value} (hk:Blk w g t cs) (h1:t≠tF) (h2:t≠tA) (i:Nat) (u:Value):AsnO (w.setCell ⟨g,i,none⟩ u) b v a:=by
 obtain ⟨fv,av,e,p1,p2⟩:=h
 exact ⟨fv,av,e,p1.setT hk h1 i u,p2.setT hk h2 i u⟩
theorem AsnO.growQ {a:Asn} {ys:List Int} (h:AsnO w b v a) (ho:IntsO w b' v' ys) (hg:w.grownBy w' v'.ownBlock):AsnO w' b v a:=by
 obtain ⟨fv,av,e,p1,p2⟩:=h
 exact ⟨fv,av,e,⟨own_grownO p1.1 ho.1 hg (by decide),p1.2⟩,⟨own_grownO p2.1 ho.1 hg (by decide),p2.2⟩⟩
end
def gT (x:Bs):Int:=((parseT x).getD 0:Nat)
def chW (ws:List Bs) (n:Nat):List Int:=(ws.tail.take (n - 1)).map gT
theorem chW_snoc {ws:List Bs} {n:Nat} (h1:1≤n) (h:n<ws.length):chW ws (n+1)=chW ws n++[gT ws[n]]:=by
 obtain ⟨m,rfl⟩:∃ m,n=m+1:=⟨n - 1,by omega⟩
 have hm:m<ws.tail.length:=by simp;omega
 unfold chW
 simp only[Nat.add_sub_cancel]
 rw[List.take_add_one,List.getElem?_eq_getElem hm,List.map_append,List.getElem_tail]
 rfl
theorem chW_end {ws:List Bs} {n:Nat} (h:ws.length≤n):chW ws n=ws.tail.map gT:=by
 unfold chW;rw[List.take_of_length_le (by simp;omega)]
theorem two_n1 (l:Bs) (cs:List Int) (q:Option Asn):two l cs none q=none:=rfl
theorem two_n2 (l:Bs) (cs:List Int) (p:Option Asn):two l cs p none=none:=by cases p<;>rfl
set_option maxRecDepth 100000 in
set_option maxHeartbeats 12800000 in
theorem c_sPC (l:Bs) (w:World) (hl:l.length≤1049000):Calls Tryd.prog 11 #[sv l] w fun e w'=>∃ r,e=.returned (.tuple #[r,.bool (pCS l).isSome])∧CtrI w' w.heap.size w'.heap.size r ((pCS l).getD ctr0)∧Below w.heap.size w w':=by
 obtain ⟨P,hP⟩:∃ P,P=pCS l:=⟨_,rfl⟩
 rw[←hP]
 unfold pCS at hP
 have CS:=Lib.hid fun W=>c_l18Cut l 10 W hl
 have hpl:Hid (∀ x∈splitL 10 l,x.length≤1049000):=Lib.hid fun x hx=>Nat.le_trans (splitA_mem l [] hx) (by simpa using hl)
 obtain ⟨ls,hls⟩:∃ ls,ls=splitL 10 l:=⟨_,rfl⟩
 rw[←hls] at CS hP hpl
 clear hls
 replace hP:=Lib.hid hP
 go_enter Tryd.func11,Tryd.ntmps11
 go_upto_region 1 with fail
 refine bx1 (w:=w) (F:=Code.wp _ _ _ _) ?_
 rintro W k0 hB -
 go_wp2_with fail
 refine (CS.out _).mono ?_
 rintro e w1 ⟨r1,rfl,o1,hq⟩
 obtain ⟨AS,cS,rfl,v1⟩:=o1.reads
 have HB:=Lib.hid (bgo hB hq)
 replace k0:=k0.next hq
 clear CS hB hq o1
 by_cases hlen:ls.length=4
 case neg=>
  have hlb:((ls.length:Int) == 4)=false:=by simp;omega
  have hNo:Hid (P=none):=Lib.hid (by rw[hP.out];exact if_neg fun h=>hlen h.1)
  (replace qk0:=k0.cell;replace rk0:=k0.frozen;replace lk0:=k0.lt)
  go_wp2_with fail
  have z0:=((((k0.set_ 0 (.slice none 0 0)).set_ 1 (.slice none 0 0)).set_ 2 (.slice none 0 0)).set_ 3 (.slice none 0 0)).set_ 4 (.slice none 0 0)
  refine bodyPost_ret (v:=.tuple #[.agg #[.slice none 0 0,.slice none 0 0,.slice none 0 0,.slice none 0 0,.slice none 0 0],.bool false]) (by simp[results,Tryd.results11,go_sem,z0.cell]) rfl ⟨_,by rw[hNo.out];rfl,?_,?_⟩
  ·rw[hNo.out];exact CtrI.zero (by have:=z0.lt;simp at this ⊢;omega) (Nat.le_refl _)
  ·have hb:=HB.out;exact bel
 have hle:=four_of hlen
 obtain ⟨a,ha⟩:∃ a,a=ls.getD 0 []:=⟨_,rfl⟩
 obtain ⟨b,hb⟩:∃ a,a=ls.getD 1 []:=⟨_,rfl⟩
 obtain ⟨c,hc⟩:∃ a,a=ls.getD 2 []:=⟨_,rfl⟩
 obtain ⟨d,hd⟩:∃ a,a=ls.getD 3 []:=⟨_,rfl⟩
 rw[←ha,←hb,←hc,←hd] at hle
 clear ha hb hc hd hlen
 subst hle
 obtain ⟨sb,so,rfl,q0⟩:=v1.at (k:=0) (by simp)
 have q1:w1.cell? ⟨sb,so+1,none⟩=some (sv b):=by
  obtain ⟨b',o',e,h⟩:=v1.at (k:=1) (by simp)
  injection e with e;injection e with e1 e2;subst e1 e2
  exact h
 have q2:w1.cell? ⟨sb,so+2,none⟩=some (sv c):=by
  obtain ⟨b',o',e,h⟩:=v1.at (k:=2) (by simp)
  injection e with e;injection e with e1 e2;subst e1 e2
  exact h
 have hla:=hpl.out a (by simp)
 have hlb:=hpl.out b (by simp)
 have hlc:=hpl.out c (by simp)
 simp only[Nat.add_zero,List.getElem_cons_zero] at q0
 have hsb:=block_lt_of_cell q0
 clear v1 hpl
 (replace qk0:=k0.cell;replace rk0:=k0.frozen;replace lk0:=k0.lt)
 by_cases h4:4≤a.length
 case neg=>
  have h4i:(a.length:Int)<4:=by omega
  have hNo:Hid (P=none):=Lib.hid (by rw[hP.out];exact if_neg fun h=>h4 h.2.1)
  go_wp2_with fail
  have z0:=((((k0.set_ 0 (.slice none 0 0)).set_ 1 (.slice none 0 0)).set_ 2 (.slice none 0 0)).set_ 3 (.slice none 0 0)).set_ 4 (.slice none 0 0)
  refine bodyPost_ret (v:=.tuple #[.agg #[.slice none 0 0,.slice none 0 0,.slice none 0 0,.slice none 0 0,.slice none 0 0],.bool false]) (by simp[results,Tryd.results11,go_sem,z0.cell]) rfl ⟨_,by rw[hNo.out];rfl,?_,?_⟩
  ·rw[hNo.out];exact CtrI.zero (by have:=z0.lt;simp at this ⊢;omega) (Nat.le_refl _)
  ·have hb:=HB.out;exact bel
 have h4i:¬(a.length:Int)<4:=by omega
 by_cases h5:5≤b.length
 case neg=>
  have h5i:(b.length:Int)<5:=by omega
  have hNo:Hid (P=none):=Lib.hid (by rw[hP.out];exact if_neg fun h=>h5 h.2.2)
  go_wp2_with fail
  have z0:=((((k0.set_ 0 (.slice none 0 0)).set_ 1 (.slice none 0 0)).set_ 2 (.slice none 0 0)).set_ 3 (.slice none 0 0)).set_ 4 (.slice none 0 0)
  refine bodyPost_ret (v:=.tuple #[.agg #[.slice none 0 0,.slice none 0 0,.slice none 0 0,.slice none 0 0,.slice none 0 0],.bool false]) (by simp[results,Tryd.results11,go_sem,z0.cell]) rfl ⟨_,by rw[hNo.out];rfl,?_,?_⟩
  ·rw[hNo.out];exact CtrI.zero (by have:=z0.lt;simp at this ⊢;omega) (Nat.le_refl _)
  ·have hb:=HB.out;exact bel
 have h5i:¬(b.length:Int)<5:=by omega
 replace hP:Hid (P=two l (chgS c) (parseA (a.drop 4)) (parseA (b.drop 5))):=Lib.hid (by rw[hP.out];exact if_pos ⟨rfl,h4,h5⟩)
 have sl1:=fun W:World=>sliceLQ a 4 4 rfl h4 W
 have sl2:=fun W:World=>sliceLQ b 5 5 rfl h5 W
 have hl1:(a.drop 4).length≤1049000:=by simp;omega
 have hl2:(b.drop 5).length≤1049000:=by simp;omega
 obtain ⟨a',ha'⟩:∃ z,z=a.drop 4:=⟨_,rfl⟩
 obtain ⟨b',hb'⟩:∃ z,z=b.drop 5:=⟨_,rfl⟩
 rw[←ha'] at hP sl1 hl1
 rw[←hb'] at hP sl2 hl2
 clear ha' hb' hla hlb
 have H1:=Lib.hid fun W=>c_ParseAssertion a' W hl1
 have H2:=Lib.hid fun W=>c_ParseAssertion b' W hl2
 obtain ⟨p,hp⟩:∃ p,p=(parseA a').getD ⟨[],[]⟩:=⟨_,rfl⟩
 obtain ⟨q,hq⟩:∃ p,p=(parseA b').getD ⟨[],[]⟩:=⟨_,rfl⟩
 obtain ⟨t1,ht1⟩:∃ p,p=(parseA a').isSome:=⟨_,rfl⟩
 obtain ⟨t2,ht2⟩:∃ p,p=(parseA b').isSome:=⟨_,rfl⟩
 rw[←hp,←ht1] at H1
 rw[←hq,←ht2] at H2
 have hF1:Hid (t1=false→P=none):=Lib.hid fun e=>by
  rw[ht1] at e
  rw[hP.out,Option.not_isSome_iff_eq_none.1 (by rw[e];decide:¬(parseA a').isSome=true),two_n1]
 have hF2:Hid (t2=false→P=none):=Lib.hid fun e=>by
  rw[ht2] at e
  rw[hP.out,Option.not_isSome_iff_eq_none.1 (by rw[e];decide:¬(parseA b').isSome=true),two_n2]
 have hYY:Hid (t1=true→t2=true→P=if fmtC ⟨p,q,chgS c⟩=l then some ⟨p,q,chgS c⟩ else none):=Lib.hid fun e1 e2=>by
  rw[ht1] at e1
  rw[ht2] at e2
  obtain ⟨x,hx⟩:=Option.isSome_iff_exists.1 e1
  obtain ⟨y,hy⟩:=Option.isSome_iff_exists.1 e2
  rw[hP.out,hp,hq,hx,hy]
  rfl
 clear hp hq ht1 ht2 hP h4 h5
 go_wp2_with fail
 refine (H1.out _).mono ?_
 rintro e w2 ⟨r2,rfl,oA,hq⟩
 obtain ⟨fv,av,rfl,o2,o3⟩:=oA
 obtain ⟨A1,c1,rfl,-⟩:=o2.reads
 obtain ⟨A2,c2,rfl,-⟩:=o3.reads
 have HA:=Lib.hid (show AsnO w2 w1.heap.size (.agg #[.slice A1 p.facts.length c1,.slice A2 p.atoms.length c2]) p from ⟨_,_,rfl,o2,o3⟩)
 have HU:=Lib.hid (And.intro o2.und o3.und)
 rw[←(bcell hq).1 sb (so+1) hsb] at q1
 rw[←(bcell hq).1 sb (so+2) hsb] at q2
 have hz2:=hq.size
 have hsb2:=Nat.lt_of_lt_of_le hsb hz2
 have lk0':=k0.lt
 replace HB:=Lib.hid (bgo HB.out hq)
 replace k0:=k0.next hq
 clear H1 hq qk0 rk0 lk0 o2 o3 q0 sl1
 (replace qk0:=k0.cell;replace rk0:=k0.frozen;replace lk0:=k0.lt)
 go_upto_region 5 with fail
 have k1:=Blk.new w2 31 #[.slice A1 p.facts.length c1,.slice A2 p.atoms.length c2]
 have hbx:=bbox (Below.refl _ w2) (.cells #[.slice A1 p.facts.length c1,.slice A2 p.atoms.length c2] 31)
 replace k0:=k0.next hbx
 replace HB:=Lib.hid (bgo HB.out hbx)
 replace HA:=Lib.hid (HA.out.below hbx)
 rw[←(bcell hbx).1 sb (so+1) hsb2] at q1
 rw[←(bcell hbx).1 sb (so+2) hsb2] at q2
 obtain ⟨b1,hb1⟩:∃ z,z=w1.heap.size:=⟨_,rfl⟩
 rw[←hb1] at hz2 HA lk0'
 obtain ⟨y1,hy1⟩:∃ z,z=w2.heap.size:=⟨_,rfl⟩
 have hzV:(w2.alloc (.cells #[.slice A1 p.facts.length c1,.slice A2 p.atoms.length c2] 31)).heap.size=y1+1:=by rw[hy1];simp
 have hsb3:sb<y1+1:=by omega
 clear hbx qk0 rk0 lk0 hsb2
 generalize (w2.alloc (.cells #[.slice A1 p.facts.length c1,.slice A2 p.atoms.length c2] _))=V at *
 rw[←hy1] at k1 hz2 HU ⊢
 clear hy1 hb1 hsb
 (replace qk0:=k0.cell;replace rk0:=k0.frozen;replace lk0:=k0.lt;replace qk1:=k1.cell;replace rk1:=k1.frozen;replace lk1:=k1.lt)
 go_wp2_with fail
 refine (H2.out _).mono ?_
 rintro e w3 ⟨r3,rfl,oA,hq⟩
 obtain ⟨fv,av,rfl,o2,o3⟩:=oA
 obtain ⟨A3,c3,rfl,-⟩:=o2.reads
 obtain ⟨A4,c4,rfl,-⟩:=o3.reads
 have HA2:=Lib.hid (show AsnO w3 V.heap.size (.agg #[.slice A3 q.facts.length c3,.slice A4 q.atoms.length c4]) q from ⟨_,_,rfl,o2,o3⟩)
 have HU2:=Lib.hid (And.intro o2.und o3.und)
 rw[←(bcell hq).1 sb (so+2) (by omega)] at q2
 have hz3:=hq.size
 rw[hzV] at hz3 HA2
 replace HB:=Lib.hid (bgo HB.out hq)
 replace HA:=Lib.hid (HA.out.below hq)
 replace k0:=k0.next hq
 replace k1:=k1.next hq
 clear H2 hq qk0 rk0 lk0 qk1 rk1 lk1 o2 o3 q1 sl2
 (replace qk0:=k0.cell;replace rk0:=k0.frozen;replace lk0:=k0.lt;replace qk1:=k1.cell;replace rk1:=k1.frozen;replace lk1:=k1.lt)
 go_upto_region 7 with fail
 have k2':=Blk.new w3 31 #[.slice A3 q.facts.length c3,.slice A4 q.atoms.length c4]
 have k2:=Blk.new (w3.alloc (.cells #[.slice A3 q.facts.length c3,.slice A4 q.atoms.length c4] 31)) 34 #[.slice A1 p.facts.length c1,.slice A2 p.atoms.length c2,.slice A3 q.facts.length c3,.slice A4 q.atoms.length c4,.slice none 0 0]
 rw[World.size_alloc] at k2
 have hbx:=(bbox (Below.refl _ w3) (.cells #[.slice A3 q.facts.length c3,.slice A4 q.atoms.length c4] 31)).alloc (by simp) (.cells #[.slice A1 p.facts.length c1,.slice A2 p.atoms.length c2,.slice A3 q.facts.length c3,.slice A4 q.atoms.length c4,.slice none 0 0] 34)
 replace k0:=k0.next hbx
 replace HB:=Lib.hid (bgo HB.out hbx)
 replace HA:=Lib.hid (HA.out.below hbx)
 replace HA2:=Lib.hid (HA2.out.below hbx)
 rw[←(bcell hbx).1 sb (so+2) (by omega)] at q2
 obtain ⟨y,hy⟩:∃ z,z=w3.heap.size+1:=⟨_,rfl⟩
 have hzW:((w3.alloc (.cells #[.slice A3 q.facts.length c3,.slice A4 q.atoms.length c4] 31)).alloc (.cells #[.slice A1 p.facts.length c1,.slice A2 p.atoms.length c2,.slice A3 q.facts.length c3,.slice A4 q.atoms.length c4,.slice none 0 0] 34)).heap.size=y+1:=by rw[hy];simp
 clear hbx qk0 rk0 lk0 qk1 rk1 lk1 k1 k2'
 try simp only[World.size_alloc]
 generalize ((w3.alloc (.cells #[.slice A3 q.facts.length c3,.slice A4 q.atoms.length c4] _)).alloc (.cells #[.slice A1 p.facts.length c1,.slice A2 p.atoms.length c2,.slice A3 q.facts.length c3,.slice A4 q.atoms.length c4,.slice none 0 0] _))=U at *
 rw[←hy] at k2 ⊢
 have hz3':w3.heap.size<y∧y≤w3.heap.size+1:=by omega
 clear hy
 have HW:=Lib.hid (c_l18Words c U hlc)
 have hcg:Hid (chgS c=(wordsL c).tail.map gT):=Lib.hid rfl
 obtain ⟨ws,hws⟩:∃ z,z=wordsL c:=⟨_,rfl⟩
 rw[←hws] at HW hcg
 clear hws
 (replace qk0:=k0.cell;replace rk0:=k0.frozen;replace lk0:=k0.lt;replace qk2:=k2.cell;replace rk2:=k2.frozen;replace lk2:=k2.lt)
 go_wp2_with fail
 refine HW.out.mono ?_
 rintro e w4 ⟨r4,rfl,o4,hq⟩
 obtain ⟨AW,cW,rfl,v4⟩:=o4.reads
 have hwl:ws.length≤1049600:=v4.le
 have hz4:=hq.size
 rw[hzW] at hz4
 have HS:=Lib.hid (StrsV.mono (lo':=y+1) v4 (by omega) (Nat.le_refl _))
 replace HB:=Lib.hid (bgo HB.out hq)
 replace HA:=Lib.hid (HA.out.below hq)
 replace HA2:=Lib.hid (HA2.out.below hq)
 replace k0:=k0.next hq
 replace k2:=k2.next hq
 obtain ⟨B,hBe⟩:∃ B,B=w4.heap.size:=⟨_,rfl⟩
 rw[←hBe] at HS hz4
 clear HW hq o4 v4 q2 qk0 rk0 lk0 qk2 rk2 lk2
 have hwy:w.heap.size<y:=by omega
 go_wp2_with fail
 go_loopw [11] (fun i wr=>∃ (n:Nat) (fs:List Int) (A:Option Addr) (cc:Nat),i=.int .i64 n∧1≤n∧(n≤ws.length∨n=1)∧Hid (fs=chW ws n)∧fs.length+1≤n∧IntsO wr B (.slice A fs.length cc) fs∧StrsV wr (y+1) B AW ws∧
  Hid (AsnO wr b1 (.agg #[.slice A1 p.facts.length c1,.slice A2 p.atoms.length c2]) p)∧Hid (AsnO wr (y1+1) (.agg #[.slice A3 q.facts.length c3,.slice A4 q.atoms.length c4]) q)∧
  Blk wr y 34 #[.slice A1 p.facts.length c1,.slice A2 p.atoms.length c2,.slice A3 q.facts.length c3,.slice A4 q.atoms.length c4,.slice A fs.length cc]∧Blk wr w.heap.size 34 #[.slice none 0 0,.slice none 0 0,.slice none 0 0,.slice none 0 0,.slice none 0 0]∧Hid (Below w.heap.size w wr)∧B≤wr.heap.size) (fun i _=>ws.length+1 - (intOf i).toNat)
 case atStart=>exact ⟨1,[],none,0,rfl,Nat.le_refl _,.inr rfl,Lib.hid (by simp[chW]),by simp,IntsO.nil _ _,HS.out,HA,HA2,k2,k0,HB,by omega⟩
 case round=>
  clear HS HA HA2 k0 k2 HB
  obtain ⟨n,fs,A,cc,rfl,hn1,hn,hfs,hfl,hO,hS,HA,HA2,k2,k0,HB,hBr⟩:=hrel
  have HO:=Lib.hid hO
  have HS:=Lib.hid hS
  clear hO hS
  (replace qk0:=k0.cell;replace rk0:=k0.frozen;replace lk0:=k0.lt;replace qk2:=k2.cell;replace rk2:=k2.frozen;replace lk2:=k2.lt)
  by_cases hlt:n<ws.length
  case pos=>
   have hki:(n:Int)<(ws.length:Int):=by omega
   obtain ⟨bw,ow,rfl,hc⟩:=HS.out.at hlt
   have hsn:=Lib.hid (chW_snoc hn1 hlt)
   obtain ⟨x,hxx⟩:∃ x,x=ws[n]:=⟨_,rfl⟩
   rw[←hxx] at hc hsn
   clear hxx
   have CP:=Lib.hid (c_ParseTerm x wr)
   obtain ⟨m,hm⟩:∃ m:Nat,m=(parseT x).getD 0:=⟨_,rfl⟩
   obtain ⟨tb,htb⟩:∃ m,m=(parseT x).isSome:=⟨_,rfl⟩
   have hgm:Hid (gT x=(m:Int)):=Lib.hid (by unfold gT;rw[hm])
   rw[←hm,←htb] at CP
   clear hm htb
   go_wp2_with fail
   refine CP.out.mono ?_
   rintro e w5 ⟨rfl,rfl⟩
   have hwyn:w.heap.size≠y:=by omega
   go_wp2_with (at_builtin;refine appI rfl _ _ rfl (v:=.slice A fs.length cc) rfl (IntsO.below (w:=wr) HO.out bel) wr.heap.size (m:Nat) rfl (by simp) (by omega) (by simp;omega) ?_;intro g4 c4' w6 o6 hg4 hB4;have z0:=Blk.grownO (g:=w.heap.size) (hg:=hg4) blks (IntsO.below (w:=wr) HO.out bel).1 (by decide);have z1b:=Blk.grownO (g:=y) (hg:=hg4) blks (IntsO.below (w:=wr) HO.out bel).1 (by decide);have z1c:=z1b.cell;have z1f:=z1b.frozen;have hB34:Below B wr w6:=((Below.refl _ wr).alloc hBr _).trans hB4;have hl4:=z1b.lt;have a6:=AsnO.growQ (HA.out.below (bbox (Below.refl _ wr) _)) (IntsO.below (w:=wr) HO.out bel) hg4;have a7:=AsnO.growQ (HA2.out.below (bbox (Below.refl _ wr) _)) (IntsO.below (w:=wr) HO.out bel) hg4;have hz6:=hB4.size;clear hg4 hB4)
   have hz7:=hB34.size
   go_round
   case rel=>exact ⟨n+1,fs++[(m:Int)],some ⟨g4,0,none⟩,c4',by go_num,by omega,by omega,Lib.hid (by rw[hsn.out,hfs.out,hgm.out]),by simp;omega,by (have h:=o6.setT z1b (by decide) 4 (.slice (some ⟨g4,0,none⟩) (fs.length+1) c4');simpa using h),Rd.setb (Rd.keepB HS.out hB34 (Nat.le_refl _)) (.inl (Nat.lt_succ_self y)) _,Lib.hid (a6.setQ z1b (by decide) (by decide) 4 _),Lib.hid (a7.setQ z1b (by decide) (by decide) 4 _),(by have h:=z1b.set_ 4 (.slice (some ⟨g4,0,none⟩) (fs.length+1) c4');simpa using h),z0.far (by simp only[];omega) _,Lib.hid ((HB.out.trans (hB34.mono (by omega))).setCell (by simp only;omega) _),by simp;omega⟩
   case measure=>simp[intOf];omega
  case neg=>
   have hki:¬(n:Int)<(ws.length:Int):=by omega
   have hcs:Hid (chgS c=fs):=Lib.hid (by rw[hcg.out,hfs.out,chW_end (by omega)])
   clear hfs hcg HS
   cases t1
   case false=>
    have hNo:Hid (P=none):=Lib.hid (hF1.out rfl)
    go_wp2_with fail
    have z0:=((((k0.set_ 0 (.slice none 0 0)).set_ 1 (.slice none 0 0)).set_ 2 (.slice none 0 0)).set_ 3 (.slice none 0 0)).set_ 4 (.slice none 0 0)
    refine bodyPost_ret (v:=.tuple #[.agg #[.slice none 0 0,.slice none 0 0,.slice none 0 0,.slice none 0 0,.slice none 0 0],.bool false]) (by simp[results,Tryd.results11,go_sem,z0.cell]) rfl ⟨_,by rw[hNo.out];rfl,?_,?_⟩
    ·rw[hNo.out];exact CtrI.zero (by have:=z0.lt;simp at this ⊢;omega) (Nat.le_refl _)
    ·have hb:=HB.out;exact bel
   cases t2
   case false=>
    have hNo:Hid (P=none):=Lib.hid (hF2.out rfl)
    go_wp2_with fail
    have z0:=((((k0.set_ 0 (.slice none 0 0)).set_ 1 (.slice none 0 0)).set_ 2 (.slice none 0 0)).set_ 3 (.slice none 0 0)).set_ 4 (.slice none 0 0)
    refine bodyPost_ret (v:=.tuple #[.agg #[.slice none 0 0,.slice none 0 0,.slice none 0 0,.slice none 0 0,.slice none 0 0],.bool false]) (by simp[results,Tryd.results11,go_sem,z0.cell]) rfl ⟨_,by rw[hNo.out];rfl,?_,?_⟩
    ·rw[hNo.out];exact CtrI.zero (by have:=z0.lt;simp at this ⊢;omega) (Nat.le_refl _)
    ·have hb:=HB.out;exact bel
   have hz5:B≤wr.heap.size:=hBr
   have HC:Hid (CtrI wr (w.heap.size+1) wr.heap.size (.agg #[.slice A1 p.facts.length c1,.slice A2 p.atoms.length c2,.slice A3 q.facts.length c3,.slice A4 q.atoms.length c4,.slice A fs.length cc]) ⟨p,q,fs⟩):=
    Lib.hid (ctr_intro (x:=⟨p,q,fs⟩) HA.out HU.out HA2.out HU2.out HO.out HO.out.und (by omega) (Nat.le_refl _))
   have hPv:Hid (P=if fmtC ⟨p,q,fs⟩=l then some ⟨p,q,fs⟩ else none):=Lib.hid (by have:=hYY.out rfl rfl;rw[hcs.out] at this;exact this)
   obtain ⟨K,hK⟩:∃ K:Ctr,K=⟨p,q,fs⟩:=⟨_,rfl⟩
   rw[←hK] at HC hPv
   clear hK hYY hF1 hF2 HA HA2 HO hcs
   have CV:=Lib.hid (c_sFC _ K wr HC.out.reads)
   go_wp2_with fail
   refine CV.out.mono ?_
   rintro e w5 ⟨rfl,hq⟩
   replace k0:=k0.next hq
   replace k2:=k2.next hq
   replace HB:=Lib.hid (bgo HB.out hq)
   replace HC:=Lib.hid (HC.out.below hq)
   clear hq CV qk0 rk0 lk0 qk2 rk2 lk2
   (replace qk0:=k0.cell;replace rk0:=k0.frozen;replace lk0:=k0.lt;replace qk2:=k2.cell;replace rk2:=k2.frozen;replace lk2:=k2.lt)
   by_cases hf:fmtC K=l
   case neg=>
    have hfb:(fmtC K == l)=false:=by rw[bytes_eq];simpa using hf
    have hNo:Hid (P=none):=Lib.hid (by rw[hPv.out];exact if_neg hf)
    go_wp2_with fail
    have z0:=((((k0.set_ 0 (.slice none 0 0)).set_ 1 (.slice none 0 0)).set_ 2 (.slice none 0 0)).set_ 3 (.slice none 0 0)).set_ 4 (.slice none 0 0)
    refine bodyPost_ret (v:=.tuple #[.agg #[.slice none 0 0,.slice none 0 0,.slice none 0 0,.slice none 0 0,.slice none 0 0],.bool false]) (by simp[results,Tryd.results11,go_sem,z0.cell]) rfl ⟨_,by rw[hNo.out];rfl,?_,?_⟩
    ·rw[hNo.out];exact CtrI.zero (by have:=z0.lt;simp at this ⊢;omega) (Nat.le_refl _)
    ·have hb:=HB.out;exact bel
   have hfb:(fmtC K == l)=true:=by rw[bytes_eq];simpa using hf
   have HYes:Hid (P=some K):=Lib.hid (by rw[hPv.out];exact if_pos hf)
   clear hf
   go_wp2_with fail
   have z0:=((((k0.set_ 0 (.slice A1 p.facts.length c1)).set_ 1 (.slice A2 p.atoms.length c2)).set_ 2 (.slice A3 q.facts.length c3)).set_ 3 (.slice A4 q.atoms.length c4)).set_ 4 (.slice A fs.length cc)
   refine bodyPost_ret (v:=.tuple #[.agg #[.slice A1 p.facts.length c1,.slice A2 p.atoms.length c2,.slice A3 q.facts.length c3,.slice A4 q.atoms.length c4,.slice A fs.length cc],.bool true]) (by simp[results,Tryd.results11,go_sem,z0.cell]) rfl ⟨_,by rw[HYes.out];rfl,?_,?_⟩
   ·rw[HYes.out]
    have c0:=HC.out.setT k0 (by decide) (by decide) (by decide) 0 (.slice A1 p.facts.length c1)
    have k0:=k0.set_ 0 (.slice A1 p.facts.length c1)
    replace c0:=c0.setT k0 (by decide) (by decide) (by decide) 1 (.slice A2 p.atoms.length c2)
    replace k0:=k0.set_ 1 (.slice A2 p.atoms.length c2)
    replace c0:=c0.setT k0 (by decide) (by decide) (by decide) 2 (.slice A3 q.facts.length c3)
    replace k0:=k0.set_ 2 (.slice A3 q.facts.length c3)
    replace c0:=c0.setT k0 (by decide) (by decide) (by decide) 3 (.slice A4 q.atoms.length c4)
    replace k0:=k0.set_ 3 (.slice A4 q.atoms.length c4)
    replace c0:=c0.setT k0 (by decide) (by decide) (by decide) 4 (.slice A fs.length cc)
    exact (c0.lower (by omega)).up
   ·have hb:=HB.out;exact bel
end Go.Proofs.YtjaohekkmlkinaaDoor
