/- Running programs: impl's basic commands. -/
import Derived.Test.YtjaohekkmlkinaaGreatMRunA
import Derived.IntWalk
import Derived.Deep.LoopGhost
set_option linter.unusedSimpArgs false
set_option linter.unusedVariables false
set_option maxRecDepth 100000
set_option maxHeartbeats 25600000
namespace Go.Proofs.YtjaohekkmlkinaaGreat
section
open Go Go.RowKit Go.Proofs
theorem Blk.drewX {w:World} {g:Nat} {t:TypeId} {cs:Array Value} (h:Blk w g t cs):Blk w.drew g t cs:=h
theorem basic_set (w:World) (B g:Nat) (s:Ste) (f:Nat) (m:Nat) (b:Int) (hm:m<4) (hb:0≤b∧b≤8) (t:Fct) (vF vA vB vE:Value) (hM:Mach w B g s f) (hs:s.valid=true) :
  Calls Tryz.prog 261 #[.pointer (some ⟨g,0,none⟩),.agg #[.int .i64 1,.int .i64 ((m:Int)+1),.int .i64 b,.bool t.eq,.int .i64 t.a,.int .i64 t.b,vF,vA,vB,vE]] w fun e w'=>e=.returned (.int .i64 (basicF s 1 ((m:Int)+1) b).2)∧Mach w' B g (basicF s 1 ((m:Int)+1) b).1 f∧Rf B w w':=by
 have E:aJ (basicF s 1 ((m:Int)+1) b=(⟨s.values.set m (tval s.values b),s.heap⟩,0)):=by
  show _=_;unfold basicF;rw[if_pos rfl,show ((m:Int)+1 - 1).toNat=m by omega]
 rw[E.o];have HB:=ax hb;have hm4:(m:Int)<4:=by omega
 have hm8:(m:Int)<8:=by omega
 clear hb;obtain ⟨F,e1,G,e2,hBg,kM,o1,o2,dj⟩:=hM.form;have hgl:=kM.lt;have h8:=ax (Ste.valid_len hs);have HS:=ax hs;have V1:=ax (o1.readsI.2);obtain ⟨x,hx⟩:∃ x,x=tval s.values ((m:Int)+1):=⟨_,rfl⟩;obtain ⟨y,hy⟩:∃ x,x=tval s.values b:=⟨_,rfl⟩;have hxv:0≤x∧x≤8:=by rw[hx];exact tval_le (Ste.all_vals hs) _
 have hyv:0≤y∧y≤8:=by rw[hy];exact tval_le (Ste.all_vals hs) _
 replace hx:=ax hx;replace hy:=ax hy;replace o1:=ax o1;replace o2:=ax o2;replace dj:=ax dj;clear hM hs;have hgne:g≠w.heap.size:=by omega
 (go_enter Tryz.func261,Tryz.ntmps261);have k00:Blk (w.alloc (.cells #[.int .i64 1,.int .i64 ((m:Int)+1),.int .i64 b,.bool t.eq,.int .i64 t.a,.int .i64 t.b,vF,vA,vB,vE] tC)) w.heap.size tC #[.int .i64 1,.int .i64 ((m:Int)+1),.int .i64 b,.bool t.eq,.int .i64 t.a,.int .i64 t.b,vF,vA,vB,vE]:=Blk.new _ _ _;have kM0:Blk (w.alloc (.cells #[.int .i64 1,.int .i64 ((m:Int)+1),.int .i64 b,.bool t.eq,.int .i64 t.a,.int .i64 t.b,vF,vA,vB,vE] tC)) g tM #[.slice F s.values.length e1,.slice G s.heap.length e2,.int .i64 (f:Int)]:=kM.alloc _;(go_wp2_with fail);refine wp_region_noPanic ?_;refine wp_region_held_drew (S:=(fun w'=>(∀ j,w'.cell? ⟨w.heap.size,j,none⟩=#[.int .i64 1,.int .i64 ((m:Int)+1),.int .i64 b,.bool t.eq,.int .i64 t.a,.int .i64 t.b,vF,vA,vB,vE][j]?)∧(∀ j,w'.cell? ⟨g,j,none⟩=#[.slice F s.values.length e1,.slice G s.heap.length e2,.int .i64 (f:Int)][j]?))) (by kernel_rfl) (⟨k00.cell,kM0.cell⟩) (fun aH=>?_);refine tk2 0 rfl aH (h:=tk2 1 rfl aH (h:=tk2 2 rfl aH (h:=?_)));(try simp only[zz]);refine tk2 3 rfl aH (h:=tk2 4 rfl aH (h:=tk2 5 rfl aH (h:=?_)));(try simp only[zz]);refine tk2 6 rfl aH (h:=tk2 8 rfl aH (h:=tk2 9 rfl aH (h:=?_)));(try simp only[zz]);refine tk2 10 rfl aH (h:=tk2 11 rfl aH (h:=tk2 12 rfl aH (h:=?_)));(try simp only[zz]);refine tk2 13 rfl aH (h:=tk2 14 rfl aH (h:=?_));refine rdc 7 rfl fun K hK=>?_;(try simp only[zz]);(go_simp;refine (c_impl_termValue F e1 s.values ((m:Int)+1) _ (V1.o.bz bel) (by omega) (by rw[h8.o.1];exact (by omega))).mono ?_;rintro e w3 ⟨rfl,rfl⟩;rw[←hx.o]);refine hK.out _ _ (⟨k00.cell,kM0.cell⟩) ?_;clear aH hK K;intro aH;refine rdc 15 rfl fun K hK=>?_;(try simp only[zz]);(go_simp;refine (c_impl_termValue F e1 s.values b _ (V1.o.bz bel) HB.o.1 (by rw[h8.o.1];exact HB.o.2)).mono ?_;rintro e w3 ⟨rfl,rfl⟩;rw[←hy.o]);refine hK.out _ _ (⟨k00.cell,kM0.cell⟩) ?_;clear aH hK K;intro aH;(try simp only[zz]);refine tk2 16 rfl aH (h:=tk2 17 rfl aH (h:=?_));(try simp only[zz]);refine dn1 ?_;obtain ⟨X,hX⟩:∃ X,X=(w.alloc (.cells #[.int .i64 1,.int .i64 ((m:Int)+1),.int .i64 b,.bool t.eq,.int .i64 t.a,.int .i64 t.b,vF,vA,vB,vE] tC)).drew:=⟨_,rfl⟩;have hBX:Below w.heap.size w X:=by rw[hX];exact bel
 have kX:Blk X w.heap.size tC #[.int .i64 1,.int .i64 ((m:Int)+1),.int .i64 b,.bool t.eq,.int .i64 t.a,.int .i64 t.b,vF,vA,vB,vE]:=by rw[hX];exact k00.drew
 have kMX:Blk X g tM #[.slice F s.values.length e1,.slice G s.heap.length e2,.int .i64 (f:Int)]:=by rw[hX];exact kM0.drew
 have oX1:=ax (o1.o.bz hBX);have oX2:=ax (o2.o.bz hBX);have hBw:B≤w.heap.size:=by omega
 have hBB:Rf B w X:=Rf.of hBX hBw;rw[←hX];clear hX k00 kM0 kM V1 aH o1 o2;(replace qkX:=kX.z;replace qkMX:=kMX.z);have hvl:=h8.o.1;obtain ⟨gv,cur,-,rfl,hgv,kg,hc,hset⟩:=oX1.o.cell_ (k:=m) (by omega);have q:=kg.cell m;rw[hc] at q;obtain ⟨z,hz⟩:∃ z,z=s.values[m]'(by omega):=⟨_,rfl⟩;rw[←hz] at q;have fq:=kg.frozen m;have hgvl:=kg.lt;have hne:g≠gv:=kMX.ne_ kg (by decide);have HSET:=ax (hset y);have hml:(m:Int)<(s.values.length:Int):=by omega
 have hwm:IntKind.i64.wrap (m:Int)=(m:Int):=IntWalk.i64_in _ (by omega);replace hc:=ax hc;clear hset hc hz hvl;(go_wp2_with fail);refine wp_region_noPanic ?_;refine wp_region_last' (S:=(fun w'=>(∀ j,w'.cell? ⟨w.heap.size,j,none⟩=#[.int .i64 1,.int .i64 ((m:Int)+1),.int .i64 b,.bool t.eq,.int .i64 t.a,.int .i64 t.b,vF,vA,vB,vE][j]?)∧(∀ j,w'.cell? ⟨g,j,none⟩=#[.slice (some ⟨gv,0,none⟩) s.values.length e1,.slice G s.heap.length e2,.int .i64 (f:Int)][j]?)∧w'.cell? ⟨gv,m,none⟩=some (.int .i64 z)∧w'.frozen? ⟨gv,m,none⟩=false)) (by simp) (by kernel_rfl) (by kernel_rfl) (⟨kX.cell,kMX.cell,q,fq⟩) (fun aH=>?_);simp only[List.dropLast,List.getLast,nopOf,List.cons_append,List.nil_append,List.length_cons,List.length_nil,Nat.zero_add,Nat.reduceAdd];refine tk2 0 rfl aH (h:=tk2 1 rfl aH (h:=tk2 2 rfl aH (h:=?_)));(try simp only[zz]);refine tk2 3 rfl aH (h:=tk2 4 rfl aH (h:=tk2 5 rfl aH (h:=?_)));(try simp only[zz]);refine tk2 6 rfl aH (h:=tk2 7 rfl aH (h:=tk2 8 rfl aH (h:=?_)));(try simp only[zz]);refine tk2 9 rfl aH (h:=?_);(try simp only[zz]);refine rdc 10 rfl fun K hK=>?_;go_simp;refine hK.out _ _ (⟨kX.cell,kMX.cell,q,fq⟩) (fun aH=>?_);clear hK K;refine wpAnyH_done (by kernel_rfl) ?_ _;unfold lastQ;go_simp;refine NoPanic.normal ?_;(go_wp2_with fail);go_ret;refine ⟨rfl,⟨hBg,_,_,kMX.drewX.far (p:=⟨gv,m,none⟩) hne _,_,_,rfl,?_,?_,dj.o⟩,hBB.drew.set (p:=⟨gv,m,none⟩) kg.drewX (by decide) hgv _⟩
 ·rw[←hy.o];exact HSET.o
 ·exact oX2.o.set_ne (q:=⟨gv,m,none⟩) (dj.o gv rfl) _
theorem basic_load (w:World) (B g:Nat) (s:Ste) (f:Nat) (m:Nat) (b:Int) (hm:m<4) (hb:0≤b∧b≤8) (t:Fct) (vF vA vB vE:Value) (hM:Mach w B g s f) (hs:s.valid=true) :
  Calls Tryz.prog 261 #[.pointer (some ⟨g,0,none⟩),.agg #[.int .i64 2,.int .i64 ((m:Int)+1),.int .i64 b,.bool t.eq,.int .i64 t.a,.int .i64 t.b,vF,vA,vB,vE]] w fun e w'=>e=.returned (.int .i64 (basicF s 2 ((m:Int)+1) b).2)∧Mach w' B g (basicF s 2 ((m:Int)+1) b).1 f∧Rf B w w':=by
 have HB:=ax hb;have hm4:(m:Int)<4:=by omega
 have hm8:(m:Int)<8:=by omega
 clear hb;obtain ⟨F,e1,G,e2,hBg,kM,o1,o2,dj⟩:=hM.form;have hgl:=kM.lt;have h8:=ax (Ste.valid_len hs);have HS:=ax hs;have V1:=ax (o1.readsI.2);obtain ⟨x,hx⟩:∃ x,x=tval s.values ((m:Int)+1):=⟨_,rfl⟩;obtain ⟨y,hy⟩:∃ x,x=tval s.values b:=⟨_,rfl⟩;have hxv:0≤x∧x≤8:=by rw[hx];exact tval_le (Ste.all_vals hs) _
 have hyv:0≤y∧y≤8:=by rw[hy];exact tval_le (Ste.all_vals hs) _
 replace hx:=ax hx;replace hy:=ax hy;replace o1:=ax o1;replace o2:=ax o2;replace dj:=ax dj;clear hM hs;have hgne:g≠w.heap.size:=by omega
 (go_enter Tryz.func261,Tryz.ntmps261);have k00:Blk (w.alloc (.cells #[.int .i64 2,.int .i64 ((m:Int)+1),.int .i64 b,.bool t.eq,.int .i64 t.a,.int .i64 t.b,vF,vA,vB,vE] tC)) w.heap.size tC #[.int .i64 2,.int .i64 ((m:Int)+1),.int .i64 b,.bool t.eq,.int .i64 t.a,.int .i64 t.b,vF,vA,vB,vE]:=Blk.new _ _ _;have kM0:Blk (w.alloc (.cells #[.int .i64 2,.int .i64 ((m:Int)+1),.int .i64 b,.bool t.eq,.int .i64 t.a,.int .i64 t.b,vF,vA,vB,vE] tC)) g tM #[.slice F s.values.length e1,.slice G s.heap.length e2,.int .i64 (f:Int)]:=kM.alloc _;(go_wp2_with fail);refine wp_region_noPanic ?_;refine wp_region_held_drew (S:=(fun w'=>(∀ j,w'.cell? ⟨w.heap.size,j,none⟩=#[.int .i64 2,.int .i64 ((m:Int)+1),.int .i64 b,.bool t.eq,.int .i64 t.a,.int .i64 t.b,vF,vA,vB,vE][j]?)∧(∀ j,w'.cell? ⟨g,j,none⟩=#[.slice F s.values.length e1,.slice G s.heap.length e2,.int .i64 (f:Int)][j]?))) (by kernel_rfl) (⟨k00.cell,kM0.cell⟩) (fun aH=>?_);refine tk2 0 rfl aH (h:=tk2 1 rfl aH (h:=tk2 2 rfl aH (h:=?_)));(try simp only[zz]);refine tk2 3 rfl aH (h:=tk2 4 rfl aH (h:=tk2 5 rfl aH (h:=?_)));(try simp only[zz]);refine tk2 6 rfl aH (h:=tk2 8 rfl aH (h:=tk2 9 rfl aH (h:=?_)));(try simp only[zz]);refine tk2 10 rfl aH (h:=tk2 11 rfl aH (h:=tk2 12 rfl aH (h:=?_)));(try simp only[zz]);refine tk2 13 rfl aH (h:=tk2 14 rfl aH (h:=?_));refine rdc 7 rfl fun K hK=>?_;(try simp only[zz]);(go_simp;refine (c_impl_termValue F e1 s.values ((m:Int)+1) _ (V1.o.bz bel) (by omega) (by rw[h8.o.1];exact (by omega))).mono ?_;rintro e w3 ⟨rfl,rfl⟩;rw[←hx.o]);refine hK.out _ _ (⟨k00.cell,kM0.cell⟩) ?_;clear aH hK K;intro aH;refine rdc 15 rfl fun K hK=>?_;(try simp only[zz]);(go_simp;refine (c_impl_termValue F e1 s.values b _ (V1.o.bz bel) HB.o.1 (by rw[h8.o.1];exact HB.o.2)).mono ?_;rintro e w3 ⟨rfl,rfl⟩;rw[←hy.o]);refine hK.out _ _ (⟨k00.cell,kM0.cell⟩) ?_;clear aH hK K;intro aH;(try simp only[zz]);refine tk2 16 rfl aH (h:=tk2 17 rfl aH (h:=?_));(try simp only[zz]);refine dn1 ?_;obtain ⟨X,hX⟩:∃ X,X=(w.alloc (.cells #[.int .i64 2,.int .i64 ((m:Int)+1),.int .i64 b,.bool t.eq,.int .i64 t.a,.int .i64 t.b,vF,vA,vB,vE] tC)).drew:=⟨_,rfl⟩;have hBX:Below w.heap.size w X:=by rw[hX];exact bel
 have kX:Blk X w.heap.size tC #[.int .i64 2,.int .i64 ((m:Int)+1),.int .i64 b,.bool t.eq,.int .i64 t.a,.int .i64 t.b,vF,vA,vB,vE]:=by rw[hX];exact k00.drew
 have kMX:Blk X g tM #[.slice F s.values.length e1,.slice G s.heap.length e2,.int .i64 (f:Int)]:=by rw[hX];exact kM0.drew
 have oX1:=ax (o1.o.bz hBX);have oX2:=ax (o2.o.bz hBX);have hBw:B≤w.heap.size:=by omega
 have hBB:Rf B w X:=Rf.of hBX hBw;rw[←hX];clear hX k00 kM0 kM V1 aH o1 o2;(replace qkX:=kX.z;replace qkMX:=kMX.z);have hSV:aJ (StateV X B X.heap.size (.agg #[.slice F s.values.length e1,.slice G s.heap.length e2]) s):=⟨_,_,_,_,rfl,oX1.o.readsI.2,oX2.o.readsI.2⟩;(go_wp2_with fail);refine (c_impl_allocated _ s y _ hSV.o h8.o.2).mono ?_;rintro e w2 ⟨rfl,hB2⟩;replace hBB:=hBB.go hB2 hBw;replace kX:=kX.nz hB2;replace kMX:=kMX.nz hB2;replace oX1:=ax (oX1.o.bz hB2);replace oX2:=ax (oX2.o.bz hB2);(replace qkX:=kX.z;replace qkMX:=kMX.z);clear hSV;cases ha:allocB s.heap y
 ·have E:aJ (basicF s 2 ((m:Int)+1) b=(s,1)):=by
   show _=_;unfold basicF;rw[if_neg (by decide),if_pos rfl,←hy.o,ha];rfl
  clear ha;(go_wp2_with fail);go_ret;rw[E.o];exact ⟨rfl,⟨hBg,_,_,kMX,_,_,rfl,oX1.o,oX2.o,dj.o⟩,hBB⟩
 have E:aJ (basicF s 2 ((m:Int)+1) b=(⟨s.values.set m (cont s.heap y),s.heap⟩,0)):=by
  show _=_;unfold basicF;rw[if_neg (by decide),if_pos rfl,←hy.o,ha,if_pos rfl,show ((m:Int)+1 - 1).toNat=m by omega]
 have hcont:=cont_le (Ste.all_heap HS.o) y;clear ha;obtain ⟨u,hu⟩:∃ u,u=cont s.heap y:=⟨_,rfl⟩;rw[←hu] at hcont;replace hu:=ax hu;have hvl:=h8.o.1;obtain ⟨gv,cur,-,rfl,hgv,kg,hc,hset⟩:=oX1.o.cell_ (k:=m) (by omega);have q:=kg.cell m;rw[hc] at q;obtain ⟨z,hz⟩:∃ z,z=s.values[m]'(by omega):=⟨_,rfl⟩;rw[←hz] at q;have fq:=kg.frozen m;have hgvl:=kg.lt;have hne:g≠gv:=kMX.ne_ kg (by decide);have HSET:=ax (hset u);have hml:(m:Int)<(s.values.length:Int):=by omega
 have hwm:IntKind.i64.wrap (m:Int)=(m:Int):=IntWalk.i64_in _ (by omega);replace hc:=ax hc;clear hset hc hz hvl;have hSV:aJ (StateV w2 B w2.heap.size (.agg #[.slice (some ⟨gv,0,none⟩) s.values.length e1,.slice G s.heap.length e2]) s):=⟨_,_,_,_,rfl,oX1.o.readsI.2,oX2.o.readsI.2⟩;have oX1:=ax oX1.o;(go_wp2_with fail);refine wp_region_noPanic ?_;refine wp_region_last' (S:=(fun w'=>(∀ j,w'.cell? ⟨w.heap.size,j,none⟩=#[.int .i64 2,.int .i64 ((m:Int)+1),.int .i64 b,.bool t.eq,.int .i64 t.a,.int .i64 t.b,vF,vA,vB,vE][j]?)∧(∀ j,w'.cell? ⟨g,j,none⟩=#[.slice (some ⟨gv,0,none⟩) s.values.length e1,.slice G s.heap.length e2,.int .i64 (f:Int)][j]?)∧w'.cell? ⟨gv,m,none⟩=some (.int .i64 z)∧w'.frozen? ⟨gv,m,none⟩=false)) (by simp) (by kernel_rfl) (by kernel_rfl) (⟨kX.cell,kMX.cell,q,fq⟩) (fun aH=>?_);simp only[List.dropLast,List.getLast,nopOf,List.cons_append,List.nil_append,List.length_cons,List.length_nil,Nat.zero_add,Nat.reduceAdd];refine tk2 0 rfl aH (h:=tk2 1 rfl aH (h:=tk2 2 rfl aH (h:=?_)));(try simp only[zz]);refine tk2 3 rfl aH (h:=tk2 4 rfl aH (h:=tk2 5 rfl aH (h:=?_)));(try simp only[zz]);refine tk2 6 rfl aH (h:=tk2 7 rfl aH (h:=tk2 8 rfl aH (h:=?_)));(try simp only[zz]);refine tk2 9 rfl aH (h:=tk2 10 rfl aH (h:=tk2 11 rfl aH (h:=?_)));(try simp only[zz]);refine tk2 12 rfl aH (h:=?_);refine rdc 13 rfl fun K hK=>?_;(try simp only[zz]);(go_simp;refine (c_impl_content _ s y _ (hSV.o.bz bel) h8.o.2).mono ?_;rintro e w4 ⟨rfl,hB4⟩;rw[←hu.o];have B4:Below w2.heap.size w2 w4:=bgo (Below.refl _ _).drew hB4;have kX4:=kX.nz B4;have kM4:=kMX.nz B4;have q4:=(B4.cell (p:=⟨gv,m,none⟩) hgvl).trans q;have fq4:=(B4.frozen (p:=⟨gv,m,none⟩) hgvl).trans fq);refine hK.out _ _ (⟨kX4.cell,kM4.cell,q4,fq4⟩) ?_;clear aH hK K;intro aH;(try simp only[zz]);clear qkX qkMX;refine tk2 14 rfl aH (h:=?_);(try simp only[zz]);refine rdc 15 rfl fun K hK=>?_;go_simp;refine hK.out _ _ (⟨kX4.cell,kM4.cell,q4,fq4⟩) (fun aH=>?_);clear hK K;refine wpAnyH_done (by kernel_rfl) ?_ _;unfold lastQ;go_simp;refine NoPanic.normal ?_;(go_wp2_with fail);go_ret;rw[E.o,←hu.o];have hBB4:=hBB.go B4 hBw;have oY1:=oX1.o.bz B4;obtain ⟨gv',cur',-,ev,hgv',kg',hc',hset'⟩:=oY1.cell_ (k:=m) (by have:=h8.o.1;omega);injection ev with ev;injection ev with ev;subst ev;refine ⟨rfl,⟨hBg,_,_,kM4.far (p:=⟨gv,m,none⟩) hne _,_,_,rfl,hset' u,(oX2.o.bz B4).set_ne (q:=⟨gv,m,none⟩) (dj.o gv rfl) _,dj.o⟩,hBB4.set (p:=⟨gv,m,none⟩) kg' (by decide) hgv _⟩
theorem basic_store (w:World) (B g:Nat) (s:Ste) (f:Nat) (a:Int) (b:Int) (ha:0≤a∧a≤8) (hb:0≤b∧b≤8) (t:Fct) (vF vA vB vE:Value) (hM:Mach w B g s f) (hs:s.valid=true) :
  Calls Tryz.prog 261 #[.pointer (some ⟨g,0,none⟩),.agg #[.int .i64 3,.int .i64 a,.int .i64 b,.bool t.eq,.int .i64 t.a,.int .i64 t.b,vF,vA,vB,vE]] w fun e w'=>e=.returned (.int .i64 (basicF s 3 a b).2)∧Mach w' B g (basicF s 3 a b).1 f∧Rf B w w':=by
 have HA:=ax ha;have HB:aJ (0≤(b:Int)∧b≤(8:Int)):=hb;clear ha hb;obtain ⟨F,e1,G,e2,hBg,kM,o1,o2,dj⟩:=hM.form;have hgl:=kM.lt;have h8:=ax (Ste.valid_len hs);have HS:=ax hs;have V1:=ax (o1.readsI.2);obtain ⟨x,hx⟩:∃ x,x=tval s.values a:=⟨_,rfl⟩;obtain ⟨y,hy⟩:∃ x,x=tval s.values b:=⟨_,rfl⟩;have hxv:0≤x∧x≤8:=by rw[hx];exact tval_le (Ste.all_vals hs) _
 have hyv:0≤y∧y≤8:=by rw[hy];exact tval_le (Ste.all_vals hs) _
 replace hx:=ax hx;replace hy:=ax hy;replace o1:=ax o1;replace o2:=ax o2;replace dj:=ax dj;clear hM hs;have hgne:g≠w.heap.size:=by omega
 (go_enter Tryz.func261,Tryz.ntmps261);have k00:Blk (w.alloc (.cells #[.int .i64 3,.int .i64 a,.int .i64 b,.bool t.eq,.int .i64 t.a,.int .i64 t.b,vF,vA,vB,vE] tC)) w.heap.size tC #[.int .i64 3,.int .i64 a,.int .i64 b,.bool t.eq,.int .i64 t.a,.int .i64 t.b,vF,vA,vB,vE]:=Blk.new _ _ _;have kM0:Blk (w.alloc (.cells #[.int .i64 3,.int .i64 a,.int .i64 b,.bool t.eq,.int .i64 t.a,.int .i64 t.b,vF,vA,vB,vE] tC)) g tM #[.slice F s.values.length e1,.slice G s.heap.length e2,.int .i64 (f:Int)]:=kM.alloc _;(go_wp2_with fail);refine wp_region_noPanic ?_;refine wp_region_held_drew (S:=(fun w'=>(∀ j,w'.cell? ⟨w.heap.size,j,none⟩=#[.int .i64 3,.int .i64 a,.int .i64 b,.bool t.eq,.int .i64 t.a,.int .i64 t.b,vF,vA,vB,vE][j]?)∧(∀ j,w'.cell? ⟨g,j,none⟩=#[.slice F s.values.length e1,.slice G s.heap.length e2,.int .i64 (f:Int)][j]?))) (by kernel_rfl) (⟨k00.cell,kM0.cell⟩) (fun aH=>?_);refine tk2 0 rfl aH (h:=tk2 1 rfl aH (h:=tk2 2 rfl aH (h:=?_)));(try simp only[zz]);refine tk2 3 rfl aH (h:=tk2 4 rfl aH (h:=tk2 5 rfl aH (h:=?_)));(try simp only[zz]);refine tk2 6 rfl aH (h:=tk2 8 rfl aH (h:=tk2 9 rfl aH (h:=?_)));(try simp only[zz]);refine tk2 10 rfl aH (h:=tk2 11 rfl aH (h:=tk2 12 rfl aH (h:=?_)));(try simp only[zz]);refine tk2 13 rfl aH (h:=tk2 14 rfl aH (h:=?_));refine rdc 7 rfl fun K hK=>?_;(try simp only[zz]);(go_simp;refine (c_impl_termValue F e1 s.values a _ (V1.o.bz bel) HA.o.1 (by rw[h8.o.1];exact HA.o.2)).mono ?_;rintro e w3 ⟨rfl,rfl⟩;rw[←hx.o]);refine hK.out _ _ (⟨k00.cell,kM0.cell⟩) ?_;clear aH hK K;intro aH;refine rdc 15 rfl fun K hK=>?_;(try simp only[zz]);(go_simp;refine (c_impl_termValue F e1 s.values b _ (V1.o.bz bel) HB.o.1 (by rw[h8.o.1];exact HB.o.2)).mono ?_;rintro e w3 ⟨rfl,rfl⟩;rw[←hy.o]);refine hK.out _ _ (⟨k00.cell,kM0.cell⟩) ?_;clear aH hK K;intro aH;(try simp only[zz]);refine tk2 16 rfl aH (h:=tk2 17 rfl aH (h:=?_));(try simp only[zz]);refine dn1 ?_;obtain ⟨X,hX⟩:∃ X,X=(w.alloc (.cells #[.int .i64 3,.int .i64 a,.int .i64 b,.bool t.eq,.int .i64 t.a,.int .i64 t.b,vF,vA,vB,vE] tC)).drew:=⟨_,rfl⟩;have hBX:Below w.heap.size w X:=by rw[hX];exact bel
 have kX:Blk X w.heap.size tC #[.int .i64 3,.int .i64 a,.int .i64 b,.bool t.eq,.int .i64 t.a,.int .i64 t.b,vF,vA,vB,vE]:=by rw[hX];exact k00.drew
 have kMX:Blk X g tM #[.slice F s.values.length e1,.slice G s.heap.length e2,.int .i64 (f:Int)]:=by rw[hX];exact kM0.drew
 have oX1:=ax (o1.o.bz hBX);have oX2:=ax (o2.o.bz hBX);have hBw:B≤w.heap.size:=by omega
 have hBB:Rf B w X:=Rf.of hBX hBw;rw[←hX];clear hX k00 kM0 kM V1 aH o1 o2;(replace qkX:=kX.z;replace qkMX:=kMX.z);have hSV:aJ (StateV X B X.heap.size (.agg #[.slice F s.values.length e1,.slice G s.heap.length e2]) s):=⟨_,_,_,_,rfl,oX1.o.readsI.2,oX2.o.readsI.2⟩;(go_wp2_with fail);refine (c_impl_allocated _ s x _ hSV.o h8.o.2).mono ?_;rintro e w2 ⟨rfl,hB2⟩;replace hBB:=hBB.go hB2 hBw;replace kX:=kX.nz hB2;replace kMX:=kMX.nz hB2;replace oX1:=ax (oX1.o.bz hB2);replace oX2:=ax (oX2.o.bz hB2);(replace qkX:=kX.z;replace qkMX:=kMX.z);clear hSV;cases ha:allocB s.heap x
 ·have E:aJ (basicF s 3 a b=(s,1)):=by
   show _=_;unfold basicF;rw[if_neg (by decide),if_neg (by decide),if_pos rfl,←hx.o,ha];rfl
  clear ha;(go_wp2_with fail);go_ret;rw[E.o];exact ⟨rfl,⟨hBg,_,_,kMX,_,_,rfl,oX1.o,oX2.o,dj.o⟩,hBB⟩
 have hxa:=allocB_addr ha;obtain ⟨m,rfl⟩:∃ m:Nat,x=(m:Int)+1:=⟨(x - 1).toNat,by omega⟩
 have E:aJ (basicF s 3 a b=(⟨s.values,s.heap.set m y⟩,0)):=by
  show _=_;unfold basicF;rw[if_neg (by decide),if_neg (by decide),if_pos rfl,←hx.o,←hy.o,ha,if_pos rfl,show ((m:Int)+1 - 1).toNat=m by omega]
 clear ha;have hvl:=h8.o.2;obtain ⟨gv,cur,-,rfl,hgv,kg,hc,hset⟩:=oX2.o.cell_ (k:=m) (by omega);have q:=kg.cell m;rw[hc] at q;obtain ⟨z,hz⟩:∃ z,z=s.heap[m]'(by omega):=⟨_,rfl⟩;rw[←hz] at q;have fq:=kg.frozen m;have hgvl:=kg.lt;have hne:g≠gv:=kMX.ne_ kg (by decide);have HSET:=ax (hset y);have hml:(m:Int)<(s.heap.length:Int):=by omega
 clear hset hc hz hvl;(go_wp2_with fail);go_ret;rw[E.o];refine ⟨rfl,⟨hBg,_,_,kMX.far (p:=⟨gv,m,none⟩) hne _,_,_,rfl,oX1.o.set_ne (q:=⟨gv,m,none⟩) (fun e=>dj.o gv e rfl) _,?_,dj.o⟩,hBB.set (p:=⟨gv,m,none⟩) kg (by decide) hgv _⟩;exact HSET.o
theorem basic_free (w:World) (B g:Nat) (s:Ste) (f:Nat) (a:Int) (ha:0≤a∧a≤8) (t:Fct) (vF vA vB vE:Value) (hM:Mach w B g s f) (hs:s.valid=true) :
  Calls Tryz.prog 261 #[.pointer (some ⟨g,0,none⟩),.agg #[.int .i64 5,.int .i64 a,.int .i64 0,.bool t.eq,.int .i64 t.a,.int .i64 t.b,vF,vA,vB,vE]] w fun e w'=>e=.returned (.int .i64 (basicF s 5 a 0).2)∧Mach w' B g (basicF s 5 a 0).1 f∧Rf B w w':=by
 have HA:=ax ha;have HB:aJ (0≤(0:Int)∧(0:Int)≤(8:Int)):=⟨by omega,by omega⟩;clear ha;obtain ⟨F,e1,G,e2,hBg,kM,o1,o2,dj⟩:=hM.form;have hgl:=kM.lt;have h8:=ax (Ste.valid_len hs);have HS:=ax hs;have V1:=ax (o1.readsI.2);obtain ⟨x,hx⟩:∃ x,x=tval s.values a:=⟨_,rfl⟩;obtain ⟨y,hy⟩:∃ x,x=tval s.values 0:=⟨_,rfl⟩;have hxv:0≤x∧x≤8:=by rw[hx];exact tval_le (Ste.all_vals hs) _
 have hyv:0≤y∧y≤8:=by rw[hy];exact tval_le (Ste.all_vals hs) _
 replace hx:=ax hx;replace hy:=ax hy;replace o1:=ax o1;replace o2:=ax o2;replace dj:=ax dj;clear hM hs;have hgne:g≠w.heap.size:=by omega
 (go_enter Tryz.func261,Tryz.ntmps261);have k00:Blk (w.alloc (.cells #[.int .i64 5,.int .i64 a,.int .i64 0,.bool t.eq,.int .i64 t.a,.int .i64 t.b,vF,vA,vB,vE] tC)) w.heap.size tC #[.int .i64 5,.int .i64 a,.int .i64 0,.bool t.eq,.int .i64 t.a,.int .i64 t.b,vF,vA,vB,vE]:=Blk.new _ _ _;have kM0:Blk (w.alloc (.cells #[.int .i64 5,.int .i64 a,.int .i64 0,.bool t.eq,.int .i64 t.a,.int .i64 t.b,vF,vA,vB,vE] tC)) g tM #[.slice F s.values.length e1,.slice G s.heap.length e2,.int .i64 (f:Int)]:=kM.alloc _;(go_wp2_with fail);refine wp_region_noPanic ?_;refine wp_region_held_drew (S:=(fun w'=>(∀ j,w'.cell? ⟨w.heap.size,j,none⟩=#[.int .i64 5,.int .i64 a,.int .i64 0,.bool t.eq,.int .i64 t.a,.int .i64 t.b,vF,vA,vB,vE][j]?)∧(∀ j,w'.cell? ⟨g,j,none⟩=#[.slice F s.values.length e1,.slice G s.heap.length e2,.int .i64 (f:Int)][j]?))) (by kernel_rfl) (⟨k00.cell,kM0.cell⟩) (fun aH=>?_);refine tk2 0 rfl aH (h:=tk2 1 rfl aH (h:=tk2 2 rfl aH (h:=?_)));(try simp only[zz]);refine tk2 3 rfl aH (h:=tk2 4 rfl aH (h:=tk2 5 rfl aH (h:=?_)));(try simp only[zz]);refine tk2 6 rfl aH (h:=tk2 8 rfl aH (h:=tk2 9 rfl aH (h:=?_)));(try simp only[zz]);refine tk2 10 rfl aH (h:=tk2 11 rfl aH (h:=tk2 12 rfl aH (h:=?_)));(try simp only[zz]);refine tk2 13 rfl aH (h:=tk2 14 rfl aH (h:=?_));refine rdc 7 rfl fun K hK=>?_;(try simp only[zz]);(go_simp;refine (c_impl_termValue F e1 s.values a _ (V1.o.bz bel) HA.o.1 (by rw[h8.o.1];exact HA.o.2)).mono ?_;rintro e w3 ⟨rfl,rfl⟩;rw[←hx.o]);refine hK.out _ _ (⟨k00.cell,kM0.cell⟩) ?_;clear aH hK K;intro aH;refine rdc 15 rfl fun K hK=>?_;(try simp only[zz]);(go_simp;refine (c_impl_termValue F e1 s.values 0 _ (V1.o.bz bel) HB.o.1 (by rw[h8.o.1];exact HB.o.2)).mono ?_;rintro e w3 ⟨rfl,rfl⟩;rw[←hy.o]);refine hK.out _ _ (⟨k00.cell,kM0.cell⟩) ?_;clear aH hK K;intro aH;(try simp only[zz]);refine tk2 16 rfl aH (h:=tk2 17 rfl aH (h:=?_));(try simp only[zz]);refine dn1 ?_;obtain ⟨X,hX⟩:∃ X,X=(w.alloc (.cells #[.int .i64 5,.int .i64 a,.int .i64 0,.bool t.eq,.int .i64 t.a,.int .i64 t.b,vF,vA,vB,vE] tC)).drew:=⟨_,rfl⟩;have hBX:Below w.heap.size w X:=by rw[hX];exact bel
 have kX:Blk X w.heap.size tC #[.int .i64 5,.int .i64 a,.int .i64 0,.bool t.eq,.int .i64 t.a,.int .i64 t.b,vF,vA,vB,vE]:=by rw[hX];exact k00.drew
 have kMX:Blk X g tM #[.slice F s.values.length e1,.slice G s.heap.length e2,.int .i64 (f:Int)]:=by rw[hX];exact kM0.drew
 have oX1:=ax (o1.o.bz hBX);have oX2:=ax (o2.o.bz hBX);have hBw:B≤w.heap.size:=by omega
 have hBB:Rf B w X:=Rf.of hBX hBw;rw[←hX];clear hX k00 kM0 kM V1 aH o1 o2;(replace qkX:=kX.z;replace qkMX:=kMX.z);have hSV:aJ (StateV X B X.heap.size (.agg #[.slice F s.values.length e1,.slice G s.heap.length e2]) s):=⟨_,_,_,_,rfl,oX1.o.readsI.2,oX2.o.readsI.2⟩;(go_wp2_with fail);refine (c_impl_allocated _ s x _ hSV.o h8.o.2).mono ?_;rintro e w2 ⟨rfl,hB2⟩;replace hBB:=hBB.go hB2 hBw;replace kX:=kX.nz hB2;replace kMX:=kMX.nz hB2;replace oX1:=ax (oX1.o.bz hB2);replace oX2:=ax (oX2.o.bz hB2);(replace qkX:=kX.z;replace qkMX:=kMX.z);clear hSV;cases ha:allocB s.heap x
 ·have E:aJ (basicF s 5 a 0=(s,1)):=by
   show _=_;unfold basicF;rw[if_neg (by decide),if_neg (by decide),if_neg (by decide),if_neg (by decide),←hx.o,ha];rfl
  clear ha;(go_wp2_with fail);go_ret;rw[E.o];exact ⟨rfl,⟨hBg,_,_,kMX,_,_,rfl,oX1.o,oX2.o,dj.o⟩,hBB⟩
 have hxa:=allocB_addr ha;obtain ⟨m,rfl⟩:∃ m:Nat,x=(m:Int)+1:=⟨(x - 1).toNat,by omega⟩
 have E:aJ (basicF s 5 a 0=(⟨s.values,s.heap.set m (-1)⟩,0)):=by
  show _=_;unfold basicF;rw[if_neg (by decide),if_neg (by decide),if_neg (by decide),if_neg (by decide),←hx.o,ha,if_pos rfl,show ((m:Int)+1 - 1).toNat=m by omega]
 clear ha;have hvl:=h8.o.2;obtain ⟨gv,cur,-,rfl,hgv,kg,hc,hset⟩:=oX2.o.cell_ (k:=m) (by omega);have q:=kg.cell m;rw[hc] at q;obtain ⟨z,hz⟩:∃ z,z=s.heap[m]'(by omega):=⟨_,rfl⟩;rw[←hz] at q;have fq:=kg.frozen m;have hgvl:=kg.lt;have hne:g≠gv:=kMX.ne_ kg (by decide);have HSET:=ax (hset (-1));have hml:(m:Int)<(s.heap.length:Int):=by omega
 clear hset hc hz hvl;(go_wp2_with fail);go_ret;rw[E.o];refine ⟨rfl,⟨hBg,_,_,kMX.far (p:=⟨gv,m,none⟩) hne _,_,_,rfl,oX1.o.set_ne (q:=⟨gv,m,none⟩) (fun e=>dj.o gv e rfl) _,?_,dj.o⟩,hBB.set (p:=⟨gv,m,none⟩) kg (by decide) hgv _⟩;exact HSET.o
theorem basic_new (w:World) (B g:Nat) (s:Ste) (f:Nat) (m:Nat) (hm:m<4) (t:Fct) (vF vA vB vE:Value) (hM:Mach w B g s f) (hs:s.valid=true) :
  Calls Tryz.prog 261 #[.pointer (some ⟨g,0,none⟩),.agg #[.int .i64 4,.int .i64 ((m:Int)+1),.int .i64 0,.bool t.eq,.int .i64 t.a,.int .i64 t.b,vF,vA,vB,vE]] w fun e w'=>e=.returned (.int .i64 (basicF s 4 ((m:Int)+1) 0).2)∧Mach w' B g (basicF s 4 ((m:Int)+1) 0).1 f∧Rf B w w':=by
 have hm4:(m:Int)<4:=by omega
 have hm8:(m:Int)<8:=by omega
 obtain ⟨F,e1,G,e2,hBg,kM,o1,o2,dj⟩:=hM.form;have hgl:=kM.lt;have h8:=ax (Ste.valid_len hs);have HS:=ax hs;have V1:=ax (o1.readsI.2);obtain ⟨x,hx⟩:∃ x,x=tval s.values ((m:Int)+1):=⟨_,rfl⟩;obtain ⟨y,hy⟩:∃ x,x=tval s.values 0:=⟨_,rfl⟩;have hxv:0≤x∧x≤8:=by rw[hx];exact tval_le (Ste.all_vals hs) _
 have hyv:0≤y∧y≤8:=by rw[hy];exact tval_le (Ste.all_vals hs) _
 replace hx:=ax hx;replace hy:=ax hy;replace o1:=ax o1;replace o2:=ax o2;replace dj:=ax dj;clear hM hs;have hgne:g≠w.heap.size:=by omega
 (go_enter Tryz.func261,Tryz.ntmps261);have k00:Blk (w.alloc (.cells #[.int .i64 4,.int .i64 ((m:Int)+1),.int .i64 0,.bool t.eq,.int .i64 t.a,.int .i64 t.b,vF,vA,vB,vE] tC)) w.heap.size tC #[.int .i64 4,.int .i64 ((m:Int)+1),.int .i64 0,.bool t.eq,.int .i64 t.a,.int .i64 t.b,vF,vA,vB,vE]:=Blk.new _ _ _;have kM0:Blk (w.alloc (.cells #[.int .i64 4,.int .i64 ((m:Int)+1),.int .i64 0,.bool t.eq,.int .i64 t.a,.int .i64 t.b,vF,vA,vB,vE] tC)) g tM #[.slice F s.values.length e1,.slice G s.heap.length e2,.int .i64 (f:Int)]:=kM.alloc _;(go_wp2_with fail);refine wp_region_noPanic ?_;refine wp_region_held_drew (S:=(fun w'=>(∀ j,w'.cell? ⟨w.heap.size,j,none⟩=#[.int .i64 4,.int .i64 ((m:Int)+1),.int .i64 0,.bool t.eq,.int .i64 t.a,.int .i64 t.b,vF,vA,vB,vE][j]?)∧(∀ j,w'.cell? ⟨g,j,none⟩=#[.slice F s.values.length e1,.slice G s.heap.length e2,.int .i64 (f:Int)][j]?))) (by kernel_rfl) (⟨k00.cell,kM0.cell⟩) (fun aH=>?_);refine tk2 0 rfl aH (h:=tk2 1 rfl aH (h:=tk2 2 rfl aH (h:=?_)));(try simp only[zz]);refine tk2 3 rfl aH (h:=tk2 4 rfl aH (h:=tk2 5 rfl aH (h:=?_)));(try simp only[zz]);refine tk2 6 rfl aH (h:=tk2 8 rfl aH (h:=tk2 9 rfl aH (h:=?_)));(try simp only[zz]);refine tk2 10 rfl aH (h:=tk2 11 rfl aH (h:=tk2 12 rfl aH (h:=?_)));(try simp only[zz]);refine tk2 13 rfl aH (h:=tk2 14 rfl aH (h:=?_));refine rdc 7 rfl fun K hK=>?_;(try simp only[zz]);(go_simp;refine (c_impl_termValue F e1 s.values ((m:Int)+1) _ (V1.o.bz bel) (by omega) (by rw[h8.o.1];exact (by omega))).mono ?_;rintro e w3 ⟨rfl,rfl⟩;rw[←hx.o]);refine hK.out _ _ (⟨k00.cell,kM0.cell⟩) ?_;clear aH hK K;intro aH;refine rdc 15 rfl fun K hK=>?_;(try simp only[zz]);(go_simp;refine (c_impl_termValue F e1 s.values 0 _ (V1.o.bz bel) (by omega) (by rw[h8.o.1];exact (by omega))).mono ?_;rintro e w3 ⟨rfl,rfl⟩;rw[←hy.o]);refine hK.out _ _ (⟨k00.cell,kM0.cell⟩) ?_;clear aH hK K;intro aH;(try simp only[zz]);refine tk2 16 rfl aH (h:=tk2 17 rfl aH (h:=?_));(try simp only[zz]);refine dn1 ?_;obtain ⟨X,hX⟩:∃ X,X=(w.alloc (.cells #[.int .i64 4,.int .i64 ((m:Int)+1),.int .i64 0,.bool t.eq,.int .i64 t.a,.int .i64 t.b,vF,vA,vB,vE] tC)).drew:=⟨_,rfl⟩;have hBX:Below w.heap.size w X:=by rw[hX];exact bel
 have kX:Blk X w.heap.size tC #[.int .i64 4,.int .i64 ((m:Int)+1),.int .i64 0,.bool t.eq,.int .i64 t.a,.int .i64 t.b,vF,vA,vB,vE]:=by rw[hX];exact k00.drew
 have kMX:Blk X g tM #[.slice F s.values.length e1,.slice G s.heap.length e2,.int .i64 (f:Int)]:=by rw[hX];exact kM0.drew
 have oX1:=ax (o1.o.bz hBX);have oX2:=ax (o2.o.bz hBX);have hBw:B≤w.heap.size:=by omega
 have hBB:Rf B w X:=Rf.of hBX hBw;rw[←hX];clear hX k00 kM0 kM V1 aH o1 o2;(replace qkX:=kX.z;replace qkMX:=kMX.z);have hSV:aJ (StateV X B X.heap.size (.agg #[.slice F s.values.length e1,.slice G s.heap.length e2]) s):=⟨_,_,_,_,rfl,oX1.o.readsI.2,oX2.o.readsI.2⟩;have rM:=kMX.frozen;(go_wp2_with fail);refine (c_impl_AllocX _ s _ hSV.o HS.o).mono ?_;rintro e w2 ⟨hor,hB2⟩;have hXs:=kMX.lt;replace hBB:=hBB.go hB2 hBw;replace kX:=kX.nz hB2;replace kMX:=kMX.nz hB2;replace oX1:=ax (oX1.o.bz hB2);replace oX2:=ax (oX2.o.bz hB2);(replace qkX:=kX.z;replace qkMX:=kMX.z);clear hSV;rcases hor with ⟨hf,rfl⟩|⟨n,r,hf,rfl,o⟩
 ·have E:aJ (basicF s 4 ((m:Int)+1) 0=(s,2)):=by
   show _=_;unfold basicF;rw[if_neg (by decide),if_neg (by decide),if_neg (by decide),if_pos rfl,hf]
  clear hf;(go_wp2_with fail);go_ret;rw[E.o];exact ⟨rfl,⟨hBg,_,_,kMX.alloc _,_,_,rfl,oX1.o.bz (bbox (Below.refl _ _) _),oX2.o.bz (bbox (Below.refl _ _) _),dj.o⟩,hBB.alloc hBw _⟩
 have E:aJ (basicF s 4 ((m:Int)+1) 0=(⟨s.values.set m ((n:Int)+1),s.heap.set n 0⟩,0)):=by
  show _=_;unfold basicF;rw[if_neg (by decide),if_neg (by decide),if_neg (by decide),if_pos rfl,hf,show ((m:Int)+1 - 1).toNat=m by omega]
 have hn8:=freeK_lt hf;have hn8':(n:Int)<8:=by omega
 clear hf oX1 oX2 dj;obtain ⟨nf,nh,rfl,p1,p2,dj⟩:=o;obtain ⟨NF,d1,rfl,-⟩:=p1.rj;obtain ⟨NH,d2,rfl,-⟩:=p2.rj;simp only[List.length_set] at p1 p2 dj;replace p1:=ax (p1.bq (base':=B) (by omega));replace p2:=ax (p2.bq (base':=B) (by omega));replace dj:=ax dj;have hvl:=h8.o.1;obtain ⟨gv,cur,-,rfl,hgv,kg,hc,hset⟩:=p1.o.cell_ (k:=m) (by first|omega|(simp;omega));have q:=kg.cell m;rw[hc] at q;obtain ⟨z,hz⟩:∃ z,z=s.values[m]'(by omega):=⟨_,rfl⟩;rw[←hz] at q;have fq:=kg.frozen m;have hgvl:=kg.lt;have hne:g≠gv:=kMX.ne_ kg (by decide);have hne2:w.heap.size≠gv:=kX.ne_ kg (by decide);have hml:(m:Int)<(s.values.length:Int):=by omega
 clear hset hc hz hvl;(go_wp2_with fail);obtain ⟨V,hV⟩:∃ V,V=(((w2.setCell ⟨g,0,none⟩ (.slice (some ⟨gv,0,none⟩) s.values.length d1)).setCell ⟨g,1,none⟩ (.slice NH s.heap.length d2)).alloc (.cells #[.slice (some ⟨gv,0,none⟩) s.values.length d1,.slice NH s.heap.length d2] 61)):=⟨_,rfl⟩;have kMV:Blk V g tM #[.slice (some ⟨gv,0,none⟩) s.values.length d1,.slice NH s.heap.length d2,.int .i64 (f:Int)]:=by rw[hV];exact ((kMX.set_ 0 _).set_ 1 _).alloc _
 have kXV:Blk V w.heap.size tC #[.int .i64 4,.int .i64 ((m:Int)+1),.int .i64 0,.bool t.eq,.int .i64 t.a,.int .i64 t.b,vF,vA,vB,vE]:=by rw[hV];exact ((kX.far (p:=⟨g,0,none⟩) (Ne.symm hgne) _).far (p:=⟨g,1,none⟩) (Ne.symm hgne) _).alloc _
 have kgV:Blk V gv tI cur:=by rw[hV];exact ((kg.far (p:=⟨g,0,none⟩) (Ne.symm hne) _).far (p:=⟨g,1,none⟩) (Ne.symm hne) _).alloc _
 have q1:V.cell? ⟨gv,m,none⟩=some (.int .i64 z):=(kgV.cell m).trans ((kg.cell m).symm.trans q);have fq1:=kgV.frozen m;have hgvl1:=kgV.lt;have pV1:IntsO V B (.slice (some ⟨gv,0,none⟩) s.values.length d1) s.values:=by rw[hV];exact ((p1.o.setT kMX (by decide) 0 _).setT (kMX.set_ 0 _) (by decide) 1 _).bz (bbox (Below.refl _ _) _)
 have pV2:IntsO V B (.slice NH s.heap.length d2) (s.heap.set n 0):=by rw[hV];exact ((p2.o.setT kMX (by decide) 0 _).setT (kMX.set_ 0 _) (by decide) 1 _).bz (bbox (Below.refl _ _) _)
 have hBV:Rf B w V:=by rw[hV];exact ((hBB.set (p:=⟨g,0,none⟩) kMX (by decide) hBg _).set (p:=⟨g,1,none⟩) (kMX.set_ 0 _) (by decide) hBg _).alloc hBw _
 obtain ⟨gv',cur',-,ev,hgv',kg',hc',hset'⟩:=pV1.cell_ (k:=m) (by have:=h8.o.1;omega);injection ev with ev;injection ev with ev;subst ev;have HSET:=ax (hset' ((n:Int)+1));replace pV2:=ax pV2;have hwm:IntKind.i64.wrap (m:Int)=(m:Int):=IntWalk.i64_in _ (by omega);rw[←hV];clear hV kMX kX kg q fq hgvl p1 p2 hBB pV1 hset' kg' hc' qkX qkMX;refine wp_region_noPanic ?_;refine wp_region_last' (S:=(fun w'=>(∀ j,w'.cell? ⟨w.heap.size,j,none⟩=#[.int .i64 4,.int .i64 ((m:Int)+1),.int .i64 0,.bool t.eq,.int .i64 t.a,.int .i64 t.b,vF,vA,vB,vE][j]?)∧(∀ j,w'.cell? ⟨g,j,none⟩=#[.slice (some ⟨gv,0,none⟩) s.values.length d1,.slice NH s.heap.length d2,.int .i64 (f:Int)][j]?)∧w'.cell? ⟨gv,m,none⟩=some (.int .i64 z)∧w'.frozen? ⟨gv,m,none⟩=false)) (by simp) (by kernel_rfl) (by kernel_rfl) (⟨kXV.cell,kMV.cell,q1,fq1⟩) (fun aH=>?_);simp only[List.dropLast,List.getLast,nopOf,List.cons_append,List.nil_append,List.length_cons,List.length_nil,Nat.zero_add,Nat.reduceAdd];refine tk2 0 rfl aH (h:=tk2 1 rfl aH (h:=tk2 2 rfl aH (h:=?_)));(try simp only[zz]);refine tk2 3 rfl aH (h:=tk2 4 rfl aH (h:=tk2 5 rfl aH (h:=?_)));(try simp only[zz]);refine tk2 6 rfl aH (h:=tk2 7 rfl aH (h:=tk2 8 rfl aH (h:=?_)));(try simp only[zz]);refine tk2 9 rfl aH (h:=?_);(try simp only[zz]);refine rdc 10 rfl fun K hK=>?_;go_simp;refine hK.out _ _ (⟨kXV.cell,kMV.cell,q1,fq1⟩) (fun aH=>?_);clear hK K;refine wpAnyH_done (by kernel_rfl) ?_ _;unfold lastQ;go_simp;refine NoPanic.normal ?_;(go_wp2_with fail);go_ret;rw[E.o];refine ⟨rfl,⟨hBg,_,_,kMV.drewX.far (p:=⟨gv,m,none⟩) hne _,_,_,rfl,HSET.o,?_,dj.o⟩,hBV.drew.set (p:=⟨gv,m,none⟩) kgV.drewX (by decide) hgv _⟩;exact pV2.o.set_ne (q:=⟨gv,m,none⟩) (dj.o gv rfl) _
theorem c_impl_basic (w:World) (B g:Nat) (s:Ste) (f:Nat) (k a b:Int) (t:Fct) (vF vA vB vE:Value) (hM:Mach w B g s f) (hs:s.valid=true) (hf:fieldsB k a b=true) :
  Calls Tryz.prog 261 #[.pointer (some ⟨g,0,none⟩),.agg #[.int .i64 k,.int .i64 a,.int .i64 b,.bool t.eq,.int .i64 t.a,.int .i64 t.b,vF,vA,vB,vE]] w fun e w'=>e=.returned (.int .i64 (basicF s k a b).2)∧Mach w' B g (basicF s k a b).1 f∧Rf B w w':=by
 have hk:=fieldsB_basic hf;unfold fieldsB at hf
 have hP:∀ {x:Int},isProgB x=true→∃ m:Nat,x=(m:Int)+1∧m<4:=fun {x} h=>by
  simp[isProgB] at h;exact ⟨(x - 1).toNat,by omega,by omega⟩
 by_cases k1:k=1
 ·subst k1;rw[if_pos (Or.inl rfl),Bool.and_eq_true] at hf;obtain ⟨m,rfl,hm⟩:=hP hf.1;exact basic_set w B g s f m b hm (zjA.1 hf.2) t vF vA vB vE hM hs
 by_cases k2:k=2
 ·subst k2;rw[if_pos (Or.inr rfl),Bool.and_eq_true] at hf;obtain ⟨m,rfl,hm⟩:=hP hf.1;exact basic_load w B g s f m b hm (zjA.1 hf.2) t vF vA vB vE hM hs
 rw[if_neg (by omega)] at hf;by_cases k3:k=3
 ·subst k3;rw[if_pos rfl,Bool.and_eq_true] at hf;exact basic_store w B g s f a b (zjA.1 hf.1) (zjA.1 hf.2) t vF vA vB vE hM hs
 rw[if_neg k3] at hf;by_cases k4:k=4
 ·subst k4;rw[if_pos rfl,Bool.and_eq_true,decide_eq_true_eq] at hf;obtain ⟨hf1,rfl⟩:=hf;obtain ⟨m,rfl,hm⟩:=hP hf1;exact basic_new w B g s f m hm t vF vA vB vE hM hs
 rw[if_neg k4] at hf;obtain rfl:k=5:=by omega
 rw[if_pos rfl,Bool.and_eq_true,decide_eq_true_eq] at hf;obtain ⟨hf1,rfl⟩:=hf;exact basic_free w B g s f a (zjA.1 hf1) t vF vA vB vE hM hs
theorem CmsV.belowB {w w':World} {lo hi B:Nat} {A:Option Addr} {L:Cms} (h:CmsV w lo hi A L) (hb:Below B w w') (hhi:hi≤B):CmsV w' lo hi A L:=h.keep fun b _ h2=>hb.block b (by omega)
theorem fval6 {a b:Int} {t:Fct} {i:Asn} {body els:Cms} (h:fvalB 6 a b t i body els=true):t.valid=true:=by
 unfold fvalB at h;rw[if_pos rfl] at h;simp only[Bool.and_eq_true] at h;exact h.2.2.1
theorem fval7 {a b:Int} {t:Fct} {i:Asn} {body els:Cms} (h:fvalB 7 a b t i body els=true):t.valid=true:=by
 unfold fvalB at h;rw[if_neg (by decide),if_pos rfl] at h;simp only[Bool.and_eq_true] at h;exact h.2.2.1
theorem fval_basic {k a b:Int} {t:Fct} {i:Asn} {body els:Cms} (h6:k≠6) (h7:k≠7) (h:fvalB k a b t i body els=true):fieldsB k a b=true:=by
 rw[fvalB_basic h6 h7,Bool.and_eq_true] at h;exact h.2
def ListOkR (B g:Nat) (A:Option Addr) (c:Nat) (lo hi:Nat) (L:Cms):Prop:=∀ (s:Ste) (f:Nat) (w:World),Mach w B g s f→s.valid=true→f≤200→CmsV w lo hi A L→
 Calls Tryz.prog 166 #[.pointer (some ⟨g,0,none⟩),.slice A L.len c] w fun e w'=>e=.returned (.int .i64 (L.run s f).2.1)∧Mach w' B g (L.run s f).1 (L.run s f).2.2∧Rf B w w'
theorem cmdR6 {a b:Int} {t:Fct} {RB RE:Ste→Nat→Ste×Int×Nat} {s:Ste} {f:Nat}:cmdR 6 a b t RB RE s f=if t.holds s.values then RB s f else RE s f:=rfl
theorem cmdRb {k a b:Int} {t:Fct} {RB RE:Ste→Nat→Ste×Int×Nat} {s:Ste} {f:Nat} (h6:k≠6) (h7:k≠7):cmdR k a b t RB RE s f=((basicF s k a b).1,(basicF s k a b).2,f):=by
 unfold cmdR;rw[if_neg h6,if_neg h7]
theorem c_impl_command {lo hi:Nat} (w:World) (B g:Nat) (s:Ste) (f:Nat) (k a b:Int) (t:Fct) (i:Asn) (vF vA:Value) (A3 A4:Option Addr) (c3 c4:Nat) (body els:Cms) (hM:Mach w B g s f) (hs:s.valid=true) (hf:f≤200) (hv:fvalB k a b t i body els=true)
  (hV3:CmsV w lo hi A3 body) (hV4:CmsV w lo hi A4 els) (hhi:hi≤B) (IB:ListOkR B g A3 c3 lo hi body) (IE:ListOkR B g A4 c4 lo hi els) :
  Calls Tryz.prog 220 #[.pointer (some ⟨g,0,none⟩),.agg #[.int .i64 k,.int .i64 a,.int .i64 b,.bool t.eq,.int .i64 t.a,.int .i64 t.b,vF,vA,.slice A3 body.len c3,.slice A4 els.len c4]] w fun e w'=>
   e=.returned (.int .i64 (cmdF k a b t body.run els.run s f).2.1)∧Mach w' B g (cmdF k a b t body.run els.run s f).1 (cmdF k a b t body.run els.run s f).2.2∧Rf B w w':=by
 have hg:=hM.lt;have hBg:B≤g:=hM.1;have hBw:B≤w.heap.size:=by omega
 obtain ⟨RB,hRB⟩:∃ R,R=body.run:=⟨_,rfl⟩;obtain ⟨RE,hRE⟩:∃ R,R=els.run:=⟨_,rfl⟩;have hok:RunOk RB:=by rw[hRB];exact Cms.run_ok body
 have hIB:aJ (∀ (s:Ste) (f:Nat) (w:World),Mach w B g s f→s.valid=true→f≤200→CmsV w lo hi A3 body→
   Calls Tryz.prog 166 #[.pointer (some ⟨g,0,none⟩),.slice A3 body.len c3] w fun e w'=>e=.returned (.int .i64 (RB s f).2.1)∧Mach w' B g (RB s f).1 (RB s f).2.2∧Rf B w w'):=by rw[hRB];exact IB
 have hIE:aJ (∀ (s:Ste) (f:Nat) (w:World),Mach w B g s f→s.valid=true→f≤200→CmsV w lo hi A4 els→
   Calls Tryz.prog 166 #[.pointer (some ⟨g,0,none⟩),.slice A4 els.len c4] w fun e w'=>e=.returned (.int .i64 (RE s f).2.1)∧Mach w' B g (RE s f).1 (RE s f).2.2∧Rf B w w'):=by rw[hRE];exact IE
 rw[←hRB,←hRE];clear IB IE hRB hRE;replace hok:=ax hok;replace hV3:=ax hV3;replace hV4:=ax hV4;have HS:=ax hs;clear hs;rcases Nat.eq_zero_or_pos f with rfl|hf1
 ·have E:aJ (cmdF k a b t RB RE s 0=(s,3,0)):=rfl;replace hM:=ax hM;clear hv;(go_enter Tryz.func220,Tryz.ntmps220);(go_wp2_with fail);refine (c_impl_pay_no _ B g s (hM.o.bz bel)).mono ?_;rintro e w1 ⟨rfl,rfl⟩;(go_wp2_with fail);go_ret;rw[E.o];exact ⟨rfl,hM.o.bz bel,Rf.of bel hBw⟩
 obtain ⟨f,rfl⟩:∃ n,f=n+1:=⟨f - 1,by omega⟩
 have E:aJ (cmdF k a b t RB RE s (f+1)=cmdR k a b t RB RE s f):=by
  show _=_;unfold cmdF;rw[if_neg (by omega)];rfl
 clear hf1;replace hM:=ax hM
 have key:∀ (kk:Int),kk=k→Calls Tryz.prog 220 #[.pointer (some ⟨g,0,none⟩),.agg #[.int .i64 k,.int .i64 a,.int .i64 b,.bool t.eq,.int .i64 t.a,.int .i64 t.b,vF,vA,.slice A3 body.len c3,.slice A4 els.len c4]] w fun e w'=>
   e=.returned (.int .i64 (cmdR k a b t RB RE s f).2.1)∧Mach w' B g (cmdR k a b t RB RE s f).1 (cmdR k a b t RB RE s f).2.2∧Rf B w w':=by
  intro kk hkk;by_cases k6:k=6
  ·subst k6;have htv:=ax (fval6 hv);clear hv E;obtain ⟨th,hth⟩:∃ x,x=t.holds s.values:=⟨_,rfl⟩;have E6:aJ (cmdR 6 a b t RB RE s f=if th then RB s f else RE s f):=by show _=_;rw[hth];rfl
   replace hth:=ax hth;(go_enter Tryz.func220,Tryz.ntmps220);(go_wp2_with fail);refine (c_impl_pay_yes _ B g s f (hM.o.bz bel) (by omega)).mono ?_;rintro e w1 ⟨rfl,hM1,hB1⟩;have hB:Rf B w w1:=(Rf.of (w:=w) bel hBw).trans hB1;have k0:Blk w1 w.heap.size tC #[.int .i64 6,.int .i64 a,.int .i64 b,.bool t.eq,.int .i64 t.a,.int .i64 t.b,vF,vA,.slice A3 body.len c3,.slice A4 els.len c4]:=hB1.boxes _ _ (Blk.new _ _ _);obtain ⟨F,e1,G,e2,-,kM,o1,o2,dj⟩:=hM1.form;have hSV:aJ (StateV w1 B w1.heap.size (.agg #[.slice F s.values.length e1,.slice G s.heap.length e2]) s):=⟨_,_,_,_,rfl,o1.readsI.2,o2.readsI.2⟩;replace hM1:=ax hM1;clear hB1 hM o1 o2 dj;(replace qk0:=k0.z;replace qkM:=kM.z);(go_wp2_with fail);refine wp_region_noPanic ?_;refine wp_region_held_drew (S:=(fun w'=>(∀ j,w'.cell? ⟨w.heap.size,j,none⟩=#[.int .i64 6,.int .i64 a,.int .i64 b,.bool t.eq,.int .i64 t.a,.int .i64 t.b,vF,vA,.slice A3 body.len c3,.slice A4 els.len c4][j]?)∧(∀ j,w'.cell? ⟨g,j,none⟩=#[.slice F s.values.length e1,.slice G s.heap.length e2,.int .i64 (f:Int)][j]?))) (by kernel_rfl) (⟨k0.cell,kM.cell⟩) (fun aH=>?_);refine tk2 0 rfl aH (h:=tk2 1 rfl aH (h:=tk2 2 rfl aH (h:=?_)));(try simp only[zz]);refine tk2 3 rfl aH (h:=tk2 4 rfl aH (h:=tk2 5 rfl aH (h:=?_)));refine rdc 6 rfl fun K hK=>?_;(try simp only[zz]);(go_simp;refine (c_impl_TestHolds _ s t _ (hSV.o.bz bel) HS.o htv.o).mono ?_;rintro e w2 ⟨rfl,hB2⟩;rw[←hth.o];have hW2:Below w1.heap.size w1 w2:=bgo (Below.refl _ _).drew hB2;have k02:=k0.nz hW2;have kM2:=kM.nz hW2);refine hK.out _ _ (⟨k02.cell,kM2.cell⟩) ?_;clear aH hK K;intro aH;(try simp only[zz]);refine dn1 ?_;have hR2:=hB.go hW2 hBw;have hM2:=ax (hM1.o.bz hW2);clear qk0 qkM kM kM2 hSV hW2 hB2 k0 aH;have q0:=k02.cell;have l0:=k02.lt;cases th
   ·(go_wp2_with fail);refine (hIE.o s f w2 hM2.o HS.o (by omega) (hV4.o.belowB hR2.bz hhi)).mono ?_;rintro e w3 ⟨rfl,hM3,hB3⟩;(go_wp2_with fail);go_ret;rw[E6.o];exact ⟨rfl,hM3,hR2.trans hB3⟩
   ·(go_wp2_with fail);refine (hIB.o s f w2 hM2.o HS.o (by omega) (hV3.o.belowB hR2.bz hhi)).mono ?_;rintro e w3 ⟨rfl,hM3,hB3⟩;(go_wp2_with fail);go_ret;rw[E6.o];exact ⟨rfl,hM3,hR2.trans hB3⟩
  by_cases k7:k=7
  ·subst k7;have htv:=ax (fval7 hv);clear hv E k6;obtain ⟨LH,hLH⟩:∃ x,x=loopF RB t (f+1) s f:=⟨_,rfl⟩;have E7:aJ (cmdR 7 a b t RB RE s f=LH):=by show _=_;rw[hLH];rfl
   replace hLH:=ax hLH;(go_enter Tryz.func220,Tryz.ntmps220);(go_wp2_with fail);refine (c_impl_pay_yes _ B g s f (hM.o.bz bel) (by omega)).mono ?_;rintro e w1 ⟨rfl,hM1,hB1⟩;have hB:Rf B w w1:=(Rf.of (w:=w) bel hBw).trans hB1;have k0:Blk w1 w.heap.size tC #[.int .i64 7,.int .i64 a,.int .i64 b,.bool t.eq,.int .i64 t.a,.int .i64 t.b,vF,vA,.slice A3 body.len c3,.slice A4 els.len c4]:=hB1.boxes _ _ (Blk.new _ _ _);replace hM1:=ax hM1;clear hB1 hM;(replace qk0:=k0.z);(go_wp2_with fail);clear qk0
   go_loopg [] f (fun gh wx=>∃ (n:Nat) (s1:Ste),gh<n∧gh≤199∧aJ (s1.valid=true)∧aJ (LH=loopF RB t n s1 gh)∧aJ (Mach wx B g s1 gh)∧Blk wx w.heap.size tC #[.int .i64 7,.int .i64 a,.int .i64 b,.bool t.eq,.int .i64 t.a,.int .i64 t.b,vF,vA,.slice A3 body.len c3,.slice A4 els.len c4]∧Rf B w wx)
   case atStart=>exact ⟨f+1,s,by omega,by omega,HS,hLH,hM1,k0,hB⟩
   case round=>
    clear k0 hB hM1;obtain ⟨n,s1,hn,hgk,HS1,HL,hM1,k0,hB⟩:=hrel;obtain ⟨n,rfl⟩:∃ m,n=m+1:=⟨n - 1,by omega⟩;obtain ⟨F,e1,G,e2,-,kM,o1,o2,dj⟩:=hM1.o.form;have hSV:aJ (StateV wr B wr.heap.size (.agg #[.slice F s1.values.length e1,.slice G s1.heap.length e2]) s1):=⟨_,_,_,_,rfl,o1.readsI.2,o2.readsI.2⟩;clear o1 o2 dj;obtain ⟨th,hth⟩:∃ x,x=t.holds s1.values:=⟨_,rfl⟩;have HL2:=HL.o;rw[loopF,←hth] at HL2;replace HL2:=ax HL2;replace hth:=ax hth;clear HL;(replace qk0:=k0.z;replace qkM:=kM.z);(go_wp2_with fail);refine wp_region_noPanic ?_;refine wp_region_held_drew (S:=(fun w'=>(∀ j,w'.cell? ⟨w.heap.size,j,none⟩=#[.int .i64 7,.int .i64 a,.int .i64 b,.bool t.eq,.int .i64 t.a,.int .i64 t.b,vF,vA,.slice A3 body.len c3,.slice A4 els.len c4][j]?)∧(∀ j,w'.cell? ⟨g,j,none⟩=#[.slice F s1.values.length e1,.slice G s1.heap.length e2,.int .i64 (gk:Int)][j]?))) (by kernel_rfl) (⟨k0.cell,kM.cell⟩) (fun aH=>?_);refine tk2 0 rfl aH (h:=tk2 1 rfl aH (h:=tk2 2 rfl aH (h:=?_)));(try simp only[zz]);refine tk2 3 rfl aH (h:=tk2 4 rfl aH (h:=tk2 5 rfl aH (h:=?_)));refine rdc 6 rfl fun K hK=>?_;(try simp only[zz]);(go_simp;refine (c_impl_TestHolds _ s1 t _ (hSV.o.bz bel) HS1.o htv.o).mono ?_;rintro e w2 ⟨rfl,hB2⟩;rw[←hth.o];have hW2:Below wr.heap.size wr w2:=bgo (Below.refl _ _).drew hB2;have k02:=k0.nz hW2;have kM2:=kM.nz hW2);refine hK.out _ _ (⟨k02.cell,kM2.cell⟩) ?_;clear aH hK K;intro aH;(try simp only[zz]);refine dn1 ?_;have hR2:=hB.go hW2 hBw;have hM2:=ax (hM1.o.bz hW2);clear qk0 qkM kM kM2 hSV hW2 hB2 k0 aH hM1;have q0:=k02.cell;have l0:=k02.lt;cases th
    ·have HL3:aJ (LH=(s1,0,gk)):=HL2.o;clear HL2;(go_wp2_with fail);go_ret;rw[E7.o,HL3.o];exact ⟨rfl,hM2.o,hR2⟩
    obtain ⟨P,hP⟩:∃ P,P=RB s1 gk:=⟨_,rfl⟩;obtain ⟨s2,c2,f2⟩:=P;have hk:=hok.o s1 gk HS1.o;have HL3:=HL2.o;rw[if_pos rfl,←hP] at HL3;rw[←hP] at hk;obtain ⟨hk1,hk2,hk3,hk4⟩:=hk;simp only at hk1 hk2 hk3 hk4 HL3;have hIB':=hIB.o s1 gk w2 hM2.o HS1.o (by omega) (hV3.o.belowB hR2.bz hhi);rw[←hP] at hIB';replace hIB':=ax hIB';replace HL3:=ax HL3;replace hk1:=ax hk1;clear HL2 hP;(go_wp2_with fail);refine hIB'.o.mono ?_;rintro e w3 ⟨rfl,hM3,hB3⟩;have hR3:=hR2.trans hB3;have k03:=hB3.boxes _ _ k02;replace hM3:=ax hM3;clear hB3 k02 q0 l0 hM2 hR2 hIB';by_cases hc:c2=0
    ·have HL4:=HL3.o;rw[if_neg (by omega)] at HL4;rcases Nat.eq_zero_or_pos f2 with hz|hpos
     ·subst hz;rw[if_pos (by omega)] at HL4;replace HL4:=ax HL4;have q0:=k03.cell;have l0:=k03.lt;clear HL3;(go_wp2_with fail);refine (c_impl_pay_no _ B g s2 hM3.o).mono ?_;rintro e w4 ⟨rfl,rfl⟩;(go_wp2_with fail);go_ret;rw[E7.o,HL4.o];exact ⟨rfl,hM3.o,hR3⟩
     ·obtain ⟨f2,rfl⟩:∃ m,f2=m+1:=⟨f2 - 1,by omega⟩;rw[if_neg (by omega),Nat.add_sub_cancel] at HL4;replace HL4:=ax HL4;have q0:=k03.cell;have l0:=k03.lt;clear HL3;(go_wp2_with fail);refine (c_impl_pay_yes _ B g s2 f2 hM3.o (by omega)).mono ?_;rintro e w4 ⟨rfl,hM4,hB4⟩;have hR4:=hR3.trans hB4;have k04:=hB4.boxes _ _ k03;clear q0 l0;(go_wp2_with fail)
      go_roundg f2
      case measure=>omega
      case rel=>exact ⟨n,s2,by omega,by omega,hk1,HL4,ax hM4,k04,hR4⟩
    ·have HL4:=HL3.o;rw[if_pos hc] at HL4;replace HL4:=ax HL4;have hcb:(c2 != 0)=true:=by simpa using hc
     have q0:=k03.cell;have l0:=k03.lt;clear HL3;(go_wp2_with fail);go_ret;rw[E7.o,HL4.o];exact ⟨rfl,hM3.o,hR3⟩
  have hfb:=ax (fval_basic k6 k7 hv);have Eb:=ax (cmdRb (a:=a) (b:=b) (t:=t) (RB:=RB) (RE:=RE) (s:=s) (f:=f) k6 k7);clear hv E;(go_enter Tryz.func220,Tryz.ntmps220);(go_wp2_with fail);refine (c_impl_pay_yes _ B g s f (hM.o.bz bel) (by omega)).mono ?_;rintro e w1 ⟨rfl,hM1,hB1⟩;have hB:Rf B w w1:=(Rf.of (w:=w) bel hBw).trans hB1;have k0:Blk w1 w.heap.size tC #[.int .i64 k,.int .i64 a,.int .i64 b,.bool t.eq,.int .i64 t.a,.int .i64 t.b,vF,vA,.slice A3 body.len c3,.slice A4 els.len c4]:=hB1.boxes _ _ (Blk.new _ _ _);replace hM1:=ax hM1;clear hB1 hM;(replace qk0:=k0.z);(go_wp2_with fail);refine (c_impl_basic w1 B g s f k a b t vF vA _ _ hM1.o HS.o hfb.o).mono ?_;rintro e w2 ⟨rfl,hM2,hB2⟩;replace hM2:=ax hM2;(go_wp2_with fail);go_ret;rw[Eb.o];exact ⟨rfl,hM2.o,hB.trans hB2⟩
 rw[E.o];exact key k rfl
theorem list_go:∀ (N:Nat) (L:Cms),L.sz<N→∀ (A:Option Addr) (c d lo hi B g:Nat),L.len≤1049600→L.small 1049600→L.shape d=true→hi≤B→ListOkR B g A c lo hi L:=by
 intro N
 induction N with
 | zero=>intro L h;omega
 | succ N IH=>
  intro L hsz A c d lo hi B g hlen hsm hsh hhi s f w hM hs hf hV;replace IH:=ax IH;replace hsm:=ax hsm;replace hsz:=ax hsz;replace hsh:=ax hsh;have hg:=hM.lt;have hBw:B≤w.heap.size:=by have:=hM.1;omega
  obtain ⟨n,hn⟩:∃ n,n=L.len:=⟨_,rfl⟩;rw[←hn];rw[←hn] at hlen;replace hn:=ax hn;replace hV:=ax hV;replace hM:=ax hM;replace hs:=ax hs;(go_enter Tryz.func166,Tryz.ntmps166);(go_wp2_with fail)
  go_loopw [10] (fun x wr=>∃ (j f1:Nat) (s1:Ste),j≤n∧x=.int .i64 j∧f1≤200∧aJ (s1.valid=true)∧aJ (L.run s f=(L.drop j).run s1 f1)∧aJ (Mach wr B g s1 f1)∧Rf B w wr) (fun x _=>n - (intOf x).toNat)
  case atStart=>exact ⟨0,f,s,Nat.zero_le _,rfl,hf,hs,ax rfl,hM,Rf.of (Below.refl _ _) hBw⟩
  case round=>
   clear hM hs;obtain ⟨j,f1,s1,hj,rfl,hf1,hs1,HR,hM1,hR1⟩:=hrel;by_cases hlt:j<n
   ·have hpos:0<(L.drop j).len:=by rw[Cms.drop_len,←hn.o];omega
    obtain ⟨k,a,b,t,i,body,els,r,eL⟩:=Cms.cons_of_len hpos;obtain ⟨bl,o,rfl,-,-,hAt⟩:=(hV.o.belowB hR1.bz hhi) (by rw[←hn.o];omega);have hD:=hAt.drop j;have hSm:=Cms.small_drop j hsm.o;have hZ:=Cms.sz_drop j L;have hDs:=Cms.drop_succ j L eL;have hshj:=Cms.shape_drop j hsh.o;have HR':=HR.o;rw[eL] at hD hSm hZ HR' hshj;obtain ⟨⟨p0,p1,p2,p3,p4,p5⟩,⟨A6,c6,p6,g6⟩,⟨A7,c7,p7,g7⟩,⟨A8,c8,p8,g8⟩,⟨A9,c9,p9,g9⟩,-⟩:=hD;obtain ⟨s1',s2',s3,s4,s5,s6,-⟩:=hSm;simp only[Cms.sz] at hZ;have hbs:body.sz<N:=by have:=hsz.o;omega
    have hes:els.sz<N:=by have:=hsz.o;omega
    have gB:CmsV wr lo hi A8 body:=g8;have gE:CmsV wr lo hi A9 els:=g9;rw[Cms.shape] at hshj;simp only[Bool.and_eq_true] at hshj;obtain ⟨-,hfv,hsb,hse,-⟩:=hshj;have hIB:=IH.o body hbs A8 c8 (d - 1) lo hi B g s3 s5 hsb hhi;have hIE:=IH.o els hes A9 c9 (d - 1) lo hi B g s4 s6 hse hhi;have hcmd:=c_impl_command (lo:=lo) (hi:=hi) (wr.alloc (.cells #[.int .i64 k,.int .i64 a,.int .i64 b,.bool t.eq,.int .i64 t.a,.int .i64 t.b,.slice A6 i.facts.length c6,.slice A7 i.atoms.length c7,.slice A8 body.len c8,.slice A9 els.len c9] tC)) B g s1 f1 k a b t i (.slice A6 i.facts.length c6) (.slice A7 i.atoms.length c7) A8 A9 c8 c9 body els (hM1.o.bz bel) hs1.o hf1 hfv (gB.bz bel) (gE.bz bel) hhi hIB hIE;have hok:=cmdF_ok (Cms.run_ok body) (Cms.run_ok els) k a b t s1 f1 hs1.o;rw[Cms.run,←hDs] at HR';obtain ⟨P,hP⟩:∃ P,P=cmdF k a b t body.run els.run s1 f1:=⟨_,rfl⟩;rw[←hP] at hcmd hok HR';obtain ⟨s2,c2,f2⟩:=P;obtain ⟨hk1,hk2,hk3,hk4⟩:=hok;simp only at hk1 hk2 hk3 hk4 HR' hcmd;replace hcmd:=ax hcmd;replace HR':=ax HR';replace hk1:=ax hk1;clear hZ hpos hAt g6 g7 g8 g9 HR hDs eL hfv hsb hse hIB hIE gB gE hP hM1 s1' s2' s5 s6;(go_wp2_with fail);refine hcmd.o.mono ?_;rintro e w2 ⟨rfl,hM2,hB2⟩;have hR2:Rf B w w2:=(hR1.alloc hBw _).trans hB2;replace hM2:=ax hM2;clear hcmd p0 p1 p2 p3 p4 p5 p6 p7 p8 p9 hB2;by_cases hc:c2=0
    ·have HL4:=HR'.o;rw[if_neg (by omega)] at HL4;replace HL4:=ax HL4;clear HR';(go_wp2_with fail)
     go_round
     case rel=>exact ⟨j+1,f2,s2,by omega,by go_num,by omega,hk1,HL4,hM2,hR2⟩
     case measure=>simp[intOf];omega
    ·have HL4:=HR'.o;rw[if_pos hc] at HL4;replace HL4:=ax HL4;have hcb:(c2 != 0)=true:=by simpa using hc
     clear HR';(go_wp2_with fail);go_ret;rw[HL4.o];exact ⟨rfl,hM2.o,hR2⟩
   ·(go_wp2_with fail);go_ret;obtain rfl:j=n:=by omega
    have e1:L.drop j=.nil:=by rw[hn.o];exact Cms.drop_all L
    have h2:=HR.o;rw[e1] at h2;rw[h2];exact ⟨rfl,hM1.o,hR1⟩
theorem noFct_cases (t:Fct):t=⟨false,0,0⟩∨(t.eq=true∧noFct t=false)∨(t.eq=false∧t.a≠0∧noFct t=false)∨(t.eq=false∧t.a=0∧t.b≠0∧noFct t=false):=by
 obtain ⟨q,a,b⟩:=t;simp only[noFct,Fct.mk.injEq];cases q
 ·by_cases ha:a=0
  ·by_cases hb:b=0
   ·simp[ha,hb]
   ·simp[ha,hb]
  ·simp[ha]
 ·simp
/- a basic command that is not plain -/
theorem fields_no {lo hi:Nat} (k a b:Int) (t:Fct) (i:Asn) (A1 A2 A3 A4:Option Addr) (c1 c2 c3 c4:Nat) (body els:Cms) (w:World) (hA:AsnV w lo hi (.agg #[.slice A1 i.facts.length c1,.slice A2 i.atoms.length c2]) i) (h3:body.len≤1049600) (h4:els.len≤1049600) (hk:1≤k∧k≤5) (hn:plainB t i body els=false) :
  Calls Tryz.prog 212 #[.agg #[.int .i64 k,.int .i64 a,.int .i64 b,.bool t.eq,.int .i64 t.a,.int .i64 t.b,.slice A1 i.facts.length c1,.slice A2 i.atoms.length c2,.slice A3 body.len c3,.slice A4 els.len c4]] w fun e w'=>e=.returned (.bool false)∧Below w.heap.size w w':=by
 have h1:i.facts.length≤1049600:=by obtain ⟨_,_,_,_,e,g1,g2⟩:=hA;exact g1.le
 have h2:i.atoms.length≤1049600:=by obtain ⟨_,_,_,_,e,g1,g2⟩:=hA;exact g2.le
 have hkb:basicB k=true:=by simp[basicB,hk]
 replace hkb:=ax hkb;clear hA hk;obtain ⟨y,hy⟩:∃ y,y=noAsn i:=⟨_,rfl⟩;replace hy:=ax hy;obtain rfl|⟨u1,-⟩|⟨u1,u2,-⟩|⟨u1,u2,u3,-⟩:=noFct_cases t
 case' inr.inl=>rw[u1];clear u1
 case' inr.inr.inl=>rw[u1];clear u1
 case' inr.inr.inr=>rw[u1,u2];clear u1 u2
 case inl=>
  have hn':(y&&(decide (body.len=0)&&decide (els.len=0)))=false:=by rw[hy.o];simpa[plainB,noFct] using hn
  clear hn;replace hn':=ax hn';(go_enter Tryz.func212,Tryz.ntmps212);(go_wp2_with fail);refine (c_impl_isBasic k a b ⟨false,0,0⟩ _ _ _ _ _).mono ?_;rintro e w1 ⟨rfl,hB1⟩;rw[hkb.o];have hB:=bgo (w:=w) bel hB1;have K0:=(Blk.nz (g:=w.heap.size) (Blk.new w _ _) hB1);have q0:=K0.cell;have l0:=K0.lt;clear hB1;(go_wp2_with fail);refine (c_impl_noAssertion A1 A2 c1 c2 i _ h1 h2).mono ?_;rintro e w2 ⟨rfl,hB2⟩;rw[←hy.o];have hBB:=bgo hB hB2;have K1:=K0.nz hB2;clear q0 l0 hB2;have q0:=K1.cell;have l0:=K1.lt;cases y
  ·(go_wp2_with fail);go_ret;exact ⟨zjD rfl,hBB⟩
  by_cases z1:body.len=0
  case neg=>
   have z1':0<body.len:=by omega
   (go_wp2_with fail);go_ret;exact ⟨zjD rfl,hBB⟩
  by_cases z2:els.len=0
  case neg=>
   have z2':0<els.len:=by omega
   (go_wp2_with fail);go_ret;exact ⟨zjD rfl,hBB⟩
  exact absurd hn'.o (by simp[z1,z2])
 case inr.inl=>
  clear hn;(go_enter Tryz.func212,Tryz.ntmps212);(go_wp2_with fail);refine (c_impl_isBasic k a b ⟨true,t.a,t.b⟩ _ _ _ _ _).mono ?_;rintro e w1 ⟨rfl,hB1⟩;rw[hkb.o];have hB:=bgo (w:=w) bel hB1;have K0:=(Blk.nz (g:=w.heap.size) (Blk.new w _ _) hB1);have q0:=K0.cell;have l0:=K0.lt;clear hB1;(go_wp2_with fail);go_ret;exact ⟨zjD rfl,hB⟩
 case inr.inr.inl=>
  clear hn;(go_enter Tryz.func212,Tryz.ntmps212);(go_wp2_with fail);refine (c_impl_isBasic k a b ⟨false,t.a,t.b⟩ _ _ _ _ _).mono ?_;rintro e w1 ⟨rfl,hB1⟩;rw[hkb.o];have hB:=bgo (w:=w) bel hB1;have K0:=(Blk.nz (g:=w.heap.size) (Blk.new w _ _) hB1);have q0:=K0.cell;have l0:=K0.lt;clear hB1;(go_wp2_with fail);go_ret;exact ⟨zjD rfl,hB⟩
 case inr.inr.inr=>
  clear hn;(go_enter Tryz.func212,Tryz.ntmps212);(go_wp2_with fail);refine (c_impl_isBasic k a b ⟨false,0,t.b⟩ _ _ _ _ _).mono ?_;rintro e w1 ⟨rfl,hB1⟩;rw[hkb.o];have hB:=bgo (w:=w) bel hB1;have K0:=(Blk.nz (g:=w.heap.size) (Blk.new w _ _) hB1);have q0:=K0.cell;have l0:=K0.lt;clear hB1;(go_wp2_with fail);go_ret;exact ⟨zjD rfl,hB⟩
theorem fields_yes {lo hi:Nat} (k a b:Int) (t:Fct) (i:Asn) (A1 A2 A3 A4:Option Addr) (c1 c2 c3 c4:Nat) (body els:Cms) (w:World) (hA:AsnV w lo hi (.agg #[.slice A1 i.facts.length c1,.slice A2 i.atoms.length c2]) i) (h3:body.len≤1049600) (h4:els.len≤1049600) (hk:1≤k∧k≤5) (hn:plainB t i body els=true) :
  Calls Tryz.prog 212 #[.agg #[.int .i64 k,.int .i64 a,.int .i64 b,.bool t.eq,.int .i64 t.a,.int .i64 t.b,.slice A1 i.facts.length c1,.slice A2 i.atoms.length c2,.slice A3 body.len c3,.slice A4 els.len c4]] w fun e w'=>e=.returned (.bool (fieldsB k a b))∧Below w.heap.size w w':=by
 have h1:i.facts.length≤1049600:=by obtain ⟨_,_,_,_,e,g1,g2⟩:=hA;exact g1.le
 have h2:i.atoms.length≤1049600:=by obtain ⟨_,_,_,_,e,g1,g2⟩:=hA;exact g2.le
 have hkb:basicB k=true:=by simp[basicB,hk]
 replace hkb:=ax hkb;replace hk:=ax hk;clear hA;have hn':noFct t=true∧noAsn i=true∧body.len=0∧els.len=0:=by simpa[plainB] using hn
 obtain ⟨e1,e2,e3,e4⟩:=hn';rw[e3,e4];clear hn e3 e4;obtain rfl:t=⟨false,0,0⟩:=by simpa[noFct] using e1
 clear e1;replace e2:=ax e2;obtain ⟨R,hR⟩:∃ R,R=fieldsB k a b:=⟨_,rfl⟩;rw[←hR];unfold fieldsB at hR;obtain ⟨pa,hpa⟩:∃ pa,pa=isProgB a:=⟨_,rfl⟩;obtain ⟨ta,hta⟩:∃ ta,ta=jq a:=⟨_,rfl⟩;obtain ⟨tb,htb⟩:∃ tb,tb=jq b:=⟨_,rfl⟩;rw[←hpa,←hta,←htb] at hR;replace hpa:=ax hpa;replace hta:=ax hta;replace htb:=ax htb;replace hR:=ax hR;(go_enter Tryz.func212,Tryz.ntmps212);(go_wp2_with fail);refine (c_impl_isBasic k a b ⟨false,0,0⟩ _ _ _ _ _).mono ?_;rintro e w1 ⟨rfl,hB1⟩;rw[hkb.o];have hB:=bgo (w:=w) bel hB1;have K0:=(Blk.nz (g:=w.heap.size) (Blk.new w _ _) hB1);have q0:=K0.cell;have l0:=K0.lt;(go_wp2_with fail);refine (c_impl_noAssertion A1 A2 c1 c2 i _ h1 h2).mono ?_;rintro e w2 ⟨rfl,hB2⟩;rw[e2.o];have hBB:=bgo hB hB2;have K1:=K0.nz hB2;clear q0 l0;have q0:=K1.cell;have l0:=K1.lt;by_cases k1:k=1∨k=2
 ·have hR2:=ax (show R=(pa&&tb) from by rw[hR.o,if_pos k1]);clear hR;rcases k1 with rfl|rfl
  all_goals
   cases pa
   all_goals
    cases tb
    all_goals
     (go_wp2_with (first|(go_at_call 105;refine (c_impl_isProgramVar a _).mono ?_;rintro e w' ⟨rfl,rfl⟩;rw[←hpa.o])|(go_at_call 151;refine (c_impl_isTerm b _).mono ?_;rintro e w' ⟨rfl,rfl⟩;rw[←htb.o])));go_ret;exact ⟨zjD (by rw[hR2.o];rfl),hBB⟩
 by_cases k3:k=3
 ·have hR2:=ax (show R=(ta&&tb) from by rw[hR.o,if_neg k1,if_pos k3]);clear hR;subst k3;clear k1;cases ta
  all_goals
   cases tb
   all_goals
    (go_wp2_with (first|(go_at_call 151;refine (c_impl_isTerm a _).mono ?_;rintro e w' ⟨rfl,rfl⟩;rw[←hta.o])|(go_at_call 151;refine (c_impl_isTerm b _).mono ?_;rintro e w' ⟨rfl,rfl⟩;rw[←htb.o])));go_ret;exact ⟨zjD (by rw[hR2.o];rfl),hBB⟩
 by_cases k4:k=4
 ·have hR2:=ax (show R=(pa&&decide (b=0)) from by rw[hR.o,if_neg k1,if_neg k3,if_pos k4]);clear hR;subst k4;clear k1 k3;cases pa
  all_goals
   by_cases b0:b=0
   all_goals
    have hb0:=ax b0;(go_wp2_with (go_at_call 105;refine (c_impl_isProgramVar a _).mono ?_;rintro e w' ⟨rfl,rfl⟩;rw[←hpa.o]));go_ret;exact ⟨zjD (by rw[hR2.o];first|rfl|(simp_all)),hBB⟩
 obtain rfl:k=5:=by have:=hk.o;omega
 have hR2:=ax (show R=(ta&&decide (b=0)) from by rw[hR.o,if_neg k1,if_neg k3,if_neg k4,if_pos rfl]);clear hR k1 k3 k4;cases ta
 all_goals
  by_cases b0:b=0
  all_goals
   have hb0:=ax b0;(go_wp2_with (go_at_call 151;refine (c_impl_isTerm a _).mono ?_;rintro e w' ⟨rfl,rfl⟩;rw[←hta.o]));go_ret;exact ⟨zjD (by rw[hR2.o];first|rfl|(simp_all)),hBB⟩
theorem fields_far {lo hi:Nat} (k a b:Int) (t:Fct) (i:Asn) (A1 A2 A3 A4:Option Addr) (c1 c2 c3 c4:Nat) (body els:Cms) (w:World) (hA:AsnV w lo hi (.agg #[.slice A1 i.facts.length c1,.slice A2 i.atoms.length c2]) i) (h3:body.len≤1049600) (h4:els.len≤1049600) (hk:¬(1≤k∧k≤5)) :
  Calls Tryz.prog 212 #[.agg #[.int .i64 k,.int .i64 a,.int .i64 b,.bool t.eq,.int .i64 t.a,.int .i64 t.b,.slice A1 i.facts.length c1,.slice A2 i.atoms.length c2,.slice A3 body.len c3,.slice A4 els.len c4]] w fun e w'=>e=.returned (.bool (fvalB k a b t i body els))∧Below w.heap.size w w':=by
 have h1:i.facts.length≤1049600:=by obtain ⟨_,_,_,_,e,g1,g2⟩:=hA;exact g1.le
 have h2:i.atoms.length≤1049600:=by obtain ⟨_,_,_,_,e,g1,g2⟩:=hA;exact g2.le
 have hkb:basicB k=false:=by simp[basicB];omega
 replace hkb:=ax hkb;obtain ⟨F,hF⟩:∃ F,F=fvalB k a b t i body els:=⟨_,rfl⟩;rw[←hF];obtain ⟨tv,htv⟩:∃ x,x=t.valid:=⟨_,rfl⟩;obtain ⟨ni,hni⟩:∃ x,x=noAsn i:=⟨_,rfl⟩;obtain ⟨iv,hiv⟩:∃ x,x=i.valid:=⟨_,rfl⟩;replace htv:=ax htv;replace hni:=ax hni;replace hiv:=ax hiv;replace hF:=ax hF;replace hA:=ax hA;(go_enter Tryz.func212,Tryz.ntmps212);(go_wp2_with fail);refine (c_impl_isBasic k a b t _ _ _ _ _).mono ?_;rintro e w1 ⟨rfl,hB1⟩;rw[hkb.o];have hB:=bgo (w:=w) bel hB1;have K0:=(Blk.nz (g:=w.heap.size) (Blk.new w _ _) hB1);have q0:=K0.cell;have l0:=K0.lt;clear hB1;by_cases k6:k=6
 ·subst k6;clear hk;by_cases a0:a=0
  case neg=>
   (go_wp2_with fail);go_ret;exact ⟨zjD (hF.o.trans (by unfold fvalB;rw[if_pos rfl];simp[a0])).symm,hB⟩
  subst a0;by_cases b0:b=0
  case neg=>
   (go_wp2_with fail);go_ret;exact ⟨zjD (hF.o.trans (by unfold fvalB;rw[if_pos rfl];simp[b0])).symm,hB⟩
  subst b0;(go_wp2_with fail);refine (c_impl_FactValid t _).mono ?_;rintro e w2 ⟨rfl,hBx⟩;rw[←htv.o];replace hB:=bgo hB hBx;replace K0:=K0.nz hBx;replace q0:=K0.cell;replace l0:=K0.lt;clear hBx;cases tv
  case false=>
   (go_wp2_with fail);go_ret;exact ⟨zjD (hF.o.trans (by unfold fvalB;rw[if_pos rfl];simp[←htv.o])).symm,hB⟩
  (go_wp2_with fail);refine (c_impl_noAssertion A1 A2 c1 c2 i _ h1 h2).mono ?_;rintro e w3 ⟨rfl,hBx⟩;rw[←hni.o];replace hB:=bgo hB hBx;replace K0:=K0.nz hBx;replace q0:=K0.cell;replace l0:=K0.lt;clear hBx;have HFF:=ax (show F=ni from hF.o.trans (by unfold fvalB;rw[if_pos rfl];simp[←htv.o,←hni.o]));(go_wp2_with fail);go_ret;exact ⟨zjD HFF.o.symm,hB⟩
 by_cases k7:k=7
 ·subst k7;clear hk;by_cases a0:a=0
  case neg=>
   (go_wp2_with fail);go_ret;exact ⟨zjD (hF.o.trans (by unfold fvalB;rw[if_neg (by decide),if_pos rfl];simp[a0])).symm,hB⟩
  subst a0;by_cases b0:b=0
  case neg=>
   (go_wp2_with fail);go_ret;exact ⟨zjD (hF.o.trans (by unfold fvalB;rw[if_neg (by decide),if_pos rfl];simp[b0])).symm,hB⟩
  subst b0;(go_wp2_with fail);refine (c_impl_FactValid t _).mono ?_;rintro e w2 ⟨rfl,hBx⟩;rw[←htv.o];replace hB:=bgo hB hBx;replace K0:=K0.nz hBx;replace q0:=K0.cell;replace l0:=K0.lt;clear hBx;cases tv
  case false=>
   (go_wp2_with fail);go_ret;exact ⟨zjD (hF.o.trans (by unfold fvalB;rw[if_neg (by decide),if_pos rfl];simp[←htv.o])).symm,hB⟩
  (go_wp2_with fail);refine (jz _ i _ (hA.o.bz hB)).mono ?_;rintro e w3 ⟨rfl,hBx⟩;rw[←hiv.o];replace hB:=bgo hB hBx;replace K0:=K0.nz hBx;replace q0:=K0.cell;replace l0:=K0.lt;clear hBx;cases iv
  case false=>
   (go_wp2_with fail);go_ret;exact ⟨zjD (hF.o.trans (by unfold fvalB;rw[if_neg (by decide),if_pos rfl];simp[←hiv.o])).symm,hB⟩
  have HFF:=ax (show F=decide (els.len=0) from hF.o.trans (by unfold fvalB;rw[if_neg (by decide),if_pos rfl];simp[←htv.o,←hiv.o]));by_cases e0:els.len=0
  all_goals
   have He0:=ax e0;(go_wp2_with fail);go_ret;exact ⟨zjD (by rw[HFF.o];first|rfl|(simp_all)),hB⟩
 have HFF:aJ (F=false):=by
  rw[aJ,hF.o,fvalB_basic k6 k7]
  have:fieldsB k a b=false:=by
   cases h:fieldsB k a b
   ·rfl
   ·exact absurd (fieldsB_basic h) hk
  rw[this,Bool.and_false]
 have kk1:k≠1:=fun e=>hk (by omega);have kk2:k≠2:=fun e=>hk (by omega);have kk3:k≠3:=fun e=>hk (by omega);have kk4:k≠4:=fun e=>hk (by omega);have kk5:k≠5:=fun e=>hk (by omega);clear hk;(go_wp2_with fail);go_ret;exact ⟨zjD HFF.o.symm,hB⟩
theorem c_impl_fieldsValid {lo hi:Nat} (k a b:Int) (t:Fct) (i:Asn) (A1 A2 A3 A4:Option Addr) (c1 c2 c3 c4:Nat) (body els:Cms) (w:World) (hA:AsnV w lo hi (.agg #[.slice A1 i.facts.length c1,.slice A2 i.atoms.length c2]) i) (h3:body.len≤1049600) (h4:els.len≤1049600) :
  Calls Tryz.prog 212 #[.agg #[.int .i64 k,.int .i64 a,.int .i64 b,.bool t.eq,.int .i64 t.a,.int .i64 t.b,.slice A1 i.facts.length c1,.slice A2 i.atoms.length c2,.slice A3 body.len c3,.slice A4 els.len c4]] w fun e w'=>e=.returned (.bool (fvalB k a b t i body els))∧Below w.heap.size w w':=by
 by_cases hk:1≤k∧k≤5
 ·rw[fvalB_basic (by omega) (by omega)];cases hn:plainB t i body els
  ·exact fields_no k a b t i A1 A2 A3 A4 c1 c2 c3 c4 body els w hA h3 h4 hk hn
  ·exact fields_yes k a b t i A1 A2 A3 A4 c1 c2 c3 c4 body els w hA h3 h4 hk hn
 ·exact fields_far k a b t i A1 A2 A3 A4 c1 c2 c3 c4 body els w hA h3 h4 hk
theorem idx2 (A B:Option Addr) (n m c d:Nat) (w:World):(Instr.index 245 (.agg #[.slice A n c,.slice B m d]) (.int .i64 0)).run Tryz.prog w=.ok (.slice A n c) w∧(Instr.index 245 (.agg #[.slice A n c,.slice B m d]) (.int .i64 1)).run Tryz.prog w=.ok (.slice B m d) w:=by
 have h:=Tryz.underlying245
 constructor<;>simp[Instr.index,run_underlying h,asIntOf,go_sem]
def cvB (L:Cms) (d:Nat) (room:Int):Bool:=L.shape d&&decide ((L.sz:Int)≤room)
def cvN (L:Cms) (d:Nat) (room:Int):Int:=if cvB L d room then L.sz else 0
theorem cvN_true {L:Cms} {d:Nat} {room:Int} (h:cvB L d room=true):cvN L d room=L.sz:=by unfold cvN;rw[if_pos h]
theorem cvN_false {L:Cms} {d:Nat} {room:Int} (h:cvB L d room=false):cvN L d room=0:=by unfold cvN;rw[h];rfl
theorem countValid_go:∀ (N:Nat) (L:Cms),L.sz<N→∀ (A:Option Addr) (c d lo hi:Nat) (D room:Int) (w:World),CmsV w lo hi A L→L.len≤1049600→L.small 1049600→D+d=5→1≤D→0≤room→room≤16→
  Calls Tryz.prog 157 #[.slice A L.len c,.int .i64 D,.int .i64 room] w fun e w'=>e=.returned (.tuple #[.int .i64 (cvN L d room),.bool (cvB L d room)])∧Below w.heap.size w w':=by
 intro N
 induction N with
 | zero=>intro L h;omega
 | succ N IH=>
  intro L hsz A c d lo hi D room w hV hlen hsm hD hD1 hr0 hr1;replace IH:=ax IH;replace hV:=ax hV;replace hsm:=ax hsm;replace hsz:=ax hsz;obtain ⟨n,hn⟩:∃ n,n=L.len:=⟨_,rfl⟩;obtain ⟨T,hT⟩:∃ T,T=cvN L d room:=⟨_,rfl⟩;obtain ⟨R,hR⟩:∃ R,R=cvB L d room:=⟨_,rfl⟩;have hno:R=false→T=0:=fun h=>by rw[hT];exact cvN_false (by rw[←hR];exact h)
  have hyes:R=true→T=L.sz:=fun h=>by rw[hT];exact cvN_true (by rw[←hR];exact h)
  rw[←hn,←hR,←hT];rw[←hn] at hlen;replace hn:=ax hn;replace hR:=ax hR;replace hno:=ax hno;replace hyes:=ax hyes;replace hD:=ax hD;clear hT;by_cases q1:room<n
  ·have e0:R=false:=by
    rw[hR.o,cvB,Bool.and_eq_false_iff];right;have:=Cms.len_sz L;have h2:=hn.o;simp;omega
   rw[e0,hno.o e0];(go_enter Tryz.func157,Tryz.ntmps157);(go_wp2_with fail);go_ret2;exact ⟨rfl,bel⟩
  by_cases q2:0<n
  case' neg=>
   obtain rfl:n=0:=by omega
   have e1:L=.nil:=by
    have:=hn.o
    cases L with
    | nil=>rfl
    | cons=>simp[Cms.len] at this
  case' pos=>
   by_cases q3:4<D
   ·have e0:R=false:=by
     rw[hR.o,cvB,Bool.and_eq_false_iff];left;obtain ⟨k,a,b,t,i,body,els,r,eL⟩:=Cms.cons_of_len (L:=L) (by rw[←hn.o];exact q2);obtain rfl:d=0:=by have:=hD.o;omega
     rw[eL];rfl
    rw[e0,hno.o e0];(go_enter Tryz.func157,Tryz.ntmps157);(go_wp2_with fail);go_ret2;exact ⟨rfl,bel⟩
   have hd1:aJ (1≤d):=by have:=hD.o;show 1≤d;omega
  case neg=>
   have e0:R=true:=by rw[hR.o,e1];simp[cvB,Cms.shape,Cms.sz,hr0]
   have e2:T=0:=by rw[hyes.o e0,e1];rfl
   rw[e0,e2];clear e1 e0 e2;(go_enter Tryz.func157,Tryz.ntmps157);(go_wp2_with fail)
   go_loopw [8,32] (fun m x wr=>m=.int .i64 0∧x=.int .i64 0∧Below w.heap.size w wr) (fun _ _ _=>0)
   case atStart=>exact ⟨rfl,rfl,bel⟩
   case round=>
    obtain ⟨rfl,rfl,hB⟩:=hrel;(go_wp2_with fail);go_ret2;exact ⟨rfl,hB⟩
  (go_enter Tryz.func157,Tryz.ntmps157);(go_wp2_with fail)
  go_loopw [8,32] (fun y x wr=>∃ j m:Nat,j≤n∧x=.int .i64 j∧y=.int .i64 m∧(m:Int)≤room∧aJ (m+(L.drop j).sz=L.sz+(L.drop j).len)∧aJ (L.shape d=(L.drop j).shape d)∧Below w.heap.size w wr) (fun _ x _=>n - (intOf x).toNat)
  case atStart=>exact ⟨0,n,Nat.zero_le _,rfl,rfl,by omega,ax (by have:=hn.o;show n+L.sz=L.sz+L.len;omega),ax rfl,bel⟩
  case round=>
   obtain ⟨j,m,hj,rfl,rfl,hm,HZ,HR,hB⟩:=hrel;by_cases hlt:j<n
   ·have hpos:0<(L.drop j).len:=by rw[Cms.drop_len,←hn.o];omega
    obtain ⟨k,a,b,t,i,body,els,r,eL⟩:=Cms.cons_of_len hpos;obtain ⟨bl,o,rfl,-,-,hAt⟩:=(hV.o.bz hB) (by rw[←hn.o];omega);have hDr:=hAt.drop j;have hS:=Cms.small_drop j hsm.o;have hZ:=Cms.sz_drop j L;have hDs:=Cms.drop_succ j L eL;have HR':=HR.o;have HZ':=HZ.o;rw[eL] at hDr hS hZ HR' HZ';obtain ⟨⟨p0,p1,p2,p3,p4,p5⟩,⟨A6,c6,p6,g6⟩,⟨A7,c7,p7,g7⟩,⟨A8,c8,p8,g8⟩,⟨A9,c9,p9,g9⟩,-⟩:=hDr;obtain ⟨s1,s2,s3,s4,s5,s6,-⟩:=hS;simp only[Cms.sz] at hZ;simp only[Cms.sz,Cms.len] at HZ';have hbs:body.sz<N:=by have:=hsz.o;omega
    have hes:els.sz<N:=by have:=hsz.o;omega
    have hrl:=Cms.len_sz r;have gA:AsnV wr lo hi (.agg #[.slice A6 i.facts.length c6,.slice A7 i.atoms.length c7]) i:=⟨_,_,_,_,rfl,⟨g6,s1⟩,⟨g7,s2⟩⟩;have gB:aJ (CmsV wr lo hi A8 body):=g8;have gE:aJ (CmsV wr lo hi A9 els):=g9;obtain ⟨e,rfl⟩:∃ e,d=e+1:=⟨d - 1,by have:=hd1.o;omega⟩;rw[Cms.shape.eq_2,decide_eq_true (by omega),Bool.true_and,Nat.add_sub_cancel,←hDs] at HR';obtain ⟨F,hF⟩:∃ F,F=fvalB k a b t i body els:=⟨_,rfl⟩;rw[←hF] at HR';have f1:F=false→R=false:=fun h=>by rw[hR.o,cvB,HR',h];rfl
    have f2:cvB body e (room - m)=false→R=false:=fun h=>by
     rw[cvB,Bool.and_eq_false_iff] at h;rw[hR.o,cvB,Bool.and_eq_false_iff];rcases h with h|h
     ·left;rw[HR',h];simp
     ·right;simp at h ⊢;omega
    have f3:cvB els e (room - ((m+body.sz:Nat):Int))=false→R=false:=fun h=>by
     rw[cvB,Bool.and_eq_false_iff] at h;rw[hR.o,cvB,Bool.and_eq_false_iff];rcases h with h|h
     ·left;rw[HR',h];simp
     ·right;simp at h ⊢;omega
    have t2:cvB body e (room - m)=true→body.shape e=true∧(body.sz:Int)≤room - m:=fun h=>by simpa[cvB] using h
    have t3:cvB els e (room - ((m+body.sz:Nat):Int))=true→els.shape e=true∧(els.sz:Int)≤room - ((m+body.sz:Nat):Int):=fun h=>by simpa[cvB] using h
    replace f1:=ax f1;replace f2:=ax f2;replace f3:=ax f3;replace t2:=ax t2;replace t3:=ax t3;replace HR':=ax HR';replace HZ':=ax HZ';replace hbs:=ax hbs;replace hes:=ax hes;replace s5:=ax s5;replace s6:=ax s6;replace gA:=ax gA;replace hF:=ax hF;replace hDs:=ax hDs;replace hrl:=ax hrl;clear hZ hpos hAt g6 g7 g8 g9 HR HZ eL;(go_wp2_with fail);refine (c_impl_fieldsValid k a b t i A6 A7 A8 A9 c6 c7 c8 c9 body els _ (gA.o.bz bel) s3 s4).mono ?_;rintro e' w1 ⟨rfl,hBx⟩;rw[←hF.o];have hB2:Below w.heap.size w w1:=bgo (bbox hB _) hBx;have hW:Below wr.heap.size wr w1:=bgo (bbox (Below.refl _ _) _) hBx;have k0:Blk w1 wr.heap.size tC #[.int .i64 k,.int .i64 a,.int .i64 b,.bool t.eq,.int .i64 t.a,.int .i64 t.b,.slice A6 i.facts.length c6,.slice A7 i.atoms.length c7,.slice A8 body.len c8,.slice A9 els.len c9]:=Blk.nz blks hBx;have q0:=k0.cell;have l0:=k0.lt;clear hBx gA p0 p1 p2 p3 p4 p5 p6 p7 p8 p9 k0;cases F
    ·have e0:=ax (f1.o (by simp));(go_wp2_with fail);go_ret2;exact ⟨by rw[e0.o,hno.o e0.o];rfl,hB2⟩
    have gB:=ax (gB.o.bz hW);have gE:=ax (gE.o.bz hW);clear hW hB;(go_wp2_with fail);clear q0 l0
    go_loopw [8,44] (fun y x wx=>∃ (q:Int) (m2:Nat),x=.int .i64 q∧y=.int .i64 m2∧(m2:Int)≤room∧aJ ((q=0∧m2=m)∨(q=1∧m2=m+body.sz∧body.shape e=true)∨(q=2∧m2=m+body.sz+els.sz∧body.shape e=true∧els.shape e=true))∧Below w1.heap.size w1 wx) (fun _ x _=>2 - (intOf x).toNat)
    case atStart=>exact ⟨0,m,rfl,rfl,hm,ax (.inl ⟨rfl,rfl⟩),Below.refl _ _⟩
    case round=>
     obtain ⟨q,m2,rfl,rfl,hm2,HQ,hBi⟩:=hrel;obtain ⟨hi0,hi1⟩:=idx2 A8 A9 body.len els.len c8 c9 wr;rcases HQ.o with ⟨rfl,rfl⟩|⟨rfl,rfl,y1⟩|⟨rfl,rfl,y1,y2⟩
     ·clear HQ;(go_wp2_with fail);refine (IH.o body hbs.o A8 c8 e lo hi (D+1) (room - m2) _ (gB.o.bz hBi) s3 s5.o (by have:=hD.o;omega) (by omega) (by omega) (by omega)).mono ?_;rintro e' w2 ⟨rfl,hBx⟩;have hB3:=bgo hB2 (bgo hBi hBx);have hB4:=bgo hBi hBx;clear hBx;obtain ⟨T1,hT1⟩:∃ x,x=cvN body e (room - m2):=⟨_,rfl⟩;obtain ⟨x1,hx1⟩:∃ x,x=cvB body e (room - m2):=⟨_,rfl⟩;have g1:x1=true→T1=body.sz:=fun h=>by rw[hT1];exact cvN_true (by rw[←hx1];exact h)
      rw[←hT1,←hx1];replace hx1:=ax hx1;replace g1:=ax g1;clear hT1;cases x1
      ·have e0:=ax (f2.o hx1.o.symm);(go_wp2_with fail);go_ret2;exact ⟨by rw[e0.o,hno.o e0.o];rfl,hB3⟩
      ·have T2:=t2.o hx1.o.symm;obtain rfl:=g1.o (by simp);have T2a:=ax T2.1;have T2b:=T2.2;clear T2;(go_wp2_with fail)
       go_round
       case rel=>exact ⟨1,m2+body.sz,by go_num,by push_cast;rfl,by push_cast;omega,ax (.inr (.inl ⟨rfl,rfl,T2a.o⟩)),hB4⟩
       case measure=>simp[intOf]
     ·clear HQ;replace y1:=ax y1;(go_wp2_with fail);refine (IH.o els hes.o A9 c9 e lo hi (D+1) (room - ((m+body.sz:Nat):Int)) _ (gE.o.bz hBi) s4 s6.o (by have:=hD.o;omega) (by omega) (by omega) (by omega)).mono ?_;rintro e' w2 ⟨rfl,hBx⟩;have hB3:=bgo hB2 (bgo hBi hBx);have hB4:=bgo hBi hBx;clear hBx;obtain ⟨T1,hT1⟩:∃ x,x=cvN els e (room - ((m+body.sz:Nat):Int)):=⟨_,rfl⟩;obtain ⟨x1,hx1⟩:∃ x,x=cvB els e (room - ((m+body.sz:Nat):Int)):=⟨_,rfl⟩;have g1:x1=true→T1=els.sz:=fun h=>by rw[hT1];exact cvN_true (by rw[←hx1];exact h)
      rw[←hT1,←hx1];replace hx1:=ax hx1;replace g1:=ax g1;clear hT1;cases x1
      ·have e0:=ax (f3.o hx1.o.symm);(go_wp2_with fail);go_ret2;exact ⟨by rw[e0.o,hno.o e0.o];rfl,hB3⟩
      ·have T2:=t3.o hx1.o.symm;obtain rfl:=g1.o (by simp);have T2a:=ax T2.1;have T2b:=T2.2;clear T2;(go_wp2_with fail)
       go_round
       case rel=>exact ⟨2,m+body.sz+els.sz,by go_num,by push_cast;rfl,by push_cast at T2b ⊢;omega,ax (.inr (.inr ⟨rfl,rfl,y1.o,T2a.o⟩)),hB4⟩
       case measure=>simp[intOf]
     ·clear HQ;replace y1:=ax y1;replace y2:=ax y2;have hB3:=bgo hB2 hBi;(go_wp2_with fail)
      go_round
      case rel=>
       refine ⟨j+1,m+body.sz+els.sz,by omega,by go_num,rfl,hm2,ax ?_,ax ?_,hB3⟩
       ·rw[hDs.o];have:=HZ'.o;omega
       ·rw[HR'.o,y1.o,y2.o];simp
      case measure=>simp[intOf];omega
   ·(go_wp2_with fail);go_ret2;obtain rfl:j=n:=by omega
    have e1:L.drop j=.nil:=by rw[hn.o];exact Cms.drop_all L
    have h2:=HR.o;have h3:=HZ.o;rw[e1] at h2 h3;simp only[Cms.sz,Cms.len,Nat.add_zero] at h3;have e0:R=true:=by rw[hR.o,cvB,h2];simp[Cms.shape];omega
    refine ⟨?_,hB⟩;rw[hyes.o e0,e0,←h3];rfl
theorem c_impl_ProgramValid {lo hi:Nat} (L:Cms) (A:Option Addr) (c:Nat) (w:World) (hV:CmsV w lo hi A L) (hlen:L.len≤1049600) (hsm:L.small 1049600) :
  Calls Tryz.prog 93 #[.slice A L.len c] w fun e w'=>e=.returned (.bool L.prog)∧Below w.heap.size w w':=by
 have hR:cvB L 4 16=L.prog:=by
  unfold cvB Cms.prog
  congr 1
  rw[decide_eq_decide];omega
 replace hR:=ax hR;replace hV:=ax hV;replace hsm:=ax hsm;(go_enter Tryz.func93,Tryz.ntmps93);(go_wp2_with fail);refine (countValid_go _ L (Nat.lt_succ_self _) A c 4 lo hi 1 16 w hV.o hlen hsm.o (by omega) (by omega) (by omega) (by omega)).mono ?_;rintro e w1 ⟨rfl,hB1⟩;rw[hR.o];(go_wp2_with fail);go_ret;exact ⟨rfl,hB1⟩
theorem runProgram_no {lo hi lo' hi':Nat} (v:Value) (s:Ste) (A:Option Addr) (c:Nat) (L:Cms) (f:Int) (w:World) (h:StateV w lo hi v s) (hV:CmsV w lo' hi' A L) (hlen:L.len≤1049600) (hsm:L.small 1049600) (hn:runsP s L f=false) :
  Calls Tryz.prog 97 #[v,.slice A L.len c,.int .i64 f] w fun e w'=>e=.returned (.tuple #[.agg #[.slice none 0 0,.slice none 0 0,.int .i64 0],.int .i64 4])∧Below w.heap.size w w':=by
 have hS:=ax h;obtain ⟨A1,c1,A2,c2,rfl,-,-⟩:=h;replace hV:=ax hV;replace hsm:=ax hsm;obtain ⟨sv,hsv⟩:∃ x,x=s.valid:=⟨_,rfl⟩;obtain ⟨pv,hpv⟩:∃ x,x=L.prog:=⟨_,rfl⟩;have hn':(sv&&(pv&&decide (0≤f∧f≤200)))=false:=by rw[hsv,hpv];exact hn
 replace hsv:=ax hsv;replace hpv:=ax hpv;clear hn;(go_enter Tryz.func97,Tryz.ntmps97);(go_wp2_with fail);refine (c_impl_StateValid _ s _ (hS.o.bz bel)).mono ?_;rintro e w1 ⟨rfl,hB1⟩;rw[←hsv.o];have hB:=bgo (w:=w) bel hB1;have k0:Blk w1 w.heap.size 61 #[.slice A1 s.values.length c1,.slice A2 s.heap.length c2]:=Blk.nz blks hB1;have k1:Blk w1 (w.heap.size+1) tM #[.slice none 0 0,.slice none 0 0,.int .i64 0]:=Blk.nz blks hB1;(replace qk0:=k0.z;replace qk1:=k1.cell;replace rk1:=k1.frozen;replace lk1:=k1.lt);clear hB1;cases sv
 ·clear hn';(go_wp2_with fail);refine bodyPost_ret (v:=.tuple #[.agg #[.slice none 0 0,.slice none 0 0,.int .i64 0],.int .i64 4]) (by simp[results,Tryz.results97,go_sem,qk1,lk1]) rfl ⟨rfl,bel⟩
 (go_wp2_with fail);refine (c_impl_ProgramValid L A c _ (hV.o.bz hB) hlen hsm.o).mono ?_;rintro e w2 ⟨rfl,hB2⟩;rw[←hpv.o];(replace hB:=bgo hB hB2;replace k0:=k0.nz hB2;replace qk0:=k0.z;replace k1:=k1.nz hB2;replace qk1:=k1.cell;replace rk1:=k1.frozen;replace lk1:=k1.lt);clear hB2;cases pv
 ·clear hn';(go_wp2_with fail);refine bodyPost_ret (v:=.tuple #[.agg #[.slice none 0 0,.slice none 0 0,.int .i64 0],.int .i64 4]) (by simp[results,Tryz.results97,go_sem,qk1,lk1]) rfl ⟨rfl,bel⟩
 have hf:f<0∨200<f:=by
  have:¬(0≤f∧f≤200):=by simpa using hn'
  omega
 clear hn';rcases hf with hf|hf
 ·(go_wp2_with fail);refine bodyPost_ret (v:=.tuple #[.agg #[.slice none 0 0,.slice none 0 0,.int .i64 0],.int .i64 4]) (by simp[results,Tryz.results97,go_sem,qk1,lk1]) rfl ⟨rfl,bel⟩
 ·have hf0:¬f<0:=by omega
  (go_wp2_with fail);refine bodyPost_ret (v:=.tuple #[.agg #[.slice none 0 0,.slice none 0 0,.int .i64 0],.int .i64 4]) (by simp[results,Tryz.results97,go_sem,qk1,lk1]) rfl ⟨rfl,bel⟩
theorem runsP_yes {s:Ste} {L:Cms} {f:Int} (h:runsP s L f=true):s.valid=true∧L.prog=true∧L.shape 4=true∧∃ n:Nat,f=n∧n≤200:=by
 simp only[runsP,Bool.and_eq_true,decide_eq_true_eq] at h;obtain ⟨h1,h2,h3,h4⟩:=h;refine ⟨h1,h2,?_,f.toNat,by omega,by omega⟩;unfold Cms.prog at h2;simp only[Bool.and_eq_true] at h2;exact h2.1
theorem runProgram_yes {lo hi lo' hi':Nat} (v:Value) (s:Ste) (A:Option Addr) (c:Nat) (L:Cms) (n:Nat) (w:World) (h:StateV w lo hi v s) (hV:CmsV w lo' hi' A L) (hhi:hi'≤w.heap.size) (hlen:L.len≤1049600) (hsm:L.small 1049600) (hs:s.valid=true) (hp:L.prog=true) (hsh:L.shape 4=true) (hn:n≤200) :
  Calls Tryz.prog 97 #[v,.slice A L.len c,.int .i64 (n:Int)] w fun e w'=>∃ fv hv,e=.returned (.tuple #[.agg #[fv,hv,.int .i64 ((L.run s n).2.2:Int)],.int .i64 (L.run s n).2.1])∧StateO w' w.heap.size (.agg #[fv,hv]) (L.run s n).1∧Below w.heap.size w w':=by
 have hS:=ax h;obtain ⟨A1,c1,A2,c2,rfl,-,-⟩:=h;have hlist:=ax (list_go _ L (Nat.lt_succ_self _) A c 4 lo' hi');replace hV:=ax hV;replace hsm:=ax hsm;replace hs:=ax hs;replace hp:=ax hp;replace hsh:=ax hsh;obtain ⟨P,hP⟩:∃ P,P=L.run s n:=⟨_,rfl⟩;rw[←hP];replace hP:=ax hP;obtain ⟨s2,c2',f2⟩:=P;have hn0:¬((n:Int)<0):=by omega
 have hn2:¬((200:Int)<n):=by omega
 (go_enter Tryz.func97,Tryz.ntmps97);(go_wp2_with fail);refine (c_impl_StateValid _ s _ (hS.o.bz bel)).mono ?_;rintro e w1 ⟨rfl,hB1⟩;rw[hs.o];have hB:=bgo (w:=w) bel hB1;have k0:Blk w1 w.heap.size 61 #[.slice A1 s.values.length c1,.slice A2 s.heap.length c2]:=Blk.nz blks hB1;have k1:Blk w1 (w.heap.size+1) tM #[.slice none 0 0,.slice none 0 0,.int .i64 0]:=Blk.nz blks hB1;(replace qk0:=k0.z;replace qk1:=k1.cell;replace rk1:=k1.frozen;replace lk1:=k1.lt);clear hB1;(go_wp2_with fail);refine (c_impl_ProgramValid L A c _ (hV.o.bz hB) hlen hsm.o).mono ?_;rintro e w2 ⟨rfl,hB2⟩;rw[hp.o];(replace hB:=bgo hB hB2;replace k0:=k0.nz hB2;replace qk0:=k0.z;replace k1:=k1.nz hB2;replace qk1:=k1.cell;replace rk1:=k1.frozen;replace lk1:=k1.lt);clear hB2;(go_wp2_with fail);refine (c_impl_copyState _ s _ (hS.o.bz hB)).mono ?_;rintro e w3 ⟨r,rfl,o,hB3⟩;have hz2:=hB.size;have hk1:=k1.lt;(replace hB:=bgo hB hB3;replace k0:=k0.nz hB3;replace qk0:=k0.z;replace k1:=k1.nz hB3;replace qk1:=k1.cell;replace rk1:=k1.frozen;replace lk1:=k1.lt);have hz3:=hB3.size;clear hB3;obtain ⟨fv,hv,rfl,o1,o2,dj⟩:=o;obtain ⟨F,e1,rfl,-⟩:=o1.rj;obtain ⟨G,e2,rfl,-⟩:=o2.rj
 have hm:Mach (w3.alloc (.cells #[.slice F s.values.length e1,.slice G s.heap.length e2,.int .i64 (n:Int)] tM)) w2.heap.size w3.heap.size s n:=
  ⟨hz3,_,_,Blk.new _ _ _,_,_,rfl,o1.bz (bbox (Below.refl _ _) _),o2.bz (bbox (Below.refl _ _) _),dj⟩
 have hl:=hlist.o w2.heap.size w3.heap.size hlen hsm.o hsh.o (by omega) s n _ hm hs.o hn ((hV.o.bz hB).bz (bbox (Below.refl _ _) _));rw[←hP.o] at hl;replace hl:=ax hl;have k13:=(k1.alloc (.cells #[.slice F s.values.length e1,.slice G s.heap.length e2,.int .i64 (n:Int)] tM));clear o1 o2 dj hm hlist;(go_wp2_with fail);refine hl.o.mono ?_;rintro e w4 ⟨rfl,hM4,hR4⟩;have hB3:Below w.heap.size w (w3.alloc (.cells #[.slice F s.values.length e1,.slice G s.heap.length e2,.int .i64 (n:Int)] tM)):=bbox hB _;have hB4:Below w.heap.size w w4:=hB3.trans (hR4.bz.mono hz2);have k14:Blk w4 (w.heap.size+1) tM #[.slice none 0 0,.slice none 0 0,.int .i64 0]:=k13.bz hR4.bz hk1;obtain ⟨F2,d1,G2,d2,-,kM,p1,p2,dj⟩:=hM4.form;have q:=kM.cell;have lt:=kM.lt;have q1:=k14.cell;have r1:=k14.frozen;have l1:=k14.lt;have hne:w.heap.size+1≠w3.heap.size:=by have:=k1.lt;omega
 replace p1:=ax (p1.bq (base':=w.heap.size) hz2);replace p2:=ax (p2.bq (base':=w.heap.size) hz2);replace dj:=ax dj;have KB:=ax k14;clear qk0 qk1 rk1 lk1 k0 k1 k13 hl hM4 hR4 kM k14 hB3;(go_wp2_with fail);refine bodyPost_ret (v:=.tuple #[.agg #[.slice F2 s2.values.length d1,.slice G2 s2.heap.length d2,.int .i64 (f2:Int)],.int .i64 c2']) (by simp[results,Tryz.results97,go_sem,q1,l1]) rfl ⟨_,_,rfl,⟨_,_,rfl,?_,?_,dj.o⟩,?_⟩
 ·exact ((p1.o.setT KB.o (by decide) 0 _).setT (KB.o.set_ 0 _) (by decide) 1 _).setT ((KB.o.set_ 0 _).set_ 1 _) (by decide) 2 _
 ·exact ((p2.o.setT KB.o (by decide) 0 _).setT (KB.o.set_ 0 _) (by decide) 1 _).setT ((KB.o.set_ 0 _).set_ 1 _) (by decide) 2 _
 ·exact ((hB4.setCell (p:=⟨w.heap.size+1,0,none⟩) (by simp) _).setCell (p:=⟨w.heap.size+1,1,none⟩) (by simp) _).setCell (p:=⟨w.heap.size+1,2,none⟩) (by simp) _
theorem c_impl_RunProgram {lo hi lo' hi':Nat} (v:Value) (s:Ste) (A:Option Addr) (c:Nat) (L:Cms) (f:Int) (w:World) (h:StateV w lo hi v s) (hV:CmsV w lo' hi' A L) (hhi:hi'≤w.heap.size) (hlen:L.len≤1049600) (hsm:L.small 1049600) :
  Calls Tryz.prog 31 #[v,.slice A L.len c,.int .i64 f] w fun e w'=>∃ r,e=.returned (.tuple #[r,.int .i64 (codeF s L f)])∧StateO w' w.heap.size r (afterF s L f)∧Below w.heap.size w w':=by
 have hS:=ax h;obtain ⟨A1,c1,A2,c2,rfl,-,-⟩:=h;replace hV:=ax hV;replace hsm:=ax hsm;have hZ:∀ W:World,StateO W w.heap.size (.agg #[.slice none 0 0,.slice none 0 0]) ⟨[],[]⟩:=fun W=>⟨_,_,rfl,IntsO.nil _ _,IntsO.nil _ _,fun g hg=>by cases hg⟩;replace hZ:=ax hZ;cases hr:runsP s L f
 ·have E:aJ (codeF s L f=4):=by show _=_;unfold codeF;rw[hr];rfl
  have E2:aJ (afterF s L f=⟨[],[]⟩):=by show _=_;unfold afterF;rw[E.o];rfl
  replace hr:=ax hr;obtain ⟨k0,k1⟩:=blk2 w 61 61 #[.slice A1 s.values.length c1,.slice A2 s.heap.length c2] #[.slice none 0 0,.slice none 0 0];(go_enter Tryz.func31,Tryz.ntmps31);(go_wp2_with fail);refine (runProgram_no _ s A c L f _ (hS.o.bz bel) (hV.o.bz bel) hlen hsm.o hr.o).mono ?_;rintro e w1 ⟨rfl,hB1⟩;have hB:=bgo (w:=w) bel hB1;(replace k0:=k0.nz hB1;replace qk0:=k0.z;replace k1:=k1.nz hB1;replace qk1:=k1.cell;replace rk1:=k1.frozen;replace lk1:=k1.lt);clear hB1;(go_wp2_with fail);refine bodyPost_ret (v:=.tuple #[.agg #[.slice none 0 0,.slice none 0 0],.int .i64 4]) (by simp[results,Tryz.results31,go_sem,qk1,lk1]) rfl ⟨_,by rw[E.o],?_,bel⟩;rw[E2.o];exact hZ.o _
 obtain ⟨h1,h2,h3,n,rfl,hn⟩:=runsP_yes hr;have E:aJ (codeF s L (n:Int)=(L.run s n).2.1):=by show _=_;unfold codeF;rw[hr];rfl
 have E2:aJ (afterF s L (n:Int)=if (L.run s n).2.1=0 then (L.run s n).1 else ⟨[],[]⟩):=by show _=_;unfold afterF;rw[E.o];rfl
 have hok:=Cms.run_ok L s n h1;obtain ⟨P,hP⟩:∃ P,P=L.run s n:=⟨_,rfl⟩;obtain ⟨k0,k1⟩:=blk2 w 61 61 #[.slice A1 s.values.length c1,.slice A2 s.heap.length c2] #[.slice none 0 0,.slice none 0 0];have hrun:=runProgram_yes (.agg #[.slice A1 s.values.length c1,.slice A2 s.heap.length c2]) s A c L n ((w.alloc (.cells #[.slice A1 s.values.length c1,.slice A2 s.heap.length c2] 61)).alloc (.cells #[.slice none 0 0,.slice none 0 0] 61)) (hS.o.bz bel) (hV.o.bz bel) (by simp;omega) hlen hsm.o h1 h2 h3 hn;rw[←hP] at E E2 hok hrun;obtain ⟨s2,c2',f2⟩:=P;simp only at E E2 hok hrun;obtain ⟨-,k2,k3,k4⟩:=hok;replace hrun:=ax hrun;replace hP:=ax hP;clear hr h1 h2 h3;(go_enter Tryz.func31,Tryz.ntmps31);(go_wp2_with fail);refine hrun.o.mono ?_;rintro e w1 ⟨fv,hv,rfl,o,hB1⟩;have hB:=bgo (w:=w) bel hB1;have hz1:=hB1.size;simp only[World.size_alloc] at hz1;(replace k0:=k0.nz hB1;replace qk0:=k0.z;replace k1:=k1.nz hB1;replace qk1:=k1.cell;replace rk1:=k1.frozen;replace lk1:=k1.lt);clear hB1;obtain ⟨fv',hv',e,o1,o2,dj⟩:=o;injection e with e;injection e with e;injection e with ea eb;injection eb with eb;subst ea eb;obtain ⟨F,e1,rfl,-⟩:=o1.rj;obtain ⟨G,e2,rfl,-⟩:=o2.rj;replace o1:=ax (o1.bq (base':=w.heap.size) (by simp;omega));replace o2:=ax (o2.bq (base':=w.heap.size) (by simp;omega));replace dj:=ax dj;have KB:=ax k1;clear hrun;by_cases hc:c2'=0
 ·subst hc;have E3:aJ (afterF s L (n:Int)=s2):=by show _=_;rw[E2.o,if_pos rfl]
  clear E2;(go_wp2_with fail);refine bodyPost_ret (v:=.tuple #[.agg #[.slice F s2.values.length e1,.slice G s2.heap.length e2],.int .i64 0]) (by simp[results,Tryz.results31,go_sem,qk1,lk1]) rfl ⟨_,by rw[E.o],?_,?_⟩
  ·rw[E3.o];refine ⟨_,_,rfl,?_,?_,dj.o⟩
   ·exact ((o1.o.setT KB.o (by decide) 0 _).setT (KB.o.set_ 0 _) (by decide) 1 _).bz (bbox (Below.refl _ _) _)
   ·exact ((o2.o.setT KB.o (by decide) 0 _).setT (KB.o.set_ 0 _) (by decide) 1 _).bz (bbox (Below.refl _ _) _)
  ·exact bbox ((hB.setCell (p:=⟨w.heap.size+1,0,none⟩) (by simp) _).setCell (p:=⟨w.heap.size+1,1,none⟩) (by simp) _) _
 ·have E3:aJ (afterF s L (n:Int)=⟨[],[]⟩):=by show _=_;rw[E2.o,if_neg hc]
  have hcb:(c2' != 0)=true:=by simpa using hc
  clear E2;(go_wp2_with fail);refine bodyPost_ret (v:=.tuple #[.agg #[.slice none 0 0,.slice none 0 0],.int .i64 c2']) (by simp[results,Tryz.results31,go_sem,qk1,lk1]) rfl ⟨_,by rw[E.o],?_,?_⟩
  ·rw[E3.o];exact hZ.o _
  ·exact bbox ((hB.setCell (p:=⟨w.heap.size+1,0,none⟩) (by simp) _).setCell (p:=⟨w.heap.size+1,1,none⟩) (by simp) _) _
theorem Blk.drewY {w:World} {g:Nat} {t:TypeId} {cs:Array Value} (h:Blk w g t cs):Blk w.drew g t cs:=h
theorem zeroO (w:World) {B:Nat}:StateO w B (.agg #[.slice none 0 0,.slice none 0 0]) ⟨[],[]⟩:=⟨_,_,rfl,IntsO.nil _ _,IntsO.nil _ _,fun g hg=>by cases hg⟩
def basS (P:Ste×Int):Ste:=if P.2=0 then P.1 else ⟨[],[]⟩
theorem c_spec_AllocX {lo hi:Nat} (v:Value) (s:Ste) (w:World) (h:StateV w lo hi v s) (hs:s.valid=true) :
  Calls Tryz.prog 257 #[v] w fun e w'=>((freeK s.heap=none∧e=.returned (.tuple #[.agg #[.slice none 0 0,.slice none 0 0],.int .i64 0,.bool false]))∨(∃ (k:Nat) (r:Value),freeK s.heap=some k∧e=.returned (.tuple #[r,.int .i64 ((k:Int)+1),.bool true])∧StateO w' w.heap.size r ⟨s.values,s.heap.set k 0⟩))∧Below w.heap.size w w':=by
 have hV:=ax h;obtain ⟨A1,c1,A2,c2,rfl,-,-⟩:=h;have HS:=ax hs;have H8:=ax (Ste.valid_len hs);clear hs;(go_enter Tryz.func257,Tryz.ntmps257);obtain ⟨k0,k1⟩:=blk2 w tSt tSt #[.slice A1 s.values.length c1,.slice A2 s.heap.length c2] #[.slice none 0 0,.slice none 0 0];have hB:Below w.heap.size w ((w.alloc (.cells #[.slice A1 s.values.length c1,.slice A2 s.heap.length c2] tSt)).alloc (.cells #[.slice none 0 0,.slice none 0 0] tSt)):=bel;(go_wp2_with fail)
 go_loopw [5] (fun i wr=>∃ k:Nat,k≤8∧i=.int .i64 ((k:Int)+1)∧aJ (∀ j:Nat,j<k→allocB s.heap ((j:Int)+1)=true)∧Blk wr w.heap.size tSt #[.slice A1 s.values.length c1,.slice A2 s.heap.length c2]∧Blk wr (w.heap.size+1) tSt #[.slice none 0 0,.slice none 0 0]∧aJ (Below w.heap.size w wr)) (fun i _=>10 - (intOf i).toNat)
 case atStart=>exact ⟨0,by omega,rfl,ax (fun j hj=>by omega),k0,k1,hB⟩
 case round=>
  clear k0 k1 hB;obtain ⟨k,hk,rfl,HALL,k0,k1,HB⟩:=hrel;have qk0:=k0.cell;have rk0:=k0.frozen;have lk0:=k0.lt;have qk1:=k1.cell;have rk1:=k1.frozen;have lk1:=k1.lt;have hsz:=HB.o.size;by_cases hlt:k<8
  ·have hki:(k:Int)+1≤8:=by omega
   (go_wp2_with fail);refine (c_spec_StateValid _ s _ (hV.o.bz HB.o)).mono ?_;rintro e w1 ⟨rfl,hB1⟩;rw[HS.o];have hB2:Below w.heap.size w w1:=bgo HB.o hB1;(replace k0:=k0.nz hB1;replace qk0:=k0.cell;replace rk0:=k0.frozen;replace lk0:=k0.lt;replace k1:=k1.nz hB1;replace qk1:=k1.cell;replace rk1:=k1.frozen;replace lk1:=k1.lt);clear hB1;(go_wp2_with fail);refine (c_spec_l2Has _ s _ _ (hV.o.bz hB2) H8.o.2).mono ?_;rintro e w2 ⟨rfl,hB3'⟩;have hB3:Below w.heap.size w w2:=bgo hB2 hB3';(replace k0:=k0.nz hB3';replace qk0:=k0.cell;replace rk0:=k0.frozen;replace lk0:=k0.lt;replace k1:=k1.nz hB3';replace qk1:=k1.cell;replace rk1:=k1.frozen;replace lk1:=k1.lt);clear hB3';cases ha:allocB s.heap ((k:Int)+1)
   ·have HF:=ax (freeK_some hlt ha HALL.o);clear ha HALL;(go_wp2_with fail);refine (c_l2Copy _ s _ (hV.o.bz hB3)).mono ?_;rintro e w4 ⟨r,rfl,o,hB4⟩;have hz:=hB3.size;(replace hB3:=bgo hB3 hB4;replace k0:=k0.nz hB4;replace qk0:=k0.cell;replace rk0:=k0.frozen;replace lk0:=k0.lt;replace k1:=k1.nz hB4;replace qk1:=k1.cell;replace rk1:=k1.frozen;replace lk1:=k1.lt);clear hB4;obtain ⟨fv,av,rfl,o1,o2,dj⟩:=o;obtain ⟨F,e1,rfl,-⟩:=o1.rj;obtain ⟨G,e2,rfl,-⟩:=o2.rj;have hnl:(k:Int)<(s.heap.length:Int):=by have:=H8.o.2;omega
    obtain ⟨g,cur,-,rfl,hg,kg,hc,hset⟩:=(o2.bq (base':=w.heap.size) hz).cell_ (k:=k) (by omega);have q:=kg.cell k;rw[hc] at q;obtain ⟨y,hy⟩:∃ y,y=s.heap[k]'(by omega):=⟨_,rfl⟩;rw[←hy] at q;have f:=kg.frozen k;have hgl:=kg.lt;have HSET:=ax (hset 0);have O1:=ax (o1.bq (base':=w.heap.size) hz);have HD:=ax dj;have hne:w.heap.size+1≠g:=k1.ne_ kg (by decide);clear hset o1 o2 dj hc hy;(go_wp2_with fail);have k6:=k1.far (p:=⟨g,k,none⟩) hne (.int .i64 0);refine bodyPost_ret (v:=.tuple #[.agg #[.slice F s.values.length e1,.slice (some ⟨g,0,none⟩) s.heap.length e2],.int .i64 ((k:Int)+1),.bool true]) (by simp[results,Tryz.results257,go_sem,qk1,lk1]) rfl ⟨Or.inr ⟨k,_,HF.o,rfl,⟨_,_,rfl,?_,?_,HD.o⟩⟩,?_⟩
    ·exact (((O1.o.set_ne (q:=⟨g,k,none⟩) (fun e=>HD.o g e rfl) (.int .i64 0)).setT k6 (by decide) 0 _).setT (k6.set_ 0 _) (by decide) 1 _).bz (bbox (Below.refl _ _) _)
    ·exact ((HSET.o.setT k6 (by decide) 0 _).setT (k6.set_ 0 _) (by decide) 1 _).bz (bbox (Below.refl _ _) _)
    ·exact bbox (((hB3.setCell (p:=⟨g,k,none⟩) hg _).setCell (p:=⟨w.heap.size+1,0,none⟩) (by simp only;omega) _).setCell (p:=⟨w.heap.size+1,1,none⟩) (by simp only;omega) _) _
   ·have HA2:aJ (∀ j:Nat,j<k+1→allocB s.heap ((j:Int)+1)=true):=fun j hj=>by
     rcases Nat.lt_or_ge j k with h|h
     ·exact HALL.o j h
     ·obtain rfl:j=k:=by omega
      exact ha
    clear ha HALL;(go_wp2_with fail)
    go_round
    case rel=>exact ⟨k+1,by omega,by go_num,HA2,k0,k1,hB3⟩
    case measure=>simp[intOf];omega
  ·obtain rfl:k=8:=by omega
   have hB:=HB.o;have HF:=ax (freeK_none HALL.o);clear HALL;(go_wp2_with fail);refine bodyPost_ret (v:=.tuple #[.agg #[.slice none 0 0,.slice none 0 0],.int .i64 0,.bool false]) (by simp[results,Tryz.results257,go_sem,qk1]) rfl ⟨Or.inl ⟨HF.o,rfl⟩,bel⟩
theorem sbasic_set {lo hi:Nat} (v:Value) (s:Ste) (w:World) (m:Nat) (b:Int) (hm:m<4) (hb:0≤b∧b≤8) (t:Fct) (vF vA vB vE:Value) (h:StateV w lo hi v s) (hs:s.valid=true) :
  Calls Tryz.prog 216 #[v,.agg #[.int .i64 1,.int .i64 ((m:Int)+1),.int .i64 b,.bool t.eq,.int .i64 t.a,.int .i64 t.b,vF,vA,vB,vE]] w fun e w'=>∃ r,e=.returned (.tuple #[r,.int .i64 (basicF s 1 ((m:Int)+1) b).2])∧StateO w' w.heap.size r (basS (basicF s 1 ((m:Int)+1) b))∧Below w.heap.size w w':=by
 have E:aJ (basicF s 1 ((m:Int)+1) b=(⟨s.values.set m (tval s.values b),s.heap⟩,0)):=by
  show _=_;unfold basicF;rw[if_pos rfl,show ((m:Int)+1 - 1).toNat=m by omega]
 have HB:=ax hb;have hm4:(m:Int)<4:=by omega
 clear hb;have hV:=ax h;obtain ⟨A1,c1,A2,c2,rfl,h1,h2⟩:=h;have h8:=ax (Ste.valid_len hs);have HS:=ax hs;have V1:=ax h1;have V2:=ax h2;obtain ⟨x,hx⟩:∃ x,x=tval s.values ((m:Int)+1):=⟨_,rfl⟩;obtain ⟨y,hy⟩:∃ x,x=tval s.values b:=⟨_,rfl⟩;have hxv:0≤x∧x≤8:=by rw[hx];exact tval_le (Ste.all_vals hs) _
 have hyv:0≤y∧y≤8:=by rw[hy];exact tval_le (Ste.all_vals hs) _
 replace hx:=ax hx;replace hy:=ax hy;clear hs h1 h2;obtain ⟨k0,k1,k2⟩:=blk3 w tSt tC tSt #[.slice A1 s.values.length c1,.slice A2 s.heap.length c2] #[.int .i64 1,.int .i64 ((m:Int)+1),.int .i64 b,.bool t.eq,.int .i64 t.a,.int .i64 t.b,vF,vA,vB,vE] #[.slice none 0 0,.slice none 0 0];(go_enter Tryz.func216,Tryz.ntmps216);(go_wp2_with fail);refine (c_l2Copy _ s _ (hV.o.bz bel)).mono ?_;rintro e w1 ⟨r,rfl,o,hB1⟩;have hB:=bgo (w:=w) bel hB1;have hz1:=hB1.size;simp only[World.size_alloc] at hz1;(replace k0:=k0.nz hB1;replace qk0:=k0.cell;replace rk0:=k0.frozen;replace lk0:=k0.lt;replace k1:=k1.nz hB1;replace qk1:=k1.cell;replace rk1:=k1.frozen;replace lk1:=k1.lt;replace k2:=k2.nz hB1;replace qk2:=k2.cell;replace rk2:=k2.frozen;replace lk2:=k2.lt);clear hB1;obtain ⟨fv,av,rfl,o1,o2,dj⟩:=o;obtain ⟨F,e1,rfl,-⟩:=o1.rj;obtain ⟨G,e2,rfl,-⟩:=o2.rj;replace o1:=ax (o1.bq (base':=w.heap.size) (by simp;omega));replace o2:=ax (o2.bq (base':=w.heap.size) (by simp;omega));replace dj:=ax dj;(go_wp2_with fail);refine (c_spec_l1Value A1 c1 s.values ((m:Int)+1) _ (V1.o.bz (bbox hB _)) (by omega) (by rw[h8.o.1];exact (by omega))).mono ?_;rintro e w2 ⟨rfl,rfl⟩;rw[←hx.o];obtain ⟨X,hX⟩:∃ X,X=w1.alloc (.cells #[.slice F s.values.length e1,.slice G s.heap.length e2] tSt):=⟨_,rfl⟩;replace hB:Below w.heap.size w X:=by rw[hX];exact bbox hB _
 replace k0:Blk X w.heap.size tSt #[.slice A1 s.values.length c1,.slice A2 s.heap.length c2]:=by rw[hX];exact k0.alloc _
 replace k1:Blk X (w.heap.size+1) tC #[.int .i64 1,.int .i64 ((m:Int)+1),.int .i64 b,.bool t.eq,.int .i64 t.a,.int .i64 t.b,vF,vA,vB,vE]:=by rw[hX];exact k1.alloc _
 replace k2:Blk X (w.heap.size+1+1) tSt #[.slice none 0 0,.slice none 0 0]:=by rw[hX];exact k2.alloc _
 have k3:Blk X w1.heap.size tSt #[.slice F s.values.length e1,.slice G s.heap.length e2]:=by rw[hX];exact Blk.new _ _ _
 replace o1:aJ (IntsO X w.heap.size (.slice F s.values.length e1) s.values):=by rw[hX];exact o1.o.bz (bbox (Below.refl _ _) _)
 replace o2:aJ (IntsO X w.heap.size (.slice G s.heap.length e2) s.heap):=by rw[hX];exact o2.o.bz (bbox (Below.refl _ _) _)
 rw[←hX];clear hX;(replace qk0:=k0.cell;replace rk0:=k0.frozen;replace lk0:=k0.lt;replace qk1:=k1.cell;replace rk1:=k1.frozen;replace lk1:=k1.lt;replace qk2:=k2.cell;replace rk2:=k2.frozen;replace lk2:=k2.lt;replace qk3:=k3.cell;replace rk3:=k3.frozen;replace lk3:=k3.lt);(go_wp2_with fail);refine (c_spec_l1Value A1 c1 s.values b _ (V1.o.bz hB) HB.o.1 (by rw[h8.o.1];exact HB.o.2)).mono ?_;rintro e w2 ⟨rfl,rfl⟩;rw[←hy.o];have E2:aJ (basS (basicF s 1 ((m:Int)+1) b)=⟨s.values.set m y,s.heap⟩):=by show _=_;rw[E.o,hy.o];rfl
 have hvl:=h8.o.1;obtain ⟨gv,cur,-,rfl,hgv,kg,hc,hset⟩:=o1.o.cell_ (k:=m) (by omega);have q:=kg.cell m;rw[hc] at q;obtain ⟨z,hz⟩:∃ z,z=s.values[m]'(by omega):=⟨_,rfl⟩;rw[←hz] at q;have fq:=kg.frozen m;have hgvl:=kg.lt;have hne2:w.heap.size+1+1≠gv:=k2.ne_ kg (by decide);have hne3:w1.heap.size≠gv:=k3.ne_ kg (by decide);have HSET:=ax (hset y);have hml:(m:Int)<(s.values.length:Int):=by omega
 have hwm:IntKind.i64.wrap (m:Int)=(m:Int):=IntWalk.i64_in _ (by omega);clear hset hc hz hvl;clear hwm;(go_wp2_with fail);have K2:=k2.far (p:=⟨gv,m,none⟩) hne2 (.int .i64 y);refine bodyPost_ret (v:=.tuple #[.agg #[.slice (some ⟨gv,0,none⟩) s.values.length e1,.slice G s.heap.length e2],.int .i64 0]) (by simp[results,Tryz.results216,go_sem,qk2,lk2]) rfl ⟨_,by rw[E.o],?_,?_⟩
 ·rw[E2.o];exact ⟨_,_,rfl,((HSET.o.setT K2 (by decide) 0 _).setT (K2.set_ 0 _) (by decide) 1 _),(((o2.o.set_ne (q:=⟨gv,m,none⟩) (dj.o gv rfl) _).setT K2 (by decide) 0 _).setT (K2.set_ 0 _) (by decide) 1 _),dj.o⟩
 ·exact ((hB.setCell (p:=⟨gv,m,none⟩) hgv _).setCell (p:=⟨w.heap.size+1+1,0,none⟩) (by simp only;omega) _).setCell (p:=⟨w.heap.size+1+1,1,none⟩) (by simp only;omega) _
theorem sbasic_load {lo hi:Nat} (v:Value) (s:Ste) (w:World) (m:Nat) (b:Int) (hm:m<4) (hb:0≤b∧b≤8) (t:Fct) (vF vA vB vE:Value) (h:StateV w lo hi v s) (hs:s.valid=true) :
  Calls Tryz.prog 216 #[v,.agg #[.int .i64 2,.int .i64 ((m:Int)+1),.int .i64 b,.bool t.eq,.int .i64 t.a,.int .i64 t.b,vF,vA,vB,vE]] w fun e w'=>∃ r,e=.returned (.tuple #[r,.int .i64 (basicF s 2 ((m:Int)+1) b).2])∧StateO w' w.heap.size r (basS (basicF s 2 ((m:Int)+1) b))∧Below w.heap.size w w':=by
 have HB:=ax hb;have hm4:(m:Int)<4:=by omega
 clear hb;have hV:=ax h;obtain ⟨A1,c1,A2,c2,rfl,h1,h2⟩:=h;have h8:=ax (Ste.valid_len hs);have HS:=ax hs;have V1:=ax h1;have V2:=ax h2;obtain ⟨x,hx⟩:∃ x,x=tval s.values ((m:Int)+1):=⟨_,rfl⟩;obtain ⟨y,hy⟩:∃ x,x=tval s.values b:=⟨_,rfl⟩;have hxv:0≤x∧x≤8:=by rw[hx];exact tval_le (Ste.all_vals hs) _
 have hyv:0≤y∧y≤8:=by rw[hy];exact tval_le (Ste.all_vals hs) _
 replace hx:=ax hx;replace hy:=ax hy;clear hs h1 h2;obtain ⟨k0,k1,k2⟩:=blk3 w tSt tC tSt #[.slice A1 s.values.length c1,.slice A2 s.heap.length c2] #[.int .i64 2,.int .i64 ((m:Int)+1),.int .i64 b,.bool t.eq,.int .i64 t.a,.int .i64 t.b,vF,vA,vB,vE] #[.slice none 0 0,.slice none 0 0];(go_enter Tryz.func216,Tryz.ntmps216);(go_wp2_with fail);refine (c_l2Copy _ s _ (hV.o.bz bel)).mono ?_;rintro e w1 ⟨r,rfl,o,hB1⟩;have hB:=bgo (w:=w) bel hB1;have hz1:=hB1.size;simp only[World.size_alloc] at hz1;(replace k0:=k0.nz hB1;replace qk0:=k0.cell;replace rk0:=k0.frozen;replace lk0:=k0.lt;replace k1:=k1.nz hB1;replace qk1:=k1.cell;replace rk1:=k1.frozen;replace lk1:=k1.lt;replace k2:=k2.nz hB1;replace qk2:=k2.cell;replace rk2:=k2.frozen;replace lk2:=k2.lt);clear hB1;obtain ⟨fv,av,rfl,o1,o2,dj⟩:=o;obtain ⟨F,e1,rfl,-⟩:=o1.rj;obtain ⟨G,e2,rfl,-⟩:=o2.rj;replace o1:=ax (o1.bq (base':=w.heap.size) (by simp;omega));replace o2:=ax (o2.bq (base':=w.heap.size) (by simp;omega));replace dj:=ax dj;(go_wp2_with fail);refine (c_spec_l1Value A1 c1 s.values ((m:Int)+1) _ (V1.o.bz (bbox hB _)) (by omega) (by rw[h8.o.1];exact (by omega))).mono ?_;rintro e w2 ⟨rfl,rfl⟩;rw[←hx.o];obtain ⟨X,hX⟩:∃ X,X=w1.alloc (.cells #[.slice F s.values.length e1,.slice G s.heap.length e2] tSt):=⟨_,rfl⟩;replace hB:Below w.heap.size w X:=by rw[hX];exact bbox hB _
 replace k0:Blk X w.heap.size tSt #[.slice A1 s.values.length c1,.slice A2 s.heap.length c2]:=by rw[hX];exact k0.alloc _
 replace k1:Blk X (w.heap.size+1) tC #[.int .i64 2,.int .i64 ((m:Int)+1),.int .i64 b,.bool t.eq,.int .i64 t.a,.int .i64 t.b,vF,vA,vB,vE]:=by rw[hX];exact k1.alloc _
 replace k2:Blk X (w.heap.size+1+1) tSt #[.slice none 0 0,.slice none 0 0]:=by rw[hX];exact k2.alloc _
 have k3:Blk X w1.heap.size tSt #[.slice F s.values.length e1,.slice G s.heap.length e2]:=by rw[hX];exact Blk.new _ _ _
 replace o1:aJ (IntsO X w.heap.size (.slice F s.values.length e1) s.values):=by rw[hX];exact o1.o.bz (bbox (Below.refl _ _) _)
 replace o2:aJ (IntsO X w.heap.size (.slice G s.heap.length e2) s.heap):=by rw[hX];exact o2.o.bz (bbox (Below.refl _ _) _)
 rw[←hX];clear hX;(replace qk0:=k0.cell;replace rk0:=k0.frozen;replace lk0:=k0.lt;replace qk1:=k1.cell;replace rk1:=k1.frozen;replace lk1:=k1.lt;replace qk2:=k2.cell;replace rk2:=k2.frozen;replace lk2:=k2.lt;replace qk3:=k3.cell;replace rk3:=k3.frozen;replace lk3:=k3.lt);(go_wp2_with fail);refine (c_spec_l1Value A1 c1 s.values b _ (V1.o.bz hB) HB.o.1 (by rw[h8.o.1];exact HB.o.2)).mono ?_;rintro e w2 ⟨rfl,rfl⟩;rw[←hy.o];(go_wp2_with fail);refine (c_spec_l2Has _ s y _ (hV.o.bz hB) h8.o.2).mono ?_;rintro e w2 ⟨rfl,hB2⟩;have hX:=k3.lt;replace o1:=ax (o1.o.bz hB2);replace o2:=ax (o2.o.bz hB2);(replace hB:=bgo hB hB2;replace k0:=k0.nz hB2;replace qk0:=k0.cell;replace rk0:=k0.frozen;replace lk0:=k0.lt;replace k1:=k1.nz hB2;replace qk1:=k1.cell;replace rk1:=k1.frozen;replace lk1:=k1.lt;replace k2:=k2.nz hB2;replace qk2:=k2.cell;replace rk2:=k2.frozen;replace lk2:=k2.lt;replace k3:=k3.nz hB2;replace qk3:=k3.cell;replace rk3:=k3.frozen;replace lk3:=k3.lt);clear hB2;cases ha:allocB s.heap y
 ·have E:aJ (basicF s 2 ((m:Int)+1) b=(s,1)):=by
   show _=_;unfold basicF;rw[if_neg (by decide),if_pos rfl,←hy.o,ha];rfl
  have E2:aJ (basS (basicF s 2 ((m:Int)+1) b)=⟨[],[]⟩):=by show _=_;rw[E.o];rfl
  clear ha;(go_wp2_with fail);refine bodyPost_ret (v:=.tuple #[.agg #[.slice none 0 0,.slice none 0 0],.int .i64 1]) (by simp[results,Tryz.results216,go_sem,qk2,lk2]) rfl ⟨_,by rw[E.o],?_,?_⟩
  ·rw[E2.o];exact zeroO _
  ·first
    | exact bel
    | (exact (((hB).setCell (p:=⟨w.heap.size+1+1,0,none⟩) (by simp only;omega) _).setCell (p:=⟨w.heap.size+1+1,1,none⟩) (by simp only;omega) _))
    | (exact bbox (((hB).setCell (p:=⟨w.heap.size+1+1,0,none⟩) (by simp only;omega) _).setCell (p:=⟨w.heap.size+1+1,1,none⟩) (by simp only;omega) _) _)
 have hya:=allocB_addr ha;obtain ⟨n,rfl⟩:∃ n:Nat,y=(n:Int)+1:=⟨(y - 1).toNat,by omega⟩
 have E:aJ (basicF s 2 ((m:Int)+1) b=(⟨s.values.set m (cont s.heap ((n:Int)+1)),s.heap⟩,0)):=by
  show _=_;unfold basicF;rw[if_neg (by decide),if_pos rfl,←hy.o,ha,if_pos rfl,show ((m:Int)+1 - 1).toNat=m by omega]
 have hn8:n<8:=by omega
 obtain ⟨u,hu⟩:∃ u,u=cont s.heap ((n:Int)+1):=⟨_,rfl⟩
 have hug:u=s.heap[n]'(by have:=h8.o.2;omega):=by
  rw[hu,cont,if_pos (by simp[addrB];omega),show ((n:Int)+1 - 1).toNat=n by omega,List.getElem?_eq_getElem (by have:=h8.o.2;omega)];rfl
 have E2:aJ (basS (basicF s 2 ((m:Int)+1) b)=⟨s.values.set m u,s.heap⟩):=by show _=_;rw[E.o,hu];rfl
 have hnl:(n:Int)<(s.heap.length:Int):=by have:=h8.o.2;omega
 obtain ⟨bh,oh,rfl,ph⟩:=(V2.o.bz hB).at (k:=n) (by omega);rw[←hug] at ph;replace hu:=ax hu;replace hug:=ax hug;clear ha;have hvl:=h8.o.1;obtain ⟨gv,cur,-,rfl,hgv,kg,hc,hset⟩:=o1.o.cell_ (k:=m) (by omega);have q:=kg.cell m;rw[hc] at q;obtain ⟨z,hz⟩:∃ z,z=s.values[m]'(by omega):=⟨_,rfl⟩;rw[←hz] at q;have fq:=kg.frozen m;have hgvl:=kg.lt;have hne2:w.heap.size+1+1≠gv:=k2.ne_ kg (by decide);have hne3:w1.heap.size≠gv:=k3.ne_ kg (by decide);have HSET:=ax (hset u);have hml:(m:Int)<(s.values.length:Int):=by omega
 have hwm:IntKind.i64.wrap (m:Int)=(m:Int):=IntWalk.i64_in _ (by omega);clear hset hc hz hvl;have hwn:IntKind.i64.wrap (n:Int)=(n:Int):=IntWalk.i64_in _ (by omega);(go_wp2_with fail);refine wp_region_noPanic ?_;refine wp_region_last' (S:=(fun w'=>(∀ j,w'.cell? ⟨w.heap.size,j,none⟩=#[Value.slice A1 s.values.length c1,.slice (some ⟨bh,oh,none⟩) s.heap.length c2][j]?)∧(∀ j,w'.cell? ⟨w.heap.size+1,j,none⟩=#[.int .i64 2,.int .i64 ((m:Int)+1),.int .i64 b,.bool t.eq,.int .i64 t.a,.int .i64 t.b,vF,vA,vB,vE][j]?)∧(∀ j,w'.cell? ⟨w1.heap.size,j,none⟩=#[Value.slice (some ⟨gv,0,none⟩) s.values.length e1,.slice G s.heap.length e2][j]?)∧w'.cell? ⟨bh,oh+n,none⟩=some (.int .i64 u)∧w'.cell? ⟨gv,m,none⟩=some (.int .i64 z)∧w'.frozen? ⟨gv,m,none⟩=false)) (by simp) (by kernel_rfl) (by kernel_rfl) (⟨k0.cell,k1.cell,k3.cell,ph,q,fq⟩) (fun aH=>?_);simp only[List.dropLast,List.getLast,nopOf,List.cons_append,List.nil_append,List.length_cons,List.length_nil,Nat.zero_add,Nat.reduceAdd];refine tk2 0 rfl aH (h:=tk2 1 rfl aH (h:=tk2 2 rfl aH (h:=?_)));(try simp only[zz]);refine tk2 3 rfl aH (h:=tk2 4 rfl aH (h:=tk2 5 rfl aH (h:=?_)));(try simp only[zz]);refine tk2 6 rfl aH (h:=tk2 7 rfl aH (h:=tk2 8 rfl aH (h:=?_)));(try simp only[zz]);refine tk2 9 rfl aH (h:=tk2 10 rfl aH (h:=tk2 11 rfl aH (h:=?_)));(try simp only[zz]);refine rdc 12 rfl fun K hK=>?_;go_simp;refine hK.out _ _ (⟨k0.cell,k1.cell,k3.cell,ph,q,fq⟩) (fun aH=>?_);clear hK K;refine wpAnyH_done (by kernel_rfl) ?_ _;unfold lastQ;go_simp;refine NoPanic.normal ?_;obtain ⟨X2,hX2⟩:∃ W,W=(w2.setCell ⟨gv,m,none⟩ (.int .i64 u)).drew:=⟨_,rfl⟩;rw[←hX2];have hBd:Below w.heap.size w X2:=by rw[hX2];exact (hB.setCell (p:=⟨gv,m,none⟩) hgv _).drew
 have kd2:Blk X2 (w.heap.size+1+1) tSt #[.slice none 0 0,.slice none 0 0]:=by rw[hX2];exact (k2.far (p:=⟨gv,m,none⟩) hne2 _).drewY
 have kd3:Blk X2 w1.heap.size tSt #[.slice (some ⟨gv,0,none⟩) s.values.length e1,.slice G s.heap.length e2]:=by rw[hX2];exact (k3.far (p:=⟨gv,m,none⟩) hne3 _).drewY
 have HSETd:aJ (IntsO X2 w.heap.size (.slice (some ⟨gv,0,none⟩) s.values.length e1) (s.values.set m u)):=by rw[hX2];exact HSET.o
 have od2:aJ (IntsO X2 w.heap.size (.slice G s.heap.length e2) s.heap):=by rw[hX2];exact o2.o.set_ne (q:=⟨gv,m,none⟩) (dj.o gv rfl) _
 clear hwm hwn ph q fq aH hX2 HSET o1 o2 hB k2 k3 qk0 rk0 lk0 qk1 rk1 lk1 qk2 rk2 lk2 qk3 rk3 lk3 k0 k1 kg hgvl;have qk2:=kd2.cell;have rk2:=kd2.frozen;have lk2:=kd2.lt;have qk3:=kd3.cell;have lk3:=kd3.lt;(go_wp2_with fail);refine bodyPost_ret (v:=.tuple #[.agg #[.slice (some ⟨gv,0,none⟩) s.values.length e1,.slice G s.heap.length e2],.int .i64 0]) (by simp[results,Tryz.results216,go_sem,qk2,lk2]) rfl ⟨_,by rw[E.o],?_,?_⟩
 ·rw[E2.o];exact ⟨_,_,rfl,((HSETd.o.setT kd2 (by decide) 0 _).setT (kd2.set_ 0 _) (by decide) 1 _),((od2.o.setT kd2 (by decide) 0 _).setT (kd2.set_ 0 _) (by decide) 1 _),dj.o⟩
 ·exact (hBd.setCell (p:=⟨w.heap.size+1+1,0,none⟩) (by simp only;omega) _).setCell (p:=⟨w.heap.size+1+1,1,none⟩) (by simp only;omega) _
theorem sbasic_store {lo hi:Nat} (v:Value) (s:Ste) (w:World) (a:Int) (b:Int) (ha:0≤a∧a≤8) (hb:0≤b∧b≤8) (t:Fct) (vF vA vB vE:Value) (h:StateV w lo hi v s) (hs:s.valid=true) :
  Calls Tryz.prog 216 #[v,.agg #[.int .i64 3,.int .i64 a,.int .i64 b,.bool t.eq,.int .i64 t.a,.int .i64 t.b,vF,vA,vB,vE]] w fun e w'=>∃ r,e=.returned (.tuple #[r,.int .i64 (basicF s 3 a b).2])∧StateO w' w.heap.size r (basS (basicF s 3 a b))∧Below w.heap.size w w':=by
 have HA:=ax ha;have HB:aJ (0≤(b:Int)∧b≤(8:Int)):=hb;clear ha hb;have hV:=ax h;obtain ⟨A1,c1,A2,c2,rfl,h1,h2⟩:=h;have h8:=ax (Ste.valid_len hs);have HS:=ax hs;have V1:=ax h1;have V2:=ax h2;obtain ⟨x,hx⟩:∃ x,x=tval s.values a:=⟨_,rfl⟩;obtain ⟨y,hy⟩:∃ x,x=tval s.values b:=⟨_,rfl⟩;have hxv:0≤x∧x≤8:=by rw[hx];exact tval_le (Ste.all_vals hs) _
 have hyv:0≤y∧y≤8:=by rw[hy];exact tval_le (Ste.all_vals hs) _
 replace hx:=ax hx;replace hy:=ax hy;clear hs h1 h2;obtain ⟨k0,k1,k2⟩:=blk3 w tSt tC tSt #[.slice A1 s.values.length c1,.slice A2 s.heap.length c2] #[.int .i64 3,.int .i64 a,.int .i64 b,.bool t.eq,.int .i64 t.a,.int .i64 t.b,vF,vA,vB,vE] #[.slice none 0 0,.slice none 0 0];(go_enter Tryz.func216,Tryz.ntmps216);(go_wp2_with fail);refine (c_l2Copy _ s _ (hV.o.bz bel)).mono ?_;rintro e w1 ⟨r,rfl,o,hB1⟩;have hB:=bgo (w:=w) bel hB1;have hz1:=hB1.size;simp only[World.size_alloc] at hz1;(replace k0:=k0.nz hB1;replace qk0:=k0.cell;replace rk0:=k0.frozen;replace lk0:=k0.lt;replace k1:=k1.nz hB1;replace qk1:=k1.cell;replace rk1:=k1.frozen;replace lk1:=k1.lt;replace k2:=k2.nz hB1;replace qk2:=k2.cell;replace rk2:=k2.frozen;replace lk2:=k2.lt);clear hB1;obtain ⟨fv,av,rfl,o1,o2,dj⟩:=o;obtain ⟨F,e1,rfl,-⟩:=o1.rj;obtain ⟨G,e2,rfl,-⟩:=o2.rj;replace o1:=ax (o1.bq (base':=w.heap.size) (by simp;omega));replace o2:=ax (o2.bq (base':=w.heap.size) (by simp;omega));replace dj:=ax dj;(go_wp2_with fail);refine (c_spec_l1Value A1 c1 s.values a _ (V1.o.bz (bbox hB _)) HA.o.1 (by rw[h8.o.1];exact HA.o.2)).mono ?_;rintro e w2 ⟨rfl,rfl⟩;rw[←hx.o];obtain ⟨X,hX⟩:∃ X,X=w1.alloc (.cells #[.slice F s.values.length e1,.slice G s.heap.length e2] tSt):=⟨_,rfl⟩;replace hB:Below w.heap.size w X:=by rw[hX];exact bbox hB _
 replace k0:Blk X w.heap.size tSt #[.slice A1 s.values.length c1,.slice A2 s.heap.length c2]:=by rw[hX];exact k0.alloc _
 replace k1:Blk X (w.heap.size+1) tC #[.int .i64 3,.int .i64 a,.int .i64 b,.bool t.eq,.int .i64 t.a,.int .i64 t.b,vF,vA,vB,vE]:=by rw[hX];exact k1.alloc _
 replace k2:Blk X (w.heap.size+1+1) tSt #[.slice none 0 0,.slice none 0 0]:=by rw[hX];exact k2.alloc _
 have k3:Blk X w1.heap.size tSt #[.slice F s.values.length e1,.slice G s.heap.length e2]:=by rw[hX];exact Blk.new _ _ _
 replace o1:aJ (IntsO X w.heap.size (.slice F s.values.length e1) s.values):=by rw[hX];exact o1.o.bz (bbox (Below.refl _ _) _)
 replace o2:aJ (IntsO X w.heap.size (.slice G s.heap.length e2) s.heap):=by rw[hX];exact o2.o.bz (bbox (Below.refl _ _) _)
 rw[←hX];clear hX;(replace qk0:=k0.cell;replace rk0:=k0.frozen;replace lk0:=k0.lt;replace qk1:=k1.cell;replace rk1:=k1.frozen;replace lk1:=k1.lt;replace qk2:=k2.cell;replace rk2:=k2.frozen;replace lk2:=k2.lt;replace qk3:=k3.cell;replace rk3:=k3.frozen;replace lk3:=k3.lt);(go_wp2_with fail);refine (c_spec_l1Value A1 c1 s.values b _ (V1.o.bz hB) HB.o.1 (by rw[h8.o.1];exact HB.o.2)).mono ?_;rintro e w2 ⟨rfl,rfl⟩;rw[←hy.o];(go_wp2_with fail);refine (c_spec_l2Has _ s x _ (hV.o.bz hB) h8.o.2).mono ?_;rintro e w2 ⟨rfl,hB2⟩;have hX:=k3.lt;replace o1:=ax (o1.o.bz hB2);replace o2:=ax (o2.o.bz hB2);(replace hB:=bgo hB hB2;replace k0:=k0.nz hB2;replace qk0:=k0.cell;replace rk0:=k0.frozen;replace lk0:=k0.lt;replace k1:=k1.nz hB2;replace qk1:=k1.cell;replace rk1:=k1.frozen;replace lk1:=k1.lt;replace k2:=k2.nz hB2;replace qk2:=k2.cell;replace rk2:=k2.frozen;replace lk2:=k2.lt;replace k3:=k3.nz hB2;replace qk3:=k3.cell;replace rk3:=k3.frozen;replace lk3:=k3.lt);clear hB2;cases ha:allocB s.heap x
 ·have E:aJ (basicF s 3 a b=(s,1)):=by
   show _=_;unfold basicF;rw[if_neg (by decide),if_neg (by decide),if_pos rfl,←hx.o,ha];rfl
  have E2:aJ (basS (basicF s 3 a b)=⟨[],[]⟩):=by show _=_;rw[E.o];rfl
  clear ha;(go_wp2_with fail);refine bodyPost_ret (v:=.tuple #[.agg #[.slice none 0 0,.slice none 0 0],.int .i64 1]) (by simp[results,Tryz.results216,go_sem,qk2,lk2]) rfl ⟨_,by rw[E.o],?_,?_⟩
  ·rw[E2.o];exact zeroO _
  ·first
    | exact bel
    | (exact (((hB).setCell (p:=⟨w.heap.size+1+1,0,none⟩) (by simp only;omega) _).setCell (p:=⟨w.heap.size+1+1,1,none⟩) (by simp only;omega) _))
    | (exact bbox (((hB).setCell (p:=⟨w.heap.size+1+1,0,none⟩) (by simp only;omega) _).setCell (p:=⟨w.heap.size+1+1,1,none⟩) (by simp only;omega) _) _)
 have hxa:=allocB_addr ha;obtain ⟨m,rfl⟩:∃ m:Nat,x=(m:Int)+1:=⟨(x - 1).toNat,by omega⟩
 have E:aJ (basicF s 3 a b=(⟨s.values,s.heap.set m y⟩,0)):=by
  show _=_;unfold basicF;rw[if_neg (by decide),if_neg (by decide),if_pos rfl,←hx.o,←hy.o,ha,if_pos rfl,show ((m:Int)+1 - 1).toNat=m by omega]
 have E2:aJ (basS (basicF s 3 a b)=⟨s.values,s.heap.set m y⟩):=by show _=_;rw[E.o];rfl
 clear ha;have hvl:=h8.o.2;obtain ⟨gv,cur,-,rfl,hgv,kg,hc,hset⟩:=o2.o.cell_ (k:=m) (by omega);have q:=kg.cell m;rw[hc] at q;obtain ⟨z,hz⟩:∃ z,z=s.heap[m]'(by omega):=⟨_,rfl⟩;rw[←hz] at q;have fq:=kg.frozen m;have hgvl:=kg.lt;have hne2:w.heap.size+1+1≠gv:=k2.ne_ kg (by decide);have hne3:w1.heap.size≠gv:=k3.ne_ kg (by decide);have HSET:=ax (hset y);have hml:(m:Int)<(s.heap.length:Int):=by omega
 have hwm:IntKind.i64.wrap (m:Int)=(m:Int):=IntWalk.i64_in _ (by omega);clear hset hc hz hvl;clear hwm;(go_wp2_with fail);have K2:=k2.far (p:=⟨gv,m,none⟩) hne2 (.int .i64 y);refine bodyPost_ret (v:=.tuple #[.agg #[.slice F s.values.length e1,.slice (some ⟨gv,0,none⟩) s.heap.length e2],.int .i64 0]) (by simp[results,Tryz.results216,go_sem,qk2,lk2]) rfl ⟨_,by rw[E.o],?_,?_⟩
 ·rw[E2.o];exact ⟨_,_,rfl,(((o1.o.set_ne (q:=⟨gv,m,none⟩) (fun e=>dj.o gv e rfl) _).setT K2 (by decide) 0 _).setT (K2.set_ 0 _) (by decide) 1 _),((HSET.o.setT K2 (by decide) 0 _).setT (K2.set_ 0 _) (by decide) 1 _),dj.o⟩
 ·exact ((hB.setCell (p:=⟨gv,m,none⟩) hgv _).setCell (p:=⟨w.heap.size+1+1,0,none⟩) (by simp only;omega) _).setCell (p:=⟨w.heap.size+1+1,1,none⟩) (by simp only;omega) _
theorem sbasic_free {lo hi:Nat} (v:Value) (s:Ste) (w:World) (a:Int) (ha:0≤a∧a≤8) (t:Fct) (vF vA vB vE:Value) (h:StateV w lo hi v s) (hs:s.valid=true) :
  Calls Tryz.prog 216 #[v,.agg #[.int .i64 5,.int .i64 a,.int .i64 0,.bool t.eq,.int .i64 t.a,.int .i64 t.b,vF,vA,vB,vE]] w fun e w'=>∃ r,e=.returned (.tuple #[r,.int .i64 (basicF s 5 a 0).2])∧StateO w' w.heap.size r (basS (basicF s 5 a 0))∧Below w.heap.size w w':=by
 have HA:=ax ha;have HB:aJ (0≤(0:Int)∧(0:Int)≤(8:Int)):=⟨by omega,by omega⟩;clear ha;have hV:=ax h;obtain ⟨A1,c1,A2,c2,rfl,h1,h2⟩:=h;have h8:=ax (Ste.valid_len hs);have HS:=ax hs;have V1:=ax h1;have V2:=ax h2;obtain ⟨x,hx⟩:∃ x,x=tval s.values a:=⟨_,rfl⟩;obtain ⟨y,hy⟩:∃ x,x=tval s.values 0:=⟨_,rfl⟩;have hxv:0≤x∧x≤8:=by rw[hx];exact tval_le (Ste.all_vals hs) _
 have hyv:0≤y∧y≤8:=by rw[hy];exact tval_le (Ste.all_vals hs) _
 replace hx:=ax hx;replace hy:=ax hy;clear hs h1 h2;obtain ⟨k0,k1,k2⟩:=blk3 w tSt tC tSt #[.slice A1 s.values.length c1,.slice A2 s.heap.length c2] #[.int .i64 5,.int .i64 a,.int .i64 0,.bool t.eq,.int .i64 t.a,.int .i64 t.b,vF,vA,vB,vE] #[.slice none 0 0,.slice none 0 0];(go_enter Tryz.func216,Tryz.ntmps216);(go_wp2_with fail);refine (c_l2Copy _ s _ (hV.o.bz bel)).mono ?_;rintro e w1 ⟨r,rfl,o,hB1⟩;have hB:=bgo (w:=w) bel hB1;have hz1:=hB1.size;simp only[World.size_alloc] at hz1;(replace k0:=k0.nz hB1;replace qk0:=k0.cell;replace rk0:=k0.frozen;replace lk0:=k0.lt;replace k1:=k1.nz hB1;replace qk1:=k1.cell;replace rk1:=k1.frozen;replace lk1:=k1.lt;replace k2:=k2.nz hB1;replace qk2:=k2.cell;replace rk2:=k2.frozen;replace lk2:=k2.lt);clear hB1;obtain ⟨fv,av,rfl,o1,o2,dj⟩:=o;obtain ⟨F,e1,rfl,-⟩:=o1.rj;obtain ⟨G,e2,rfl,-⟩:=o2.rj;replace o1:=ax (o1.bq (base':=w.heap.size) (by simp;omega));replace o2:=ax (o2.bq (base':=w.heap.size) (by simp;omega));replace dj:=ax dj;(go_wp2_with fail);refine (c_spec_l1Value A1 c1 s.values a _ (V1.o.bz (bbox hB _)) HA.o.1 (by rw[h8.o.1];exact HA.o.2)).mono ?_;rintro e w2 ⟨rfl,rfl⟩;rw[←hx.o];obtain ⟨X,hX⟩:∃ X,X=w1.alloc (.cells #[.slice F s.values.length e1,.slice G s.heap.length e2] tSt):=⟨_,rfl⟩;replace hB:Below w.heap.size w X:=by rw[hX];exact bbox hB _
 replace k0:Blk X w.heap.size tSt #[.slice A1 s.values.length c1,.slice A2 s.heap.length c2]:=by rw[hX];exact k0.alloc _
 replace k1:Blk X (w.heap.size+1) tC #[.int .i64 5,.int .i64 a,.int .i64 0,.bool t.eq,.int .i64 t.a,.int .i64 t.b,vF,vA,vB,vE]:=by rw[hX];exact k1.alloc _
 replace k2:Blk X (w.heap.size+1+1) tSt #[.slice none 0 0,.slice none 0 0]:=by rw[hX];exact k2.alloc _
 have k3:Blk X w1.heap.size tSt #[.slice F s.values.length e1,.slice G s.heap.length e2]:=by rw[hX];exact Blk.new _ _ _
 replace o1:aJ (IntsO X w.heap.size (.slice F s.values.length e1) s.values):=by rw[hX];exact o1.o.bz (bbox (Below.refl _ _) _)
 replace o2:aJ (IntsO X w.heap.size (.slice G s.heap.length e2) s.heap):=by rw[hX];exact o2.o.bz (bbox (Below.refl _ _) _)
 rw[←hX];clear hX;(replace qk0:=k0.cell;replace rk0:=k0.frozen;replace lk0:=k0.lt;replace qk1:=k1.cell;replace rk1:=k1.frozen;replace lk1:=k1.lt;replace qk2:=k2.cell;replace rk2:=k2.frozen;replace lk2:=k2.lt;replace qk3:=k3.cell;replace rk3:=k3.frozen;replace lk3:=k3.lt);(go_wp2_with fail);refine (c_spec_l1Value A1 c1 s.values 0 _ (V1.o.bz hB) HB.o.1 (by rw[h8.o.1];exact HB.o.2)).mono ?_;rintro e w2 ⟨rfl,rfl⟩;rw[←hy.o];(go_wp2_with fail);refine (c_spec_l2Has _ s x _ (hV.o.bz hB) h8.o.2).mono ?_;rintro e w2 ⟨rfl,hB2⟩;have hX:=k3.lt;replace o1:=ax (o1.o.bz hB2);replace o2:=ax (o2.o.bz hB2);(replace hB:=bgo hB hB2;replace k0:=k0.nz hB2;replace qk0:=k0.cell;replace rk0:=k0.frozen;replace lk0:=k0.lt;replace k1:=k1.nz hB2;replace qk1:=k1.cell;replace rk1:=k1.frozen;replace lk1:=k1.lt;replace k2:=k2.nz hB2;replace qk2:=k2.cell;replace rk2:=k2.frozen;replace lk2:=k2.lt;replace k3:=k3.nz hB2;replace qk3:=k3.cell;replace rk3:=k3.frozen;replace lk3:=k3.lt);clear hB2;cases ha:allocB s.heap x
 ·have E:aJ (basicF s 5 a 0=(s,1)):=by
   show _=_;unfold basicF;rw[if_neg (by decide),if_neg (by decide),if_neg (by decide),if_neg (by decide),←hx.o,ha];rfl
  have E2:aJ (basS (basicF s 5 a 0)=⟨[],[]⟩):=by show _=_;rw[E.o];rfl
  clear ha;(go_wp2_with fail);refine bodyPost_ret (v:=.tuple #[.agg #[.slice none 0 0,.slice none 0 0],.int .i64 1]) (by simp[results,Tryz.results216,go_sem,qk2,lk2]) rfl ⟨_,by rw[E.o],?_,?_⟩
  ·rw[E2.o];exact zeroO _
  ·first
    | exact bel
    | (exact (((hB).setCell (p:=⟨w.heap.size+1+1,0,none⟩) (by simp only;omega) _).setCell (p:=⟨w.heap.size+1+1,1,none⟩) (by simp only;omega) _))
    | (exact bbox (((hB).setCell (p:=⟨w.heap.size+1+1,0,none⟩) (by simp only;omega) _).setCell (p:=⟨w.heap.size+1+1,1,none⟩) (by simp only;omega) _) _)
 have hxa:=allocB_addr ha;obtain ⟨m,rfl⟩:∃ m:Nat,x=(m:Int)+1:=⟨(x - 1).toNat,by omega⟩
 have E:aJ (basicF s 5 a 0=(⟨s.values,s.heap.set m (-1)⟩,0)):=by
  show _=_;unfold basicF;rw[if_neg (by decide),if_neg (by decide),if_neg (by decide),if_neg (by decide),←hx.o,ha,if_pos rfl,show ((m:Int)+1 - 1).toNat=m by omega]
 have E2:aJ (basS (basicF s 5 a 0)=⟨s.values,s.heap.set m (-1)⟩):=by show _=_;rw[E.o];rfl
 clear ha;have hvl:=h8.o.2;obtain ⟨gv,cur,-,rfl,hgv,kg,hc,hset⟩:=o2.o.cell_ (k:=m) (by omega);have q:=kg.cell m;rw[hc] at q;obtain ⟨z,hz⟩:∃ z,z=s.heap[m]'(by omega):=⟨_,rfl⟩;rw[←hz] at q;have fq:=kg.frozen m;have hgvl:=kg.lt;have hne2:w.heap.size+1+1≠gv:=k2.ne_ kg (by decide);have hne3:w1.heap.size≠gv:=k3.ne_ kg (by decide);have HSET:=ax (hset (-1));have hml:(m:Int)<(s.heap.length:Int):=by omega
 have hwm:IntKind.i64.wrap (m:Int)=(m:Int):=IntWalk.i64_in _ (by omega);clear hset hc hz hvl;clear hwm;(go_wp2_with fail);have K2:=k2.far (p:=⟨gv,m,none⟩) hne2 (.int .i64 (-1));refine bodyPost_ret (v:=.tuple #[.agg #[.slice F s.values.length e1,.slice (some ⟨gv,0,none⟩) s.heap.length e2],.int .i64 0]) (by simp[results,Tryz.results216,go_sem,qk2,lk2]) rfl ⟨_,by rw[E.o],?_,?_⟩
 ·rw[E2.o];exact ⟨_,_,rfl,(((o1.o.set_ne (q:=⟨gv,m,none⟩) (fun e=>dj.o gv e rfl) _).setT K2 (by decide) 0 _).setT (K2.set_ 0 _) (by decide) 1 _),((HSET.o.setT K2 (by decide) 0 _).setT (K2.set_ 0 _) (by decide) 1 _),dj.o⟩
 ·exact ((hB.setCell (p:=⟨gv,m,none⟩) hgv _).setCell (p:=⟨w.heap.size+1+1,0,none⟩) (by simp only;omega) _).setCell (p:=⟨w.heap.size+1+1,1,none⟩) (by simp only;omega) _
theorem sbasic_new {lo hi:Nat} (v:Value) (s:Ste) (w:World) (m:Nat) (hm:m<4) (t:Fct) (vF vA vB vE:Value) (h:StateV w lo hi v s) (hs:s.valid=true) :
  Calls Tryz.prog 216 #[v,.agg #[.int .i64 4,.int .i64 ((m:Int)+1),.int .i64 0,.bool t.eq,.int .i64 t.a,.int .i64 t.b,vF,vA,vB,vE]] w fun e w'=>∃ r,e=.returned (.tuple #[r,.int .i64 (basicF s 4 ((m:Int)+1) 0).2])∧StateO w' w.heap.size r (basS (basicF s 4 ((m:Int)+1) 0))∧Below w.heap.size w w':=by
 have hm4:(m:Int)<4:=by omega
 have hV:=ax h;obtain ⟨A1,c1,A2,c2,rfl,h1,h2⟩:=h;have h8:=ax (Ste.valid_len hs);have HS:=ax hs;have V1:=ax h1;have V2:=ax h2;obtain ⟨x,hx⟩:∃ x,x=tval s.values ((m:Int)+1):=⟨_,rfl⟩;obtain ⟨y,hy⟩:∃ x,x=tval s.values 0:=⟨_,rfl⟩;have hxv:0≤x∧x≤8:=by rw[hx];exact tval_le (Ste.all_vals hs) _
 have hyv:0≤y∧y≤8:=by rw[hy];exact tval_le (Ste.all_vals hs) _
 replace hx:=ax hx;replace hy:=ax hy;clear hs h1 h2;obtain ⟨k0,k1,k2⟩:=blk3 w tSt tC tSt #[.slice A1 s.values.length c1,.slice A2 s.heap.length c2] #[.int .i64 4,.int .i64 ((m:Int)+1),.int .i64 0,.bool t.eq,.int .i64 t.a,.int .i64 t.b,vF,vA,vB,vE] #[.slice none 0 0,.slice none 0 0];(go_enter Tryz.func216,Tryz.ntmps216);(go_wp2_with fail);refine (c_l2Copy _ s _ (hV.o.bz bel)).mono ?_;rintro e w1 ⟨r,rfl,o,hB1⟩;have hB:=bgo (w:=w) bel hB1;have hz1:=hB1.size;simp only[World.size_alloc] at hz1;(replace k0:=k0.nz hB1;replace qk0:=k0.cell;replace rk0:=k0.frozen;replace lk0:=k0.lt;replace k1:=k1.nz hB1;replace qk1:=k1.cell;replace rk1:=k1.frozen;replace lk1:=k1.lt;replace k2:=k2.nz hB1;replace qk2:=k2.cell;replace rk2:=k2.frozen;replace lk2:=k2.lt);clear hB1;obtain ⟨fv,av,rfl,o1,o2,dj⟩:=o;obtain ⟨F,e1,rfl,-⟩:=o1.rj;obtain ⟨G,e2,rfl,-⟩:=o2.rj;replace o1:=ax (o1.bq (base':=w.heap.size) (by simp;omega));replace o2:=ax (o2.bq (base':=w.heap.size) (by simp;omega));replace dj:=ax dj;(go_wp2_with fail);refine (c_spec_l1Value A1 c1 s.values ((m:Int)+1) _ (V1.o.bz (bbox hB _)) (by omega) (by rw[h8.o.1];exact (by omega))).mono ?_;rintro e w2 ⟨rfl,rfl⟩;rw[←hx.o];obtain ⟨X,hX⟩:∃ X,X=w1.alloc (.cells #[.slice F s.values.length e1,.slice G s.heap.length e2] tSt):=⟨_,rfl⟩;replace hB:Below w.heap.size w X:=by rw[hX];exact bbox hB _
 replace k0:Blk X w.heap.size tSt #[.slice A1 s.values.length c1,.slice A2 s.heap.length c2]:=by rw[hX];exact k0.alloc _
 replace k1:Blk X (w.heap.size+1) tC #[.int .i64 4,.int .i64 ((m:Int)+1),.int .i64 0,.bool t.eq,.int .i64 t.a,.int .i64 t.b,vF,vA,vB,vE]:=by rw[hX];exact k1.alloc _
 replace k2:Blk X (w.heap.size+1+1) tSt #[.slice none 0 0,.slice none 0 0]:=by rw[hX];exact k2.alloc _
 have k3:Blk X w1.heap.size tSt #[.slice F s.values.length e1,.slice G s.heap.length e2]:=by rw[hX];exact Blk.new _ _ _
 replace o1:aJ (IntsO X w.heap.size (.slice F s.values.length e1) s.values):=by rw[hX];exact o1.o.bz (bbox (Below.refl _ _) _)
 replace o2:aJ (IntsO X w.heap.size (.slice G s.heap.length e2) s.heap):=by rw[hX];exact o2.o.bz (bbox (Below.refl _ _) _)
 rw[←hX];clear hX;(replace qk0:=k0.cell;replace rk0:=k0.frozen;replace lk0:=k0.lt;replace qk1:=k1.cell;replace rk1:=k1.frozen;replace lk1:=k1.lt;replace qk2:=k2.cell;replace rk2:=k2.frozen;replace lk2:=k2.lt;replace qk3:=k3.cell;replace rk3:=k3.frozen;replace lk3:=k3.lt);(go_wp2_with fail);refine (c_spec_l1Value A1 c1 s.values 0 _ (V1.o.bz hB) (by omega) (by rw[h8.o.1];exact (by omega))).mono ?_;rintro e w2 ⟨rfl,rfl⟩;rw[←hy.o];(go_wp2_with fail);refine (c_spec_AllocX _ s _ (hV.o.bz hB) HS.o).mono ?_;rintro e w2 ⟨hor,hB2⟩;have hzX:=hB.size;(replace hB:=bgo hB hB2;replace k0:=k0.nz hB2;replace qk0:=k0.cell;replace rk0:=k0.frozen;replace lk0:=k0.lt;replace k1:=k1.nz hB2;replace qk1:=k1.cell;replace rk1:=k1.frozen;replace lk1:=k1.lt;replace k2:=k2.nz hB2;replace qk2:=k2.cell;replace rk2:=k2.frozen;replace lk2:=k2.lt;replace k3:=k3.nz hB2;replace qk3:=k3.cell;replace rk3:=k3.frozen;replace lk3:=k3.lt);clear hB2;rcases hor with ⟨hf,rfl⟩|⟨n,r,hf,rfl,o⟩
 ·have E:aJ (basicF s 4 ((m:Int)+1) 0=(s,2)):=by
   show _=_;unfold basicF;rw[if_neg (by decide),if_neg (by decide),if_neg (by decide),if_pos rfl,hf]
  have E2:aJ (basS (basicF s 4 ((m:Int)+1) 0)=⟨[],[]⟩):=by show _=_;rw[E.o];rfl
  clear hf;(go_wp2_with fail);refine bodyPost_ret (v:=.tuple #[.agg #[.slice none 0 0,.slice none 0 0],.int .i64 2]) (by simp[results,Tryz.results216,go_sem,qk2,lk2]) rfl ⟨_,by rw[E.o],?_,?_⟩
  ·rw[E2.o];exact zeroO _
  ·first
    | exact bel
    | (exact (((hB).setCell (p:=⟨w.heap.size+1+1,0,none⟩) (by simp only;omega) _).setCell (p:=⟨w.heap.size+1+1,1,none⟩) (by simp only;omega) _))
    | (exact bbox (((hB).setCell (p:=⟨w.heap.size+1+1,0,none⟩) (by simp only;omega) _).setCell (p:=⟨w.heap.size+1+1,1,none⟩) (by simp only;omega) _) _)
 have E:aJ (basicF s 4 ((m:Int)+1) 0=(⟨s.values.set m ((n:Int)+1),s.heap.set n 0⟩,0)):=by
  show _=_;unfold basicF;rw[if_neg (by decide),if_neg (by decide),if_neg (by decide),if_pos rfl,hf,show ((m:Int)+1 - 1).toNat=m by omega]
 have E2:aJ (basS (basicF s 4 ((m:Int)+1) 0)=⟨s.values.set m ((n:Int)+1),s.heap.set n 0⟩):=by show _=_;rw[E.o];rfl
 clear hf;obtain ⟨nf,nh,rfl,p1,p2,dj2⟩:=o;obtain ⟨NF,d1,rfl,-⟩:=p1.rj;obtain ⟨NH,d2,rfl,-⟩:=p2.rj;simp only[List.length_set] at p1 p2 dj2;replace p1:=ax (p1.bq (base':=w.heap.size) (by omega));replace p2:=ax (p2.bq (base':=w.heap.size) (by omega));replace dj2:=ax dj2;have hvl:=h8.o.1;obtain ⟨gv,cur,-,rfl,hgv,kg,hc,hset⟩:=p1.o.cell_ (k:=m) (by first|omega|(simp;omega));have q:=kg.cell m;rw[hc] at q;obtain ⟨z,hz⟩:∃ z,z=s.values[m]'(by omega):=⟨_,rfl⟩;rw[←hz] at q;have fq:=kg.frozen m;have hgvl:=kg.lt;have hne2:w.heap.size+1+1≠gv:=k2.ne_ kg (by decide);have HSET:=ax (hset ((n:Int)+1));have hml:(m:Int)<(s.values.length:Int):=by omega
 clear hset hc hz hvl o1 o2;(go_wp2_with fail);have K2:=k2.far (p:=⟨gv,m,none⟩) hne2 (.int .i64 ((n:Int)+1));refine bodyPost_ret (v:=.tuple #[.agg #[.slice (some ⟨gv,0,none⟩) s.values.length d1,.slice NH s.heap.length d2],.int .i64 0]) (by simp[results,Tryz.results216,go_sem,qk2,lk2]) rfl ⟨_,by rw[E.o],?_,?_⟩
 ·rw[E2.o];exact ⟨_,_,rfl,((HSET.o.setT K2 (by decide) 0 _).setT (K2.set_ 0 _) (by decide) 1 _).bz (bbox (Below.refl _ _) _),(((p2.o.set_ne (q:=⟨gv,m,none⟩) (dj2.o gv rfl) _).setT K2 (by decide) 0 _).setT (K2.set_ 0 _) (by decide) 1 _).bz (bbox (Below.refl _ _) _),dj2.o⟩
 ·exact bbox (((hB.setCell (p:=⟨gv,m,none⟩) hgv _).setCell (p:=⟨w.heap.size+1+1,0,none⟩) (by simp only;omega) _).setCell (p:=⟨w.heap.size+1+1,1,none⟩) (by simp only;omega) _) _
theorem c_spec_l9Basic {lo hi:Nat} (v:Value) (s:Ste) (w:World) (k a b:Int) (t:Fct) (vF vA vB vE:Value) (h:StateV w lo hi v s) (hs:s.valid=true) (hf:fieldsB k a b=true) :
  Calls Tryz.prog 216 #[v,.agg #[.int .i64 k,.int .i64 a,.int .i64 b,.bool t.eq,.int .i64 t.a,.int .i64 t.b,vF,vA,vB,vE]] w fun e w'=>∃ r,e=.returned (.tuple #[r,.int .i64 (basicF s k a b).2])∧StateO w' w.heap.size r (basS (basicF s k a b))∧Below w.heap.size w w':=by
 have hk:=fieldsB_basic hf;unfold fieldsB at hf
 have hP:∀ {x:Int},isProgB x=true→∃ m:Nat,x=(m:Int)+1∧m<4:=fun {x} h=>by
  simp[isProgB] at h;exact ⟨(x - 1).toNat,by omega,by omega⟩
 by_cases k1:k=1
 ·subst k1;rw[if_pos (Or.inl rfl),Bool.and_eq_true] at hf;obtain ⟨m,rfl,hm⟩:=hP hf.1;exact sbasic_set v s w m b hm (zjA.1 hf.2) t vF vA vB vE h hs
 by_cases k2:k=2
 ·subst k2;rw[if_pos (Or.inr rfl),Bool.and_eq_true] at hf;obtain ⟨m,rfl,hm⟩:=hP hf.1;exact sbasic_load v s w m b hm (zjA.1 hf.2) t vF vA vB vE h hs
 rw[if_neg (by omega)] at hf;by_cases k3:k=3
 ·subst k3;rw[if_pos rfl,Bool.and_eq_true] at hf;exact sbasic_store v s w a b (zjA.1 hf.1) (zjA.1 hf.2) t vF vA vB vE h hs
 rw[if_neg k3] at hf;by_cases k4:k=4
 ·subst k4;rw[if_pos rfl,Bool.and_eq_true,decide_eq_true_eq] at hf;obtain ⟨hf1,rfl⟩:=hf;obtain ⟨m,rfl,hm⟩:=hP hf1;exact sbasic_new v s w m hm t vF vA vB vE h hs
 rw[if_neg k4] at hf;obtain rfl:k=5:=by omega
 rw[if_pos rfl,Bool.and_eq_true,decide_eq_true_eq] at hf;obtain ⟨hf1,rfl⟩:=hf;exact sbasic_free v s w a (zjA.1 hf1) t vF vA vB vE h hs
def resS (P:Ste×Int×Nat):Ste:=if P.2.1=0 then P.1 else ⟨[],[]⟩
theorem resS_ok (s:Ste) (f:Nat):resS (s,0,f)=s:=rfl
theorem resS_no {s:Ste} {c:Int} {f:Nat} (h:c≠0):resS (s,c,f)=⟨[],[]⟩:=if_neg h
theorem c_hold1 {lo hi:Nat} (g:Nat) (t:Fct) (A:Option Addr) (c:Nat) (vs:List Int) (w:World) (hk:Blk w g tF #[.bool t.eq,.int .i64 t.a,.int .i64 t.b]) (h:IntsV w lo hi A vs) (ht:t.valid=true) (h8:vs.length=8) :
  Calls Tryz.prog 214 #[.slice (some ⟨g,0,none⟩) 1 1,.slice A vs.length c] w fun e w'=>e=.returned (.bool (t.holds vs))∧Below w.heap.size w w':=by
 have hF:FactsV w g (g+1) (some ⟨g,0,none⟩) [t]:=
  ⟨⟨by simp,fun _=>⟨g,0,rfl,Nat.le_refl _,Nat.lt_succ_self _,fun j u hu=>by rw[Nat.zero_add,hk.cell];simpa using hu⟩⟩,by simp[Lim]⟩
 refine (c_spec_l1Hold (some ⟨g,0,none⟩) A 1 c [t] vs w hF h (by simp[ht]) h8).mono ?_;rintro e w' ⟨rfl,hB⟩;exact ⟨by simp,hB⟩
def SRunOk (A:Option Addr) (c:Nat) (lo hi:Nat) (L:Cms):Prop:=∀ (v:Value) (s:Ste) (f base:Nat) (D:Int) (w:World),D=f→StateO w base v s→base≤w.heap.size→s.valid=true→f≤200→CmsV w lo hi A L→
 Calls Tryz.prog 160 #[v,.slice A L.len c,.int .i64 D] w fun e w'=>∃ r,e=.returned (.tuple #[r,.int .i64 (L.run s f).2.1,.int .i64 ((L.run s f).2.2:Int)])∧StateO w' base r (resS (L.run s f))∧Below w.heap.size w w'
theorem c_spec_l9Loop {lo hi:Nat} (v:Value) (s:Ste) (f base:Nat) (D:Int) (hD:D=f) (w:World) (a b:Int) (t:Fct) (vF vA:Value) (A3 A4:Option Addr) (c3 c4:Nat) (body els:Cms) (hO:StateO w base v s) (hbase:base≤w.heap.size) (hs:s.valid=true) (hf:f≤199) (ht:t.valid=true)
  (hV3:CmsV w lo hi A3 body) (IB:SRunOk A3 c3 lo hi body) :
  Calls Tryz.prog 215 #[v,.agg #[.int .i64 7,.int .i64 a,.int .i64 b,.bool t.eq,.int .i64 t.a,.int .i64 t.b,vF,vA,.slice A3 body.len c3,.slice A4 els.len c4],.int .i64 D] w fun e w'=>∃ r,e=.returned (.tuple #[r,.int .i64 (loopF body.run t (f+1) s f).2.1,.int .i64 ((loopF body.run t (f+1) s f).2.2:Int)])∧StateO w' base r (resS (loopF body.run t (f+1) s f))∧Below w.heap.size w w':=by
 subst hD;obtain ⟨RB,hRB⟩:∃ R,R=body.run:=⟨_,rfl⟩;have hok:RunOk RB:=by rw[hRB];exact Cms.run_ok body
 have hIB:aJ (∀ (v:Value) (s:Ste) (f base:Nat) (D:Int) (w:World),D=f→StateO w base v s→base≤w.heap.size→s.valid=true→f≤200→CmsV w lo hi A3 body→
   Calls Tryz.prog 160 #[v,.slice A3 body.len c3,.int .i64 D] w fun e w'=>∃ r,e=.returned (.tuple #[r,.int .i64 (RB s f).2.1,.int .i64 ((RB s f).2.2:Int)])∧StateO w' base r (resS (RB s f))∧Below w.heap.size w w'):=by rw[hRB];exact IB
 rw[←hRB];clear IB hRB;replace hok:=ax hok;replace hV3:=ax hV3;replace ht:=ax ht;replace hs:=ax hs;obtain ⟨LH,hLH⟩:∃ x,x=loopF RB t (f+1) s f:=⟨_,rfl⟩;rw[←hLH];replace hLH:=ax hLH;obtain ⟨fv,hv,rfl,o1,o2,dj⟩:=hO;obtain ⟨F,e1,rfl,-⟩:=o1.rj;obtain ⟨G,e2,rfl,-⟩:=o2.rj;obtain ⟨k0,k1,k2⟩:=blk3 w tSt tC tSt #[.slice F s.values.length e1,.slice G s.heap.length e2] #[.int .i64 7,.int .i64 a,.int .i64 b,.bool t.eq,.int .i64 t.a,.int .i64 t.b,vF,vA,.slice A3 body.len c3,.slice A4 els.len c4] #[.slice none 0 0,.slice none 0 0];replace o1:=ax o1;replace o2:=ax o2;replace dj:=ax dj;(go_enter Tryz.func215,Tryz.ntmps215);(go_wp2_with fail)
 go_loopw [2] (fun x wx=>∃ (n f1:Nat) (s1:Ste) (F:Option Addr) (e1:Nat) (G:Option Addr) (e2:Nat),x=.int .i64 (f1:Int)∧f1<n∧f1≤199∧aJ (s1.valid=true)∧aJ (LH=loopF RB t n s1 f1)∧
  Blk wx w.heap.size tSt #[.slice F s1.values.length e1,.slice G s1.heap.length e2]∧Blk wx (w.heap.size+1) tC #[.int .i64 7,.int .i64 a,.int .i64 b,.bool t.eq,.int .i64 t.a,.int .i64 t.b,vF,vA,.slice A3 body.len c3,.slice A4 els.len c4]∧Blk wx (w.heap.size+1+1) tSt #[.slice none 0 0,.slice none 0 0]∧
  aJ (IntsO wx base (.slice F s1.values.length e1) s1.values)∧aJ (IntsO wx base (.slice G s1.heap.length e2) s1.heap)∧aJ (∀ x,(Value.slice F s1.values.length e1).ownBlock=some x→(Value.slice G s1.heap.length e2).ownBlock≠some x)∧aJ (Below w.heap.size w wx)) (fun x _=>(intOf x).toNat)
 case atStart=>exact ⟨f+1,f,s,F,e1,G,e2,rfl,by omega,by omega,hs,hLH,k0,k1,k2,ax (o1.o.bz bel),ax (o2.o.bz bel),dj,ax bel⟩
 case round=>
  clear k0 k1 k2 o1 o2 dj;obtain ⟨n,f1,s1,F,e1,G,e2,rfl,hn,hgk,HS1,HL,k0,k1,k2,o1,o2,dj,HB⟩:=hrel;obtain ⟨n,rfl⟩:∃ m,n=m+1:=⟨n - 1,by omega⟩;have hsz:=HB.o.size;have h81:=ax (Ste.valid_len HS1.o).1;obtain ⟨th,hth⟩:∃ x,x=t.holds s1.values:=⟨_,rfl⟩;have HL2:=HL.o;rw[loopF,←hth] at HL2;replace HL2:=ax HL2;replace hth:=ax hth;clear HL;(replace qk0:=k0.z;replace qk1:=k1.cell;replace rk1:=k1.frozen;replace lk1:=k1.lt;replace qk2:=k2.cell;replace rk2:=k2.frozen;replace lk2:=k2.lt);(go_wp2_with fail);refine (c_hold1 wr.heap.size t F e1 s1.values _ (Blk.new _ _ _) ((o1.o.readsI.2).bz bel) ht.o h81.o).mono ?_;rintro e w2 ⟨rfl,hBx⟩;rw[←hth.o];have hW2:Below wr.heap.size wr w2:=bgo (bbox (Below.refl _ _) _) hBx;have hB2:=bgo HB.o hW2;have hz2:=hW2.size;replace o1:=ax (o1.o.bz hW2);replace o2:=ax (o2.o.bz hW2);(replace k0:=k0.nz hW2;replace qk0:=k0.z;replace k1:=k1.nz hW2;replace qk1:=k1.cell;replace rk1:=k1.frozen;replace lk1:=k1.lt;replace k2:=k2.nz hW2;replace qk2:=k2.cell;replace rk2:=k2.frozen;replace lk2:=k2.lt);clear hBx hW2;cases th
  ·have HL3:aJ (LH=(s1,0,f1)):=HL2.o;have KB:=ax k2;clear HL2;(go_wp2_with fail);refine bodyPost_ret (v:=.tuple #[.agg #[.slice F s1.values.length e1,.slice G s1.heap.length e2],.int .i64 0,.int .i64 (f1:Int)]) (by simp[results,Tryz.results215,go_sem,qk2,lk2]) rfl ⟨_,by rw[HL3.o],?_,?_⟩
   ·rw[HL3.o,resS_ok];exact ⟨_,_,rfl,((o1.o.setT KB.o (by decide) 0 _).setT (KB.o.set_ 0 _) (by decide) 1 _),((o2.o.setT KB.o (by decide) 0 _).setT (KB.o.set_ 0 _) (by decide) 1 _),dj.o⟩
   ·exact (hB2.setCell (p:=⟨w.heap.size+1+1,0,none⟩) (by simp only;omega) _).setCell (p:=⟨w.heap.size+1+1,1,none⟩) (by simp only;omega) _
  obtain ⟨P,hP⟩:∃ P,P=RB s1 f1:=⟨_,rfl⟩;obtain ⟨s2,c2,f2⟩:=P;have hk:=hok.o s1 f1 HS1.o;have HL3:=HL2.o;rw[if_pos rfl,←hP] at HL3;rw[←hP] at hk;obtain ⟨hk1,hk2,hk3,hk4⟩:=hk;simp only at hk1 hk2 hk3 hk4 HL3;have hIB':=hIB.o (.agg #[.slice F s1.values.length e1,.slice G s1.heap.length e2]) s1 f1 base (f1:Int) w2 rfl ⟨_,_,rfl,o1.o,o2.o,dj.o⟩ (by omega) HS1.o (by omega) (hV3.o.bz hB2);rw[←hP] at hIB';simp only at hIB';replace hIB':=ax hIB';replace HL3:=ax HL3;replace hk1:=ax hk1;clear HL2 hP;(go_wp2_with fail);refine hIB'.o.mono ?_;rintro e w3 ⟨r,rfl,oR,hBx⟩;have hB3:=bgo hB2 hBx;have hz3:=hBx.size;(replace k0:=k0.nz hBx;replace qk0:=k0.z;replace k1:=k1.nz hBx;replace qk1:=k1.cell;replace rk1:=k1.frozen;replace lk1:=k1.lt;replace k2:=k2.nz hBx;replace qk2:=k2.cell;replace rk2:=k2.frozen;replace lk2:=k2.lt);clear hBx o1 o2 dj hIB';by_cases hc:c2=0
  ·subst hc;rw[resS_ok] at oR;obtain ⟨fv,hv,rfl,o1,o2,dj⟩:=oR;obtain ⟨F2,d1,rfl,-⟩:=o1.rj;obtain ⟨G2,d2,rfl,-⟩:=o2.rj;replace o1:=ax o1;replace o2:=ax o2;replace dj:=ax dj;have HL4:=HL3.o;rw[if_neg (by omega)] at HL4;rcases Nat.eq_zero_or_pos f2 with hz|hpos
   ·subst hz;rw[if_pos (by omega)] at HL4;replace HL4:=ax HL4;clear HL3;(go_wp2_with fail);refine bodyPost_ret (v:=.tuple #[.agg #[.slice none 0 0,.slice none 0 0],.int .i64 3,.int .i64 0]) (by simp[results,Tryz.results215,go_sem,qk2,lk2]) rfl ⟨_,by rw[HL4.o];rfl,?_,?_⟩
    ·rw[HL4.o,resS_no (by decide)];exact zeroO _
    ·exact bbox ((hB3.setCell (p:=⟨w.heap.size+1+1,0,none⟩) (by simp only;omega) _).setCell (p:=⟨w.heap.size+1+1,1,none⟩) (by simp only;omega) _) _
   ·rw[if_neg (by omega)] at HL4;replace HL4:=ax HL4;have hf2:¬((f2:Int)<1):=by omega
    have kk0:=ax k0;have kk1:=ax k1;have kk2:=ax k2;clear HL3;(go_wp2_with fail)
    go_round
    case rel=>exact ⟨n,f2 - 1,s2,F2,d1,G2,d2,by congr 1;omega,by omega,by omega,hk1,HL4,((kk0.o.set_ 0 _).set_ 1 _).alloc _,((kk1.o.far (p:=⟨w.heap.size,0,none⟩) (by simp) _).far (p:=⟨w.heap.size,1,none⟩) (by simp) _).alloc _,((kk2.o.far (p:=⟨w.heap.size,0,none⟩) (by simp;omega) _).far (p:=⟨w.heap.size,1,none⟩) (by simp;omega) _).alloc _,
     ax (((o1.o.setT kk0.o (by decide) 0 _).setT (kk0.o.set_ 0 _) (by decide) 1 _).bz (bbox (Below.refl _ _) _)),ax (((o2.o.setT kk0.o (by decide) 0 _).setT (kk0.o.set_ 0 _) (by decide) 1 _).bz (bbox (Below.refl _ _) _)),dj,ax (bbox ((hB3.setCell (p:=⟨w.heap.size,0,none⟩) (Nat.le_refl _) _).setCell (p:=⟨w.heap.size,1,none⟩) (Nat.le_refl _) _) _)⟩
    case measure=>simp[intOf];omega
  ·have HL4:=HL3.o;rw[if_pos hc] at HL4;replace HL4:=ax HL4;have hcb:(c2 != 0)=true:=by simpa using hc
   obtain ⟨fv,hv,rfl,o1,o2,dj⟩:=oR;obtain ⟨F2,d1,rfl,-⟩:=o1.rj;obtain ⟨G2,d2,rfl,-⟩:=o2.rj;clear HL3 o1 o2 dj;(go_wp2_with fail);refine bodyPost_ret (v:=.tuple #[.agg #[.slice none 0 0,.slice none 0 0],.int .i64 c2,.int .i64 (f2:Int)]) (by simp[results,Tryz.results215,go_sem,qk2,lk2]) rfl ⟨_,by rw[HL4.o],?_,?_⟩
   ·rw[HL4.o,resS_no hc];exact zeroO _
   ·exact bbox ((hB3.setCell (p:=⟨w.heap.size+1+1,0,none⟩) (by simp only;omega) _).setCell (p:=⟨w.heap.size+1+1,1,none⟩) (by simp only;omega) _) _
theorem l9Run_go:∀ (N:Nat) (L:Cms),L.sz<N→∀ (A:Option Addr) (c d lo hi:Nat),L.len≤1049600→L.small 1049600→L.shape d=true→SRunOk A c lo hi L:=by
 intro N
 induction N with
 | zero=>intro L h;omega
 | succ N IH=>
  intro L hsz A c d lo hi hlen hsm hsh v s f base D w hD hO hbase hs hf hV;subst hD;replace IH:=ax IH;replace hsm:=ax hsm;replace hsz:=ax hsz;replace hsh:=ax hsh;obtain ⟨n,hn⟩:∃ n,n=L.len:=⟨_,rfl⟩;rw[←hn];rw[←hn] at hlen;replace hn:=ax hn;replace hV:=ax hV;replace hs:=ax hs;obtain ⟨LH,hLH⟩:∃ x,x=L.run s f:=⟨_,rfl⟩;rw[←hLH];replace hLH:=ax hLH;obtain ⟨fv,hv,rfl,o1,o2,dj⟩:=hO;obtain ⟨F,e1,rfl,-⟩:=o1.rj;obtain ⟨G,e2,rfl,-⟩:=o2.rj;obtain ⟨k0,k1⟩:=blk2 w tSt tSt #[.slice F s.values.length e1,.slice G s.heap.length e2] #[.slice none 0 0,.slice none 0 0];replace o1:=ax o1;replace o2:=ax o2;replace dj:=ax dj;(go_enter Tryz.func160,Tryz.ntmps160);(go_wp2_with fail)
  go_loopw [2,9] (fun x i wx=>∃ (j f1:Nat) (s1:Ste) (F:Option Addr) (e1:Nat) (G:Option Addr) (e2:Nat),i=.int .i64 (j:Int)∧x=.int .i64 (f1:Int)∧j≤n∧f1≤200∧aJ (s1.valid=true)∧aJ (LH=(L.drop j).run s1 f1)∧
   Blk wx w.heap.size tSt #[.slice F s1.values.length e1,.slice G s1.heap.length e2]∧Blk wx (w.heap.size+1) tSt #[.slice none 0 0,.slice none 0 0]∧
   aJ (IntsO wx base (.slice F s1.values.length e1) s1.values)∧aJ (IntsO wx base (.slice G s1.heap.length e2) s1.heap)∧aJ (∀ x,(Value.slice F s1.values.length e1).ownBlock=some x→(Value.slice G s1.heap.length e2).ownBlock≠some x)∧aJ (Below w.heap.size w wx)) (fun _ i _=>n - (intOf i).toNat)
  case atStart=>exact ⟨0,f,s,F,e1,G,e2,rfl,rfl,Nat.zero_le _,hf,hs,hLH,k0,k1,ax (o1.o.bz bel),ax (o2.o.bz bel),dj,ax bel⟩
  case round=>
   clear k0 k1 o1 o2 dj hs;obtain ⟨j,f1,s1,F,e1,G,e2,rfl,rfl,hj,hf1,hs1,HR,k0,k1,o1,o2,dj,HB⟩:=hrel;have hsz1:=HB.o.size;by_cases hlt:j<n
   ·have hpos:0<(L.drop j).len:=by rw[Cms.drop_len,←hn.o];omega
    obtain ⟨k,a,b,t,i,body,els,r,eL⟩:=Cms.cons_of_len hpos;obtain ⟨bl,o,rfl,-,-,hAt⟩:=(hV.o.bz HB.o) (by rw[←hn.o];omega);have hD:=hAt.drop j;have hSm:=Cms.small_drop j hsm.o;have hZ:=Cms.sz_drop j L;have hDs:=Cms.drop_succ j L eL;have hshj:=Cms.shape_drop j hsh.o;have HR':=HR.o;rw[eL] at hD hSm hZ HR' hshj;obtain ⟨⟨p0,p1,p2,p3,p4,p5⟩,⟨A6,c6,p6,g6⟩,⟨A7,c7,p7,g7⟩,⟨A3,c3,p8,g8⟩,⟨A4,c4,p9,g9⟩,-⟩:=hD;obtain ⟨s1',s2',s3,s4,s5,s6,-⟩:=hSm;simp only[Cms.sz] at hZ;have hbs:body.sz<N:=by have:=hsz.o;omega
    have hes:els.sz<N:=by have:=hsz.o;omega
    have gB:aJ (CmsV wr lo hi A3 body):=g8;have gE:aJ (CmsV wr lo hi A4 els):=g9;rw[Cms.shape] at hshj;simp only[Bool.and_eq_true] at hshj;obtain ⟨-,hfv,hsb,hse,-⟩:=hshj;have hIB:=ax (IH.o body hbs A3 c3 (d - 1) lo hi s3 s5 hsb);have hIE:=ax (IH.o els hes A4 c4 (d - 1) lo hi s4 s6 hse);have hok:=cmdF_ok (Cms.run_ok body) (Cms.run_ok els) k a b t s1 f1 hs1.o;rw[Cms.run,←hDs] at HR';obtain ⟨P,hP⟩:∃ P,P=cmdF k a b t body.run els.run s1 f1:=⟨_,rfl⟩;rw[←hP] at hok HR';obtain ⟨s2,c2,f2⟩:=P;obtain ⟨hk1,hk2,hk3,hk4⟩:=hok;simp only at hk1 hk2 hk3 hk4 HR';replace HR':=ax HR';replace hk1:=ax hk1;replace hP:=ax hP;replace hfv:=ax hfv;clear hZ hpos hAt g6 g7 g8 g9 HR hDs eL hsb hse s1' s2' s5 s6 hbs hes;(replace qk0:=k0.z;replace qk1:=k1.cell;replace rk1:=k1.frozen;replace lk1:=k1.lt);by_cases hz:f1=0
    ·have E:aJ (LH=(s1,3,f1)):=by
      have h1:=hP.o;unfold cmdF at h1;rw[if_pos (by omega)] at h1;injection h1 with h1 h2;injection h2 with h2 h3;have:=HR'.o;rw[h1,h2,h3,if_pos (by decide)] at this;exact this
     have hzi:(f1:Int)<1:=by omega
     clear hz hP HR';(go_wp2_with fail);refine bodyPost_ret (v:=.tuple #[.agg #[.slice none 0 0,.slice none 0 0],.int .i64 3,.int .i64 (f1:Int)]) (by simp[results,Tryz.results160,go_sem,qk1,lk1]) rfl ⟨_,by rw[E.o],?_,?_⟩
     ·rw[E.o,resS_no (by decide)];exact zeroO _
     ·first
       | exact bbox ((HB.o.setCell (p:=⟨w.heap.size+1,0,none⟩) (by simp only;omega) _).setCell (p:=⟨w.heap.size+1,1,none⟩) (by simp only;omega) _) _
       | exact (((bbox HB.o _).setCell (p:=⟨w.heap.size+1,0,none⟩) (by simp only;omega) _).setCell (p:=⟨w.heap.size+1,1,none⟩) (by simp only;omega) _)
    obtain ⟨f0,hf0⟩:∃ m,f1=m+1:=⟨f1 - 1,by omega⟩
    have hP2:aJ ((s2,c2,f2)=cmdR k a b t body.run els.run s1 f0):=by
     show _=_;rw[hP.o,hf0];unfold cmdF;rw[if_neg (by omega)];rfl
    have hfp:¬((f1:Int)<1):=by omega
    have hD0:(f1:Int) - 1=(f0:Int):=by omega
    replace hD0:=ax hD0;replace hf0:=ax hf0;clear hP hz;have h81:=ax (Ste.valid_len hs1.o).1;by_cases k6:k=6
    ·subst k6;have htv:=ax (fval6 hfv.o);obtain ⟨th,hth⟩:∃ x,x=t.holds s1.values:=⟨_,rfl⟩;have hP3:=hP2.o;rw[cmdR6,←hth] at hP3;replace hth:=ax hth;replace hP3:=ax hP3;clear hP2 hfv;(go_wp2_with fail);refine (c_hold1 (wr.heap.size+1) t F e1 s1.values _ (Blk.newE (by simp)) ((o1.o.readsI.2).bz bel) htv.o h81.o).mono ?_;rintro e w2 ⟨rfl,hBx⟩;rw[←hth.o];have hW2:Below wr.heap.size wr w2:=bgo (bbox (bbox (Below.refl _ _) _) _) hBx;have kc:Blk w2 wr.heap.size tC #[.int .i64 6,.int .i64 a,.int .i64 b,.bool t.eq,.int .i64 t.a,.int .i64 t.b,.slice A6 i.facts.length c6,.slice A7 i.atoms.length c7,.slice A3 body.len c3,.slice A4 els.len c4]:=Blk.nz blks hBx;have hB2:=bgo HB.o hW2;have hz2:=hW2.size;have gB2:=ax (gB.o.bz hW2);have gE2:=ax (gE.o.bz hW2);replace o1:=ax (o1.o.bz hW2);replace o2:=ax (o2.o.bz hW2);(replace k0:=k0.nz hW2;replace qk0:=k0.z;replace k1:=k1.nz hW2;replace qk1:=k1.cell;replace rk1:=k1.frozen;replace lk1:=k1.lt);clear hBx hW2 p0 p1 p2 p3 p4 p5 p6 p7 p8 p9 gB gE;have qc:=kc.cell;have lc:=kc.lt;cases th
     ·have HC:=hIE.o (.agg #[.slice F s1.values.length e1,.slice G s1.heap.length e2]) s1 f0 base ((f1:Int) - 1) w2 hD0.o ⟨_,_,rfl,o1.o,o2.o,dj.o⟩ (by omega) hs1.o (by have:=hf0.o;omega) gE2.o;rw[show els.run s1 f0=(s2,c2,f2) from by rw[hP3.o];rfl] at HC;simp only at HC;replace HC:=ax HC;clear hP3 kc;(go_wp2_with fail);refine HC.o.mono ?_;rintro e w3 ⟨r,rfl,oR,hBx⟩;have hB3:=bgo hB2 hBx;have hz3:=hBx.size;replace k0:=k0.nz hBx;replace k1:=k1.nz hBx;(replace qk0:=k0.z;replace qk1:=k1.cell;replace rk1:=k1.frozen;replace lk1:=k1.lt);clear hBx HC o1 o2 dj;by_cases hc:c2=0
      ·subst hc;rw[resS_ok] at oR;obtain ⟨fv,hv,rfl,o1,o2,dj⟩:=oR;obtain ⟨F2,d1,rfl,-⟩:=o1.rj;obtain ⟨G2,d2,rfl,-⟩:=o2.rj;replace o1:=ax o1;replace o2:=ax o2;replace dj:=ax dj;have HL4:=HR'.o;rw[if_neg (by omega)] at HL4;replace HL4:=ax HL4;have kk0:=ax k0;have kk1:=ax k1;clear HR';(go_wp2_with fail)
       go_round
       case rel=>exact ⟨j+1,f2,s2,F2,d1,G2,d2,by go_num,rfl,by omega,by omega,hk1,HL4,((kk0.o.set_ 0 _).set_ 1 _),((kk1.o.far (p:=⟨w.heap.size,0,none⟩) (by simp) _).far (p:=⟨w.heap.size,1,none⟩) (by simp) _),
        ax (((o1.o.setT kk0.o (by decide) 0 _).setT (kk0.o.set_ 0 _) (by decide) 1 _)),ax (((o2.o.setT kk0.o (by decide) 0 _).setT (kk0.o.set_ 0 _) (by decide) 1 _)),dj,ax ((hB3.setCell (p:=⟨w.heap.size,0,none⟩) (Nat.le_refl _) _).setCell (p:=⟨w.heap.size,1,none⟩) (Nat.le_refl _) _)⟩
       case measure=>simp[intOf];omega
      ·have HL4:=HR'.o;rw[if_pos hc] at HL4;replace HL4:=ax HL4;have hcb:(c2 != 0)=true:=by simpa using hc
       obtain ⟨fv,hv,rfl,o1,o2,dj⟩:=oR;obtain ⟨F2,d1,rfl,-⟩:=o1.rj;obtain ⟨G2,d2,rfl,-⟩:=o2.rj;clear HR' o1 o2 dj;(go_wp2_with fail);refine bodyPost_ret (v:=.tuple #[.agg #[.slice none 0 0,.slice none 0 0],.int .i64 c2,.int .i64 (f2:Int)]) (by simp[results,Tryz.results160,go_sem,qk1,lk1]) rfl ⟨_,by rw[HL4.o],?_,?_⟩
       ·rw[HL4.o,resS_no hc];exact zeroO _
       ·exact (((hB3.setCell (p:=⟨w.heap.size,0,none⟩) (Nat.le_refl _) _).setCell (p:=⟨w.heap.size,1,none⟩) (Nat.le_refl _) _).setCell (p:=⟨w.heap.size+1,0,none⟩) (by simp only;omega) _).setCell (p:=⟨w.heap.size+1,1,none⟩) (by simp only;omega) _
     ·have HC:=hIB.o (.agg #[.slice F s1.values.length e1,.slice G s1.heap.length e2]) s1 f0 base ((f1:Int) - 1) w2 hD0.o ⟨_,_,rfl,o1.o,o2.o,dj.o⟩ (by omega) hs1.o (by have:=hf0.o;omega) gB2.o;rw[show body.run s1 f0=(s2,c2,f2) from by rw[hP3.o];rfl] at HC;simp only at HC;replace HC:=ax HC;clear hP3 kc;(go_wp2_with fail);refine HC.o.mono ?_;rintro e w3 ⟨r,rfl,oR,hBx⟩;have hB3:=bgo hB2 hBx;have hz3:=hBx.size;replace k0:=k0.nz hBx;replace k1:=k1.nz hBx;(replace qk0:=k0.z;replace qk1:=k1.cell;replace rk1:=k1.frozen;replace lk1:=k1.lt);clear hBx HC o1 o2 dj;by_cases hc:c2=0
      ·subst hc;rw[resS_ok] at oR;obtain ⟨fv,hv,rfl,o1,o2,dj⟩:=oR;obtain ⟨F2,d1,rfl,-⟩:=o1.rj;obtain ⟨G2,d2,rfl,-⟩:=o2.rj;replace o1:=ax o1;replace o2:=ax o2;replace dj:=ax dj;have HL4:=HR'.o;rw[if_neg (by omega)] at HL4;replace HL4:=ax HL4;have kk0:=ax k0;have kk1:=ax k1;clear HR';(go_wp2_with fail)
       go_round
       case rel=>exact ⟨j+1,f2,s2,F2,d1,G2,d2,by go_num,rfl,by omega,by omega,hk1,HL4,((kk0.o.set_ 0 _).set_ 1 _),((kk1.o.far (p:=⟨w.heap.size,0,none⟩) (by simp) _).far (p:=⟨w.heap.size,1,none⟩) (by simp) _),
        ax (((o1.o.setT kk0.o (by decide) 0 _).setT (kk0.o.set_ 0 _) (by decide) 1 _)),ax (((o2.o.setT kk0.o (by decide) 0 _).setT (kk0.o.set_ 0 _) (by decide) 1 _)),dj,ax ((hB3.setCell (p:=⟨w.heap.size,0,none⟩) (Nat.le_refl _) _).setCell (p:=⟨w.heap.size,1,none⟩) (Nat.le_refl _) _)⟩
       case measure=>simp[intOf];omega
      ·have HL4:=HR'.o;rw[if_pos hc] at HL4;replace HL4:=ax HL4;have hcb:(c2 != 0)=true:=by simpa using hc
       obtain ⟨fv,hv,rfl,o1,o2,dj⟩:=oR;obtain ⟨F2,d1,rfl,-⟩:=o1.rj;obtain ⟨G2,d2,rfl,-⟩:=o2.rj;clear HR' o1 o2 dj;(go_wp2_with fail);refine bodyPost_ret (v:=.tuple #[.agg #[.slice none 0 0,.slice none 0 0],.int .i64 c2,.int .i64 (f2:Int)]) (by simp[results,Tryz.results160,go_sem,qk1,lk1]) rfl ⟨_,by rw[HL4.o],?_,?_⟩
       ·rw[HL4.o,resS_no hc];exact zeroO _
       ·exact (((hB3.setCell (p:=⟨w.heap.size,0,none⟩) (Nat.le_refl _) _).setCell (p:=⟨w.heap.size,1,none⟩) (Nat.le_refl _) _).setCell (p:=⟨w.heap.size+1,0,none⟩) (by simp only;omega) _).setCell (p:=⟨w.heap.size+1,1,none⟩) (by simp only;omega) _
    by_cases k7:k=7
    ·subst k7;have htv:=ax (fval7 hfv.o);have HC:=c_spec_l9Loop (lo:=lo) (hi:=hi) (.agg #[.slice F s1.values.length e1,.slice G s1.heap.length e2]) s1 f0 base ((f1:Int) - 1) hD0.o (wr.alloc (.cells #[.int .i64 7,.int .i64 a,.int .i64 b,.bool t.eq,.int .i64 t.a,.int .i64 t.b,.slice A6 i.facts.length c6,.slice A7 i.atoms.length c7,.slice A3 body.len c3,.slice A4 els.len c4] tC)) a b t (.slice A6 i.facts.length c6) (.slice A7 i.atoms.length c7) A3 A4 c3 c4 body els ⟨_,_,rfl,o1.o.bz bel,o2.o.bz bel,dj.o⟩ (by first|omega|(simp;omega)) hs1.o (by have:=hf0.o;omega) htv.o (gB.o.bz bel) hIB.o;rw[show loopF body.run t (f0+1) s1 f0=(s2,c2,f2) from by rw[hP2.o];rfl] at HC;simp only at HC;replace HC:=ax HC;have hB2:Below w.heap.size w (wr.alloc (.cells #[.int .i64 7,.int .i64 a,.int .i64 b,.bool t.eq,.int .i64 t.a,.int .i64 t.b,.slice A6 i.facts.length c6,.slice A7 i.atoms.length c7,.slice A3 body.len c3,.slice A4 els.len c4] tC)):=bbox HB.o _;have hz2:wr.heap.size≤(wr.alloc (.cells #[.int .i64 7,.int .i64 a,.int .i64 b,.bool t.eq,.int .i64 t.a,.int .i64 t.b,.slice A6 i.facts.length c6,.slice A7 i.atoms.length c7,.slice A3 body.len c3,.slice A4 els.len c4] tC)).heap.size:=by simp
     replace k0:=k0.alloc (.cells #[.int .i64 7,.int .i64 a,.int .i64 b,.bool t.eq,.int .i64 t.a,.int .i64 t.b,.slice A6 i.facts.length c6,.slice A7 i.atoms.length c7,.slice A3 body.len c3,.slice A4 els.len c4] tC);replace k1:=k1.alloc (.cells #[.int .i64 7,.int .i64 a,.int .i64 b,.bool t.eq,.int .i64 t.a,.int .i64 t.b,.slice A6 i.facts.length c6,.slice A7 i.atoms.length c7,.slice A3 body.len c3,.slice A4 els.len c4] tC);clear hP2 hfv k6;(go_wp2_with fail);refine HC.o.mono ?_;rintro e w3 ⟨r,rfl,oR,hBx⟩;have hB3:=bgo hB2 hBx;have hz3:=hBx.size;replace k0:=k0.nz hBx;replace k1:=k1.nz hBx;(replace qk0:=k0.z;replace qk1:=k1.cell;replace rk1:=k1.frozen;replace lk1:=k1.lt);clear hBx HC o1 o2 dj;by_cases hc:c2=0
     ·subst hc;rw[resS_ok] at oR;obtain ⟨fv,hv,rfl,o1,o2,dj⟩:=oR;obtain ⟨F2,d1,rfl,-⟩:=o1.rj;obtain ⟨G2,d2,rfl,-⟩:=o2.rj;replace o1:=ax o1;replace o2:=ax o2;replace dj:=ax dj;have HL4:=HR'.o;rw[if_neg (by omega)] at HL4;replace HL4:=ax HL4;have kk0:=ax k0;have kk1:=ax k1;clear HR';(go_wp2_with fail)
      go_round
      case rel=>exact ⟨j+1,f2,s2,F2,d1,G2,d2,by go_num,rfl,by omega,by omega,hk1,HL4,((kk0.o.set_ 0 _).set_ 1 _),((kk1.o.far (p:=⟨w.heap.size,0,none⟩) (by simp) _).far (p:=⟨w.heap.size,1,none⟩) (by simp) _),
       ax (((o1.o.setT kk0.o (by decide) 0 _).setT (kk0.o.set_ 0 _) (by decide) 1 _)),ax (((o2.o.setT kk0.o (by decide) 0 _).setT (kk0.o.set_ 0 _) (by decide) 1 _)),dj,ax ((hB3.setCell (p:=⟨w.heap.size,0,none⟩) (Nat.le_refl _) _).setCell (p:=⟨w.heap.size,1,none⟩) (Nat.le_refl _) _)⟩
      case measure=>simp[intOf];omega
     ·have HL4:=HR'.o;rw[if_pos hc] at HL4;replace HL4:=ax HL4;have hcb:(c2 != 0)=true:=by simpa using hc
      obtain ⟨fv,hv,rfl,o1,o2,dj⟩:=oR;obtain ⟨F2,d1,rfl,-⟩:=o1.rj;obtain ⟨G2,d2,rfl,-⟩:=o2.rj;clear HR' o1 o2 dj;(go_wp2_with fail);refine bodyPost_ret (v:=.tuple #[.agg #[.slice none 0 0,.slice none 0 0],.int .i64 c2,.int .i64 (f2:Int)]) (by simp[results,Tryz.results160,go_sem,qk1,lk1]) rfl ⟨_,by rw[HL4.o],?_,?_⟩
      ·rw[HL4.o,resS_no hc];exact zeroO _
      ·exact (((hB3.setCell (p:=⟨w.heap.size,0,none⟩) (Nat.le_refl _) _).setCell (p:=⟨w.heap.size,1,none⟩) (Nat.le_refl _) _).setCell (p:=⟨w.heap.size+1,0,none⟩) (by simp only;omega) _).setCell (p:=⟨w.heap.size+1,1,none⟩) (by simp only;omega) _
    have hfb:=fval_basic k6 k7 hfv.o;have hP3:=hP2.o;rw[cmdRb k6 k7] at hP3
    have eb:basicF s1 k a b=(s2,c2):=by
     injection hP3 with h1 h2;injection h2 with h2 h3;rw[h1,h2]
    have ef:aJ (f2=f0):=by injection hP3 with h1 h2;injection h2 with h2 h3
    have HC:=c_spec_l9Basic (lo:=base) (hi:=wr.heap.size+1) (.agg #[.slice F s1.values.length e1,.slice G s1.heap.length e2]) s1 (wr.alloc (.cells #[.int .i64 k,.int .i64 a,.int .i64 b,.bool t.eq,.int .i64 t.a,.int .i64 t.b,.slice A6 i.facts.length c6,.slice A7 i.atoms.length c7,.slice A3 body.len c3,.slice A4 els.len c4] tC)) k a b t (.slice A6 i.facts.length c6) (.slice A7 i.atoms.length c7) (.slice A3 body.len c3) (.slice A4 els.len c4) ⟨_,_,_,_,rfl,((o1.o.readsI.2).bz bel).mono (Nat.le_refl _) (by omega),((o2.o.readsI.2).bz bel).mono (Nat.le_refl _) (by omega)⟩ hs1.o hfb;rw[eb,show basS (s2,c2)=resS (s2,c2,f2) from rfl] at HC;simp only at HC;replace HC:=ax HC;have hB2:Below w.heap.size w (wr.alloc (.cells #[.int .i64 k,.int .i64 a,.int .i64 b,.bool t.eq,.int .i64 t.a,.int .i64 t.b,.slice A6 i.facts.length c6,.slice A7 i.atoms.length c7,.slice A3 body.len c3,.slice A4 els.len c4] tC)):=bbox HB.o _;have hz2:wr.heap.size≤(wr.alloc (.cells #[.int .i64 k,.int .i64 a,.int .i64 b,.bool t.eq,.int .i64 t.a,.int .i64 t.b,.slice A6 i.facts.length c6,.slice A7 i.atoms.length c7,.slice A3 body.len c3,.slice A4 els.len c4] tC)).heap.size:=by simp
    replace k0:=k0.alloc (.cells #[.int .i64 k,.int .i64 a,.int .i64 b,.bool t.eq,.int .i64 t.a,.int .i64 t.b,.slice A6 i.facts.length c6,.slice A7 i.atoms.length c7,.slice A3 body.len c3,.slice A4 els.len c4] tC);replace k1:=k1.alloc (.cells #[.int .i64 k,.int .i64 a,.int .i64 b,.bool t.eq,.int .i64 t.a,.int .i64 t.b,.slice A6 i.facts.length c6,.slice A7 i.atoms.length c7,.slice A3 body.len c3,.slice A4 els.len c4] tC);clear hP2 hP3 eb hfv hfb;(go_wp2_with fail);refine HC.o.mono ?_;rintro e w3 ⟨r,rfl,oR,hBx⟩;have hB3:=bgo hB2 hBx;have hz3:=hBx.size;replace oR:=oR.bq (base':=base) (by omega);replace k0:=k0.nz hBx;replace k1:=k1.nz hBx;(replace qk0:=k0.z;replace qk1:=k1.cell;replace rk1:=k1.frozen;replace lk1:=k1.lt);clear hBx HC o1 o2 dj;by_cases hc:c2=0
    ·subst hc;rw[resS_ok] at oR;obtain ⟨fv,hv,rfl,o1,o2,dj⟩:=oR;obtain ⟨F2,d1,rfl,-⟩:=o1.rj;obtain ⟨G2,d2,rfl,-⟩:=o2.rj;replace o1:=ax o1;replace o2:=ax o2;replace dj:=ax dj;have HL4:=HR'.o;rw[if_neg (by omega)] at HL4;replace HL4:=ax HL4;have kk0:=ax k0;have kk1:=ax k1;clear HR';(go_wp2_with fail)
     go_round
     case rel=>exact ⟨j+1,f2,s2,F2,d1,G2,d2,by go_num,(by have h1:=ef.o;have h2:=hD0.o;congr 1;omega),by omega,by omega,hk1,HL4,((kk0.o.set_ 0 _).set_ 1 _),((kk1.o.far (p:=⟨w.heap.size,0,none⟩) (by simp) _).far (p:=⟨w.heap.size,1,none⟩) (by simp) _),
      ax (((o1.o.setT kk0.o (by decide) 0 _).setT (kk0.o.set_ 0 _) (by decide) 1 _)),ax (((o2.o.setT kk0.o (by decide) 0 _).setT (kk0.o.set_ 0 _) (by decide) 1 _)),dj,ax ((hB3.setCell (p:=⟨w.heap.size,0,none⟩) (Nat.le_refl _) _).setCell (p:=⟨w.heap.size,1,none⟩) (Nat.le_refl _) _)⟩
     case measure=>simp[intOf];omega
    ·have HL4:=HR'.o;rw[if_pos hc] at HL4;replace HL4:=ax HL4;have hcb:(c2 != 0)=true:=by simpa using hc
     obtain ⟨fv,hv,rfl,o1,o2,dj⟩:=oR;obtain ⟨F2,d1,rfl,-⟩:=o1.rj;obtain ⟨G2,d2,rfl,-⟩:=o2.rj;clear HR' o1 o2 dj;(go_wp2_with fail);refine bodyPost_ret (v:=.tuple #[.agg #[.slice none 0 0,.slice none 0 0],.int .i64 c2,.int .i64 ((f1:Int) - 1)]) (by simp[results,Tryz.results160,go_sem,qk1,lk1]) rfl ⟨_,by rw[HL4.o];rw[show ((f1:Int) - 1)=(f2:Int) from by have h1:=ef.o;have h2:=hD0.o;omega],?_,?_⟩
     ·rw[HL4.o,resS_no hc];exact zeroO _
     ·exact (((hB3.setCell (p:=⟨w.heap.size,0,none⟩) (Nat.le_refl _) _).setCell (p:=⟨w.heap.size,1,none⟩) (Nat.le_refl _) _).setCell (p:=⟨w.heap.size+1,0,none⟩) (by simp only;omega) _).setCell (p:=⟨w.heap.size+1,1,none⟩) (by simp only;omega) _
   ·have h2:=HR.o;obtain rfl:j=n:=by omega
    have e1':L.drop j=.nil:=by rw[hn.o];exact Cms.drop_all L
    rw[e1'] at h2;have E:aJ (LH=(s1,0,f1)):=h2;have KB:=ax k1;(replace qk0:=k0.z;replace qk1:=k1.cell;replace rk1:=k1.frozen;replace lk1:=k1.lt);clear HR h2;(go_wp2_with fail);refine bodyPost_ret (v:=.tuple #[.agg #[.slice F s1.values.length e1,.slice G s1.heap.length e2],.int .i64 0,.int .i64 (f1:Int)]) (by simp[results,Tryz.results160,go_sem,qk1,lk1]) rfl ⟨_,by rw[E.o],?_,?_⟩
    ·rw[E.o,resS_ok];exact ⟨_,_,rfl,((o1.o.setT KB.o (by decide) 0 _).setT (KB.o.set_ 0 _) (by decide) 1 _),((o2.o.setT KB.o (by decide) 0 _).setT (KB.o.set_ 0 _) (by decide) 1 _),dj.o⟩
    ·exact (HB.o.setCell (p:=⟨w.heap.size+1,0,none⟩) (by simp only;omega) _).setCell (p:=⟨w.heap.size+1,1,none⟩) (by simp only;omega) _
def Cms.marks:Cms→Nat
 | .nil=>0
 | .cons _ _ _ _ i body els r=>6+3 * i.facts.length+3 * i.atoms.length+body.marks+els.marks+r.marks
end
section
open Go Go.RowKit Go.Proofs Go.ChangeShapes Go.WideShapes Go.ChangeAt Go.Deep
section
variable {H:Type} {enc:TypeId×Value→H} {w:World} {base:Nat} {spare:Nat→Bool} {held:Bool}
end
end
section
open Go Go.RowKit Go.Proofs
def CmsW (w:World) (lo hi:Nat) (A:Option Addr) (L:Cms):Prop:=CmsV w lo hi A L∧L.len+L.cost≤1048576
section
variable {w w':World} {lo hi lo' hi' a b:Nat} {v:Value} {A:Option Addr} {L:Cms}
theorem CmsW.bz (h:CmsW w lo hi A L) (hb:Below w.heap.size w w'):CmsW w' lo hi A L:=⟨h.1.bz hb,h.2⟩
theorem CmsW.mono (h:CmsW w lo hi A L) (e1:lo'≤lo) (e2:hi≤hi'):CmsW w lo' hi' A L:=⟨h.1.mono e1 e2,h.2⟩
theorem CmsW.len (h:CmsW w lo hi A L):L.len≤1049600:=by have:=h.2;omega
theorem CmsW.small (h:CmsW w lo hi A L):L.small 1049600:=Cms.cost_small (by have:=h.2;omega)
theorem CmsW.sz (h:CmsW w lo hi A L):L.sz≤1049600:=by have:=h.2;have:=Cms.sz_cost L;omega
end
section
variable {w w':World} {lo hi lo' hi' a b:Nat} {v:Value} {A:Option Addr} {L:Cms}
end
theorem c_spec_l9Fits {lo hi lo' hi':Nat} (v:Value) (s:Ste) (A:Option Addr) (c:Nat) (L:Cms) (f:Int) (w:World) (h:StateV w lo hi v s) (hV:CmsV w lo' hi' A L) (hlen:L.len≤1049600) (hsm:L.small 1049600) (hz:L.sz≤1049600) :
  Calls Tryz.prog 159 #[v,.slice A L.len c,.int .i64 f] w fun e w'=>e=.returned (.bool (runsP s L f))∧Below w.heap.size w w':=by
 have hS:=ax h;obtain ⟨A1,c1,A2,c2,rfl,-,-⟩:=h;replace hV:=ax hV;replace hsm:=ax hsm;obtain ⟨sv,hsv⟩:∃ x,x=s.valid:=⟨_,rfl⟩;obtain ⟨pv,hpv⟩:∃ x,x=L.prog:=⟨_,rfl⟩;obtain ⟨R,hR⟩:∃ x,x=runsP s L f:=⟨_,rfl⟩;rw[←hR];have hR':R=(sv&&(pv&&decide (0≤f∧f≤200))):=by rw[hR,hsv,hpv];rfl
 replace hsv:=ax hsv;replace hpv:=ax hpv;replace hR':=ax hR';clear hR;(go_enter Tryz.func159,Tryz.ntmps159);(go_wp2_with fail);refine (c_spec_StateValid _ s _ (hS.o.bz bel)).mono ?_;rintro e w1 ⟨rfl,hB1⟩;rw[←hsv.o];have hB:=bgo (w:=w) bel hB1;clear hB1;cases sv
 ·(go_wp2_with fail);go_ret;exact ⟨zjD (by rw[hR'.o];rfl),bel⟩
 (go_wp2_with fail);refine (c_spec_ProgramValid L A c _ (hV.o.bz hB) hlen hsm.o hz).mono ?_;rintro e w2 ⟨rfl,hB2⟩;rw[←hpv.o];have hBB:=bgo hB hB2;clear hB2 hB;cases pv
 ·(go_wp2_with fail);go_ret;exact ⟨zjD (by rw[hR'.o];rfl),bel⟩
 by_cases f0:0≤f
 ·by_cases f2:f≤200
  all_goals
   (go_wp2_with fail);go_ret;exact ⟨zjD (by rw[hR'.o];simp[f0,f2]),bel⟩
 ·(go_wp2_with fail);go_ret;exact ⟨zjD (by rw[hR'.o];simp;omega),bel⟩
theorem c_spec_RunProgram {lo hi lo' hi':Nat} (v:Value) (s:Ste) (A:Option Addr) (c:Nat) (L:Cms) (f:Int) (w:World) (h:StateV w lo hi v s) (hV:CmsV w lo' hi' A L) (hlen:L.len≤1049600) (hsm:L.small 1049600) (hz:L.sz≤1049600) :
  Calls Tryz.prog 95 #[v,.slice A L.len c,.int .i64 f] w fun e w'=>∃ r,e=.returned (.tuple #[r,.int .i64 (codeF s L f)])∧StateO w' w.heap.size r (afterF s L f)∧Below w.heap.size w w':=by
 have hS:=ax h;obtain ⟨A1,c1,A2,c2,rfl,-,-⟩:=h;replace hV:=ax hV;replace hsm:=ax hsm;obtain ⟨k0,k1⟩:=blk2 w 61 61 #[.slice A1 s.values.length c1,.slice A2 s.heap.length c2] #[.slice none 0 0,.slice none 0 0];cases hr:runsP s L f
 ·have E:aJ (codeF s L f=4):=by show _=_;unfold codeF;rw[hr];rfl
  have E2:aJ (afterF s L f=⟨[],[]⟩):=by show _=_;unfold afterF;rw[E.o];rfl
  replace hr:=ax hr;(go_enter Tryz.func95,Tryz.ntmps95);(go_wp2_with fail);refine (c_spec_l9Fits _ s A c L f _ (hS.o.bz bel) (hV.o.bz bel) hlen hsm.o hz).mono ?_;rintro e w1 ⟨rfl,hB1⟩;rw[hr.o];have hB:=bgo (w:=w) bel hB1;(replace k0:=k0.nz hB1;replace qk0:=k0.z;replace k1:=k1.nz hB1;replace qk1:=k1.cell;replace rk1:=k1.frozen;replace lk1:=k1.lt);clear hB1;(go_wp2_with fail);refine bodyPost_ret (v:=.tuple #[.agg #[.slice none 0 0,.slice none 0 0],.int .i64 4]) (by simp[results,Tryz.results95,go_sem,qk1,lk1]) rfl ⟨_,by rw[E.o],?_,bel⟩;rw[E2.o];exact zeroO _
 obtain ⟨h1,h2,h3,n,rfl,hn⟩:=runsP_yes hr;have E:aJ (codeF s L (n:Int)=(L.run s n).2.1):=by show _=_;unfold codeF;rw[hr];rfl
 have E2:aJ (afterF s L (n:Int)=resS (L.run s n)):=by show _=_;unfold afterF;rw[E.o];rfl
 have hrun:=l9Run_go _ L (Nat.lt_succ_self _) A c 4 lo' hi' hlen hsm.o h3;obtain ⟨P,hP⟩:∃ P,P=L.run s n:=⟨_,rfl⟩;rw[←hP] at E E2;obtain ⟨c2',hc2⟩:∃ x,x=P.2.1:=⟨_,rfl⟩;obtain ⟨f2,hf2⟩:∃ x,x=P.2.2:=⟨_,rfl⟩;obtain ⟨s2,hs2⟩:∃ x,x=resS P:=⟨_,rfl⟩;rw[←hc2] at E;rw[←hs2] at E2;replace hrun:=ax hrun;replace hr:=ax hr;replace h1:=ax h1;replace hP:=ax hP;replace hc2:=ax hc2;replace hf2:=ax hf2;replace hs2:=ax hs2;clear h2 h3;(go_enter Tryz.func95,Tryz.ntmps95);(go_wp2_with fail);refine (c_spec_l9Fits _ s A c L (n:Int) _ (hS.o.bz bel) (hV.o.bz bel) hlen hsm.o hz).mono ?_;rintro e w1 ⟨rfl,hB1⟩;rw[hr.o];have hB:=bgo (w:=w) bel hB1;(replace k0:=k0.nz hB1;replace qk0:=k0.z;replace k1:=k1.nz hB1;replace qk1:=k1.cell;replace rk1:=k1.frozen;replace lk1:=k1.lt);clear hB1;(go_wp2_with fail);refine (c_l2Copy _ s _ (hS.o.bz hB)).mono ?_;rintro e w2 ⟨r,rfl,o,hB2⟩;have hz0:=hB.size;have hz1:=hB2.size;(replace hB:=bgo hB hB2;replace k0:=k0.nz hB2;replace qk0:=k0.z;replace k1:=k1.nz hB2;replace qk1:=k1.cell;replace rk1:=k1.frozen;replace lk1:=k1.lt);clear hB2;have hl:=hrun.o r s n w1.heap.size (n:Int) w2 rfl o hz1 h1.o hn (hV.o.bz hB);rw[←hP.o,←hc2.o,←hf2.o,←hs2.o] at hl;obtain ⟨fv,hv,rfl,o1,o2,-⟩:=o;obtain ⟨F,e1,rfl,-⟩:=o1.rj;obtain ⟨G,e2,rfl,-⟩:=o2.rj;replace hl:=ax hl;clear o1 o2 hrun;(go_wp2_with fail);refine hl.o.mono ?_;rintro e w3 ⟨r,rfl,o,hB3⟩;(replace hB:=bgo hB hB3;replace k0:=k0.nz hB3;replace qk0:=k0.z;replace k1:=k1.nz hB3;replace qk1:=k1.cell;replace rk1:=k1.frozen;replace lk1:=k1.lt);clear hB3;obtain ⟨fv,hv,rfl,o1,o2,dj⟩:=o;obtain ⟨F2,d1,rfl,-⟩:=o1.rj;obtain ⟨G2,d2,rfl,-⟩:=o2.rj;replace o1:=ax (o1.bq (base':=w.heap.size) hz0);replace o2:=ax (o2.bq (base':=w.heap.size) hz0);replace dj:=ax dj;have KB:=ax k1;clear hl;(go_wp2_with fail);refine bodyPost_ret (v:=.tuple #[.agg #[.slice F2 s2.values.length d1,.slice G2 s2.heap.length d2],.int .i64 c2']) (by simp[results,Tryz.results95,go_sem,qk1,lk1]) rfl ⟨_,by rw[E.o],?_,?_⟩
 ·rw[E2.o];exact ⟨_,_,rfl,((o1.o.setT KB.o (by decide) 0 _).setT (KB.o.set_ 0 _) (by decide) 1 _).bz (bbox (Below.refl _ _) _),((o2.o.setT KB.o (by decide) 0 _).setT (KB.o.set_ 0 _) (by decide) 1 _).bz (bbox (Below.refl _ _) _),dj.o⟩
 ·exact bbox ((hB.setCell (p:=⟨w.heap.size+1,0,none⟩) (by simp) _).setCell (p:=⟨w.heap.size+1,1,none⟩) (by simp) _) _
def tryT (s:Ste) (pre:Asn) (L:Cms) (post:Asn):Int:=
 if !(holdsF s pre&&(L.prog&&post.valid)) then 0
 else if codeF s L 200=1 then 2 else if codeF s L 200≠0 then 4 else if holdsF (afterF s L 200) post then 1 else 3
theorem after_valid {s:Ste} {L:Cms} {f:Int} (h:codeF s L f=0):(afterF s L f).valid=true:=by
 unfold afterF;rw[if_pos h];unfold codeF at h
 split at h
 ·rename_i h1;obtain ⟨h2,-,-,n,rfl,-⟩:=runsP_yes h1;exact (Cms.run_ok L s n h2).1
 ·cases h
theorem c_impl_TryTriple {lo hi lo1 hi1 lo2 hi2 lo':Nat} (v v1 v2:Value) (s:Ste) (pre post:Asn) (A:Option Addr) (c:Nat) (L:Cms) (w:World) (h:StateV w lo hi v s) (h1:AsnV w lo1 hi1 v1 pre) (hV:CmsW w lo' w.heap.size A L) (h2:AsnV w lo2 hi2 v2 post) :
  Calls Tryz.prog 29 #[v,v1,.slice A L.len c,v2] w fun e w'=>e=.returned (.int .i64 (tryT s pre L post))∧Below w.heap.size w w':=by
 have hS:=ax h;have hA1:=ax h1;have hA2:=ax h2;have hP:=ax hV;obtain ⟨A1,c1,A2,c2,rfl,-,-⟩:=h;obtain ⟨A3,c3,A4,c4,rfl,-,-⟩:=h1;obtain ⟨A5,c5,A6,c6,rfl,-,-⟩:=h2;clear hV;obtain ⟨hp,hhp⟩:∃ x,x=holdsF s pre:=⟨_,rfl⟩;obtain ⟨pv,hpv⟩:∃ x,x=L.prog:=⟨_,rfl⟩;obtain ⟨av,hav⟩:∃ x,x=post.valid:=⟨_,rfl⟩;obtain ⟨cd,hcd⟩:∃ x,x=codeF s L 200:=⟨_,rfl⟩;obtain ⟨hq,hhq⟩:∃ x,x=holdsF (afterF s L 200) post:=⟨_,rfl⟩;have E:aJ (tryT s pre L post=if !(hp&&(pv&&av)) then 0 else if cd=1 then 2 else if cd≠0 then 4 else if hq then 1 else 3):=by show _=_;rw[hhp,hpv,hav,hcd,hhq];rfl
 replace hhp:=ax hhp;replace hpv:=ax hpv;replace hav:=ax hav;replace hcd:=ax hcd;replace hhq:=ax hhq;(go_enter Tryz.func29,Tryz.ntmps29);obtain ⟨k0,k1,k2⟩:=blk3 w 61 37 37 #[.slice A1 s.values.length c1,.slice A2 s.heap.length c2] #[.slice A3 pre.facts.length c3,.slice A4 pre.atoms.length c4] #[.slice A5 post.facts.length c5,.slice A6 post.atoms.length c6];(go_wp2_with fail);refine (c_impl_Holds _ _ s pre _ (hS.o.bz bel) (hA1.o.bz bel)).mono ?_;rintro e w1 ⟨rfl,hB1⟩;rw[←hhp.o];have hB:=bgo (w:=w) bel hB1;(replace k0:=k0.nz hB1;replace qk0:=k0.z;replace k1:=k1.nz hB1;replace qk1:=k1.z;replace k2:=k2.nz hB1;replace qk2:=k2.z);clear hB1;cases hp
 ·(go_wp2_with fail);go_ret;rw[E.o];exact ⟨rfl,bel⟩
 (go_wp2_with fail);refine (c_impl_ProgramValid L A c _ (hP.o.1.bz hB) hP.o.len hP.o.small).mono ?_;rintro e w2 ⟨rfl,hB2⟩;rw[←hpv.o];(replace hB:=bgo hB hB2;replace k0:=k0.nz hB2;replace qk0:=k0.z;replace k1:=k1.nz hB2;replace qk1:=k1.z;replace k2:=k2.nz hB2;replace qk2:=k2.z);clear hB2;cases pv
 ·(go_wp2_with fail);go_ret;rw[E.o];exact ⟨rfl,bel⟩
 (go_wp2_with fail);refine (jz _ post _ (hA2.o.bz hB)).mono ?_;rintro e w3 ⟨rfl,hB3⟩;rw[←hav.o];(replace hB:=bgo hB hB3;replace k0:=k0.nz hB3;replace qk0:=k0.z;replace k1:=k1.nz hB3;replace qk1:=k1.z;replace k2:=k2.nz hB3;replace qk2:=k2.z);clear hB3;cases av
 ·(go_wp2_with fail);go_ret;rw[E.o];exact ⟨rfl,bel⟩
 (go_wp2_with fail);refine (c_impl_RunProgram _ s A c L 200 _ (hS.o.bz hB) (hP.o.1.bz hB) hB.size hP.o.len hP.o.small).mono ?_;rintro e w4 ⟨r,rfl,oR,hB4⟩;rw[←hcd.o];have hSR:=ax oR.rj;(replace hB:=bgo hB hB4;replace k0:=k0.nz hB4;replace qk0:=k0.z;replace k1:=k1.nz hB4;replace qk1:=k1.z;replace k2:=k2.nz hB4;replace qk2:=k2.z);clear hB4;obtain ⟨fv,hv,rfl,o1,o2,-⟩:=oR;obtain ⟨F1,d1,rfl,-⟩:=o1.rj;obtain ⟨G1,d2,rfl,-⟩:=o2.rj;clear o1 o2;by_cases c1':cd=1
 ·subst c1';(go_wp2_with fail);go_ret;rw[E.o];exact ⟨rfl,bel⟩
 have cb1:(cd == 1)=false:=beq_false_of_ne c1';by_cases c0:cd=0
 case neg=>
  have cb0:(cd != 0)=true:=by simpa using c0
  have E2:aJ (tryT s pre L post=4):=by show _=_;rw[E.o];simp[c0,c1']
  clear E c0 c1';(go_wp2_with fail);go_ret;rw[E2.o];exact ⟨rfl,bel⟩
 subst c0;have E2:aJ (tryT s pre L post=if hq then 1 else 3):=by show _=_;rw[E.o];rfl
 clear E c1' cb1;(go_wp2_with fail);refine (c_impl_Holds _ _ (afterF s L 200) post _ (hSR.o.bz bel) (hA2.o.bz bel)).mono ?_;rintro e w5 ⟨rfl,hB5⟩;rw[←hhq.o];have hBB:=bgo (w:=w) bel hB5;clear hB5 hB;cases hq
 all_goals
  (go_wp2_with fail);go_ret;rw[E2.o];exact ⟨rfl,bel⟩
theorem c_spec_TryTriple {lo hi lo1 hi1 lo2 hi2 lo':Nat} (v v1 v2:Value) (s:Ste) (pre post:Asn) (A:Option Addr) (c:Nat) (L:Cms) (w:World) (h:StateV w lo hi v s) (h1:AsnV w lo1 hi1 v1 pre) (hV:CmsW w lo' w.heap.size A L) (h2:AsnV w lo2 hi2 v2 post) :
  Calls Tryz.prog 30 #[v,v1,.slice A L.len c,v2] w fun e w'=>e=.returned (.int .i64 (tryT s pre L post))∧Below w.heap.size w w':=by
 have hS:=ax h;have hA1:=ax h1;have hA2:=ax h2;have hP:=ax hV;obtain ⟨A1,c1,A2,c2,rfl,-,-⟩:=h;obtain ⟨A3,c3,A4,c4,rfl,-,-⟩:=h1;obtain ⟨A5,c5,A6,c6,rfl,-,-⟩:=h2;clear hV;obtain ⟨hp,hhp⟩:∃ x,x=holdsF s pre:=⟨_,rfl⟩;obtain ⟨pv,hpv⟩:∃ x,x=L.prog:=⟨_,rfl⟩;obtain ⟨av,hav⟩:∃ x,x=post.valid:=⟨_,rfl⟩;obtain ⟨cd,hcd⟩:∃ x,x=codeF s L 200:=⟨_,rfl⟩;obtain ⟨hq,hhq⟩:∃ x,x=holdsF (afterF s L 200) post:=⟨_,rfl⟩;have E:aJ (tryT s pre L post=if !(hp&&(pv&&av)) then 0 else if cd=1 then 2 else if cd≠0 then 4 else if hq then 1 else 3):=by show _=_;rw[hhp,hpv,hav,hcd,hhq];rfl
 replace hhp:=ax hhp;replace hpv:=ax hpv;replace hav:=ax hav;replace hcd:=ax hcd;replace hhq:=ax hhq;(go_enter Tryz.func30,Tryz.ntmps30);obtain ⟨k0,k1,k2⟩:=blk3 w 61 37 37 #[.slice A1 s.values.length c1,.slice A2 s.heap.length c2] #[.slice A3 pre.facts.length c3,.slice A4 pre.atoms.length c4] #[.slice A5 post.facts.length c5,.slice A6 post.atoms.length c6];(go_wp2_with fail);refine (c_spec_Holds _ _ s pre _ (hS.o.bz bel) (hA1.o.bz bel)).mono ?_;rintro e w1 ⟨rfl,hB1⟩;rw[←hhp.o];have hB:=bgo (w:=w) bel hB1;(replace k0:=k0.nz hB1;replace qk0:=k0.z;replace k1:=k1.nz hB1;replace qk1:=k1.z;replace k2:=k2.nz hB1;replace qk2:=k2.z);clear hB1;cases hp
 ·(go_wp2_with fail);go_ret;rw[E.o];exact ⟨rfl,bel⟩
 (go_wp2_with fail);refine (c_spec_ProgramValid L A c _ (hP.o.1.bz hB) hP.o.len hP.o.small hP.o.sz).mono ?_;rintro e w2 ⟨rfl,hB2⟩;rw[←hpv.o];(replace hB:=bgo hB hB2;replace k0:=k0.nz hB2;replace qk0:=k0.z;replace k1:=k1.nz hB2;replace qk1:=k1.z;replace k2:=k2.nz hB2;replace qk2:=k2.z);clear hB2;cases pv
 ·(go_wp2_with fail);go_ret;rw[E.o];exact ⟨rfl,bel⟩
 (go_wp2_with fail);refine (vz _ post _ (hA2.o.bz hB)).mono ?_;rintro e w3 ⟨rfl,hB3⟩;rw[←hav.o];(replace hB:=bgo hB hB3;replace k0:=k0.nz hB3;replace qk0:=k0.z;replace k1:=k1.nz hB3;replace qk1:=k1.z;replace k2:=k2.nz hB3;replace qk2:=k2.z);clear hB3;cases av
 ·(go_wp2_with fail);go_ret;rw[E.o];exact ⟨rfl,bel⟩
 (go_wp2_with fail);refine (c_spec_RunProgram _ s A c L 200 _ (hS.o.bz hB) (hP.o.1.bz hB) hP.o.len hP.o.small hP.o.sz).mono ?_;rintro e w4 ⟨r,rfl,oR,hB4⟩;rw[←hcd.o];have hSR:=ax oR.rj;(replace hB:=bgo hB hB4;replace k0:=k0.nz hB4;replace qk0:=k0.z;replace k1:=k1.nz hB4;replace qk1:=k1.z;replace k2:=k2.nz hB4;replace qk2:=k2.z);clear hB4;obtain ⟨fv,hv,rfl,o1,o2,-⟩:=oR;obtain ⟨F1,d1,rfl,-⟩:=o1.rj;obtain ⟨G1,d2,rfl,-⟩:=o2.rj;clear o1 o2;by_cases c1':cd=1
 ·subst c1';(go_wp2_with fail);go_ret;rw[E.o];exact ⟨rfl,bel⟩
 have cb1:(cd == 1)=false:=beq_false_of_ne c1';by_cases c0:cd=0
 case neg=>
  have cb0:(cd != 0)=true:=by simpa using c0
  have E2:aJ (tryT s pre L post=4):=by show _=_;rw[E.o];simp[c0,c1']
  clear E c0 c1';(go_wp2_with fail);go_ret;rw[E2.o];exact ⟨rfl,bel⟩
 subst c0;have E2:aJ (tryT s pre L post=if hq then 1 else 3):=by show _=_;rw[E.o];rfl
 clear E c1' cb1;(go_wp2_with fail);refine (c_spec_l4Holds _ _ (afterF s L 200) post _ (hSR.o.bz bel) (hA2.o.bz bel) (after_valid hcd.o.symm) hav.o.symm).mono ?_;rintro e w5 ⟨rfl,hB5⟩;rw[←hhq.o];have hBB:=bgo (w:=w) bel hB5;clear hB5 hB;cases hq
 all_goals
  (go_wp2_with fail);go_ret;rw[E2.o];exact ⟨rfl,bel⟩
end
end Go.Proofs.YtjaohekkmlkinaaGreat
