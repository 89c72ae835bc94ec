/- Words for the exact laws: contracts in blocks of their own. -/
import Derived.Test.YtjaohekkmlkinaaDoorKit
set_option linter.unusedSimpArgs false
set_option linter.unusedVariables false
set_option maxRecDepth 100000
set_option maxHeartbeats 25600000
namespace Go.Proofs.YtjaohekkmlkinaaDoor
section
open Go Go.RowKit Go.Proofs
def szC (k:Ctr) (left:Int):Int:=if szA k.pre left<0 then -1 else if szA k.post (szA k.pre left)<0 then -1 else szL k.changes.length (szA k.post (szA k.pre left))
theorem c_szContract0 (A1 A2 A3 A4 A5:Option Addr) (c1 c2 c3 c4 c5:Nat) (k:Ctr) (w:World) (h1:k.pre.facts.length≤9223372036854775807) (h2:k.pre.atoms.length≤9223372036854775807) (h3:k.post.facts.length≤9223372036854775807) (h4:k.post.atoms.length≤9223372036854775807) (h5:k.changes.length≤9223372036854775807) (left:Int) (h0:0≤left) (hl:left≤1048576) :
  Calls Tryd.prog 16 #[.agg #[.slice A1 k.pre.facts.length c1,.slice A2 k.pre.atoms.length c2,.slice A3 k.post.facts.length c3,.slice A4 k.post.atoms.length c4,.slice A5 k.changes.length c5],.int .i64 left] w fun e w'=>e=.returned (.int .i64 (szC k left))∧Below w.heap.size w w':=by
 have hH:aJ (szC k left=if szA k.pre left<0 then -1 else if szA k.post (szA k.pre left)<0 then -1 else szL k.changes.length (szA k.post (szA k.pre left))):=rfl;by_cases g1:szA k.pre left<0
 ·(go_enter Tryd.func16,Tryd.ntmps16);(go_wp2_with (go_at_call 45;refine (c_szAssertion _ _ _ _ _ _ _ h1 h2 h0 hl).mono ?_;rintro e w1 ⟨rfl,hB1⟩;have hq:=(Blk.nz (Blk.new _ _ _) hB1).cell));go_ret;exact ⟨ret_int (by rw[hH.o,if_pos g1]),bgo (w:=w) bel hB1⟩
 ·have e1:0≤szA k.pre left∧szA k.pre left≤left:=by have:=szA_le g1;omega
  by_cases g2:szA k.post (szA k.pre left)<0
  ·(go_enter Tryd.func16,Tryd.ntmps16);(go_wp2_with fail);refine (c_szAssertion _ _ _ _ k.pre _ _ h1 h2 h0 hl).mono ?_;rintro e w1 ⟨rfl,hB1⟩;have hB:=bgo (w:=w) bel hB1;have hq:=(Blk.nz (Blk.new _ _ _) hB1).cell;(go_wp2_with fail);refine (c_szAssertion _ _ _ _ k.post _ _ h3 h4 (by omega) (by omega)).mono ?_;rintro e w2 ⟨rfl,hB2⟩;(go_wp2_with fail);go_ret;exact ⟨ret_int (by rw[hH.o,if_neg (by omega),if_pos g2]),bgo hB hB2⟩
  ·have e2:0≤szA k.post (szA k.pre left)∧szA k.post (szA k.pre left)≤left:=by have:=szA_le g2;omega
   by_cases g3:szL k.changes.length (szA k.post (szA k.pre left))<0
   all_goals
    (go_enter Tryd.func16,Tryd.ntmps16);(go_wp2_with fail);refine (c_szAssertion _ _ _ _ k.pre _ _ h1 h2 h0 hl).mono ?_;rintro e w1 ⟨rfl,hB1⟩;have hB:=bgo (w:=w) bel hB1;have hk:=Blk.nz (Blk.new _ _ _) hB1;have hq:=hk.cell;(go_wp2_with fail);refine (c_szAssertion _ _ _ _ k.post _ _ h3 h4 (by omega) (by omega)).mono ?_;rintro e w2 ⟨rfl,hB2⟩;have hq2:=(hk.nz hB2).cell;have hB3:=bgo hB hB2;(go_wp2_with fail);refine (c_szIntS _ _ _ _ _ h5 (by omega) (by omega)).mono ?_;rintro e w3 ⟨rfl,rfl⟩;(go_wp2_with fail);go_ret
   ·exact ⟨ret_int (by rw[hH.o,if_neg (by omega),if_neg (by omega),szL_neg g3]),hB3⟩
   ·exact ⟨ret_int (by rw[hH.o,if_neg (by omega),if_neg (by omega)]),hB3⟩
theorem c_szContract {w0:World} (v:Value) (k:Ctr) (left:Int) (w:World) (h:CtrR w0 v k) (h0:0≤left) (hl:left≤1048576) :
  Calls Tryd.prog 16 #[v,.int .i64 left] w fun e w'=>e=.returned (.int .i64 (szC k left))∧Below w.heap.size w w':=by
 obtain ⟨A1,c1,A2,c2,A3,c3,A4,c4,A5,c5,rfl,h1,h2,h3,h4,h5⟩:=h;exact c_szContract0 _ _ _ _ _ _ _ _ _ _ k _ h1.2 h2.2 h3.2 h4.2 h5.2 _ h0 hl
theorem szC_le {k:Ctr} {left:Int} (h:¬szC k left<0):0≤szC k left∧szC k left=left - k.pre.facts.length - k.pre.atoms.length - k.post.facts.length - k.post.atoms.length - k.changes.length∧0≤left:=by
 unfold szC at h ⊢
 split at h
 ·omega
 ·rename_i h1
  split at h
  ·omega
  ·rename_i h2;have e1:=szA_le h1;have e2:=szA_le h2;have e3:=szL_le h;rw[if_neg h1,if_neg h2];omega
def CtrI (w:World) (lo hi:Nat) (v:Value) (k:Ctr):Prop:=
 ∃ a1 a2 a3 a4 iv l1 h1 l2 h2,v=.agg #[a1,a2,a3,a4,iv]∧AsnI w l1 h1 (.agg #[a1,a2]) k.pre∧AsnI w l2 h2 (.agg #[a3,a4]) k.post∧IntsI w lo hi iv k.changes∧
  hi≤w.heap.size∧lo≤l1∧h1≤hi∧lo≤l2∧h2≤hi∧(h1≤l2∨h2≤l1)
def ctr0:Ctr:=⟨⟨[],[]⟩,⟨[],[]⟩,[]⟩
section
variable {w w':World} {lo hi lo' hi' a b:Nat} {v:Value}
theorem z1f {fv av:Value} {x:Asn} (h:AsnO w lo (.agg #[fv,av]) x):FactsO w lo fv x.facts:=by
 obtain ⟨fv',av',e,h1,h2⟩:=h;injection e with e;injection e with e;injection e with e1 e2;injection e2 with e2;subst e1;subst e2;exact h1
theorem z1a {fv av:Value} {x:Asn} (h:AsnO w lo (.agg #[fv,av]) x):AtomsO w lo av x.atoms:=by
 obtain ⟨fv',av',e,h1,h2⟩:=h;injection e with e;injection e with e;injection e with e1 e2;injection e2 with e2;subst e1;subst e2;exact h2
theorem undA {fv av:Value} {x:Asn} (h:AsnO w lo (.agg #[fv,av]) x):Und fv w.heap.size∧Und av w.heap.size:=⟨(z1f h).und,(z1a h).und⟩
theorem CtrI.bz {k:Ctr} (h:CtrI w lo hi v k) (hb:Below w.heap.size w w'):CtrI w' lo hi v k:=by
 obtain ⟨a1,a2,a3,a4,iv,l1,h1,l2,h2,e,p1,p2,p3,q⟩:=h;have:=hb.size;exact ⟨a1,a2,a3,a4,iv,l1,h1,l2,h2,e,p1.bz hb,p2.bz hb,p3.bz hb,by omega⟩
theorem CtrI.mk {k:Ctr} (h:CtrI w lo hi v k) (hb:Mk (fun g=>a≤g∧g<b) w w') (hd:hi≤a∨b≤lo):CtrI w' lo hi v k:=by
 obtain ⟨a1,a2,a3,a4,iv,l1,h1,l2,h2,e,p1,p2,p3,q⟩:=h;have:=hb.size;exact ⟨a1,a2,a3,a4,iv,l1,h1,l2,h2,e,p1.mk hb (by omega),p2.mk hb (by omega),p3.mk hb (by omega),by omega⟩
theorem CtrI.up {k:Ctr} (h:CtrI w lo hi v k):CtrI w lo w.heap.size v k:=by
 obtain ⟨a1,a2,a3,a4,iv,l1,h1,l2,h2,e,p1,p2,p3,q⟩:=h;exact ⟨a1,a2,a3,a4,iv,l1,h1,l2,h2,e,p1,p2,⟨p3.1,fun g hg=>by have:=p3.2 g hg;omega⟩,by omega⟩
theorem ctr_intro {a1 a2 a3 a4 iv:Value} {x:Ctr} {b1 b2 b3 u1 u2:Nat} (p1:AsnO w b1 (.agg #[a1,a2]) x.pre) (U1:Und a1 u1∧Und a2 u1) (p2:AsnO w b2 (.agg #[a3,a4]) x.post) (U2:Und a3 u2∧Und a4 u2)
  (p3:IntsO w b3 iv x.changes) (U3:Und iv hi) (hq:lo≤b1∧lo≤b2∧lo≤b3∧u1≤hi∧u2≤hi∧(u1≤b2∨u2≤b1)) (hs:hi≤w.heap.size):CtrI w lo hi (.agg #[a1,a2,a3,a4,iv]) x:=
 ⟨a1,a2,a3,a4,iv,b1,u1,b2,u2,rfl,⟨_,_,rfl,⟨z1f p1,U1.1⟩,⟨z1a p1,U1.2⟩⟩,⟨_,_,rfl,⟨z1f p2,U2.1⟩,⟨z1a p2,U2.2⟩⟩,⟨p3.bq (by omega),U3⟩,by omega⟩
theorem CtrI.form {k:Ctr} (h:CtrI w lo hi v k):∃ A c B d E e F f G g,v=.agg #[.slice A k.pre.facts.length c,.slice B k.pre.atoms.length d,.slice E k.post.facts.length e,.slice F k.post.atoms.length f,.slice G k.changes.length g]:=by
 obtain ⟨a1,a2,a3,a4,iv,l1,h1,l2,h2,e,p1,p2,p3,q⟩:=h;obtain ⟨A,c,B,d,e1⟩:=p1.form;obtain ⟨E,e',F,f,e2⟩:=p2.form;obtain ⟨G,g,e3⟩:=p3.form;simp only[Value.agg.injEq,Array.mk.injEq,List.cons.injEq,and_true] at e1 e2;obtain ⟨rfl,rfl⟩:=e1;obtain ⟨rfl,rfl⟩:=e2;subst e3;exact ⟨A,c,B,d,E,e',F,f,G,g,e⟩
theorem CtrI.rj {k:Ctr} (h:CtrI w lo hi v k):CtrV w lo w.heap.size v k:=by
 obtain ⟨a1,a2,a3,a4,iv,l1,h1,l2,h2,e,p1,p2,p3,q⟩:=h;obtain ⟨G,g,rfl⟩:=p3.form;exact ⟨a1,a2,a3,a4,G,g,e,p1.rj.mono (by omega) (Nat.le_refl _),p2.rj.mono (by omega) (Nat.le_refl _),p3.rj.mono (by omega) (Nat.le_refl _)⟩
theorem CtrI.len {k:Ctr} (h:CtrI w lo hi v k):k.pre.facts.length≤1049600∧k.pre.atoms.length≤1049600∧k.post.facts.length≤1049600∧k.post.atoms.length≤1049600∧k.changes.length≤1049600:=by
 obtain ⟨a1,a2,a3,a4,iv,l1,h1,l2,h2,e,p1,p2,p3,q⟩:=h;have:=p1.len;have:=p2.len;have:=p3.len;omega
theorem CtrI.zero (h1:lo≤hi) (h2:hi≤w.heap.size):CtrI w lo hi (.agg #[.slice none 0 0,.slice none 0 0,.slice none 0 0,.slice none 0 0,.slice none 0 0]) ctr0:=by
 have u:Und (.slice none 0 0) lo:=fun g h=>by cases h
 exact ⟨_,_,_,_,_,lo,lo,lo,lo,rfl,⟨_,_,rfl,⟨FactsO.nil _ _,u⟩,⟨AtomsO.nil _ _,u⟩⟩,⟨_,_,rfl,⟨FactsO.nil _ _,u⟩,⟨AtomsO.nil _ _,u⟩⟩,⟨⟨World.ownsRow_nil _ _ _ _,by simp[Lim,ctr0]⟩,fun g h=>by cases h⟩,by omega⟩
end
theorem to_ctr {lo hi:Nat} (v:Value) (a:Ctr) (w:World) (h:CtrV w lo hi v a):Calls Tryd.prog 18 #[v] w fun e w'=>∃ r,e=.returned r∧CtrI w' w.heap.size w'.heap.size r a∧Below w.heap.size w w':=by
 obtain ⟨a1,a2,a3,a4,A5,c5,rfl,h1,h2,h3⟩:=h;(go_enter Tryd.func18,Tryd.ntmps18);(go_wp2_with fail);refine (c_toAssertion _ a.pre _ (h1.bz bel)).mono ?_;rintro e w1 ⟨v1,rfl,ho1,hB1⟩;obtain ⟨F1,d1,F2,d2,rfl,-,-⟩:=ho1.rj;have U1:=undA ho1;have hz1:=hB1.size;have hB:=bgo (w:=w) bel hB1;have k0:=(((Blk.new w _ _).alloc _).alloc _).nz hB1;have k1:=((Blk.new (w.alloc _) _ _).alloc _).nz hB1;have k2:=(Blk.new ((w.alloc _).alloc _) _ _).nz hB1;simp only[World.size_alloc] at k1 k2 ho1 hz1;have q0:=k0.cell;have q2:=k2.cell;have r2:=k2.frozen;(go_wp2_with fail);clear q0 q2 r2;refine (c_toAssertion _ a.post _ (h2.bz bel)).mono ?_;rintro e w2 ⟨v2,rfl,ho2,hB2⟩;obtain ⟨F3,d3,F4,d4,rfl,-,-⟩:=ho2.rj;have U2:=undA ho2;have hz2:=hB2.size;simp only[World.size_setCell] at hz2;have m0:=Blk.nz (g:=w.heap.size) blks hB2;have m1:=Blk.nz (g:=w.heap.size+1) blks hB2;have m2:=Blk.nz (g:=w.heap.size+1+1) blks hB2;have x1:=ho1.abv (lo:=w.heap.size+1+1+1) (Abv.nz abv_ hB2) (Nat.le_refl _);have hBw2:=bgo (w:=w) bel hB2;clear k0 k1 k2 ho1;have q0:=m0.cell;have q2:=m2.cell;have r2:=m2.frozen;(go_wp2_with fail);clear q0 q2 r2;refine (c_toIntS A5 c5 a.changes _ (h3.bz bel)).mono ?_;rintro e w3 ⟨v3,rfl,ho3,hB3⟩;obtain ⟨F5,d5,rfl,-⟩:=ho3.rj;have U3:=ho3.und;have hz3:=hB3.size;simp only[World.size_setCell] at hz3 ho2 ho3;have n1:=Blk.nz (g:=w.heap.size+1) blks hB3;have n2:=Blk.nz (g:=w.heap.size+1+1) blks hB3;have y1:=x1.abv (lo:=w.heap.size+1+1+1) (Abv.nz abv_ hB3) (Nat.le_refl _);have y2:=ho2.abv (lo:=w.heap.size+1+1+1) (Abv.nz abv_ hB3) (by omega);have hBw3:=bgo (w:=w) bel hB3;clear m0 m1 m2;have q1:=n1.cell;have r1:=n1.frozen;have q2:=n2.cell;have r2:=n2.frozen;(go_wp2_with fail);refine bodyPost_ret (v:=.agg #[.slice F1 a.pre.facts.length d1,.slice F2 a.pre.atoms.length d2,.slice F3 a.post.facts.length d3,.slice F4 a.post.atoms.length d4,.slice F5 a.changes.length d5]) (by simp[results,Tryd.results18,go_sem,q1]) rfl ⟨_,rfl,?_,bel⟩;clear q1 r1 q2 r2;refine CtrI.up (hi:=w3.heap.size) (ctr_intro (y1.abv (lo:=w.heap.size+1+1+1) abv_ (Nat.le_refl _)) U1 (y2.abv (lo:=w.heap.size+1+1+1) abv_ (by omega)) U2 (ho3.abv (lo:=w.heap.size+1+1+1) abv_ (by omega)) U3 ?_ ?_)
 ·omega
 ·simp
theorem t_ctr {lo hi lo' hi':Nat} (v v':Value) (x:Ctr) (w:World) (h:CtrV w lo hi v x) (h':CtrV w lo' hi' v' x):Calls Tryd.prog 13 #[v,v'] w fun e w'=>e=.returned (.bool true)∧Below w.heap.size w w':=c_eqContract v v' x w h h'
theorem AsnI.own {w:World} {lo hi:Nat} {fv av:Value} {x:Asn} (h:AsnI w lo hi (.agg #[fv,av]) x) (g:Nat) (hg:fv.ownBlock=some g∨av.ownBlock=some g):lo≤g∧g<hi∧g<w.heap.size:=by
 obtain ⟨fv',av',e,⟨o1,u1⟩,⟨o2,u2⟩⟩:=h;injection e with e;injection e with e;injection e with e1 e2;injection e2 with e2;subst e1;subst e2;rcases hg with hg|hg
 ·have:=(o1.1.lt g hg);have:=u1 g hg;omega
 ·have:=(o2.1.lt g hg);have:=u2 g hg;omega
end
end Go.Proofs.YtjaohekkmlkinaaDoor
