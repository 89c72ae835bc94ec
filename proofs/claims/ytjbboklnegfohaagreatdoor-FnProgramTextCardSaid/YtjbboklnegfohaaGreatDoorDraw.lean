/- The reader that draws: words, and its own functions. -/
import Derived.Test.YtjbboklnegfohaaGreatDoorMRange
import Derived.Deep.QuietTactic
set_option linter.unusedSimpArgs false
set_option linter.unusedVariables false
namespace Go.Proofs.YtjbboklnegfohaaGreatDoor
open Go Go.RowKit Go.Proofs
structure Fr (g:Nat) (w w':World):Prop where
 os:w'.os=w.os
 tape:w'.tape=w.tape
 output:w'.output=w.output
 size:w.heap.size≤w'.heap.size
 block:∀ k,k<w.heap.size→k≠g→w'.heap[k]? = w.heap[k]?
section
variable {g:Nat} {w a b c:World}
theorem Fr.refl (g:Nat) (w:World):Fr g w w:=⟨rfl,rfl,rfl,Nat.le_refl _,fun _ _ _=>rfl⟩
theorem Fr.trans (h:Fr g a b) (k:Fr g b c):Fr g a c:=
 ⟨k.os.trans h.os,k.tape.trans h.tape,k.output.trans h.output,Nat.le_trans h.size k.size,fun i h1 h2=>(k.block i (Nat.lt_of_lt_of_le h1 h.size) h2).trans (h.block i h1 h2)⟩
theorem Fr.ofBelow (h:Below a.heap.size a b):Fr g a b:=⟨h.os,h.tape,h.output,h.size,fun k h1 _=>h.block k h1⟩
theorem Fr.go (h:Fr g a b) (k:Below b.heap.size b c):Fr g a c:=h.trans (.ofBelow k)
theorem Fr.alloc (h:Fr g a b) (o:Obj):Fr g a (b.alloc o):=h.go (bbox (Below.refl _ _) o)
theorem Fr.drew (h:Fr g a b):Fr g a b.drew:=h.go (Below.refl _ _).drew
theorem Fr.set_ (h:Fr g a b) {p:Addr} (hp:p.block=g∨a.heap.size≤p.block) (u:Value):Fr g a (b.setCell p u):=
 ⟨h.os,h.tape,h.output,by have:=h.size;simp;exact this,fun k h1 h2=>(Below.heap_setCell b p u k (by rcases hp with e|e<;>omega)).trans (h.block k h1 h2)⟩
theorem Fr.below {B:Nat} (h:Fr g a b) (hg:B≤g) (hB:B≤a.heap.size):Below B a b:=⟨h.os,h.tape,h.output,h.size,fun k hk=>h.block k (by omega) (by omega)⟩
theorem Blk.fr {x:Nat} {t:TypeId} {cs:Array Value} (h:Blk a x t cs) (hf:Fr g a b) (hx:x≠g):Blk b x t cs:=(hf.block x h.lt hx).trans h
theorem Rw.fr {lo hi size n:Nat} {A:Option Addr} {xs:List Value} (h:Rw a lo hi size A n xs) (hf:Fr g a b) (hg:g<lo∨hi≤g):Rw b lo hi size A n xs:=
 ⟨h.1,fun hn=>by
  obtain ⟨k,o,e,h1,h2,hc⟩:=h.2 hn
  have h0:=h.1
  have hx:xs[0]? = some (xs[0]'(by omega)):=List.getElem?_eq_getElem (by omega)
  have hlt:k<a.heap.size:=block_lt_of_cell (hc 0 _ hx)
  exact ⟨k,o,e,h1,h2,fun j u hu=>(World.cell?_of_block (a:=⟨k,o+j,none⟩) (hf.block k hlt (by omega))).trans (hc j u hu)⟩⟩
theorem Rd.fr {lo hi size n:Nat} {A:Option Addr} {xs:List Value} (h:Rd a lo hi size A n xs) (hf:Fr g a b) (hg:g<lo∨hi≤g):Rd b lo hi size A n xs:=⟨h.raw.fr hf hg,h.lim⟩
theorem own_fr {base:Nat} {e:TypeId} {size:Nat} {v:Value} {n:Nat} {xs:List Value} (h:a.ownsRow base e size v n xs) (hf:Fr g a b) (hg:g<base):b.ownsRow base e size v n xs:=by
 obtain ⟨h1,h2⟩:=h
 refine ⟨h1,?_⟩
 rcases h2 with h2|⟨k,cap,cur,hv,hk,hh,r⟩
 ·exact Or.inl h2
 ·exact Or.inr ⟨k,cap,cur,hv,hk,(hf.block k (Blk.lt hh) (by omega)).trans hh,r⟩
variable {base:Nat} {v:Value}
theorem FactsO.fr {fs:List Fct} (h:FactsO a base v fs) (hf:Fr g a b) (hg:g<base):FactsO b base v fs:=⟨own_fr h.1 hf hg,h.2⟩
theorem AtomsO.fr {fs:List Atm} (h:AtomsO a base v fs) (hf:Fr g a b) (hg:g<base):AtomsO b base v fs:=⟨own_fr h.1 hf hg,h.2⟩
theorem AsnO.fr {x:Asn} (h:AsnO a base v x) (hf:Fr g a b) (hg:g<base):AsnO b base v x:=by
 obtain ⟨fv,av,e,h1,h2⟩:=h
 exact ⟨fv,av,e,h1.fr hf hg,h2.fr hf hg⟩
end
abbrev tR:Nat:=86
def encU (bs:List Nat):List Value:=bs.map fun b:Nat=>.int .u8 (b:Int)
def Rdr (w:World) (g p:Nat):Prop:=∃ A c bs,Blk w g tR #[.slice A bs.length c,.int .i64 (p:Int)]∧Rw w 0 g 1 A bs.length (encU bs)∧(∀ b∈bs,b<256)∧bs.length≤2000
theorem Rdr.lt {w:World} {g p:Nat} (h:Rdr w g p):g<w.heap.size:=by obtain ⟨_,_,_,h,-⟩:=h;exact h.lt
theorem Rdr.below {w w':World} {g p:Nat} (h:Rdr w g p) (hb:Below w.heap.size w w'):Rdr w' g p:=by
 obtain ⟨A,c,bs,h1,h2,h3⟩:=h
 exact ⟨A,c,bs,h1.next hb,h2.below hb,h3⟩
theorem Rdr.set_ {w:World} {g p:Nat} (h:Rdr w g p) {q:Addr} (hq:g<q.block) (u:Value):Rdr (w.setCell q u) g p:=by
 obtain ⟨A,c,bs,h1,h2,h3⟩:=h
 exact ⟨A,c,bs,h1.far (by omega) u,h2.keep fun b _ hb=>Below.heap_setCell w q u b (by omega),h3⟩
theorem ofInt_i64n (a:Nat) (ha:a<9223372036854775808):(BitVec.ofInt 64 (a:Int)).toNat=a:=by
 rw[BitVec.ofInt_natCast,BitVec.toNat_ofNat];exact Nat.mod_eq_of_lt (by omega)
theorem wrap_i64n (a:Nat) (ha:a<9223372036854775808):IntKind.i64.wrap (a:Int)=a:=by
 simp[IntKind.wrap,IntKind.bits,IntKind.signed];omega
theorem i64_xor_nat (a b:Nat) (ha:a<9223372036854775808) (hb:b<9223372036854775808):bits .xor .i64 (a:Int) (b:Int)=((a ^^^ b:Nat):Int):=by
 have hx:a ^^^ b<2 ^ 63:=Nat.xor_lt_two_pow (by omega) (by omega)
 show IntKind.i64.wrap ((BitVec.ofInt 64 (a:Int) ^^^ BitVec.ofInt 64 (b:Int)).toNat:Int)=_
 rw[BitVec.toNat_xor,ofInt_i64n a ha,ofInt_i64n b hb,wrap_i64n _ (by omega)]
theorem encU_at {w:World} {lo hi:Nat} {A:Option Addr} {bs:List Nat} (h:Rw w lo hi 1 A bs.length (encU bs)) {k:Nat} (hk:k<bs.length):∃ b o,A=some ⟨b,o,none⟩∧b<hi∧w.cell? ⟨b,o+k,none⟩=some (.int .u8 (bs[k]:Int)):=by
 obtain ⟨b,o,u,e,h1,h2,h3,h4⟩:=h.at1 hk
 refine ⟨b,o,e,h2,?_⟩
 rw[h4,←h3]
 simp[encU,hk]
theorem pick_mod {n:Int} (h:1≤n) {x:Nat}:((x % n.toNat:Nat):Int)=(x:Int) % n:=by
 rw[Int.natCast_emod,Int.toNat_of_nonneg (by omega)]
theorem pick_lt {n:Int} (h:1≤n) {x:Nat}:((x % n.toNat:Nat):Int)<n:=by
 rw[pick_mod h];exact Int.emod_lt_of_pos _ (by omega)
set_option maxRecDepth 100000 in
set_option maxHeartbeats 3200000 in
theorem c_pick (g p:Nat) (n:Int) (w:World) (h:Rdr w g p) (hp:p≤1000000) :
  Calls Tryz.prog 42 #[.pointer (some ⟨g,0,none⟩),.int .i64 n] w fun e w'=>∃ m:Nat,e=.returned (.int .i64 (m:Int))∧(m=0∨(m:Int)<n)∧Rdr w' g (p+1)∧Fr g w w':=by
 obtain ⟨A,c,bs,k0,hR,hU,hl⟩:=h
 have hpi:(p:Int)≤1000000:=by omega
 have hli:(bs.length:Int)≤2000:=by omega
 have HRD:Hid (Rdr (w.setCell ⟨g,1,none⟩ (.int .i64 ((p:Int)+1))) g (p+1)):=by
  refine ⟨A,c,bs,?_,hR.keep fun b _ hb=>Below.heap_setCell w _ _ b (by simp only;omega),hU,hl⟩
  have:=k0.set_ 1 (.int .i64 ((p:Int)+1))
  simpa using this
 have HFR:Hid (Fr g w (w.setCell ⟨g,1,none⟩ (.int .i64 ((p:Int)+1)))):=(Fr.refl g w).set_ (Or.inl rfl) _
 have q0:=k0.cell
 have f0:=k0.frozen
 have hRR:=Lib.hid hR
 have HU:=Lib.hid hU
 clear hR hU hp hl
 by_cases hn:n<1
 ·go_enter Tryz.func42,Tryz.ntmps42
  go_wp2_with fail
  go_ret
  exact ⟨0,rfl,Or.inl rfl,HRD.out,HFR.out⟩
 ·have hn':1≤n:=by omega
  by_cases he:bs.length=0
  ·have he':((bs.length:Int) == 0)=true:=by simp[he]
   clear he
   go_enter Tryz.func42,Tryz.ntmps42
   go_wp2_with fail
   go_ret
   exact ⟨0,rfl,Or.inl rfl,HRD.out,HFR.out⟩
  ·have he':((bs.length:Int) == 0)=false:=by simpa using he
   by_cases hlt:p<bs.length
   ·obtain ⟨b,o,rfl,hb,c0⟩:=encU_at hRR.out hlt
    have hlti:(p:Int)<(bs.length:Int):=by omega
    have hbv:=HU.out _ (List.getElem_mem hlt)
    obtain ⟨x,hx⟩:∃ x,x=bs[p]:=⟨_,rfl⟩
    rw[←hx] at c0 hbv
    have hbl:=block_lt_of_cell c0
    have hbg:b≠g:=by omega
    clear hx he
    go_enter Tryz.func42,Tryz.ntmps42
    go_wp2_with fail
    go_ret
    exact ⟨x % n.toNat,ret_int (pick_mod hn').symm,Or.inr (pick_lt hn'),HRD.out,HFR.out⟩
   ·have hle:(bs.length:Int)≤(p:Int):=by omega
    have hpos:0<bs.length:=by omega
    obtain ⟨b,o,rfl,hb,c0⟩:=encU_at hRR.out (Nat.mod_lt p hpos)
    obtain ⟨b',o',e',hb',c1⟩:=encU_at hRR.out (Nat.mod_lt (p * 7+3) hpos)
    injection e' with e'
    injection e' with e1 e2
    subst e1 e2
    have hbv:=HU.out _ (List.getElem_mem (Nat.mod_lt p hpos))
    have hbw:=HU.out _ (List.getElem_mem (Nat.mod_lt (p * 7+3) hpos))
    obtain ⟨x,hx⟩:∃ x,x=bs[p % bs.length]'(Nat.mod_lt p hpos):=⟨_,rfl⟩
    obtain ⟨y,hy⟩:∃ y,y=bs[(p * 7+3) % bs.length]'(Nat.mod_lt (p * 7+3) hpos):=⟨_,rfl⟩
    rw[←hx] at c0 hbv
    rw[←hy] at c1 hbw
    have hbl:=block_lt_of_cell c0
    have hbg:b≠g:=by omega
    have hnil:¬bs=[]:=fun e=>by rw[e] at he;exact he rfl
    have t1:(p:Int).tmod (bs.length:Int)=((p % bs.length:Nat):Int):=by rw[Int.tmod_eq_emod_of_nonneg (by omega)];exact (Int.natCast_emod _ _).symm
    have t2:((p:Int) * 7+3).tmod (bs.length:Int)=(((p * 7+3) % bs.length:Nat):Int):=by rw[Int.tmod_eq_emod_of_nonneg (by omega)];exact (Int.natCast_emod _ _).symm
    have t3:(p:Int).tdiv (bs.length:Int)=((p / bs.length:Nat):Int):=by rw[Int.tdiv_eq_ediv_of_nonneg (by omega)];exact (Int.natCast_ediv _ _).symm
    have t4:((p / bs.length:Nat):Int)≤1000000:=by have:=Nat.div_le_self p bs.length;omega
    have l1:((p % bs.length:Nat):Int)<(bs.length:Int):=by have:=Nat.mod_lt p hpos;omega
    have l2:(((p * 7+3) % bs.length:Nat):Int)<(bs.length:Int):=by have:=Nat.mod_lt (p * 7+3) hpos;omega
    obtain ⟨i,hi⟩:∃ i,i=p % bs.length:=⟨_,rfl⟩
    obtain ⟨j,hj⟩:∃ j,j=(p * 7+3) % bs.length:=⟨_,rfl⟩
    obtain ⟨d,hd⟩:∃ d,d=p / bs.length:=⟨_,rfl⟩
    rw[←hi] at c0 t1 l1
    rw[←hj] at c1 t2 l2
    rw[←hd] at t3 t4
    clear hx hy he hlt hi hj hd hpos
    go_enter Tryz.func42,Tryz.ntmps42
    go_wp2_with fail
    have hX:Hid (bits .xor .i64 ((x:Int) * 131+(y:Int) * 1117+(p:Int) * 29+(d:Int) * 53) (((x:Int) * 131+(y:Int) * 1117+(p:Int) * 29+(d:Int) * 53) / 64)=(((x * 131+y * 1117+p * 29+d * 53) ^^^ ((x * 131+y * 1117+p * 29+d * 53) / 64):Nat):Int)):=by
     have:=i64_xor_nat (x * 131+y * 1117+p * 29+d * 53) ((x * 131+y * 1117+p * 29+d * 53) / 64) (by omega) (by omega)
     show _=_
     rw[←this]
     congr 1
    go_quiet (fail)
    go_wp2_with fail
    have hRD:Rdr ((w.setCell ⟨g,1,none⟩ (.int .i64 ((p:Int)+1))).drewN nq) g (p+1):=HRD.out.below (below_drewN (Below.refl _ _) nq)
    have hFR:Fr g w ((w.setCell ⟨g,1,none⟩ (.int .i64 ((p:Int)+1))).drewN nq):=HFR.out.go (below_drewN (Below.refl _ _) nq)
    go_ret
    exact ⟨((x * 131+y * 1117+p * 29+d * 53) ^^^ ((x * 131+y * 1117+p * 29+d * 53) / 64)) % n.toNat,ret_int (by rw[hX.out,Int.tmod_eq_emod_of_nonneg (Int.natCast_nonneg _),pick_mod hn']),Or.inr (pick_lt hn'),hRD,hFR⟩
end Go.Proofs.YtjbboklnegfohaaGreatDoor
