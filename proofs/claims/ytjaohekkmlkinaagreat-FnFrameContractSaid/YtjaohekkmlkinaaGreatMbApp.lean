/- Data that a call has made, in blocks of its own. -/
import Derived.Test.YtjaohekkmlkinaaGreatMbOpen
import Derived.Laws.BitsAllLaws
import Derived.Laws.BitsLemmas
import Derived.Deep.QuietTactic
set_option linter.unusedSimpArgs false
set_option linter.unusedVariables false
set_option maxRecDepth 100000
set_option maxHeartbeats 25600000
namespace Go.Proofs.YtjaohekkmlkinaaGreat
section
open Go Go.RowKit Go.Proofs
abbrev tF:Nat:=41
abbrev tA:Nat:=128
abbrev tI:Nat:=3
def FactsO (w:World) (base:Nat) (v:Value) (fs:List Fct):Prop:=w.ownsRow base tF 3 v fs.length (encF fs)∧Lim fs.length
def AtomsO (w:World) (base:Nat) (v:Value) (xs:List Atm):Prop:=w.ownsRow base tA 3 v xs.length (encA xs)∧Lim xs.length
def IntsO (w:World) (base:Nat) (v:Value) (xs:List Int):Prop:=w.ownsRow base tI 1 v xs.length (encI xs)∧Lim xs.length
def AsnO (w:World) (base:Nat) (v:Value) (a:Asn):Prop:=∃ fv av,v=.agg #[fv,av]∧FactsO w base fv a.facts∧AtomsO w base av a.atoms
section
variable {w w':World} {base base':Nat} {v:Value}
theorem FactsO.bz {fs:List Fct} (h:FactsO w base v fs) (hb:Below w.heap.size w w'):FactsO w' base v fs:=⟨own_below h.1 hb,h.2⟩
theorem AtomsO.bz {fs:List Atm} (h:AtomsO w base v fs) (hb:Below w.heap.size w w'):AtomsO w' base v fs:=⟨own_below h.1 hb,h.2⟩
theorem IntsO.bz {fs:List Int} (h:IntsO w base v fs) (hb:Below w.heap.size w w'):IntsO w' base v fs:=⟨own_below h.1 hb,h.2⟩
theorem AsnO.bz {a:Asn} (h:AsnO w base v a) (hb:Below w.heap.size w w'):AsnO w' base v a:=by
 obtain ⟨fv,av,e,h1,h2⟩:=h;exact ⟨fv,av,e,h1.bz hb,h2.bz hb⟩
theorem FactsO.setb {fs:List Fct} (h:FactsO w base v fs) {a:Addr} (ha:a.block<base) (u:Value):FactsO (w.setCell a u) base v fs:=⟨ownsRow_setCell_below h.1 ha u,h.2⟩
theorem AtomsO.setb {fs:List Atm} (h:AtomsO w base v fs) {a:Addr} (ha:a.block<base) (u:Value):AtomsO (w.setCell a u) base v fs:=⟨ownsRow_setCell_below h.1 ha u,h.2⟩
theorem IntsO.setb {fs:List Int} (h:IntsO w base v fs) {a:Addr} (ha:a.block<base) (u:Value):IntsO (w.setCell a u) base v fs:=⟨ownsRow_setCell_below h.1 ha u,h.2⟩
theorem AsnO.setb {a:Asn} (h:AsnO w base v a) {p:Addr} (ha:p.block<base) (u:Value):AsnO (w.setCell p u) base v a:=by
 obtain ⟨fv,av,e,h1,h2⟩:=h;exact ⟨fv,av,e,h1.setb ha u,h2.setb ha u⟩
theorem FactsO.abv {lo:Nat} {fs:List Fct} (h:FactsO w base v fs) (hb:Abv lo w w') (hl:lo≤base):FactsO w' base v fs:=⟨own_abv h.1 hb hl,h.2⟩
theorem AtomsO.abv {lo:Nat} {fs:List Atm} (h:AtomsO w base v fs) (hb:Abv lo w w') (hl:lo≤base):AtomsO w' base v fs:=⟨own_abv h.1 hb hl,h.2⟩
theorem IntsO.abv {lo:Nat} {fs:List Int} (h:IntsO w base v fs) (hb:Abv lo w w') (hl:lo≤base):IntsO w' base v fs:=⟨own_abv h.1 hb hl,h.2⟩
theorem AsnO.abv {lo:Nat} {a:Asn} (h:AsnO w base v a) (hb:Abv lo w w') (hl:lo≤base):AsnO w' base v a:=by
 obtain ⟨fv,av,e,h1,h2⟩:=h;exact ⟨fv,av,e,h1.abv hb hl,h2.abv hb hl⟩
theorem FactsO.bq {fs:List Fct} (h:FactsO w base v fs) (hb:base'≤base):FactsO w base' v fs:=⟨own_lower h.1 hb,h.2⟩
theorem AtomsO.bq {fs:List Atm} (h:AtomsO w base v fs) (hb:base'≤base):AtomsO w base' v fs:=⟨own_lower h.1 hb,h.2⟩
theorem IntsO.bq {fs:List Int} (h:IntsO w base v fs) (hb:base'≤base):IntsO w base' v fs:=⟨own_lower h.1 hb,h.2⟩
theorem AsnO.bq {a:Asn} (h:AsnO w base v a) (hb:base'≤base):AsnO w base' v a:=by
 obtain ⟨fv,av,e,h1,h2⟩:=h;exact ⟨fv,av,e,h1.bq hb,h2.bq hb⟩
theorem FactsO.rj {fs:List Fct} (h:FactsO w base v fs):∃ A c,v=.slice A fs.length c∧FactsV w base w.heap.size A fs:=own_reads h.1 h.2
theorem AtomsO.rj {fs:List Atm} (h:AtomsO w base v fs):∃ A c,v=.slice A fs.length c∧AtomsV w base w.heap.size A fs:=own_reads h.1 h.2
theorem IntsO.rj {fs:List Int} (h:IntsO w base v fs):∃ A c,v=.slice A fs.length c∧IntsV w base w.heap.size A fs:=own_reads h.1 h.2
theorem IntsO.readsI {A:Option Addr} {n c:Nat} {fs:List Int} (h:IntsO w base (.slice A n c) fs):n=fs.length∧IntsV w base w.heap.size A fs:=by
 obtain ⟨A',c',e,h'⟩:=h.rj;injection e with e1 e2 e3;subst e1;exact ⟨e2,h'⟩
theorem FactsO.readsI {A:Option Addr} {n c:Nat} {fs:List Fct} (h:FactsO w base (.slice A n c) fs):n=fs.length∧FactsV w base w.heap.size A fs:=by
 obtain ⟨A',c',e,h'⟩:=h.rj;injection e with e1 e2 e3;subst e1;exact ⟨e2,h'⟩
theorem AtomsO.readsI {A:Option Addr} {n c:Nat} {fs:List Atm} (h:AtomsO w base (.slice A n c) fs):n=fs.length∧AtomsV w base w.heap.size A fs:=by
 obtain ⟨A',c',e,h'⟩:=h.rj;injection e with e1 e2 e3;subst e1;exact ⟨e2,h'⟩
theorem AsnO.rj {a:Asn} (h:AsnO w base v a):AsnV w base w.heap.size v a:=by
 obtain ⟨fv,av,e,h1,h2⟩:=h;obtain ⟨A1,c1,rfl,g1⟩:=h1.rj;obtain ⟨A2,c2,rfl,g2⟩:=h2.rj;exact ⟨A1,c1,A2,c2,e,g1,g2⟩
end
theorem infoF:(Tryz.prog.info? tF).map (fun i=>(i.zero,i.size,i.bytes))=some (some (.agg #[.bool false,.int .i64 0,.int .i64 0]),3,24):=by kernel_rfl
theorem infoA:(Tryz.prog.info? tA).map (fun i=>(i.zero,i.size,i.bytes))=some (some (.agg #[.int .i64 0,.int .i64 0,.int .i64 0]),3,24):=by kernel_rfl
theorem infoI:(Tryz.prog.info? tI).map (fun i=>(i.zero,i.size,i.bytes))=some (some (.int .i64 0),1,8):=by kernel_rfl
theorem run_make_rowN {P:Program} (t e:TypeId) (i:TypeInfo) (z:Value) (ht:P.underlying t=some (.slice e)) (hi:P.info? e=some i) (hz:i.zero=some z)
  (kl kc:IntKind) (n c:Nat) (hnc:n≤c) (hbytes:i.bytes * c≤281474976710656) (h63:c≤9223372036854775807) (w:World) :
  (Instr.makeSlice t (.int kl (n:Int)) (.int kc (c:Int))).run P w=.ok (.slice (some ⟨w.heap.size,0,none⟩) n c) (w.alloc (.cells (madeCells z.cells (c * i.size)) e)):=by
 have hb:(i.bytes:Int) * (c:Int)≤281474976710656:=by
  have h:((i.bytes * c:Nat):Int)≤281474976710656:=by omega
  rwa [Int.natCast_mul] at h
 have hr:=run_make (P:=P) w t e i z ht hi hz kl kc n c (by omega) (by omega) hb (by omega);simp only[Int.toNat_natCast] at hr;exact hr
theorem mkI (n:Nat) (h:Lim n) (w:World):(Instr.makeSlice 31 (.int .i64 (n:Int)) (.int .i64 (n:Int))).run Tryz.prog w=.ok (.slice (some ⟨w.heap.size,0,none⟩) n n) (w.alloc (.cells (madeCells #[.int .i64 0] (n * 1)) tI)):=by
 obtain ⟨i,hi,hz,hs,hb⟩:=info_parts infoI;have:=run_make_rowN (P:=Tryz.prog) 31 tI i _ Tryz.underlying31 hi hz .i64 .i64 n n (Nat.le_refl _) (by rw[hb];unfold Lim at h;omega) (by unfold Lim at h;omega) w
 rwa [hs] at this
abbrev tB:Nat:=4
theorem infoB:(Tryz.prog.info? tB).map (fun i=>(i.zero,i.size,i.bytes))=some (some (.bool false),1,1):=by kernel_rfl
def BoolsO (w:World) (base:Nat) (v:Value) (xs:List Bool):Prop:=w.ownsRow base tB 1 v xs.length (encB xs)∧Lim xs.length
theorem BoolsO.bz {w w':World} {base:Nat} {v:Value} {fs:List Bool} (h:BoolsO w base v fs) (hb:Below w.heap.size w w'):BoolsO w' base v fs:=⟨own_below h.1 hb,h.2⟩
theorem BoolsO.bq {w:World} {base base':Nat} {v:Value} {fs:List Bool} (h:BoolsO w base v fs) (hb:base'≤base):BoolsO w base' v fs:=⟨own_lower h.1 hb,h.2⟩
theorem BoolsO.abv {w w':World} {base:Nat} {v:Value} {lo:Nat} {fs:List Bool} (h:BoolsO w base v fs) (hb:Abv lo w w') (hl:lo≤base):BoolsO w' base v fs:=⟨own_abv h.1 hb hl,h.2⟩
theorem BoolsO.rj {w:World} {base:Nat} {v:Value} {fs:List Bool} (h:BoolsO w base v fs):∃ A c,v=.slice A fs.length c∧BoolsV w base w.heap.size A fs:=own_reads h.1 h.2
theorem mkB (n:Nat) (h:Lim n) (w:World):(Instr.makeSlice 124 (.int .i64 (n:Int)) (.int .i64 (n:Int))).run Tryz.prog w=.ok (.slice (some ⟨w.heap.size,0,none⟩) n n) (w.alloc (.cells (madeCells #[.bool false] (n * 1)) tB)):=by
 obtain ⟨i,hi,hz,hs,hb⟩:=info_parts infoB;have:=run_make_rowN (P:=Tryz.prog) 124 tB i _ Tryz.underlying124 hi hz .i64 .i64 n n (Nat.le_refl _) (by rw[hb];unfold Lim at h;omega) (by unfold Lim at h;omega) w
 rwa [hs] at this
end
section
open Go Go.RowKit
theorem ofInt_u16 (a:Nat) (ha:a<65536):(BitVec.ofInt 16 (a:Int)).toNat=a:=by
 rw[BitVec.ofInt_natCast,BitVec.toNat_ofNat];exact Nat.mod_eq_of_lt (by omega)
theorem wrap_u16 (a:Nat) (ha:a<65536):IntKind.u16.wrap (a:Int)=a:=by
 simp[IntKind.wrap,IntKind.bits,IntKind.signed];omega
theorem u16_and_nat (a b:Nat) (ha:a<65536) (hb:b<65536):bits .and .u16 (a:Int) (b:Int)=((a &&& b:Nat):Int):=by
 have hx:a &&& b<2 ^ 16:=Nat.and_lt_two_pow _ (by omega);show IntKind.u16.wrap ((BitVec.ofInt 16 (a:Int) &&& BitVec.ofInt 16 (b:Int)).toNat:Int)=_;rw[BitVec.toNat_and,ofInt_u16 a ha,ofInt_u16 b hb,wrap_u16 _ (by omega)]
theorem u16_or_nat (a b:Nat) (ha:a<65536) (hb:b<65536):bits .or .u16 (a:Int) (b:Int)=((a|||b:Nat):Int):=by
 have hx:a|||b<2 ^ 16:=Nat.or_lt_two_pow (by omega) (by omega);show IntKind.u16.wrap ((BitVec.ofInt 16 (a:Int)|||BitVec.ofInt 16 (b:Int)).toNat:Int)=_;rw[BitVec.toNat_or,ofInt_u16 a ha,ofInt_u16 b hb,wrap_u16 _ (by omega)]
theorem bit_has (S n:Nat) (hS:S<65536):(bits .and .u16 ((S:Int) / 2 ^ n) 1 == 1)=S.testBit n:=by
 have e:((S:Int) / 2 ^ n)=((S / 2 ^ n:Nat):Int):=by simp
 have hlt:S / 2 ^ n<65536:=Nat.lt_of_le_of_lt (Nat.div_le_self _ _) hS;rw[e,show (1:Int)=((1:Nat):Int) from rfl,u16_and_nat _ _ hlt (by omega)];rw[Nat.testBit_eq_decide_div_mod_eq];rw[Nat.and_one_is_mod];rw[Bool.eq_iff_iff];simp only[beq_iff_eq,decide_eq_true_eq];omega
theorem bit_or (T n:Nat) (hT:T<65536) (hn:n<16):bits .or .u16 (T:Int) (IntKind.u16.wrap (2 ^ n))=((T|||1 <<< n:Nat):Int):=by
 have h2:2 ^ n<65536:=by
  have:2 ^ n≤2 ^ 15:=Nat.pow_le_pow_right (by omega) (by omega);omega
 have e:(2:Int) ^ n=((2 ^ n:Nat):Int):=by simp
 rw[e,wrap_u16 _ h2,u16_or_nat _ _ hT h2,Nat.one_shiftLeft]
end
section
open Go Go.RowKit Go.Proofs
structure Fr (g:Nat) (w w':World):Prop where
 os:w'.os=w.os
 tape:w'.tape=w.tape
 output:w'.output=w.output
 size:w.heap.size≤w'.heap.size
 block:∀ k,k<w.heap.size→k≠g→w'.heap[k]? = w.heap[k]?
section
variable {g:Nat} {w a b c:World}
theorem Fr.refl (g:Nat) (w:World):Fr g w w:=⟨rfl,rfl,rfl,Nat.le_refl _,fun _ _ _=>rfl⟩
theorem Fr.trans (h:Fr g a b) (k:Fr g b c):Fr g a c:=
 ⟨k.os.trans h.os,k.tape.trans h.tape,k.output.trans h.output,Nat.le_trans h.size k.size,fun i h1 h2=>(k.block i (Nat.lt_of_lt_of_le h1 h.size) h2).trans (h.block i h1 h2)⟩
theorem Fr.ofBelow (h:Below a.heap.size a b):Fr g a b:=⟨h.os,h.tape,h.output,h.size,fun k h1 _=>h.block k h1⟩
theorem Fr.go (h:Fr g a b) (k:Below b.heap.size b c):Fr g a c:=h.trans (.ofBelow k)
theorem Fr.alloc (h:Fr g a b) (o:Obj):Fr g a (b.alloc o):=h.go (bbox (Below.refl _ _) o)
theorem Fr.drew (h:Fr g a b):Fr g a b.drew:=h.go (Below.refl _ _).drew
theorem Fr.set_ (h:Fr g a b) {p:Addr} (hp:p.block=g∨a.heap.size≤p.block) (u:Value):Fr g a (b.setCell p u):=
 ⟨h.os,h.tape,h.output,by have:=h.size;simp;exact this,fun k h1 h2=>(Below.heap_setCell b p u k (by rcases hp with e|e<;>omega)).trans (h.block k h1 h2)⟩
theorem Fr.bz {B:Nat} (h:Fr g a b) (hg:B≤g) (hB:B≤a.heap.size):Below B a b:=⟨h.os,h.tape,h.output,h.size,fun k hk=>h.block k (by omega) (by omega)⟩
theorem Blk.fr {x:Nat} {t:TypeId} {cs:Array Value} (h:Blk a x t cs) (hf:Fr g a b) (hx:x≠g):Blk b x t cs:=(hf.block x h.lt hx).trans h
theorem Rw.fr {lo hi size n:Nat} {A:Option Addr} {xs:List Value} (h:Rw a lo hi size A n xs) (hf:Fr g a b) (hg:g<lo∨hi≤g):Rw b lo hi size A n xs:=
 ⟨h.1,fun hn=>by
  obtain ⟨k,o,e,h1,h2,hc⟩:=h.2 hn;have h0:=h.1;have hx:xs[0]? = some (xs[0]'(by omega)):=List.getElem?_eq_getElem (by omega);have hlt:k<a.heap.size:=block_lt_of_cell (hc 0 _ hx)
  exact ⟨k,o,e,h1,h2,fun j u hu=>(World.cell?_of_block (a:=⟨k,o+j,none⟩) (hf.block k hlt (by omega))).trans (hc j u hu)⟩⟩
theorem Rd.fr {lo hi size n:Nat} {A:Option Addr} {xs:List Value} (h:Rd a lo hi size A n xs) (hf:Fr g a b) (hg:g<lo∨hi≤g):Rd b lo hi size A n xs:=⟨h.raw.fr hf hg,h.lim⟩
theorem own_fr {base:Nat} {e:TypeId} {size:Nat} {v:Value} {n:Nat} {xs:List Value} (h:a.ownsRow base e size v n xs) (hf:Fr g a b) (hg:g<base):b.ownsRow base e size v n xs:=by
 obtain ⟨h1,h2⟩:=h;refine ⟨h1,?_⟩;rcases h2 with h2|⟨k,cap,cur,hv,hk,hh,r⟩
 ·exact Or.inl h2
 ·exact Or.inr ⟨k,cap,cur,hv,hk,(hf.block k (Blk.lt hh) (by omega)).trans hh,r⟩
variable {base:Nat} {v:Value}
theorem FactsO.fr {fs:List Fct} (h:FactsO a base v fs) (hf:Fr g a b) (hg:g<base):FactsO b base v fs:=⟨own_fr h.1 hf hg,h.2⟩
theorem AtomsO.fr {fs:List Atm} (h:AtomsO a base v fs) (hf:Fr g a b) (hg:g<base):AtomsO b base v fs:=⟨own_fr h.1 hf hg,h.2⟩
theorem IntsO.fr {fs:List Int} (h:IntsO a base v fs) (hf:Fr g a b) (hg:g<base):IntsO b base v fs:=⟨own_fr h.1 hf hg,h.2⟩
theorem AsnO.fr {x:Asn} (h:AsnO a base v x) (hf:Fr g a b) (hg:g<base):AsnO b base v x:=by
 obtain ⟨fv,av,e,h1,h2⟩:=h;exact ⟨fv,av,e,h1.fr hf hg,h2.fr hf hg⟩
end
abbrev tR:Nat:=180
def encU (bs:List Nat):List Value:=bs.map fun b:Nat=>.int .u8 (b:Int)
def Rdr (w:World) (g p:Nat):Prop:=∃ A c bs,Blk w g tR #[.slice A bs.length c,.int .i64 (p:Int)]∧Rw w 0 g 1 A bs.length (encU bs)∧(∀ b∈bs,b<256)∧bs.length≤2000
theorem Rdr.lt {w:World} {g p:Nat} (h:Rdr w g p):g<w.heap.size:=by obtain ⟨_,_,_,h,-⟩:=h;exact h.lt
theorem Rdr.bz {w w':World} {g p:Nat} (h:Rdr w g p) (hb:Below w.heap.size w w'):Rdr w' g p:=by
 obtain ⟨A,c,bs,h1,h2,h3⟩:=h;exact ⟨A,c,bs,h1.nz hb,h2.bz hb,h3⟩
theorem Rdr.set_ {w:World} {g p:Nat} (h:Rdr w g p) {q:Addr} (hq:g<q.block) (u:Value):Rdr (w.setCell q u) g p:=by
 obtain ⟨A,c,bs,h1,h2,h3⟩:=h;exact ⟨A,c,bs,h1.far (by omega) u,h2.keep fun b _ hb=>Below.heap_setCell w q u b (by omega),h3⟩
theorem ofInt_i64n (a:Nat) (ha:a<9223372036854775808):(BitVec.ofInt 64 (a:Int)).toNat=a:=by
 rw[BitVec.ofInt_natCast,BitVec.toNat_ofNat];exact Nat.mod_eq_of_lt (by omega)
theorem wrap_i64n (a:Nat) (ha:a<9223372036854775808):IntKind.i64.wrap (a:Int)=a:=by
 simp[IntKind.wrap,IntKind.bits,IntKind.signed];omega
theorem i64_xor_nat (a b:Nat) (ha:a<9223372036854775808) (hb:b<9223372036854775808):bits .xor .i64 (a:Int) (b:Int)=((a ^^^ b:Nat):Int):=by
 have hx:a ^^^ b<2 ^ 63:=Nat.xor_lt_two_pow (by omega) (by omega);show IntKind.i64.wrap ((BitVec.ofInt 64 (a:Int) ^^^ BitVec.ofInt 64 (b:Int)).toNat:Int)=_;rw[BitVec.toNat_xor,ofInt_i64n a ha,ofInt_i64n b hb,wrap_i64n _ (by omega)]
theorem encU_at {w:World} {lo hi:Nat} {A:Option Addr} {bs:List Nat} (h:Rw w lo hi 1 A bs.length (encU bs)) {k:Nat} (hk:k<bs.length):∃ b o,A=some ⟨b,o,none⟩∧b<hi∧w.cell? ⟨b,o+k,none⟩=some (.int .u8 (bs[k]:Int)):=by
 obtain ⟨b,o,u,e,h1,h2,h3,h4⟩:=h.at1 hk;refine ⟨b,o,e,h2,?_⟩;rw[h4,←h3];simp[encU,hk]
theorem pick_mod {n:Int} (h:1≤n) {x:Nat}:((x % n.toNat:Nat):Int)=(x:Int) % n:=by
 rw[Int.natCast_emod,Int.toNat_of_nonneg (by omega)]
theorem pick_lt {n:Int} (h:1≤n) {x:Nat}:((x % n.toNat:Nat):Int)<n:=by
 rw[pick_mod h];exact Int.emod_lt_of_pos _ (by omega)
theorem c_pick (g p:Nat) (n:Int) (w:World) (h:Rdr w g p) (hp:p≤1000000) :
  Calls Tryz.prog 91 #[.pointer (some ⟨g,0,none⟩),.int .i64 n] w fun e w'=>∃ m:Nat,e=.returned (.int .i64 (m:Int))∧(m=0∨(m:Int)<n)∧Rdr w' g (p+1)∧Fr g w w':=by
 obtain ⟨A,c,bs,k0,hR,hU,hl⟩:=h;have hpi:(p:Int)≤1000000:=by omega
 have hli:(bs.length:Int)≤2000:=by omega
 have HRD:aJ (Rdr (w.setCell ⟨g,1,none⟩ (.int .i64 ((p:Int)+1))) g (p+1)):=by
  refine ⟨A,c,bs,?_,hR.keep fun b _ hb=>Below.heap_setCell w _ _ b (by simp only;omega),hU,hl⟩;have:=k0.set_ 1 (.int .i64 ((p:Int)+1));simpa using this
 have HFR:aJ (Fr g w (w.setCell ⟨g,1,none⟩ (.int .i64 ((p:Int)+1)))):=(Fr.refl g w).set_ (Or.inl rfl) _;have q0:=k0.cell;have f0:=k0.frozen;have hRR:=ax hR;have HU:=ax hU;clear hR hU hp hl;by_cases hn:n<1
 ·(go_enter Tryz.func91,Tryz.ntmps91);(go_wp2_with fail);go_ret;exact ⟨0,rfl,Or.inl rfl,HRD.o,HFR.o⟩
 ·have hn':1≤n:=by omega
  by_cases he:bs.length=0
  ·have he':((bs.length:Int) == 0)=true:=by simp[he]
   clear he;(go_enter Tryz.func91,Tryz.ntmps91);(go_wp2_with fail);go_ret;exact ⟨0,rfl,Or.inl rfl,HRD.o,HFR.o⟩
  ·have he':((bs.length:Int) == 0)=false:=by simpa using he
   by_cases hlt:p<bs.length
   ·obtain ⟨b,o,rfl,hb,c0⟩:=encU_at hRR.o hlt;have hlti:(p:Int)<(bs.length:Int):=by omega
    have hbv:=HU.o _ (List.getElem_mem hlt);obtain ⟨x,hx⟩:∃ x,x=bs[p]:=⟨_,rfl⟩;rw[←hx] at c0 hbv;have hbl:=block_lt_of_cell c0;have hbg:b≠g:=by omega
    clear hx he;(go_enter Tryz.func91,Tryz.ntmps91);(go_wp2_with fail);go_ret;exact ⟨x % n.toNat,ret_int (pick_mod hn').symm,Or.inr (pick_lt hn'),HRD.o,HFR.o⟩
   ·have hle:(bs.length:Int)≤(p:Int):=by omega
    have hpos:0<bs.length:=by omega
    obtain ⟨b,o,rfl,hb,c0⟩:=encU_at hRR.o (Nat.mod_lt p hpos);obtain ⟨b',o',e',hb',c1⟩:=encU_at hRR.o (Nat.mod_lt (p * 7+3) hpos);injection e' with e';injection e' with e1 e2;subst e1 e2;have hbv:=HU.o _ (List.getElem_mem (Nat.mod_lt p hpos));have hbw:=HU.o _ (List.getElem_mem (Nat.mod_lt (p * 7+3) hpos));obtain ⟨x,hx⟩:∃ x,x=bs[p % bs.length]'(Nat.mod_lt p hpos):=⟨_,rfl⟩;obtain ⟨y,hy⟩:∃ y,y=bs[(p * 7+3) % bs.length]'(Nat.mod_lt (p * 7+3) hpos):=⟨_,rfl⟩;rw[←hx] at c0 hbv;rw[←hy] at c1 hbw;have hbl:=block_lt_of_cell c0;have hbg:b≠g:=by omega
    have hnil:¬bs=[]:=fun e=>by rw[e] at he;exact he rfl
    have t1:(p:Int).tmod (bs.length:Int)=((p % bs.length:Nat):Int):=by rw[Int.tmod_eq_emod_of_nonneg (by omega)];exact (Int.natCast_emod _ _).symm
    have t2:((p:Int) * 7+3).tmod (bs.length:Int)=(((p * 7+3) % bs.length:Nat):Int):=by rw[Int.tmod_eq_emod_of_nonneg (by omega)];exact (Int.natCast_emod _ _).symm
    have t3:(p:Int).tdiv (bs.length:Int)=((p / bs.length:Nat):Int):=by rw[Int.tdiv_eq_ediv_of_nonneg (by omega)];exact (Int.natCast_ediv _ _).symm
    have t4:((p / bs.length:Nat):Int)≤1000000:=by have:=Nat.div_le_self p bs.length;omega
    have l1:((p % bs.length:Nat):Int)<(bs.length:Int):=by have:=Nat.mod_lt p hpos;omega
    have l2:(((p * 7+3) % bs.length:Nat):Int)<(bs.length:Int):=by have:=Nat.mod_lt (p * 7+3) hpos;omega
    obtain ⟨i,hi⟩:∃ i,i=p % bs.length:=⟨_,rfl⟩;obtain ⟨j,hj⟩:∃ j,j=(p * 7+3) % bs.length:=⟨_,rfl⟩;obtain ⟨d,hd⟩:∃ d,d=p / bs.length:=⟨_,rfl⟩;rw[←hi] at c0 t1 l1;rw[←hj] at c1 t2 l2;rw[←hd] at t3 t4;clear hx hy he hlt hi hj hd hpos;(go_enter Tryz.func91,Tryz.ntmps91);(go_wp2_with fail)
    have hX:aJ (bits .xor .i64 ((x:Int) * 131+(y:Int) * 1117+(p:Int) * 29+(d:Int) * 53) (((x:Int) * 131+(y:Int) * 1117+(p:Int) * 29+(d:Int) * 53) / 64)=(((x * 131+y * 1117+p * 29+d * 53) ^^^ ((x * 131+y * 1117+p * 29+d * 53) / 64):Nat):Int)):=by
     have:=i64_xor_nat (x * 131+y * 1117+p * 29+d * 53) ((x * 131+y * 1117+p * 29+d * 53) / 64) (by omega) (by omega);show _=_;rw[←this]
     congr 1
    (go_quiet (fail));(go_wp2_with fail);have hRD:Rdr ((w.setCell ⟨g,1,none⟩ (.int .i64 ((p:Int)+1))).drewN nq) g (p+1):=HRD.o.bz (below_drewN (Below.refl _ _) nq);have hFR:Fr g w ((w.setCell ⟨g,1,none⟩ (.int .i64 ((p:Int)+1))).drewN nq):=HFR.o.go (below_drewN (Below.refl _ _) nq);go_ret;exact ⟨((x * 131+y * 1117+p * 29+d * 53) ^^^ ((x * 131+y * 1117+p * 29+d * 53) / 64)) % n.toNat,ret_int (by rw[hX.o,Int.tmod_eq_emod_of_nonneg (Int.natCast_nonneg _),pick_mod hn']),Or.inr (pick_lt hn'),hRD,hFR⟩
theorem own_row_below {w w' : World} {base : Nat} {e : TypeId} {size : Nat} {v : Value} {n : Nat} {xs : List Value} (h : w.ownsRow base e size v n xs) (hg : w.grownBy w' v.ownBlock) (hb : base ≤ w.heap.size) : Below base w w' :=
  ⟨hg.os, hg.tape, hg.output, hg.size, fun k hk => hg.block k (by omega) (fun e => by have := (h.lt k e.symm).1; omega)⟩
theorem wpList_app {P : Program} {ops : Array Oper} {rest : List Oper} {o : Oper} {a : Act} {Q : Exit → Act → World → Prop} {w : World} (hgd : o.guard = none) (s x : Operand) (t : TypeId)
    (ho : o.op = .call { callee := .builtin .append, args := #[s, x], argTypes := #[t, t] })
    {base : Nat} {e : TypeId} {z : Value} {size bytes : Nat} (ht : P.underlying t = some (.slice e)) (hinfo : (P.info? e).map (fun i => (i.zero, i.size, i.bytes)) = some (some z, size, bytes)) (hzs : z.cells.size = size) (hsz : 0 < size) (hby : bytes ≤ 200)
    {v : Value} {n : Nat} {xs : List Value} (hs : a.eval s = v) (hown : w.ownsRow base e size v n xs)
    (ad : Addr) (news : List Value) (hx : a.eval x = .slice (some ad) 1 1) (hl : news.length = size) (hnews : ∀ j u, news[j]? = some u → w.cell? (ad.add j) = some u) (h1 : ∀ u ∈ news, u.oneCell' = true)
    (hn : n + 1 ≤ 1049600) (hb : base ≤ w.heap.size)
    (h : ∀ g c w', w'.ownsRow base e size (.slice (some ⟨g, 0, none⟩) (n + 1) c) (n + 1) (xs ++ news) → w.grownBy w' v.ownBlock → Below base w w' → wpList P ops Q rest (a.put o.dst (.slice (some ⟨g, 0, none⟩) (n + 1) c)) w') : wpList P ops Q (o :: rest) a w := by
  obtain ⟨i, hi, hz, hsize, hbytes⟩ := info_parts hinfo;refine wpList_append_own w hgd s x t ho base e i z size bytes ht hi hz hsize hbytes hzs hsz v n xs hs hown ad 1 1 news hx (by omega) hnews h1 (by unfold maxLen; omega) (Nat.le_trans (Nat.mul_le_mul hn hby) (by omega)) hb ?_;intro v' w' ho' hg' _;obtain ⟨g, c, rfl, -⟩ := ho'.form (by omega);exact h g c w' ho' hg' (own_row_below hown hg' hb)
theorem cell_box (w : World) (u : Value) (t : TypeId) : (w.alloc (.cells #[u] t)).cell? ⟨w.heap.size, 0, none⟩ = some u := (Blk.new w t #[u]).cell 0
theorem own_empty (w : World) (t : TypeId) (size : Nat) : (w.alloc (.cells #[] t)).ownsRow w.heap.size t size (.slice (some ⟨w.heap.size, 0, none⟩) 0 0) 0 [] :=
  ⟨by simp, .inr ⟨w.heap.size, 0, #[], rfl, Nat.le_refl _, heap_alloc_new w _, Nat.le_refl _, by decide, by simp, by simp⟩⟩
theorem IntsO.empty (w : World) {g : Nat} (hg : g = w.heap.size) : IntsO (w.alloc (.cells #[] tI)) g (.slice (some ⟨g, 0, none⟩) 0 0) [] := by
  subst hg;exact ⟨own_empty w _ _, by simp [Lim]⟩
theorem IntsO.nil (w : World) (base : Nat) : IntsO w base (.slice none 0 0) [] := ⟨World.ownsRow_nil _ _ _ _, by simp [Lim]⟩
theorem IntsO.one (w : World) (n : Int) {base : Nat} (hb : base ≤ w.heap.size) : IntsO (w.alloc (.cells #[.int .i64 n] tI)) base (.slice (some ⟨w.heap.size, 0, none⟩) 1 1) [n] :=
  ⟨own_of_blk (Blk.new w _ _) hb rfl (by intro j hj; obtain rfl : j = 0 := by omega
                                         rfl) (Nat.le_refl _) (by decide) rfl, by simp [Lim]⟩
section
variable {ops : Array Oper} {rest : List Oper} {o : Oper} {a : Act} {Q : Exit → Act → World → Prop} {w : World}
theorem appI (hgd : o.guard = none) (s x : Operand) (ho : o.op = .call { callee := .builtin .append, args := #[s, x], argTypes := #[31, 31] })
    {base : Nat} {v : Value} {xs : List Int} (hs : a.eval s = v) (hown : IntsO w base v xs) (g0 : Nat) (n : Int) (hx : a.eval x = .slice (some ⟨g0, 0, none⟩) 1 1) (hc : w.cell? ⟨g0, 0, none⟩ = some (.int .i64 n))
    (hn : xs.length + 1 ≤ 1049600) (hb : base ≤ w.heap.size)
    (h : ∀ g c w', IntsO w' base (.slice (some ⟨g, 0, none⟩) (xs.length + 1) c) (xs ++ [n]) → w.grownBy w' v.ownBlock → Below base w w' → wpList Tryz.prog ops Q rest (a.put o.dst (.slice (some ⟨g, 0, none⟩) (xs.length + 1) c)) w') : wpList Tryz.prog ops Q (o :: rest) a w := by
  refine wpList_app hgd s x 31 ho Tryz.underlying31 infoI rfl (by decide) (by decide) hs hown.1 ⟨g0, 0, none⟩ [.int .i64 n] hx rfl ?_ (by simp [Value.oneCell']) hn hb ?_
  · intro j u hu
    match j, hu with
    | 0, hu => simp at hu; subst hu; exact hc
  · intro g c w' h1 h2 h3
    exact h g c w' ⟨by simpa [encI] using h1, by simp [Lim]; omega⟩ h2 h3
end
end
end Go.Proofs.YtjaohekkmlkinaaGreat
