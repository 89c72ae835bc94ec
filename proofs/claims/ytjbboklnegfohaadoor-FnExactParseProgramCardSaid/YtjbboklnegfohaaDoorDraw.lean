/- The reader that draws: words, and its own functions. -/
import Derived.Test.YtjbboklnegfohaaDoorMBld
import Derived.Deep.QuietTactic
set_option linter.unusedSimpArgs false
set_option linter.unusedVariables false
namespace Go.Proofs.YtjbboklnegfohaaDoor
open Go Go.RowKit Go.Proofs
structure Fr (g:Nat) (w w':World):Prop where
 os:w'.os=w.os
 tape:w'.tape=w.tape
 output:w'.output=w.output
 size:w.heap.size≤w'.heap.size
 block:∀ k,k<w.heap.size→k≠g→w'.heap[k]? = w.heap[k]?
section
variable {g:Nat} {w a b c:World}
theorem Fr.refl (g:Nat) (w:World):Fr g w w:=⟨rfl,rfl,rfl,Nat.le_refl _,fun _ _ _=>rfl⟩
theorem Fr.trans (h:Fr g a b) (k:Fr g b c):Fr g a c:=
 ⟨k.os.trans h.os,k.tape.trans h.tape,k.output.trans h.output,Nat.le_trans h.size k.size,fun i h1 h2=>(k.block i (Nat.lt_of_lt_of_le h1 h.size) h2).trans (h.block i h1 h2)⟩
theorem Fr.ofBelow (h:Below a.heap.size a b):Fr g a b:=⟨h.os,h.tape,h.output,h.size,fun k h1 _=>h.block k h1⟩
theorem Fr.go (h:Fr g a b) (k:Below b.heap.size b c):Fr g a c:=h.trans (.ofBelow k)
theorem Fr.alloc (h:Fr g a b) (o:Obj):Fr g a (b.alloc o):=h.go (bbox (Below.refl _ _) o)
theorem Fr.drew (h:Fr g a b):Fr g a b.drew:=h.go (Below.refl _ _).drew
theorem Fr.set_ (h:Fr g a b) {p:Addr} (hp:p.block=g∨a.heap.size≤p.block) (u:Value):Fr g a (b.setCell p u):=
 ⟨h.os,h.tape,h.output,by have:=h.size;simp;exact this,fun k h1 h2=>(Below.heap_setCell b p u k (by rcases hp with e|e<;>omega)).trans (h.block k h1 h2)⟩
theorem Fr.below {B:Nat} (h:Fr g a b) (hg:B≤g) (hB:B≤a.heap.size):Below B a b:=⟨h.os,h.tape,h.output,h.size,fun k hk=>h.block k (by omega) (by omega)⟩
theorem Blk.fr {x:Nat} {t:TypeId} {cs:Array Value} (h:Blk a x t cs) (hf:Fr g a b) (hx:x≠g):Blk b x t cs:=(hf.block x h.lt hx).trans h
theorem Rw.fr {lo hi size n:Nat} {A:Option Addr} {xs:List Value} (h:Rw a lo hi size A n xs) (hf:Fr g a b) (hg:g<lo∨hi≤g):Rw b lo hi size A n xs:=
 ⟨h.1,fun hn=>by
  obtain ⟨k,o,e,h1,h2,hc⟩:=h.2 hn
  have h0:=h.1
  have hx:xs[0]? = some (xs[0]'(by omega)):=List.getElem?_eq_getElem (by omega)
  have hlt:k<a.heap.size:=block_lt_of_cell (hc 0 _ hx)
  exact ⟨k,o,e,h1,h2,fun j u hu=>(World.cell?_of_block (a:=⟨k,o+j,none⟩) (hf.block k hlt (by omega))).trans (hc j u hu)⟩⟩
theorem Rd.fr {lo hi size n:Nat} {A:Option Addr} {xs:List Value} (h:Rd a lo hi size A n xs) (hf:Fr g a b) (hg:g<lo∨hi≤g):Rd b lo hi size A n xs:=⟨h.raw.fr hf hg,h.lim⟩
theorem own_fr {base:Nat} {e:TypeId} {size:Nat} {v:Value} {n:Nat} {xs:List Value} (h:a.ownsRow base e size v n xs) (hf:Fr g a b) (hg:g<base):b.ownsRow base e size v n xs:=by
 obtain ⟨h1,h2⟩:=h
 refine ⟨h1,?_⟩
 rcases h2 with h2|⟨k,cap,cur,hv,hk,hh,r⟩
 ·exact Or.inl h2
 ·exact Or.inr ⟨k,cap,cur,hv,hk,(hf.block k (Blk.lt hh) (by omega)).trans hh,r⟩
variable {base:Nat} {v:Value}
theorem FactsO.fr {fs:List Fct} (h:FactsO a base v fs) (hf:Fr g a b) (hg:g<base):FactsO b base v fs:=⟨own_fr h.1 hf hg,h.2⟩
theorem AtomsO.fr {fs:List Atm} (h:AtomsO a base v fs) (hf:Fr g a b) (hg:g<base):AtomsO b base v fs:=⟨own_fr h.1 hf hg,h.2⟩
theorem AsnO.fr {x:Asn} (h:AsnO a base v x) (hf:Fr g a b) (hg:g<base):AsnO b base v x:=by
 obtain ⟨fv,av,e,h1,h2⟩:=h
 exact ⟨fv,av,e,h1.fr hf hg,h2.fr hf hg⟩
end
end Go.Proofs.YtjbboklnegfohaaDoor
