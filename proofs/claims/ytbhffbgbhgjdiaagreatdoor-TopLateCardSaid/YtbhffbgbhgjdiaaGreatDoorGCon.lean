/-
  What the program's types are, one row a type. Conditions: none. More of the kind.
-/
import Derived.Test.YtbhffbgbhgjdiaaGreatDoorGEv
import Derived.Test.YtbhffbgbhgjdiaaGreatDoorRows
set_option linter.unusedSimpArgs false
set_option linter.unusedVariables false
namespace Go.Proofs.YtbhffbgbhgjdiaaGreatDoor
open Go.RowKit
set_option maxRecDepth 100000
set_option linter.defProp false
theorem B14:aty Tryz.prog 2=⟨.int .i64,1,8,[.int .i64 0],[]⟩:=by kernel_rfl
theorem Az5:aty Tryz.prog 3=⟨.int .i64,1,8,[.int .i64 0],[]⟩:=by kernel_rfl
theorem B15:aty Tryz.prog 4=⟨.bool,1,1,[.bool false],[]⟩:=by kernel_rfl
theorem B16:aty Tryz.prog 5=⟨.int .u8,1,1,[.int .u8 0],[]⟩:=by kernel_rfl
theorem B17:aty Tryz.prog 9=⟨.str,1,16,[.string ⟨#[]⟩],[]⟩:=by kernel_rfl
theorem Ayu:aty Tryz.prog 12=⟨.int .u64,1,8,[.int .u64 0],[]⟩:=by kernel_rfl
theorem Ayv:aty Tryz.prog 13=⟨.struct,2,24,[.string ⟨#[]⟩,.int .u64 0],[(0,9),(1,12)]⟩:=by kernel_rfl
theorem Ayw:aty Tryz.prog 21=⟨.int .i32,1,4,[.int .i32 0],[]⟩:=by kernel_rfl
theorem Ayx:aty Tryz.prog 22=⟨.slice 135,1,24,[.slice none 0 0],[]⟩:=by kernel_rfl
theorem Ayy:aty Tryz.prog 23=⟨.slice 95,1,24,[.slice none 0 0],[]⟩:=by kernel_rfl
theorem Ayz:aty Tryz.prog 24=⟨.slice 138,1,24,[.slice none 0 0],[]⟩:=by kernel_rfl
theorem Az0:aty Tryz.prog 25=⟨.struct,14,112,[.int .i64 0,.int .i64 0,.int .i64 0,.int .i64 0,.int .i64 0,.int .i64 0,.int .i64 0,.int .i64 0,.int .i64 0,.int .i64 0,.int .i64 0,.int .i64 0,.int .i64 0,.int .i64 0],[(0,3),(1,3),(2,3),(3,3),(4,3),(5,3),(6,3),(7,3),(8,3),(9,3),(10,3),(11,3),(12,3),(13,3)]⟩:=by kernel_rfl
theorem Az1:aty Tryz.prog 26=⟨.struct,14,112,[.int .i64 0,.int .i64 0,.int .i64 0,.int .i64 0,.int .i64 0,.int .i64 0,.int .i64 0,.int .i64 0,.int .i64 0,.int .i64 0,.int .i64 0,.int .i64 0,.int .i64 0,.int .i64 0],[(0,3),(1,3),(2,3),(3,3),(4,3),(5,3),(6,3),(7,3),(8,3),(9,3),(10,3),(11,3),(12,3),(13,3)]⟩:=by kernel_rfl
theorem Az2:aty Tryz.prog 27=⟨.slice 72,1,24,[.slice none 0 0],[]⟩:=by kernel_rfl
theorem Az3:aty Tryz.prog 28=⟨.slice 59,1,24,[.slice none 0 0],[]⟩:=by kernel_rfl
theorem Az4:aty Tryz.prog 29=⟨.slice 39,1,24,[.slice none 0 0],[]⟩:=by kernel_rfl
theorem Az6:aty Tryz.prog 30=⟨.slice 142,1,24,[.slice none 0 0],[]⟩:=by kernel_rfl
theorem Az7:aty Tryz.prog 31=⟨.slice 145,1,24,[.slice none 0 0],[]⟩:=by kernel_rfl
theorem Az8:aty Tryz.prog 32=⟨.struct,22,304,[.slice none 0 0,.slice none 0 0,.slice none 0 0,.int .i64 0,.int .i64 0,.int .i64 0,.int .i64 0,.int .i64 0,.int .i64 0,.int .i64 0,.int .i64 0,.int .i64 0,.int .i64 0,.int .i64 0,.int .i64 0,.int .i64 0,.int .i64 0,.slice none 0 0,.slice none 0 0,.slice none 0 0,.slice none 0 0,.slice none 0 0],[(0,22),(1,23),(2,24),(3,26),(17,27),(18,28),(19,29),(20,30),(21,31)]⟩:=by kernel_rfl
theorem Az9:aty Tryz.prog 33=⟨.struct,22,304,[.slice none 0 0,.slice none 0 0,.slice none 0 0,.int .i64 0,.int .i64 0,.int .i64 0,.int .i64 0,.int .i64 0,.int .i64 0,.int .i64 0,.int .i64 0,.int .i64 0,.int .i64 0,.int .i64 0,.int .i64 0,.int .i64 0,.int .i64 0,.slice none 0 0,.slice none 0 0,.slice none 0 0,.slice none 0 0,.slice none 0 0],[(0,22),(1,23),(2,24),(3,26),(17,27),(18,28),(19,29),(20,30),(21,31)]⟩:=by kernel_rfl
theorem Aza:aty Tryz.prog 36=⟨.slice 103,1,24,[.slice none 0 0],[]⟩:=by kernel_rfl
theorem Azb:aty Tryz.prog 37=⟨.int .u64,1,8,[.int .u64 0],[]⟩:=by kernel_rfl
theorem Azc:aty Tryz.prog 38=⟨.struct,10,112,[.int .i64 0,.int .i64 0,.int .i64 0,.int .i64 0,.int .i64 0,.int .i64 0,.string ⟨#[]⟩,.string ⟨#[]⟩,.slice none 0 0,.int .u64 0],[(0,3),(1,3),(2,3),(3,3),(4,3),(5,3),(6,9),(7,9),(8,36),(9,37)]⟩:=by kernel_rfl
theorem Azd:aty Tryz.prog 39=⟨.struct,10,112,[.int .i64 0,.int .i64 0,.int .i64 0,.int .i64 0,.int .i64 0,.int .i64 0,.string ⟨#[]⟩,.string ⟨#[]⟩,.slice none 0 0,.int .u64 0],[(0,3),(1,3),(2,3),(3,3),(4,3),(5,3),(6,9),(7,9),(8,36),(9,37)]⟩:=by kernel_rfl
theorem Aze:aty Tryz.prog 40=⟨.slice 52,1,24,[.slice none 0 0],[]⟩:=by kernel_rfl
theorem Azf:aty Tryz.prog 41=⟨.int .i64,1,8,[.int .i64 0],[]⟩:=by kernel_rfl
theorem Azg:aty Tryz.prog 49=⟨.struct,2,16,[.int .i64 0,.int .u64 0],[(0,3),(1,37)]⟩:=by kernel_rfl
theorem Azh:aty Tryz.prog 50=⟨.struct,2,16,[.int .i64 0,.int .u64 0],[(0,3),(1,37)]⟩:=by kernel_rfl
theorem Azi:aty Tryz.prog 51=⟨.struct,11,88,[.int .i64 0,.int .i64 0,.int .i64 0,.int .i64 0,.int .i64 0,.int .i64 0,.int .i64 0,.int .i64 0,.int .u64 0,.int .i64 0,.int .u64 0],[(0,3),(1,3),(2,3),(3,3),(4,3),(5,3),(6,3),(7,50),(9,50)]⟩:=by kernel_rfl
theorem Azj:aty Tryz.prog 52=⟨.struct,11,88,[.int .i64 0,.int .i64 0,.int .i64 0,.int .i64 0,.int .i64 0,.int .i64 0,.int .i64 0,.int .i64 0,.int .u64 0,.int .i64 0,.int .u64 0],[(0,3),(1,3),(2,3),(3,3),(4,3),(5,3),(6,3),(7,50),(9,50)]⟩:=by kernel_rfl
theorem Azk:aty Tryz.prog 58=⟨.struct,7,80,[.int .i64 0,.int .i64 0,.int .i64 0,.int .i64 0,.string ⟨#[]⟩,.string ⟨#[]⟩,.string ⟨#[]⟩],[(0,3),(1,3),(2,3),(3,3),(4,9),(5,9),(6,9)]⟩:=by kernel_rfl
theorem Azl:aty Tryz.prog 59=⟨.struct,7,80,[.int .i64 0,.int .i64 0,.int .i64 0,.int .i64 0,.string ⟨#[]⟩,.string ⟨#[]⟩,.string ⟨#[]⟩],[(0,3),(1,3),(2,3),(3,3),(4,9),(5,9),(6,9)]⟩:=by kernel_rfl
theorem Azm:aty Tryz.prog 66=⟨.slice 169,1,24,[.slice none 0 0],[]⟩:=by kernel_rfl
theorem Azn:aty Tryz.prog 67=⟨.struct,5,56,[.slice none 0 0,.bool false,.int .i64 0,.int .i64 0,.bool false],[(0,66),(1,4),(2,3),(3,3),(4,4)]⟩:=by kernel_rfl
theorem Azo:aty Tryz.prog 68=⟨.struct,5,56,[.slice none 0 0,.bool false,.int .i64 0,.int .i64 0,.bool false],[(0,66),(1,4),(2,3),(3,3),(4,4)]⟩:=by kernel_rfl
theorem Azp:aty Tryz.prog 69=⟨.slice 210,1,24,[.slice none 0 0],[]⟩:=by kernel_rfl
theorem Azq:aty Tryz.prog 70=⟨.slice 215,1,24,[.slice none 0 0],[]⟩:=by kernel_rfl
theorem Azr:aty Tryz.prog 71=⟨.struct,19,240,[.string ⟨#[]⟩,.string ⟨#[]⟩,.string ⟨#[]⟩,.int .i64 0,.int .i64 0,.int .i64 0,.int .i64 0,.slice none 0 0,.bool false,.int .i64 0,.int .i64 0,.bool false,.slice none 0 0,.bool false,.int .i64 0,.int .i64 0,.bool false,.slice none 0 0,.slice none 0 0],[(0,9),(1,9),(2,9),(3,3),(4,3),(5,3),(6,3),(7,68),(12,68),(17,69),(18,70)]⟩:=by kernel_rfl
theorem Azs:aty Tryz.prog 72=⟨.struct,19,240,[.string ⟨#[]⟩,.string ⟨#[]⟩,.string ⟨#[]⟩,.int .i64 0,.int .i64 0,.int .i64 0,.int .i64 0,.slice none 0 0,.bool false,.int .i64 0,.int .i64 0,.bool false,.slice none 0 0,.bool false,.int .i64 0,.int .i64 0,.bool false,.slice none 0 0,.slice none 0 0],[(0,9),(1,9),(2,9),(3,3),(4,3),(5,3),(6,3),(7,68),(12,68),(17,69),(18,70)]⟩:=by kernel_rfl
theorem Azt:aty Tryz.prog 85=⟨.slice 3,1,24,[.slice none 0 0],[]⟩:=by kernel_rfl
theorem Azu:aty Tryz.prog 94=⟨.struct,3,64,[.string ⟨#[]⟩,.slice none 0 0,.slice none 0 0],[(0,9),(1,85),(2,85)]⟩:=by kernel_rfl
theorem Azv:aty Tryz.prog 95=⟨.struct,3,64,[.string ⟨#[]⟩,.slice none 0 0,.slice none 0 0],[(0,9),(1,85),(2,85)]⟩:=by kernel_rfl
theorem Arx:aty Tryz.prog 102=⟨.struct,3,32,[.int .i64 0,.int .i64 0,.string ⟨#[]⟩],[(0,3),(1,3),(2,9)]⟩:=by kernel_rfl
theorem Ary:aty Tryz.prog 103=⟨.struct,3,32,[.int .i64 0,.int .i64 0,.string ⟨#[]⟩],[(0,3),(1,3),(2,9)]⟩:=by kernel_rfl
theorem Arz:aty Tryz.prog 119=⟨.slice 122,1,24,[.slice none 0 0],[]⟩:=by kernel_rfl
theorem As0:aty Tryz.prog 121=⟨.struct,2,24,[.string ⟨#[]⟩,.int .i64 0],[(0,9),(1,3)]⟩:=by kernel_rfl
theorem As1:aty Tryz.prog 122=⟨.struct,2,24,[.string ⟨#[]⟩,.int .i64 0],[(0,9),(1,3)]⟩:=by kernel_rfl
theorem As2:aty Tryz.prog 134=⟨.struct,2,24,[.string ⟨#[]⟩,.int .i64 0],[(0,9),(1,3)]⟩:=by kernel_rfl
theorem As3:aty Tryz.prog 135=⟨.struct,2,24,[.string ⟨#[]⟩,.int .i64 0],[(0,9),(1,3)]⟩:=by kernel_rfl
theorem As4:aty Tryz.prog 137=⟨.struct,4,40,[.int .i64 0,.int .i64 0,.int .i64 0,.string ⟨#[]⟩],[(0,3),(1,3),(2,3),(3,9)]⟩:=by kernel_rfl
theorem As5:aty Tryz.prog 138=⟨.struct,4,40,[.int .i64 0,.int .i64 0,.int .i64 0,.string ⟨#[]⟩],[(0,3),(1,3),(2,3),(3,9)]⟩:=by kernel_rfl
theorem As6:aty Tryz.prog 141=⟨.struct,6,56,[.int .i64 0,.int .i64 0,.int .i64 0,.int .i64 0,.int .i64 0,.string ⟨#[]⟩],[(0,3),(1,3),(2,3),(3,3),(4,3),(5,9)]⟩:=by kernel_rfl
theorem As7:aty Tryz.prog 142=⟨.struct,6,56,[.int .i64 0,.int .i64 0,.int .i64 0,.int .i64 0,.int .i64 0,.string ⟨#[]⟩],[(0,3),(1,3),(2,3),(3,3),(4,3),(5,9)]⟩:=by kernel_rfl
theorem As8:aty Tryz.prog 144=⟨.struct,7,64,[.int .i64 0,.int .i64 0,.int .i64 0,.int .i64 0,.int .i64 0,.int .i64 0,.string ⟨#[]⟩],[(0,3),(1,3),(2,3),(3,3),(4,3),(5,3),(6,9)]⟩:=by kernel_rfl
theorem As9:aty Tryz.prog 145=⟨.struct,7,64,[.int .i64 0,.int .i64 0,.int .i64 0,.int .i64 0,.int .i64 0,.int .i64 0,.string ⟨#[]⟩],[(0,3),(1,3),(2,3),(3,3),(4,3),(5,3),(6,9)]⟩:=by kernel_rfl
theorem Asa:aty Tryz.prog 151=⟨.struct,2,16,[.int .i64 0,.int .i64 0],[(0,3),(1,3)]⟩:=by kernel_rfl
theorem Asb:aty Tryz.prog 152=⟨.struct,2,16,[.int .i64 0,.int .i64 0],[(0,3),(1,3)]⟩:=by kernel_rfl
theorem Asc:aty Tryz.prog 168=⟨.struct,2,16,[.int .i64 0,.int .i64 0],[(0,3),(1,3)]⟩:=by kernel_rfl
theorem Asd:aty Tryz.prog 169=⟨.struct,2,16,[.int .i64 0,.int .i64 0],[(0,3),(1,3)]⟩:=by kernel_rfl
theorem Ase:aty Tryz.prog 172=⟨.slice 234,1,24,[.slice none 0 0],[]⟩:=by kernel_rfl
theorem Asf:aty Tryz.prog 175=⟨.struct,4,32,[.int .i64 0,.int .u64 0,.int .i64 0,.int .u64 0],[(0,50),(2,50)]⟩:=by kernel_rfl
theorem Asg:aty Tryz.prog 176=⟨.struct,4,32,[.int .i64 0,.int .u64 0,.int .i64 0,.int .u64 0],[(0,50),(2,50)]⟩:=by kernel_rfl
theorem Ash:aty Tryz.prog 206=⟨.slice 208,1,24,[.slice none 0 0],[]⟩:=by kernel_rfl
theorem Asi:aty Tryz.prog 207=⟨.struct,4,56,[.int .i64 0,.int .i64 0,.string ⟨#[]⟩,.slice none 0 0],[(0,3),(1,3),(2,9),(3,206)]⟩:=by kernel_rfl
theorem Asj:aty Tryz.prog 208=⟨.struct,4,56,[.int .i64 0,.int .i64 0,.string ⟨#[]⟩,.slice none 0 0],[(0,3),(1,3),(2,9),(3,206)]⟩:=by kernel_rfl
theorem Asl:aty Tryz.prog 209=⟨.struct,10,136,[.string ⟨#[]⟩,.int .i64 0,.int .i64 0,.int .i64 0,.string ⟨#[]⟩,.slice none 0 0,.int .i64 0,.int .i64 0,.string ⟨#[]⟩,.slice none 0 0],[(0,9),(1,3),(2,208),(6,208)]⟩:=by kernel_rfl
theorem Asm:aty Tryz.prog 210=⟨.struct,10,136,[.string ⟨#[]⟩,.int .i64 0,.int .i64 0,.int .i64 0,.string ⟨#[]⟩,.slice none 0 0,.int .i64 0,.int .i64 0,.string ⟨#[]⟩,.slice none 0 0],[(0,9),(1,3),(2,208),(6,208)]⟩:=by kernel_rfl
theorem Asn:aty Tryz.prog 214=⟨.struct,6,80,[.string ⟨#[]⟩,.int .i64 0,.int .i64 0,.int .i64 0,.string ⟨#[]⟩,.slice none 0 0],[(0,9),(1,3),(2,208)]⟩:=by kernel_rfl
theorem Aso:aty Tryz.prog 215=⟨.struct,6,80,[.string ⟨#[]⟩,.int .i64 0,.int .i64 0,.int .i64 0,.string ⟨#[]⟩,.slice none 0 0],[(0,9),(1,3),(2,208)]⟩:=by kernel_rfl
theorem Asp:aty Tryz.prog 233=⟨.struct,7,56,[.int .i64 0,.int .i64 0,.int .i64 0,.int .i64 0,.int .u64 0,.int .i64 0,.int .u64 0],[(0,3),(1,3),(2,3),(3,50),(5,50)]⟩:=by kernel_rfl
theorem Asq:aty Tryz.prog 234=⟨.struct,7,56,[.int .i64 0,.int .i64 0,.int .i64 0,.int .i64 0,.int .u64 0,.int .i64 0,.int .u64 0],[(0,3),(1,3),(2,3),(3,50),(5,50)]⟩:=by kernel_rfl
theorem A2x:aty Tryz.prog 241=⟨.arr 13 3,13,104,[.int .i64 0,.int .i64 0,.int .i64 0,.int .i64 0,.int .i64 0,.int .i64 0,.int .i64 0,.int .i64 0,.int .i64 0,.int .i64 0,.int .i64 0,.int .i64 0,.int .i64 0],[]⟩:=by kernel_rfl
theorem Asr:aty Tryz.prog 242=⟨.int .u64,1,8,[.int .u64 0],[]⟩:=by kernel_rfl
theorem Ass:aty Tryz.prog 258=⟨.slice 262,1,24,[.slice none 0 0],[]⟩:=by kernel_rfl
theorem Ast:aty Tryz.prog 261=⟨.struct,2,16,[.int .i64 0,.int .i64 0],[(0,3),(1,3)]⟩:=by kernel_rfl
theorem Asu:aty Tryz.prog 262=⟨.struct,2,16,[.int .i64 0,.int .i64 0],[(0,3),(1,3)]⟩:=by kernel_rfl
theorem Asv:aty Tryz.prog 265=⟨.slice 311,1,24,[.slice none 0 0],[]⟩:=by kernel_rfl
theorem Asw:aty Tryz.prog 267=⟨.struct,1,8,[.nilFunc],[(0,113)]⟩:=by kernel_rfl
theorem Asx:aty Tryz.prog 268=⟨.struct,1,8,[.nilFunc],[(0,113)]⟩:=by kernel_rfl
theorem Asy:aty Tryz.prog 273=⟨.slice 9,1,24,[.slice none 0 0],[]⟩:=by kernel_rfl
theorem Asz:aty Tryz.prog 275=⟨.arr 6 3,6,48,[.int .i64 0,.int .i64 0,.int .i64 0,.int .i64 0,.int .i64 0,.int .i64 0],[]⟩:=by kernel_rfl
theorem At0:aty Tryz.prog 297=⟨.struct,1,8,[.int .i64 0],[(0,3)]⟩:=by kernel_rfl
theorem At1:aty Tryz.prog 298=⟨.struct,1,8,[.int .i64 0],[(0,3)]⟩:=by kernel_rfl
theorem At2:aty Tryz.prog 309=⟨.arr 4 9,4,64,[.string ⟨#[]⟩,.string ⟨#[]⟩,.string ⟨#[]⟩,.string ⟨#[]⟩],[]⟩:=by kernel_rfl
theorem At3:aty Tryz.prog 310=⟨.struct,2,24,[.string ⟨#[]⟩,.int .i64 0],[(0,9),(1,3)]⟩:=by kernel_rfl
theorem At4:aty Tryz.prog 311=⟨.struct,2,24,[.string ⟨#[]⟩,.int .i64 0],[(0,9),(1,3)]⟩:=by kernel_rfl
theorem At5:aty Tryz.prog 312=⟨.arr 2 9,2,32,[.string ⟨#[]⟩,.string ⟨#[]⟩],[]⟩:=by kernel_rfl
theorem At6:aty Tryz.prog 313=⟨.slice 5,1,24,[.slice none 0 0],[]⟩:=by kernel_rfl
theorem At7:aty Tryz.prog 315=⟨.arr 24 5,24,24,[.int .u8 0,.int .u8 0,.int .u8 0,.int .u8 0,.int .u8 0,.int .u8 0,.int .u8 0,.int .u8 0,.int .u8 0,.int .u8 0,.int .u8 0,.int .u8 0,.int .u8 0,.int .u8 0,.int .u8 0,.int .u8 0,.int .u8 0,.int .u8 0,.int .u8 0,.int .u8 0,.int .u8 0,.int .u8 0,.int .u8 0,.int .u8 0],[]⟩:=by kernel_rfl
theorem At8:aty Tryz.prog 324=⟨.slice 350,1,24,[.slice none 0 0],[]⟩:=by kernel_rfl
theorem At9:aty Tryz.prog 327=⟨.struct,2,16,[.int .u64 0,.int .u64 0],[(0,37),(1,37)]⟩:=by kernel_rfl
theorem Ata:aty Tryz.prog 328=⟨.struct,2,16,[.int .u64 0,.int .u64 0],[(0,37),(1,37)]⟩:=by kernel_rfl
theorem Atb:aty Tryz.prog 335=⟨.struct,2,16,[.int .i64 0,.int .i64 0],[(0,3),(1,3)]⟩:=by kernel_rfl
theorem Atc:aty Tryz.prog 336=⟨.struct,2,16,[.int .i64 0,.int .i64 0],[(0,3),(1,3)]⟩:=by kernel_rfl
theorem Atd:aty Tryz.prog 337=⟨.arr 5 336,10,80,[.int .i64 0,.int .i64 0,.int .i64 0,.int .i64 0,.int .i64 0,.int .i64 0,.int .i64 0,.int .i64 0,.int .i64 0,.int .i64 0],[]⟩:=by kernel_rfl
theorem Ate:aty Tryz.prog 344=⟨.arr 20 37,20,160,[.int .u64 0,.int .u64 0,.int .u64 0,.int .u64 0,.int .u64 0,.int .u64 0,.int .u64 0,.int .u64 0,.int .u64 0,.int .u64 0,.int .u64 0,.int .u64 0,.int .u64 0,.int .u64 0,.int .u64 0,.int .u64 0,.int .u64 0,.int .u64 0,.int .u64 0,.int .u64 0],[]⟩:=by kernel_rfl
theorem Atf:aty Tryz.prog 345=⟨.int .u32,1,4,[.int .u32 0],[]⟩:=by kernel_rfl
theorem Atg:aty Tryz.prog 349=⟨.struct,2,16,[.int .i64 0,.int .i64 0],[(0,3),(1,3)]⟩:=by kernel_rfl
theorem Ath:aty Tryz.prog 350=⟨.struct,2,16,[.int .i64 0,.int .i64 0],[(0,3),(1,3)]⟩:=by kernel_rfl
theorem Ati:aty Tryz.prog 367=⟨.iface,1,16,[.nilIface],[]⟩:=by kernel_rfl
theorem Atj:aty Tryz.prog 373=⟨.arr 32 5,32,32,[.int .u8 0,.int .u8 0,.int .u8 0,.int .u8 0,.int .u8 0,.int .u8 0,.int .u8 0,.int .u8 0,.int .u8 0,.int .u8 0,.int .u8 0,.int .u8 0,.int .u8 0,.int .u8 0,.int .u8 0,.int .u8 0,.int .u8 0,.int .u8 0,.int .u8 0,.int .u8 0,.int .u8 0,.int .u8 0,.int .u8 0,.int .u8 0,.int .u8 0,.int .u8 0,.int .u8 0,.int .u8 0,.int .u8 0,.int .u8 0,.int .u8 0,.int .u8 0],[]⟩:=by kernel_rfl
theorem Atk:aty Tryz.prog 378=⟨.slice 382,1,24,[.slice none 0 0],[]⟩:=by kernel_rfl
theorem Atl:aty Tryz.prog 381=⟨.struct,3,32,[.int .i64 0,.int .i64 0,.string ⟨#[]⟩],[(0,3),(1,3),(2,9)]⟩:=by kernel_rfl
theorem Atm:aty Tryz.prog 382=⟨.struct,3,32,[.int .i64 0,.int .i64 0,.string ⟨#[]⟩],[(0,3),(1,3),(2,9)]⟩:=by kernel_rfl
theorem Atn:aty Tryz.prog 383=⟨.other,1,8,[.map none],[]⟩:=by kernel_rfl
theorem Ato:aty Tryz.prog 385=⟨.struct,3,24,[.int .i64 0,.int .i64 0,.int .i64 0],[(0,3),(1,3),(2,3)]⟩:=by kernel_rfl
theorem Atp:aty Tryz.prog 386=⟨.struct,3,24,[.int .i64 0,.int .i64 0,.int .i64 0],[(0,3),(1,3),(2,3)]⟩:=by kernel_rfl
theorem Atq:aty Tryz.prog 390=⟨.arr 2 3,2,16,[.int .i64 0,.int .i64 0],[]⟩:=by kernel_rfl
theorem Atr:aty Tryz.prog 391=⟨.arr 3 3,3,24,[.int .i64 0,.int .i64 0,.int .i64 0],[]⟩:=by kernel_rfl
theorem Ats:aty Tryz.prog 412=⟨.int .i64,1,8,[.int .i64 0],[]⟩:=by kernel_rfl
theorem Att:aty Tryz.prog 415=⟨.ptr 426,1,8,[.pointer none],[]⟩:=by kernel_rfl
theorem Atu:aty Tryz.prog 418=⟨.slice 420,1,24,[.slice none 0 0],[]⟩:=by kernel_rfl
theorem Atv:aty Tryz.prog 419=⟨.struct,2,16,[.int .i64 0,.int .i64 0],[(0,3),(1,3)]⟩:=by kernel_rfl
theorem Atw:aty Tryz.prog 420=⟨.struct,2,16,[.int .i64 0,.int .i64 0],[(0,3),(1,3)]⟩:=by kernel_rfl
theorem Atx:aty Tryz.prog 422=⟨.ptr 431,1,8,[.pointer none],[]⟩:=by kernel_rfl
theorem Aty:aty Tryz.prog 425=⟨.struct,3,48,[.string ⟨#[]⟩,.string ⟨#[]⟩,.nilIface],[(0,9),(1,9),(2,367)]⟩:=by kernel_rfl
theorem Atz:aty Tryz.prog 426=⟨.struct,3,48,[.string ⟨#[]⟩,.string ⟨#[]⟩,.nilIface],[(0,9),(1,9),(2,367)]⟩:=by kernel_rfl
theorem Au0:aty Tryz.prog 428=⟨.slice 434,1,24,[.slice none 0 0],[]⟩:=by kernel_rfl
theorem Au1:aty Tryz.prog 429=⟨.slice 437,1,24,[.slice none 0 0],[]⟩:=by kernel_rfl
theorem Au2:aty Tryz.prog 430=⟨.struct,3,56,[.slice none 0 0,.slice none 0 0,.int .i64 0],[(0,428),(1,429),(2,3)]⟩:=by kernel_rfl
theorem Au3:aty Tryz.prog 431=⟨.struct,3,56,[.slice none 0 0,.slice none 0 0,.int .i64 0],[(0,428),(1,429),(2,3)]⟩:=by kernel_rfl
theorem Au4:aty Tryz.prog 432=⟨.int .u16,1,2,[.int .u16 0],[]⟩:=by kernel_rfl
theorem Au5:aty Tryz.prog 433=⟨.struct,3,6,[.int .u16 0,.int .u16 0,.int .u16 0],[(0,432),(1,432),(2,432)]⟩:=by kernel_rfl
theorem Au6:aty Tryz.prog 434=⟨.struct,3,6,[.int .u16 0,.int .u16 0,.int .u16 0],[(0,432),(1,432),(2,432)]⟩:=by kernel_rfl
theorem Au7:aty Tryz.prog 436=⟨.struct,3,12,[.int .u32 0,.int .u32 0,.int .u32 0],[(0,345),(1,345),(2,345)]⟩:=by kernel_rfl
theorem Au8:aty Tryz.prog 437=⟨.struct,3,12,[.int .u32 0,.int .u32 0,.int .u32 0],[(0,345),(1,345),(2,345)]⟩:=by kernel_rfl
theorem Au9:aty Tryz.prog 439=⟨.ptr 5,1,8,[.pointer none],[]⟩:=by kernel_rfl
theorem Aua:aty Tryz.prog 440=⟨.ptr 442,1,8,[.pointer none],[]⟩:=by kernel_rfl
theorem Aub:aty Tryz.prog 441=⟨.struct,1,16,[.string ⟨#[]⟩],[(0,9)]⟩:=by kernel_rfl
theorem Auc:aty Tryz.prog 442=⟨.struct,1,16,[.string ⟨#[]⟩],[(0,9)]⟩:=by kernel_rfl
theorem Aud:aty Tryz.prog 443=⟨.ptr 434,1,8,[.pointer none],[]⟩:=by kernel_rfl
theorem Aue:aty Tryz.prog 444=⟨.ptr 437,1,8,[.pointer none],[]⟩:=by kernel_rfl
def tyb:=And.intro B14 (And.intro Az5 (And.intro B15 (And.intro B16 (And.intro B17 (And.intro Ayu (And.intro Ayv (And.intro Ayw (And.intro Ayx (And.intro Ayy (And.intro Ayz (And.intro Az0 (And.intro Az1 (And.intro Az2 (And.intro Az3 (And.intro Az4 (And.intro Az6 (And.intro Az7 (And.intro Az8 (And.intro Az9 (And.intro Aza (And.intro Azb (And.intro Azc (And.intro Azd (And.intro Aze (And.intro Azf (And.intro Azg (And.intro Azh (And.intro Azi (And.intro Azj (And.intro Azk (And.intro Azl (And.intro Azm (And.intro Azn (And.intro Azo (And.intro Azp (And.intro Azq (And.intro Azr (And.intro Azs (And.intro Azt (And.intro Azu (And.intro Azv (And.intro Arx (And.intro Ary (And.intro Arz (And.intro As0 (And.intro As1 (And.intro As2 (And.intro As3 (And.intro As4 (And.intro As5 (And.intro As6 (And.intro As7 (And.intro As8 (And.intro As9 (And.intro Asa (And.intro Asb (And.intro Asc (And.intro Asd (And.intro Ase (And.intro Asf (And.intro Asg (And.intro Ash (And.intro Asi (And.intro Asj (And.intro Asl (And.intro Asm (And.intro Asn (And.intro Aso (And.intro Asp (And.intro Asq (And.intro A2x (And.intro Asr (And.intro Ass (And.intro Ast (And.intro Asu (And.intro Asv (And.intro Asw (And.intro Asx (And.intro Asy (And.intro Asz (And.intro At0 (And.intro At1 (And.intro At2 (And.intro At3 (And.intro At4 (And.intro At5 (And.intro At6 (And.intro At7 (And.intro At8 (And.intro At9 (And.intro Ata (And.intro Atb (And.intro Atc (And.intro Atd (And.intro Ate (And.intro Atf (And.intro Atg (And.intro Ath (And.intro Ati (And.intro Atj (And.intro Atk (And.intro Atl (And.intro Atm (And.intro Atn (And.intro Ato (And.intro Atp (And.intro Atq (And.intro Atr (And.intro Ats (And.intro Att (And.intro Atu (And.intro Atv (And.intro Atw (And.intro Atx (And.intro Aty (And.intro Atz (And.intro Au0 (And.intro Au1 (And.intro Au2 (And.intro Au3 (And.intro Au4 (And.intro Au5 (And.intro Au6 (And.intro Au7 (And.intro Au8 (And.intro Au9 (And.intro Aua (And.intro Aub (And.intro Auc (And.intro Aud (Aue)))))))))))))))))))))))))))))))))))))))))))))))))))))))))))))))))))))))))))))))))))))))))))))))))))))))))))))))))))))))))))))))))))
def sx:=And.intro sx0 (And.intro sx1 (And.intro sx2 (And.intro sx3 (And.intro sx4 (And.intro sx5 (And.intro sx6 (And.intro sx7 (And.intro sx8 (tyb)))))))))
end Go.Proofs.YtbhffbgbhgjdiaaGreatDoor
namespace Go.Proofs.YtbhffbgbhgjdiaaGreatDoor
open Go.RowKit
set_option maxRecDepth 100000
section
variable{P:Program}{C:World→Prop}{M:Nat→Prop}{w:World}
theorem Vr:∀ {vs args:List Value},RepL Bb M w (vs.map .ex) args→args=vs
 | [],_,h=>by simpa [RepL] using h
 | v :: vs,_,h=>by
  simp only[List.map_cons,RepL] at h
  obtain⟨x,xs,rfl,h1,h2⟩:=h
  simp only[Rep] at h1
  rw[h1.1,Vr h2]
theorem A10{f:Nat}{vs:List Value}{r:Value}(hc:Cw P f)(hr:r.oneCell'=true)(h:∀ w,C w→Calls P f vs.toArray w fun e w'=>e=.returned r∧Below w.heap.size w w'):Con P C f (vs.map .ex) (.val (.ex r)):=by
 refine⟨hc,fun M w args _ hw ha=>?_⟩
 rw[Vr ha]
 refine (h w hw).mono ?_
 rintro e w' ⟨rfl,hb⟩
 exact⟨r,rfl,Aq r hr,hb⟩
def texts(l:List ByteArray):List (List AV):=l.map fun s=>[.ex (.string s)]
theorem Zk{sz:Nat}:∀ {l:List ByteArray} {vs:List Value},RepLL Bb M w sz (texts l) vs→vs=l.map .string
 | [],_,h=>by simpa [texts,RepLL] using h
 | s :: l,_,h=>by
  simp only[texts,List.map_cons,RepLL] at h
  obtain⟨x,y,rfl,_,_,h1,h2⟩:=h
  have h3:=Zk (l:=l) h2
  simp only[RepL] at h1
  obtain⟨v,vs',rfl,h4,rfl⟩:=h1
  simp only[Rep] at h4
  rw[h3,h4.1]
  rfl
theorem A6o{f:Nat}{l:List ByteArray}{r:Value}(hc:Cw P f)(hr:r.oneCell'=true)(h:∀ A c w,C w→Reads w w.heap.size 1 A l.length (l.map .string)→c≤maxLen→l.length≤c→True→Calls P f #[.slice A l.length c] w fun e w'=>e=.returned r∧Below w.heap.size w w'):Con P C f [.sl (texts l)] (.val (.ex r)):=by
 refine⟨hc,fun M w args _ hw ha=>?_⟩
 simp only[RepL] at ha
 obtain⟨v,vs',rfl,h1,rfl⟩:=ha
 simp only[Rep] at h1
 have hl:(texts l).length=l.length:=by simp [texts]
 obtain⟨A,c,rfl,h2,h3,h4,h5⟩:=h1
 rw[hl] at h2 ⊢
 refine (h A c w hw ⟨by simp,fun hn=>?_⟩ h3 h2 h4).mono ?_
 ·obtain⟨b,o,sz,vs,rfl,_,h6,h7,h8⟩:=h5 (by intro e;rw[e] at hl;simp at hl;omega)
  rw[Zk h8] at h7
  exact⟨b,o,rfl,h6,h7⟩
 ·rintro e w' ⟨rfl,hb⟩
  exact⟨r,rfl,Aq r hr,hb⟩
end
end Go.Proofs.YtbhffbgbhgjdiaaGreatDoor
namespace Go.Proofs.YtbhffbgbhgjdiaaGreatDoor
open Go.RowKit
set_option maxRecDepth 100000
section
variable{P:Program}{C:World→Prop}{hp:Nat→Option A4}{k:AV→Eff→Prop}{id:Nat}
theorem Ub{f b e:Nat}{β:A4}{es es':List (List AV)}{rest us:List AV}{ids:List Nat}(h1:hp b=some β)(h0:β=⟨e,es,true⟩)(h2:(es.all (·.all p0))=true)(h3:cls hp rest=some (us,ids))(h4:b ∉ ids)(h5:(es'.all (·.all Dt))=true)(hz:es.map (·.map z0)=es)(h6:Nr P C f e es us es')(h7:k (.own id) (.grow b ⟨e,es',true⟩)):B8 P C id f hp (.own b :: rest) k :=
 A0t (by rw[h1,h0]) h2 h3 h4 h5 (by rw[hz];exact h6) h7
end
end Go.Proofs.YtbhffbgbhgjdiaaGreatDoor
namespace Go.Proofs.YtbhffbgbhgjdiaaGreatDoor
open Go.RowKit
set_option maxRecDepth 100000
theorem Ai0{P:Program}{σ:AS}{kk:AV→Prop}{rs:Array ResultVar}{x ty t b j:Nat}{β:A4}{e:List AV}{v:AV}{us:List AV}{ids:List Nat}(hrs:rs=#[.cell x ty,.tmp t])(h1:σ.tm x=.pt b j 0)(h2:σ.hp b=some β)(h3:β.es[j]?=some e)
  (hag:(aty P ty).isAgg=true) (hsz:(aty P ty).sz=e.length) (h0:0<e.length) (hv:σ.tm t=v) (h5:cls σ.hp [.agg e,v]=some (us,ids)) (hk:kk (.tup us)):Dy P rs σ kk:=by
 subst hrs
 rw[Aae]
 simp only[B1,h1]
 refine⟨β,e,h2,h3, ?_⟩
 unfold Ar
 rw[if_pos hag,hsz,List.drop_zero,List.take_length]
 refine⟨⟨h0,by omega⟩, ?_⟩
 show opt (cls σ.hp [.agg e,σ.tm t]) _
 rw[hv,h5]
 exact hk
theorem Ahz{P:Program}{σ:AS}{kk:AV→Prop}{rs:Array ResultVar}{x ty b j:Nat}{β:A4}{e:List AV}{u:AV}{ids:List Nat}(hrs:rs=#[.cell x ty])(h1:σ.tm x=.pt b j 0)(h2:σ.hp b=some β)(h3:β.es[j]?=some e)
  (hag:(aty P ty).isAgg=true) (hsz:(aty P ty).sz=e.length) (h0:0<e.length) (h5:cl σ.hp (.agg e)=some (u,ids)) (hk:kk u):Dy P rs σ kk:=by
 subst hrs
 rw[Aad]
 simp only[B1,h1]
 refine⟨β,e,h2,h3, ?_⟩
 unfold Ar
 rw[if_pos hag,hsz,List.drop_zero,List.take_length]
 refine⟨⟨h0,by omega⟩, ?_⟩
 show opt (cl σ.hp (.agg e)) _
 rw[h5]
 exact hk
end Go.Proofs.YtbhffbgbhgjdiaaGreatDoor
namespace Go.Proofs.YtbhffbgbhgjdiaaGreatDoor
open Go.RowKit
set_option maxRecDepth 100000
theorem byS{p:Prop}(h:p:=by (first|rfl|(simp (disch:=omega) only[sx,C7,↓reduceIte,Nat.reduceAdd,Nat.reduceEqDiff,Nat.reduceLeDiff, *]))):p:=h
theorem byQ{p:Prop}(h:p:=by (simp (disch:=omega) only[sx,C7,↓reduceIte,Nat.reduceAdd,Nat.reduceEqDiff,Nat.reduceLeDiff, *];(try rfl))):p:=h
theorem wS{p q:Prop}(h:q)(e:p=q:=by (simp (disch:=omega) only[sx,Value.oneCell',↓reduceIte,Nat.reduceAdd,Nat.reduceMul,Nat.reduceEqDiff,Nat.reduceLT,Nat.reduceLeDiff,Int.reduceToNat,Int.reduceEq,Int.reduceLT,Int.reduceLE,Int.reduceNe, *];rfl)):p:=e.mpr h
theorem byA{p:Prop}(h:p:=by first|(simp only[sxd,z0,p0,Nat.reduceEqDiff,↓reduceIte];(try rfl);done)|(simp (disch:=omega) only[sxd,z0,p0,sx,Value.oneCell',↓reduceIte,Nat.reduceAdd,Nat.reduceMul,Nat.reduceEqDiff,Nat.reduceLT,Nat.reduceLeDiff,Int.reduceToNat,Int.reduceEq,Int.reduceLT,Int.reduceLE,Int.reduceNe, *];(try rfl);done)):p:=h
theorem stS{a b:Prop}(h:b)(ha:a:=by first|omega|assumption|exact Agd (by decide +kernel)|exact A2o (by decide +kernel) (by (simp (disch:=omega) only[sx,Value.oneCell',↓reduceIte,Nat.reduceAdd,Nat.reduceMul,Nat.reduceEqDiff,Nat.reduceLT,Nat.reduceLeDiff,Int.reduceToNat,Int.reduceEq,Int.reduceLT,Int.reduceLE,Int.reduceNe,C7, *];rfl)) (by refine Amd ?_;repeat' (first|exact trivial|refine B02 (by first|rfl|decide +kernel) ?_))|exact Nat.le_of_ble_eq_true (by kernel_rfl)):a∧b:=⟨ha,h⟩
section
variable{P:Program}{C:World→Prop}{id ty:Nat}{ev:Operand→AV}{hp:Nat→Option A4}{k:AV→Eff→Prop}{Q:Exit→AS→Prop}
theorem cv{f:Nat}{args us:List AV}{ids:List Nat}{r:AV}(h2:Con P C f us (.val r))(h3:k r (.frz (if K2 r then [] else ids)))(h1:cls hp args=some (us,ids):=by exact byA):B8 P C id f hp args k:=Dl h1 h2 h3
theorem cf{f:Nat}{args us:List AV}{e:Nat}{es:List (List AV)}(h2:Con P C f us (.fresh e es))(h3:k (.own id) (.new ⟨e,es,true⟩))(h1:cls hp args=some (us,[]):=by exact byA):B8 P C id f hp args k:=A0s h1 h2 h3
theorem vdr{i:Nat}{l:List Oper}{tm:Nat→AV}{nx:Nat}(h:Ax P C l.toArray (drawn l.toArray) nx 0 l (A1q Q (nx+l.length)) ⟨tm,hp,nx⟩)(hb:D5 l.toArray (drawn l.toArray)=true:=by kernel_rfl):awp P C (.region i l.toArray true) Q ⟨tm,hp,nx⟩:=A2y hb h
theorem vbS{t len:Nat}{parts:List (Nat×Operand)}(h:opt (Lh (aty P (elemOf (aty P t).k)).sz 0 (parts.map fun x=>(x.1,ev x.2))) (Aku (elemOf (aty P t).k) id k))
  (ht:(aty P t).k=.slice (elemOf (aty P t).k):=by simp only[tyb,Eu])
  (h1:((aty P (elemOf (aty P t).k)).zero.length=(aty P (elemOf (aty P t).k)).sz∧0<(aty P (elemOf (aty P t).k)).sz∧len*(aty P (elemOf (aty P t).k)).sz≤16777216∧(aty P (elemOf (aty P t).k)).zero.all (·.oneCell')=true)∧parts.length=len:=by simp only[tyb,sxb,Value.oneCell',Nat.reduceAdd,Nat.reduceMul,Nat.reduceLeDiff,Nat.reduceLT]) :
  A7 P C id (.buildSlice t len parts.toArray) ty ev hp k:=Am7 ht h1 h
theorem rc1{σ:AS}{kk:AV→Prop}{rs:Array ResultVar}{x ty b j:Nat}{β:A4}{e:List AV}{u:AV}{ids:List Nat}(hrs:rs=#[.cell x ty])(hk:kk u)(h1:σ.tm x=.pt b j 0:=by exact byQ)(h2:σ.hp b=some β:=by exact byQ)(h3:β.es[j]?=some e:=by exact byS)
  (hag:(aty P ty).isAgg=true:=by simp only[ATy.isAgg,tyb]) (hsz:(aty P ty).sz=e.length:=by simp only[tyb];rfl) (h0:0<e.length:=by exact Nat.zero_lt_succ _) (h5:cl σ.hp (.agg e)=some (u,ids):=by first|(simp only[sxd,z0,p0,Nat.reduceEqDiff,↓reduceIte];rfl)|(simp only[sxd,z0,p0,Nat.reduceEqDiff,↓reduceIte, *];rfl)|(simp (disch:=omega) only[sxd,z0,p0,Nat.reduceEqDiff,↓reduceIte,sx,Value.oneCell',Nat.reduceAdd,Nat.reduceMul,Nat.reduceLT,Nat.reduceLeDiff,Int.reduceToNat,Int.reduceEq,Int.reduceLT,Int.reduceLE,Int.reduceNe, *];rfl)):Dy P rs σ kk :=
 Ahz hrs h1 h2 h3 hag hsz h0 h5 hk
theorem rc3{σ:AS}{kk:AV→Prop}{rs:Array ResultVar}{x ty t b j:Nat}{β:A4}{e:List AV}{v:AV}{us:List AV}{ids:List Nat}(hrs:rs=#[.cell x ty,.tmp t])(hk:kk (.tup us))(h1:σ.tm x=.pt b j 0:=by exact byQ)(h2:σ.hp b=some β:=by exact byQ)(h3:β.es[j]?=some e:=by exact byS)
  (hag:(aty P ty).isAgg=true:=by simp only[ATy.isAgg,tyb]) (hsz:(aty P ty).sz=e.length:=by simp only[tyb];rfl) (h0:0<e.length:=by exact Nat.zero_lt_succ _) (hv:σ.tm t=v:=by exact byQ) (h5:cls σ.hp [.agg e,v]=some (us,ids):=by first|(simp only[sxd,z0,p0,Nat.reduceEqDiff,↓reduceIte];rfl)|(simp only[sxd,z0,p0,Nat.reduceEqDiff,↓reduceIte, *];rfl)|(simp (disch:=omega) only[sxd,z0,p0,Nat.reduceEqDiff,↓reduceIte,sx,Value.oneCell',Nat.reduceAdd,Nat.reduceMul,Nat.reduceLT,Nat.reduceLeDiff,Int.reduceToNat,Int.reduceEq,Int.reduceLT,Int.reduceLE,Int.reduceNe, *];rfl)):Dy P rs σ kk :=
 Ai0 hrs h1 h2 h3 hag hsz h0 hv h5 hk
theorem Ai1{σ:AS}{kk:AV→Prop}{rs:Array ResultVar}{x ty t t2 b j:Nat}{β:A4}{e:List AV}{v v2:AV}{us:List AV}{ids:List Nat}(hrs:rs=#[.cell x ty,.tmp t,.tmp t2])(h1:σ.tm x=.pt b j 0)(h2:σ.hp b=some β)(h3:β.es[j]?=some e)
  (hag:(aty P ty).isAgg=true) (hsz:(aty P ty).sz=e.length) (h0:0<e.length) (hv:σ.tm t=v) (hv2:σ.tm t2=v2) (h5:cls σ.hp [.agg e,v,v2]=some (us,ids)) (hk:kk (.tup us)):Dy P rs σ kk:=by
 subst hrs
 rw[U1]
 simp only[B1,h1]
 refine⟨β,e,h2,h3, ?_⟩
 unfold Ar
 rw[if_pos hag,hsz,List.drop_zero,List.take_length]
 refine⟨⟨h0,by omega⟩, ?_⟩
 show opt (cls σ.hp [.agg e,σ.tm t,σ.tm t2]) _
 rw[hv,hv2,h5]
 exact hk
theorem rc4{σ:AS}{kk:AV→Prop}{rs:Array ResultVar}{x ty t t2 b j:Nat}{β:A4}{e:List AV}{v v2:AV}{us:List AV}{ids:List Nat}(hrs:rs=#[.cell x ty,.tmp t,.tmp t2])(hk:kk (.tup us))(h1:σ.tm x=.pt b j 0:=by exact byQ)(h2:σ.hp b=some β:=by exact byQ)(h3:β.es[j]?=some e:=by exact byS)
  (hag:(aty P ty).isAgg=true:=by simp only[ATy.isAgg,tyb]) (hsz:(aty P ty).sz=e.length:=by simp only[tyb];rfl) (h0:0<e.length:=by exact Nat.zero_lt_succ _) (hv:σ.tm t=v:=by exact byQ) (hv2:σ.tm t2=v2:=by exact byQ) (h5:cls σ.hp [.agg e,v,v2]=some (us,ids):=by first|(simp only[sxd,z0,p0,Nat.reduceEqDiff,↓reduceIte];rfl)|(simp only[sxd,z0,p0,Nat.reduceEqDiff,↓reduceIte, *];rfl)|(simp (disch:=omega) only[sxd,z0,p0,Nat.reduceEqDiff,↓reduceIte,sx,Value.oneCell',Nat.reduceAdd,Nat.reduceMul,Nat.reduceLT,Nat.reduceLeDiff,Int.reduceToNat,Int.reduceEq,Int.reduceLT,Int.reduceLE,Int.reduceNe, *];rfl)):Dy P rs σ kk :=
 Ai1 hrs h1 h2 h3 hag hsz h0 hv hv2 h5 hk
theorem J5{σ:AS}{l:Nat}(h:Q .normal σ):awp P C (.label l) Q σ:=h
theorem J6{σ:AS}{c:Code}(h:awp P C c (Yq Q) σ):awp P C (.scope c) Q σ:=h
theorem rtS{σ:AS}{q:Prop}(h:q)(e:Q .ret σ=q:=by (simp only[Qv,M8,Uo];rfl)):awp P C .ret Q σ:=U5 (e.mpr h)
theorem gw{a t u v x p q:Prop}(h1:v→p)(h2:x→q)(e:(t→p)→(u→q)→a:=by first|exact Acp|exact Xf)(f:t=v:=by first|(simp only[sxn];rfl)|rfl)(g:u=x:=by first|(simp only[sxn];rfl)|rfl):a:=e (fun h=>h1 (f.mp h)) (fun h=>h2 (g.mp h))
theorem byN{p:Prop}(h:p:=by (simp (disch:=omega) only[sx,Value.oneCell',↓reduceIte,Nat.reduceAdd,Nat.reduceMul,Nat.reduceEqDiff,Nat.reduceLT,Nat.reduceLeDiff,Int.reduceToNat,Int.reduceEq,Int.reduceLT,Int.reduceLE,Int.reduceNe,C7, *];congr 2;omega)):p:=h
theorem byO{p:Prop}(h:p:=by (simp (disch:=omega) only[sx,Value.oneCell',↓reduceIte,Nat.reduceAdd,Nat.reduceMul,Nat.reduceEqDiff,Nat.reduceLT,Nat.reduceLeDiff,Int.reduceToNat,Int.reduceEq,Int.reduceLT,Int.reduceLE,Int.reduceNe,C7, *];rfl)):p:=h
theorem aX{p:Prop}(h:p:=by first|exact⟨_,rfl,trivial⟩|exact⟨_,rfl⟩|exact⟨_,rfl,rfl⟩|exact⟨_,rfl,by assumption⟩|exact⟨(_,_),rfl,trivial⟩|exact⟨(_,_),rfl⟩):p:=h
theorem stq{a b:Prop}(h:b)(e:b→a:=by first|exact Ks|exact Gu):a:=e h
theorem stR{a b:Prop}(h:b)(e:b→a:=by first|exact Ks|exact Gu|exact fun h=>rtS h):a:=e h
theorem stp{a b:Prop}(h:b)(e:b→a:=by first|exact Hw|exact fun h=>vdr h|exact fun h=>vbS h|exact A57|exact Kr|exact Kt|exact J5|exact J6|exact fun h=>stS h):a:=e h
end
end Go.Proofs.YtbhffbgbhgjdiaaGreatDoor
