/- Parts of the proof, in build order. No condition. -/
import Derived.Test.YtebnelfdimiifaaGreatDoorSa06
import Derived.Test.YtebnelfdimiifaaGreatDoorSa07
import Derived.Test.YtebnelfdimiifaaGreatDoorSa09
import Derived.Lib.Zigzag
import Derived.Lib.EndianBits
import Derived.Lib.Varint
import Derived.Test.YtebnelfdimiifaaGreatDoorSa08
import Derived.Test.YtebnelfdimiifaaGreatDoorProg
import Derived.Ground.NamesProg
import Derived.Shelf.Sort.Plain
import Derived.Ground.Names2Prog
import Derived.Shelf.Slices.CompactI
import Derived.Shelf.Slices.Clone
import Derived.Shelf.Slices.Reverse
import Derived.Test.YtebnelfdimiifaaGreatDoorSa05
import Derived.Shelf.Slices.In.SortNone
import Derived.Laws.CopyRow
import Derived.Shelf.Bits.Mul64
set_option linter.unusedSimpArgs false
set_option linter.unusedVariables false
set_option maxHeartbeats 1000000
set_option maxRecDepth 20000
namespace Go.Proofs.YtebnelfdimiifaaGreatDoor
open Go.RowKit Go.Lp Go.Sy
structure bp where
 obj:ByteArray
 sec:ByteArray
 kind:Int
 at_:Int
 size:Int
 digest:ByteArray
 form:ByteArray
 deriving Inhabited
abbrev bp.row(x:bp):List D:=[.v (.string x.obj),.v (.string x.sec),.v (.int .i64 x.kind),.v (.int .i64 x.at_),.v (.int .i64 x.size),.v (.string x.digest),.v (.string x.form)]
abbrev bp.vs(x:bp):List Value:=[.string x.obj,.string x.sec,.int .i64 x.kind,.int .i64 x.at_,.int .i64 x.size,.string x.digest,.string x.form]
abbrev bp.val(x:bp):Value:=.agg #[.string x.obj,.string x.sec,.int .i64 x.kind,.int .i64 x.at_,.int .i64 x.size,.string x.digest,.string x.form]
def bp.ok(x:bp):Per:=cF (ek x.obj) (cF (ek x.sec) (cF (ek x.digest) (ek x.form)))
theorem bp.f_obj{ps:List Per}{x:bp}(h:Ent ps x.ok):Ent ps (ek x.obj):=(Ent.left h)
theorem bp.f_sec{ps:List Per}{x:bp}(h:Ent ps x.ok):Ent ps (ek x.sec):=(Ent.left (Ent.right h))
structure bQ where
 name:ByteArray
 version:ByteArray
 main:Bool
 kind:Int
 at_:Int
 size:Int
 deriving Inhabited
abbrev bQ.row(x:bQ):List D:=[.v (.string x.name),.v (.string x.version),.v (.bool x.main),.v (.int .i64 x.kind),.v (.int .i64 x.at_),.v (.int .i64 x.size)]
abbrev bQ.vs(x:bQ):List Value:=[.string x.name,.string x.version,.bool x.main,.int .i64 x.kind,.int .i64 x.at_,.int .i64 x.size]
abbrev bQ.val(x:bQ):Value:=.agg #[.string x.name,.string x.version,.bool x.main,.int .i64 x.kind,.int .i64 x.at_,.int .i64 x.size]
def bQ.ok(x:bQ):Per:=cF (ek x.name) (ek x.version)
theorem bQ.f_name{ps:List Per}{x:bQ}(h:Ent ps x.ok):Ent ps (ek x.name):=(Ent.left h)
theorem bQ.f_version{ps:List Per}{x:bQ}(h:Ent ps x.ok):Ent ps (ek x.version):=(Ent.right h)
structure b7 where
 name:ByteArray
 version:ByteArray
 kind:Int
 weak:Bool
 own:Bool
 deriving Inhabited
abbrev b7.row(x:b7):List D:=[.v (.string x.name),.v (.string x.version),.v (.int .i64 x.kind),.v (.bool x.weak),.v (.bool x.own)]
abbrev b7.vs(x:b7):List Value:=[.string x.name,.string x.version,.int .i64 x.kind,.bool x.weak,.bool x.own]
abbrev b7.val(x:b7):Value:=.agg #[.string x.name,.string x.version,.int .i64 x.kind,.bool x.weak,.bool x.own]
def b7.ok(x:b7):Per:=cF (ek x.name) (ek x.version)
theorem b7.f_name{ps:List Per}{x:b7}(h:Ent ps x.ok):Ent ps (ek x.name):=(Ent.left h)
theorem b7.f_version{ps:List Per}{x:b7}(h:Ent ps x.ok):Ent ps (ek x.version):=(Ent.right h)
structure fx where
 at_:Int
 kind:Int
 import_:Int
 add:Int
 deriving Inhabited
abbrev fx.row(x:fx):List D:=[.v (.int .i64 x.at_),.v (.int .i64 x.kind),.v (.int .i64 x.import_),.v (.int .i64 x.add)]
abbrev fx.vs(x:fx):List Value:=[.int .i64 x.at_,.int .i64 x.kind,.int .i64 x.import_,.int .i64 x.add]
abbrev fx.val(x:fx):Value:=.agg #[.int .i64 x.at_,.int .i64 x.kind,.int .i64 x.import_,.int .i64 x.add]
structure dI where
 name:ByteArray
 kind:Int
 at_:Int
 size:Int
 deriving Inhabited
abbrev dI.row(x:dI):List D:=[.v (.string x.name),.v (.int .i64 x.kind),.v (.int .i64 x.at_),.v (.int .i64 x.size)]
abbrev dI.vs(x:dI):List Value:=[.string x.name,.int .i64 x.kind,.int .i64 x.at_,.int .i64 x.size]
abbrev dI.val(x:dI):Value:=.agg #[.string x.name,.int .i64 x.kind,.int .i64 x.at_,.int .i64 x.size]
def dI.ok(x:dI):Per:=ek x.name
structure bK where
 at_:Int
 size:Int
 deriving Inhabited
abbrev bK.row(x:bK):List D:=[.v (.int .i64 x.at_),.v (.int .i64 x.size)]
abbrev bK.vs(x:bK):List Value:=[.int .i64 x.at_,.int .i64 x.size]
abbrev bK.val(x:bK):Value:=.agg #[.int .i64 x.at_,.int .i64 x.size]
structure cC where
 marks:Sl dI
 lines:Sl dH
 ends:Sl bK
 inlines:Sl ca
 vars:Sl eE
 depths:Sl cG
 deriving Inhabited
abbrev cC.row(x:cC):List D:=[.v (.slice x.marks.ad x.marks.l.length x.marks.cap),.v (.slice x.lines.ad x.lines.l.length x.lines.cap),.v (.slice x.ends.ad x.ends.l.length x.ends.cap),.v (.slice x.inlines.ad x.inlines.l.length x.inlines.cap),.v (.slice x.vars.ad x.vars.l.length x.vars.cap),.v (.slice x.depths.ad x.depths.l.length x.depths.cap)]
abbrev cC.vs(x:cC):List Value:=[.slice x.marks.ad x.marks.l.length x.marks.cap,.slice x.lines.ad x.lines.l.length x.lines.cap,.slice x.ends.ad x.ends.l.length x.ends.cap,.slice x.inlines.ad x.inlines.l.length x.inlines.cap,.slice x.vars.ad x.vars.l.length x.vars.cap,.slice x.depths.ad x.depths.l.length x.depths.cap]
abbrev cC.val(x:cC):Value:=.agg #[.slice x.marks.ad x.marks.l.length x.marks.cap,.slice x.lines.ad x.lines.l.length x.lines.cap,.slice x.ends.ad x.ends.l.length x.ends.cap,.slice x.inlines.ad x.inlines.l.length x.inlines.cap,.slice x.vars.ad x.vars.l.length x.vars.cap,.slice x.depths.ad x.depths.l.length x.depths.cap]
def cC.ok(x:cC):Per:=cF (ShF (dI.row) x.marks) (cF (b6 (fun y=>dI.ok y) x.marks.l) (cF (ShF (dH.row) x.lines) (cF (b6 (fun y=>dH.ok y) x.lines.l) (cF (ShF (bK.row) x.ends) (cF (ShF (ca.row) x.inlines) (cF (b6 (fun y=>ca.ok y) x.inlines.l) (cF (ShF (eE.row) x.vars) (cF (b6 (fun y=>eE.ok y) x.vars.l) (ShF (cG.row) x.depths)))))))))
theorem cC.f_marks{ps:List Per}{x:cC}(h:Ent ps x.ok):Ent ps (ShF (dI.row) x.marks):=(Ent.left h)
theorem cC.f_lines{ps:List Per}{x:cC}(h:Ent ps x.ok):Ent ps (ShF (dH.row) x.lines):=(Ent.left (Ent.right (Ent.right h)))
theorem cC.f_ends{ps:List Per}{x:cC}(h:Ent ps x.ok):Ent ps (ShF (bK.row) x.ends):=(Ent.left (Ent.right (Ent.right (Ent.right (Ent.right h)))))
theorem cC.f_inlines{ps:List Per}{x:cC}(h:Ent ps x.ok):Ent ps (ShF (ca.row) x.inlines):=(Ent.left (Ent.right (Ent.right (Ent.right (Ent.right (Ent.right h))))))
theorem cC.f_vars{ps:List Per}{x:cC}(h:Ent ps x.ok):Ent ps (ShF (eE.row) x.vars):=(Ent.left (Ent.right (Ent.right (Ent.right (Ent.right (Ent.right (Ent.right (Ent.right h))))))))
theorem cC.f_depths{ps:List Per}{x:cC}(h:Ent ps x.ok):Ent ps (ShF (cG.row) x.depths):=(Ent.right (Ent.right (Ent.right (Ent.right (Ent.right (Ent.right (Ent.right (Ent.right (Ent.right h)))))))))
structure cr where
 obj:ByteArray
 sec:ByteArray
 from_:ByteArray
 pieces:Sl dJ
 code:Int
 deriving Inhabited
abbrev cr.row(x:cr):List D:=[.v (.string x.obj),.v (.string x.sec),.v (.string x.from_),.v (.slice x.pieces.ad x.pieces.l.length x.pieces.cap),.v (.int .i64 x.code)]
abbrev cr.vs(x:cr):List Value:=[.string x.obj,.string x.sec,.string x.from_,.slice x.pieces.ad x.pieces.l.length x.pieces.cap,.int .i64 x.code]
abbrev cr.val(x:cr):Value:=.agg #[.string x.obj,.string x.sec,.string x.from_,.slice x.pieces.ad x.pieces.l.length x.pieces.cap,.int .i64 x.code]
def cr.ok(x:cr):Per:=cF (ek x.obj) (cF (ek x.sec) (cF (ek x.from_) (ShF (dJ.row) x.pieces)))
theorem cr.f_obj{ps:List Per}{x:cr}(h:Ent ps x.ok):Ent ps (ek x.obj):=(Ent.left h)
theorem cr.f_sec{ps:List Per}{x:cr}(h:Ent ps x.ok):Ent ps (ek x.sec):=(Ent.left (Ent.right h))
theorem cr.f_pieces{ps:List Per}{x:cr}(h:Ent ps x.ok):Ent ps (ShF (dJ.row) x.pieces):=(Ent.right (Ent.right (Ent.right h)))
structure aD where
 name:ByteArray
 lib:Bool
 code:Int
 data:Int
 zero:Int
 bytes:ByteArray
 tls:ByteArray
 block:Int
 nodes:Sl bp
 exports:Sl bQ
 imports:Sl b7
 slots:Sl Int
 stubs:Sl Int
 dyns:Sl fx
 inits:Sl Int
 lasts:Sl Int
 entry:Int
 needs:Sl ByteArray
 versions:Sl aF
 info:cC
 changes:Sl cr
 deriving Inhabited
abbrev aD.row(x:aD):List D:=[.v (.string x.name),.v (.bool x.lib),.v (.int .i64 x.code),.v (.int .i64 x.data),.v (.int .i64 x.zero),.v (.string x.bytes),.v (.string x.tls),.v (.int .i64 x.block),.v (.slice x.nodes.ad x.nodes.l.length x.nodes.cap),.v (.slice x.exports.ad x.exports.l.length x.exports.cap),.v (.slice x.imports.ad x.imports.l.length x.imports.cap),.v (.slice x.slots.ad x.slots.l.length x.slots.cap),.v (.slice x.stubs.ad x.stubs.l.length x.stubs.cap),.v (.slice x.dyns.ad x.dyns.l.length x.dyns.cap),.v (.slice x.inits.ad x.inits.l.length x.inits.cap),.v (.slice x.lasts.ad x.lasts.l.length x.lasts.cap),.v (.int .i64 x.entry),.v (.slice x.needs.ad x.needs.l.length x.needs.cap),.v (.slice x.versions.ad x.versions.l.length x.versions.cap),.v (.slice x.info.marks.ad x.info.marks.l.length x.info.marks.cap),.v (.slice x.info.lines.ad x.info.lines.l.length x.info.lines.cap),.v (.slice x.info.ends.ad x.info.ends.l.length x.info.ends.cap),.v (.slice x.info.inlines.ad x.info.inlines.l.length x.info.inlines.cap),.v (.slice x.info.vars.ad x.info.vars.l.length x.info.vars.cap),.v (.slice x.info.depths.ad x.info.depths.l.length x.info.depths.cap),.v (.slice x.changes.ad x.changes.l.length x.changes.cap)]
abbrev aD.vs(x:aD):List Value:=[.string x.name,.bool x.lib,.int .i64 x.code,.int .i64 x.data,.int .i64 x.zero,.string x.bytes,.string x.tls,.int .i64 x.block,.slice x.nodes.ad x.nodes.l.length x.nodes.cap,.slice x.exports.ad x.exports.l.length x.exports.cap,.slice x.imports.ad x.imports.l.length x.imports.cap,.slice x.slots.ad x.slots.l.length x.slots.cap,.slice x.stubs.ad x.stubs.l.length x.stubs.cap,.slice x.dyns.ad x.dyns.l.length x.dyns.cap,.slice x.inits.ad x.inits.l.length x.inits.cap,.slice x.lasts.ad x.lasts.l.length x.lasts.cap,.int .i64 x.entry,.slice x.needs.ad x.needs.l.length x.needs.cap,.slice x.versions.ad x.versions.l.length x.versions.cap,.slice x.info.marks.ad x.info.marks.l.length x.info.marks.cap,.slice x.info.lines.ad x.info.lines.l.length x.info.lines.cap,.slice x.info.ends.ad x.info.ends.l.length x.info.ends.cap,.slice x.info.inlines.ad x.info.inlines.l.length x.info.inlines.cap,.slice x.info.vars.ad x.info.vars.l.length x.info.vars.cap,.slice x.info.depths.ad x.info.depths.l.length x.info.depths.cap,.slice x.changes.ad x.changes.l.length x.changes.cap]
abbrev aD.val(x:aD):Value:=.agg #[.string x.name,.bool x.lib,.int .i64 x.code,.int .i64 x.data,.int .i64 x.zero,.string x.bytes,.string x.tls,.int .i64 x.block,.slice x.nodes.ad x.nodes.l.length x.nodes.cap,.slice x.exports.ad x.exports.l.length x.exports.cap,.slice x.imports.ad x.imports.l.length x.imports.cap,.slice x.slots.ad x.slots.l.length x.slots.cap,.slice x.stubs.ad x.stubs.l.length x.stubs.cap,.slice x.dyns.ad x.dyns.l.length x.dyns.cap,.slice x.inits.ad x.inits.l.length x.inits.cap,.slice x.lasts.ad x.lasts.l.length x.lasts.cap,.int .i64 x.entry,.slice x.needs.ad x.needs.l.length x.needs.cap,.slice x.versions.ad x.versions.l.length x.versions.cap,.slice x.info.marks.ad x.info.marks.l.length x.info.marks.cap,.slice x.info.lines.ad x.info.lines.l.length x.info.lines.cap,.slice x.info.ends.ad x.info.ends.l.length x.info.ends.cap,.slice x.info.inlines.ad x.info.inlines.l.length x.info.inlines.cap,.slice x.info.vars.ad x.info.vars.l.length x.info.vars.cap,.slice x.info.depths.ad x.info.depths.l.length x.info.depths.cap,.slice x.changes.ad x.changes.l.length x.changes.cap]
def aD.ok(x:aD):Per:=cF (ek x.name) (cF (ek x.bytes) (cF (ek x.tls) (cF (ShF (bp.row) x.nodes) (cF (b6 (fun y=>bp.ok y) x.nodes.l) (cF (ShF (bQ.row) x.exports) (cF (b6 (fun y=>bQ.ok y) x.exports.l) (cF (ShF (b7.row) x.imports) (cF (b6 (fun y=>b7.ok y) x.imports.l) (cF (ShF (fun z=>[.v (.int .i64 z)]) x.slots) (cF (ShF (fun z=>[.v (.int .i64 z)]) x.stubs) (cF (ShF (fx.row) x.dyns) (cF (ShF (fun z=>[.v (.int .i64 z)]) x.inits) (cF (ShF (fun z=>[.v (.int .i64 z)]) x.lasts) (cF (ShF (fun s=>[.v (.string s)]) x.needs) (cF (b6 (fun y=>ek y) x.needs.l) (cF (ShF (aF.row) x.versions) (cF (b6 (fun y=>aF.ok y) x.versions.l) (cF (cC.ok x.info) (cF (ShF (cr.row) x.changes) (b6 (fun y=>cr.ok y) x.changes.l))))))))))))))))))))
theorem aD.f_name{ps:List Per}{x:aD}(h:Ent ps x.ok):Ent ps (ek x.name):=(Ent.left h)
theorem aD.f_nodes{ps:List Per}{x:aD}(h:Ent ps x.ok):Ent ps (ShF (bp.row) x.nodes):=(Ent.left (Ent.right (Ent.right (Ent.right h))))
theorem aD.f_nodesA{ps:List Per}{x:aD}(h:Ent ps x.ok):Ent ps (b6 (fun y=>bp.ok y) x.nodes.l):=(Ent.left (Ent.right (Ent.right (Ent.right (Ent.right h)))))
theorem aD.f_exports{ps:List Per}{x:aD}(h:Ent ps x.ok):Ent ps (ShF (bQ.row) x.exports):=(Ent.left (Ent.right (Ent.right (Ent.right (Ent.right (Ent.right h))))))
theorem aD.f_exportsA{ps:List Per}{x:aD}(h:Ent ps x.ok):Ent ps (b6 (fun y=>bQ.ok y) x.exports.l):=(Ent.left (Ent.right (Ent.right (Ent.right (Ent.right (Ent.right (Ent.right h)))))))
theorem aD.f_imports{ps:List Per}{x:aD}(h:Ent ps x.ok):Ent ps (ShF (b7.row) x.imports):=(Ent.left (Ent.right (Ent.right (Ent.right (Ent.right (Ent.right (Ent.right (Ent.right h))))))))
theorem aD.f_importsA{ps:List Per}{x:aD}(h:Ent ps x.ok):Ent ps (b6 (fun y=>b7.ok y) x.imports.l):=(Ent.left (Ent.right (Ent.right (Ent.right (Ent.right (Ent.right (Ent.right (Ent.right (Ent.right h)))))))))
theorem aD.f_slots{ps:List Per}{x:aD}(h:Ent ps x.ok):Ent ps (ShF (fun z=>[.v (.int .i64 z)]) x.slots):=(Ent.left (Ent.right (Ent.right (Ent.right (Ent.right (Ent.right (Ent.right (Ent.right (Ent.right (Ent.right h))))))))))
theorem aD.f_stubs{ps:List Per}{x:aD}(h:Ent ps x.ok):Ent ps (ShF (fun z=>[.v (.int .i64 z)]) x.stubs):=(Ent.left (Ent.right (Ent.right (Ent.right (Ent.right (Ent.right (Ent.right (Ent.right (Ent.right (Ent.right (Ent.right h)))))))))))
theorem aD.f_dyns{ps:List Per}{x:aD}(h:Ent ps x.ok):Ent ps (ShF (fx.row) x.dyns):=(Ent.left (Ent.right (Ent.right (Ent.right (Ent.right (Ent.right (Ent.right (Ent.right (Ent.right (Ent.right (Ent.right (Ent.right h))))))))))))
theorem aD.f_inits{ps:List Per}{x:aD}(h:Ent ps x.ok):Ent ps (ShF (fun z=>[.v (.int .i64 z)]) x.inits):=(Ent.left (Ent.right (Ent.right (Ent.right (Ent.right (Ent.right (Ent.right (Ent.right (Ent.right (Ent.right (Ent.right (Ent.right (Ent.right h)))))))))))))
theorem aD.f_lasts{ps:List Per}{x:aD}(h:Ent ps x.ok):Ent ps (ShF (fun z=>[.v (.int .i64 z)]) x.lasts):=(Ent.left (Ent.right (Ent.right (Ent.right (Ent.right (Ent.right (Ent.right (Ent.right (Ent.right (Ent.right (Ent.right (Ent.right (Ent.right (Ent.right h))))))))))))))
theorem aD.f_needs{ps:List Per}{x:aD}(h:Ent ps x.ok):Ent ps (ShF (fun s=>[.v (.string s)]) x.needs):=(Ent.left (Ent.right (Ent.right (Ent.right (Ent.right (Ent.right (Ent.right (Ent.right (Ent.right (Ent.right (Ent.right (Ent.right (Ent.right (Ent.right (Ent.right h)))))))))))))))
theorem aD.f_needsA{ps:List Per}{x:aD}(h:Ent ps x.ok):Ent ps (b6 (fun y=>ek y) x.needs.l):=(Ent.left (Ent.right (Ent.right (Ent.right (Ent.right (Ent.right (Ent.right (Ent.right (Ent.right (Ent.right (Ent.right (Ent.right (Ent.right (Ent.right (Ent.right (Ent.right h))))))))))))))))
theorem aD.f_versions{ps:List Per}{x:aD}(h:Ent ps x.ok):Ent ps (ShF (aF.row) x.versions):=(Ent.left (Ent.right (Ent.right (Ent.right (Ent.right (Ent.right (Ent.right (Ent.right (Ent.right (Ent.right (Ent.right (Ent.right (Ent.right (Ent.right (Ent.right (Ent.right (Ent.right h)))))))))))))))))
theorem aD.f_versionsA{ps:List Per}{x:aD}(h:Ent ps x.ok):Ent ps (b6 (fun y=>aF.ok y) x.versions.l):=(Ent.left (Ent.right (Ent.right (Ent.right (Ent.right (Ent.right (Ent.right (Ent.right (Ent.right (Ent.right (Ent.right (Ent.right (Ent.right (Ent.right (Ent.right (Ent.right (Ent.right (Ent.right h))))))))))))))))))
theorem aD.f_info{ps:List Per}{x:aD}(h:Ent ps x.ok):Ent ps (cC.ok x.info):=(Ent.left (Ent.right (Ent.right (Ent.right (Ent.right (Ent.right (Ent.right (Ent.right (Ent.right (Ent.right (Ent.right (Ent.right (Ent.right (Ent.right (Ent.right (Ent.right (Ent.right (Ent.right (Ent.right h)))))))))))))))))))
theorem aD.f_changes{ps:List Per}{x:aD}(h:Ent ps x.ok):Ent ps (ShF (cr.row) x.changes):=(Ent.left (Ent.right (Ent.right (Ent.right (Ent.right (Ent.right (Ent.right (Ent.right (Ent.right (Ent.right (Ent.right (Ent.right (Ent.right (Ent.right (Ent.right (Ent.right (Ent.right (Ent.right (Ent.right (Ent.right h))))))))))))))))))))
theorem aD.f_changesA{ps:List Per}{x:aD}(h:Ent ps x.ok):Ent ps (b6 (fun y=>cr.ok y) x.changes.l):=(Ent.right (Ent.right (Ent.right (Ent.right (Ent.right (Ent.right (Ent.right (Ent.right (Ent.right (Ent.right (Ent.right (Ent.right (Ent.right (Ent.right (Ent.right (Ent.right (Ent.right (Ent.right (Ent.right (Ent.right h))))))))))))))))))))
structure xL where
 name:ByteArray
 exports:Sl bQ
 versions:Sl aF
 deriving Inhabited
abbrev xL.val(x:xL):Value:=.agg #[.string x.name,.slice x.exports.ad x.exports.l.length x.exports.cap,.slice x.versions.ad x.versions.l.length x.versions.cap]
end Go.Proofs.YtebnelfdimiifaaGreatDoor

namespace Go.Sy
open Go.RowKit Go.Lp
open Classical in
noncomputable def tr {α β:Type} (m:α→Option β):Nat:=if h:∃ ks:List α,ks.Nodup∧∀ a,(m a).isSome=true↔a∈ks then h.choose.length else 0
theorem eT{γ:Type} : ∀ (D R:List γ),D.Nodup→(∀ x∈D,x∈R)→D.length≤R.length
 | [],_,_,_=>Nat.zero_le _
 | a :: D,R,hn,h=>by
   rw [List.nodup_cons] at hn
   obtain ⟨s,t,rfl⟩:=List.append_of_mem (h a (by simp))
   have:=eT D (s++t) hn.2 fun x hx=>by
     have hx2:=h x (by simp [hx])
     rw [List.mem_append,List.mem_cons] at hx2
     rcases hx2 with h1 | rfl | h1
     · exact List.mem_append_left _ h1
     · exact absurd hx hn.1
     · exact List.mem_append_right _ h1
   rw [List.length_append] at this
   rw [List.length_cons,List.length_append,List.length_cons];omega
theorem wR{α β:Type}{m:α→Option β}{ks:List α}(hn:ks.Nodup)(h:∀ a,(m a).isSome=true↔a∈ks):tr m=ks.length:=by
 have hx:∃ ks:List α,ks.Nodup∧∀ a,(m a).isSome=true↔a∈ks:=⟨ks,hn,h⟩
 unfold tr
 rw [dif_pos hx]
 have h2:=hx.choose_spec
 exact Nat.le_antisymm (eT _ _ h2.1 fun x hx'=>(h x).1 ((h2.2 x).2 hx')) (eT _ _ hn fun x hx'=>(h2.2 x).1 ((h x).2 hx'))
theorem age{P:Program}{n:Fr}{env:Env}{ps:List Per}{hp:List Res}{d:Option Tmp}{ty:TypeId}{pos:String}{af:Array Edge}{gd:Option (Nat × Bool)}{α β:Type}{κ:α→Value}{ν:β→Value}{m:α→Option β}{kt:TypeId}[Inhabited α]
   {x:Operand} {T E:TypeId} {b:Nat} (i:Nat) (hT:P.underlying T=some (.map kt E)) (KO:iw P kt κ) (hx:ev env x=some (true,.map (some b))) (hi:hp[i]? = some (fy b κ ν m)) :
   Quiet P n ⟨d,.call ⟨.builtin .len,#[x],#[T]⟩,ty,pos,af,gd⟩ ⟨env,ps,hp⟩ (.int .i64 (tr m)):=fun w S fp a hst he hn=>by
 have h1:=he.val hx rfl
 obtain ⟨⟨es,clock,hb,hes,_⟩,hF⟩:=hst.res i _ hi
 have hT':P.underlying T=some (.map (P.mapKeyOf T) (P.mapElemOf T)):=by rw [hT];unfold Program.mapKeyOf Program.mapElemOf;rw [hT]
 have hrun:=run_len_map (P:=P) (w:=w) T ty b es clock hT' hb
 obtain ⟨f,hf⟩:∃ f:MapEntry→α,∀ e∈es.toList,e.key=κ (f e)∧(m (f e)).isSome=true:=by
   have:∀ e:MapEntry,∃ a:α,e∈es.toList→e.key=κ a∧(m a).isSome=true:=fun e=>by
     by_cases he:e∈es.toList
     · obtain ⟨a,v,h1,_,h3⟩:=hes.of e he
       exact ⟨a,fun _=>⟨h1,by rw [h3];rfl⟩⟩
     · exact ⟨default,fun h=>absurd h he⟩
   exact ⟨fun e=>(this e).choose,fun e he=>(this e).choose_spec he⟩
 have hc:tr m=es.size:=by
   rw [wR (ks:=es.toList.map f)]
   · simp
   · show List.Pairwise _ _
     rw [List.pairwise_map]
     refine hes.apart.imp_of_mem fun ha hb h e=>h ?_
     rw [(hf _ ha).1,(hf _ hb).1,e]
   · intro a
     rw [List.mem_map]
     constructor
     · intro h
       obtain ⟨v,hv⟩:=Option.isSome_iff_exists.1 h
       obtain ⟨e,he,h2,_⟩:=hes.mem a v hv
       exact ⟨e,he,KO.inj _ _ ((hf e he).1.symm.trans h2)⟩
     · rintro ⟨e,he,rfl⟩;exact (hf e he).2
 have:(execOp a.eval ⟨d,.call ⟨.builtin .len,#[x],#[T]⟩,ty,pos,af,gd⟩).run P w=.ok (.value (.int .i64 (tr m))) w:=by
   have e:(execOp a.eval ⟨d,.call ⟨.builtin .len,#[x],#[T]⟩,ty,pos,af,gd⟩)=(Builtin.len_ #[T] ty (#[x].map a.eval)).bind fun r=>Sem.pure (Next.value r):=rfl
   rw [e,show #[x].map a.eval = #[.map (some b)] by simp [h1],Sem.run_bind',hrun,hc];rfl
 rw [this];exact cg _ _
end Go.Sy

namespace Go.Lv
open Go
theorem ag7(z:Int):zz z=Lib.zigzag z:=by unfold zz Lib.zigzag;split<;>split<;>omega
theorem p4(m:Nat):aQ m≠[]:=fun h=>by have:=re m;rw [h] at this;cases this
theorem et(a b:List UInt8):bytesOf (a++b)=bytesOf a++bytesOf b:=by
 apply ByteArray.ext
 show (a++b).toArray=(bytesOf a++bytesOf b).data
 rw [ByteArray.data_append]
 show _=a.toArray++b.toArray
 simp
theorem mR(r:List UInt8){z:Int}{i:Nat}(hz:z=i):(bytesOf r).extract z.toNat (bytesOf r).size=bytesOf (r.drop i):=by
 subst hz
 apply ByteArray.ext
 rw [ByteArray.data_extract]
 show r.toArray.extract i r.toArray.size=(r.drop i).toArray
 rw [List.extract_toArray,List.size_toArray]
 show ((r.drop i).take (r.length-i)).toArray=_
 rw [List.take_of_length_le (by rw [List.length_drop];exact Nat.le_refl _)]
theorem mS(r:List UInt8){z:Int}{i:Nat}(hz:z=i):(bytesOf r).extract 0 z.toNat=bytesOf (r.take i):=by
 subst hz
 apply ByteArray.ext
 rw [ByteArray.data_extract]
 show r.toArray.extract 0 i=(r.take i).toArray
 rw [List.extract_toArray]
 show ((r.drop 0).take (i-0)).toArray=_
 simp
theorem afY(m:Nat):IntKind.u8.wrap (BitVec.ofInt IntKind.u8.bits (IntKind.u8.wrap ((m:Int).tmod 128)) ||| BitVec.ofInt IntKind.u8.bits 128).toNat=((m % 128+128:Nat):Int):=by
 have e:IntKind.u8.wrap ((m:Int).tmod 128)=((m % 128:Nat):Int):=by
   rw [show (m:Int).tmod 128=((m % 128:Nat):Int) from rfl,IntKind.wrap_u8];omega
 rw [e]
 have h:=Lib.u8_or128_any ((m % 128:Nat):Int) (by omega) (by omega)
 have h2:bits .or .u8 ((m % 128:Nat):Int) 128=IntKind.u8.wrap (BitVec.ofInt IntKind.u8.bits ((m % 128:Nat):Int) ||| BitVec.ofInt IntKind.u8.bits 128).toNat:=rfl
 rw [← h2,h];omega
theorem zY{m:Nat}(h:m<128):IntKind.u8.wrap (m:Int)=((m:Nat):Int):=by rw [IntKind.wrap_u8];omega
theorem ac9{acc c i:Nat}(ha:acc<128 ^ i)(hi:i≤9)(hc:i=9→c≤1)(hc2:c<256) :
   IntKind.u64.wrap (BitVec.ofInt IntKind.u64.bits (acc:Int) ||| BitVec.ofInt IntKind.u64.bits (IntKind.u64.wrap (((c:Int).tmod 128)*2 ^ min ((7*(i:Int)).toNat) IntKind.u64.bits))).toNat=((acc+128 ^ i*(c % 128):Nat):Int):=by
 have hp:(128:Nat) ^ i=2 ^ (7*i):=by rw [Nat.pow_mul]
 have hm:min ((7*(i:Int)).toNat) IntKind.u64.bits=7*i:=by
   have:(7*(i:Int)).toNat=7*i:=by omega
   rw [this]
   exact Nat.min_eq_left (by show 7*i≤64;omega)
 have hlt:128 ^ i*(c % 128)<2 ^ 64:=by
   rcases Nat.lt_or_ge i 9 with h | h
   · have h1:128 ^ i≤128 ^ 8:=Nat.pow_le_pow_right (by decide) (by omega)
     have h2:c % 128<128:=Nat.mod_lt _ (by decide)
     calc 128 ^ i*(c % 128)≤128 ^ 8*127:=Nat.mul_le_mul h1 (by omega)
       _<2 ^ 64:=by decide
   · have h9:i=9:=by omega
     subst h9
     have:=hc rfl
     have h2:c % 128≤1:=by omega
     calc 128 ^ 9*(c % 128)≤128 ^ 9*1:=Nat.mul_le_mul_left _ h2
       _<2 ^ 64:=by decide
 have hx:IntKind.u64.wrap (((c:Int).tmod 128)*2 ^ (7*i))=((128 ^ i*(c % 128):Nat):Int):=by
   have e:((c:Int).tmod 128)*2 ^ (7*i)=((128 ^ i*(c % 128):Nat):Int):=by
     rw [show (c:Int).tmod 128=((c % 128:Nat):Int) from rfl,hp]
     push_cast;exact Int.mul_comm _ _
   rw [e];exact Go.wraps_u64 _ (by omega) (by exact_mod_cast hlt)
 rw [hm,hx]
 have hacc:acc<2 ^ 64:=Nat.lt_of_lt_of_le ha (by
   have:128 ^ i≤128 ^ 9:=Nat.pow_le_pow_right (by decide) hi
   exact Nat.le_trans this (by decide))
 have h:=Go.bits_join_low .u64 64 (by decide) Go.wraps_u64 (7*i) (acc:Int) ((128 ^ i*(c % 128):Nat):Int) (by omega) (by exact_mod_cast (hp ▸ ha)) (by exact_mod_cast hacc) (by omega) (by
   rw [hp];push_cast;exact Int.mul_emod_right _ _) (by exact_mod_cast hlt)
 have h2:bits .or .u64 (acc:Int) ((128 ^ i*(c % 128):Nat):Int)=IntKind.u64.wrap (BitVec.ofInt IntKind.u64.bits (acc:Int) ||| BitVec.ofInt IntKind.u64.bits ((128 ^ i*(c % 128):Nat):Int)).toNat:=rfl
 rw [← h2,h];push_cast;rfl
theorem agF{z:Int}(h:I64 z):bits .xor .u64 (IntKind.u64.wrap (IntKind.u64.wrap z*2 ^ min (1:Int).toNat IntKind.u64.bits)) (IntKind.u64.wrap (z.fdiv (2 ^ min (63:Int).toNat IntKind.i64.bits)))=((zz z:Nat):Int):=by
 have e1:(2:Int) ^ min (1:Int).toNat IntKind.u64.bits=2:=by decide
 have e2:(2:Int) ^ min (63:Int).toNat IntKind.i64.bits=9223372036854775808:=by decide
 rw [e1,e2]
 unfold I64 at h
 by_cases hn:z<0
 · have:z.fdiv 9223372036854775808 = -1:=by rw [Int.fdiv_eq_ediv_of_nonneg _ (by decide)];omega
   rw [this]
   have em:IntKind.u64.wrap (-1)=IntKind.u64.max:=by decide
   rw [em,ag7]
   have hz:=Lib.zigzag_neg h.1 hn
   rw [← hz]
   exact congrArg (fun x:BitVec 64=>IntKind.u64.wrap x.toNat) (BitVec.xor_comm _ _)
 · have:z.fdiv 9223372036854775808=0:=by rw [Int.fdiv_eq_ediv_of_nonneg _ (by decide)];omega
   rw [this]
   have e0:IntKind.u64.wrap 0=((0:Nat):Int):=by decide
   have ez:IntKind.u64.wrap (IntKind.u64.wrap z*2)=((zz z:Nat):Int):=by
     rw [IntKind.wrap_u64,IntKind.wrap_u64];unfold zz;rw [if_neg hn];omega
   rw [e0,ez,bits_xor_u64_nat _ _ (by have:=aaC (z:=z) (by unfold I64;omega);omega) (by decide),Nat.xor_zero]
theorem agE{m:Nat}(h:m<18446744073709551616):bits .xor .i64 (IntKind.i64.wrap ((m:Int).fdiv (2 ^ min (1:Int).toNat IntKind.u64.bits))) (IntKind.i64.wrap (-(IntKind.i64.wrap (IntKind.u64.wrap (BitVec.ofInt IntKind.u64.bits (m:Int) &&& BitVec.ofInt IntKind.u64.bits 1).toNat))))=vd m:=by
 have e1:(2:Int) ^ min (1:Int).toNat IntKind.u64.bits=2:=by decide
 rw [e1,Int.fdiv_eq_ediv_of_nonneg _ (by decide)]
 have hand:IntKind.u64.wrap (BitVec.ofInt IntKind.u64.bits (m:Int) &&& BitVec.ofInt IntKind.u64.bits 1).toNat=((m % 2:Nat):Int):=by
   have:=Lib.u64_and1 (m:Int) (by omega) (by omega)
   have h2:bits .and .u64 (m:Int) 1=IntKind.u64.wrap (BitVec.ofInt IntKind.u64.bits (m:Int) &&& BitVec.ofInt IntKind.u64.bits 1).toNat:=rfl
   rw [← h2,this];omega
 rw [hand]
 have ew:IntKind.i64.wrap ((m:Int) / 2)=((m / 2:Nat):Int):=by rw [IntKind.wrap_i64];omega
 rw [ew]
 unfold vd
 rcases Nat.mod_two_eq_zero_or_one m with h0 | h1
 · rw [h0,if_neg (by decide)]
   have:IntKind.i64.wrap (-(IntKind.i64.wrap ((0:Nat):Int)))=0:=by decide
   rw [this]
   show IntKind.i64.wrap ((BitVec.ofInt 64 ((m / 2:Nat):Int) ^^^ BitVec.ofInt 64 0).toNat:Int)=_
   have hb:(BitVec.ofInt 64 ((m / 2:Nat):Int)).toNat=m / 2:=by
     rw [BitVec.ofInt_natCast,BitVec.toNat_ofNat];exact Nat.mod_eq_of_lt (by omega)
   have h0b:BitVec.ofInt 64 0=0#64:=by decide
   rw [h0b,BitVec.xor_zero,hb,IntKind.wrap_i64];omega
 · rw [h1,if_pos rfl]
   have:IntKind.i64.wrap (-(IntKind.i64.wrap ((1:Nat):Int))) = -1:=by decide
   rw [this]
   have h3:=Lib.i64_not (m / 2) (by omega)
   rw [← h3]
   exact congrArg (fun x:BitVec 64=>IntKind.i64.wrap x.toNat) (BitVec.xor_comm _ _)
theorem lE(k:Nat)(c:UInt8)(l:List UInt8):fY (k+1) (c::l)=if k=0∧1<c.toNat then none else if c.toNat<128 then (if c.toNat=0∧k<9 then none else some (c.toNat,l)) else (fY k l).map fun p=>(c.toNat % 128+128*p.1,p.2):=rfl
def jD(r:List UInt8)(b:Bool):Nat × List UInt8 × Bool:=match fY 10 r with | some (m,t)=>(m,t,b) | none=>(0,[],true)
theorem oE{r:List UInt8}(h:fY 10 r=none)(b:Bool):jD r b=(0,[],true):=by unfold jD;rw [h]
theorem abq{r t:List UInt8}{m:Nat}(h:fY 10 r=some (m,t))(b:Bool):jD r b=(m,t,b):=by unfold jD;rw [h]
theorem zO(r:List UInt8)(b:Bool):(jD r b).1<18446744073709551616:=by
 unfold jD
 cases h:fY 10 r with
 | none=>exact (show 0<18446744073709551616 by decide)
 | some p=>exact (mX h).1
theorem adq(r:List UInt8)(b:Bool):iU r b=if (jD r b).1>9223372036854775807 then (.R [] true,0) else (.R (jD r b).2.1 (jD r b).2.2,(jD r b).1):=by
 unfold iU jD
 cases h:fY 10 r with
 | none=>dsimp only;rw [if_neg (by decide)]
 | some p=>rfl
theorem adb(r:List UInt8)(b:Bool)(z:Int):mo (.R r b) z=(.R (jD r b).2.1 (jD r b).2.2,vd (jD r b).1):=by
 unfold mo jD;dsimp only
 cases h:fY 10 r with
 | none=>exact congrArg (Prod.mk (CS.R [] true)) (show (0:Int)=vd 0 by decide)
 | some p=>rfl
theorem acd{r t:List UInt8}{b b':Bool}(h:(iU r b).1=.R t b'):nV r b=if (iU r b).2>t.length then (.R [] true,[]) else (.R (t.drop (iU r b).2) b',t.take (iU r b).2):=by
 unfold nV
 generalize iU r b=p at h ⊢
 obtain ⟨s,n⟩:=p
 dsimp only at h ⊢
 subst h;rfl
theorem sf(r:List UInt8):decide (bytesOf r=⟨#[]⟩)=r.isEmpty:=by
 cases r with
 | nil=>exact decide_eq_true rfl
 | cons a l=>exact decide_eq_false fun h=>absurd (congrArg ByteArray.size h) (Nat.succ_ne_zero l.length)
structure RdI (r:List UInt8) (i acc:Nat):Prop where
 le:i≤r.length
 i9:i≤10
 lt:acc<128 ^ i
 eq:fY 10 r=(fY (10-i) (r.drop i)).map fun p=>(acc+128 ^ i*p.1,p.2)
theorem RdI.start(r:List UInt8):RdI r 0 0:=⟨Nat.zero_le _,by decide,by decide,by simp⟩
section
variable {r:List UInt8} {i acc:Nat} {u:UInt8}
theorem RdI.cons(h:RdI r i acc)(hu:r[i]? = some u)(hi:i<10):fY 10 r=(fY (9-i+1) (u::r.drop (i+1))).map fun p=>(acc+128 ^ i*p.1,p.2):=by
 have:=(List.getElem?_eq_some_iff.1 hu)
 obtain ⟨hl,he⟩:=this
 rw [h.eq,show 10-i=9-i+1 by omega,List.drop_eq_getElem_cons hl,he]
theorem RdI.big(h:RdI r i acc)(hu:r[i]? = some u)(hi:i=9)(h1:1<u.toNat):fY 10 r=none:=by
 rw [h.cons hu (by omega),lE,if_pos ⟨by omega,h1⟩];rfl
theorem RdI.zero(h:RdI r i acc)(hu:r[i]? = some u)(hi:i<10)(h1:u.toNat=0)(h0:0<i):fY 10 r=none:=by
 rw [h.cons hu hi,lE,if_neg (by omega),if_pos (by omega),if_pos ⟨h1,by omega⟩];rfl
theorem RdI.last(h:RdI r i acc)(hu:r[i]? = some u)(hi:i<10)(h9:¬ (i=9∧1<u.toNat))(h1:u.toNat<128)(h0:¬ (u.toNat=0∧0<i)):fY 10 r=some (acc+128 ^ i*(u.toNat % 128),r.drop (i+1)):=by
 rw [h.cons hu hi,lE,if_neg (by omega),if_pos h1,if_neg (by omega),Option.map_some,Nat.mod_eq_of_lt h1]
theorem RdI.more(h:RdI r i acc)(hu:r[i]? = some u)(hi:i<10)(h9:¬ (i=9∧1<u.toNat))(h1:128≤u.toNat):RdI r (i+1) (acc+128 ^ i*(u.toNat % 128)):=by
 have hl:=(List.getElem?_eq_some_iff.1 hu).1
 refine ⟨hl,hi,?_,?_⟩
 · have h2:u.toNat % 128≤127:=by omega
   have h3:128 ^ i*(u.toNat % 128)≤128 ^ i*127:=Nat.mul_le_mul_left _ h2
   have:=h.lt
   rw [Nat.pow_succ];omega
 · rw [h.cons hu hi,lE,if_neg (by omega),if_neg (by omega),show 10-(i+1)=9-i by omega,Option.map_map]
   congr 1
   funext p
   simp only [Function.comp,Prod.mk.injEq,and_true]
   rw [Nat.pow_succ,Nat.mul_add,Nat.add_assoc,Nat.mul_assoc]
theorem RdI.stop(h:RdI r i acc)(hs:r.length≤i∨10≤i):fY 10 r=none:=by
 rw [h.eq]
 rcases hs with hs | hs
 · rw [List.drop_eq_nil_of_le hs]
   cases 10-i<;>rfl
 · rw [show 10-i=0 by omega];rfl
end
structure WrI (m0:Nat) (l:List UInt8) (m:Nat):Prop where
 le:l.length≤9
 lt:m<2*128 ^ (9-l.length)
 eq:l++lZ (10-l.length) m=aQ m0
theorem WrI.start{m:Nat}(h:m<18446744073709551616):WrI m [] m:=⟨Nat.zero_le _,Nat.lt_of_lt_of_le h (by decide),rfl⟩
theorem WrI.step{m0 m:Nat}{l:List UInt8}(h:WrI m0 l m)(hm:128≤m):WrI m0 (l++[UInt8.ofNat (m % 128+128)]) (m / 128):=by
 have hlt:=h.lt
 have hle:=h.le
 obtain ⟨k,hk⟩:∃ k,9-l.length=k+1:=by
   cases hh:9-l.length with
   | zero=>rw [hh] at hlt;omega
   | succ k=>exact ⟨k,rfl⟩
 have hk2:9-(l++[UInt8.ofNat (m % 128+128)]).length=k:=by simp;omega
 refine ⟨by simp;omega,?_,?_⟩
 · rw [hk2]
   rw [hk,Nat.pow_succ] at hlt
   exact Nat.div_lt_of_lt_mul (by omega)
 · rw [← h.eq]
   have e1:10-l.length=(k+1)+1:=by omega
   have e2:10-(l++[UInt8.ofNat (m % 128+128)]).length=k+1:=by simp;omega
   rw [e1,e2,List.append_assoc]
   show _=l++lZ (k+1+1) m
   rw [show lZ (k+1+1) m=UInt8.ofNat (m % 128+128)::lZ (k+1) (m / 128) from by rw [lZ,if_neg (by omega)]]
   rfl
theorem WrI.last{m0 m:Nat}{l:List UInt8}(h:WrI m0 l m)(hm:m<128):l++[UInt8.ofNat m]=aQ m0:=by
 have hle:=h.le
 rw [← h.eq,show 10-l.length=9-l.length+1 by omega,lZ,if_pos hm]
end Go.Lv

namespace Go.Proofs.YtebnelfdimiifaaGreatDoor
open Go.RowKit Go.Lp Go.Sy
end Go.Proofs.YtebnelfdimiifaaGreatDoor

namespace Go.Sy
open Go.RowKit Go.Lp
theorem aZ{P:Program}{n:Fr}{env:Env}{ps:List Per}{hp:List Res}{c:Code}{Q:Exit→Sta→Prop}(p:Per)(hp':Ent ps p)(h:awp P n c Q ⟨env,p::ps,hp⟩):awp P n c Q ⟨env,ps,hp⟩:=fun w S fp a hst he hn hd =>
 h w S fp a ⟨fun q hq=>(List.mem_cons.1 hq).elim (fun e=>e ▸ hp' w S hst.per) (fun h=>hst.per q h),hst.res,hst.lt,hst.dj,hst.slt⟩ he hn hd
theorem adF{w:World}{S F:bH}{v:Value}{E:TypeId}{sz:Nat}{rows:List (List D)}(h:(aN v E sz rows).holds w S F):∃ ad cap,v=.slice ad rows.length cap:=by
 rcases h with ⟨h1,h2,_⟩ | ⟨b,cap,h1,_⟩
 · subst h2;exact ⟨none,0,h1⟩
 · exact ⟨_,cap,h1⟩
theorem vv{P:Program}{n:Fr}{env:Env}{ps:List Per}{hp:List Res}{c:Code}{Q:Exit→Sta→Prop}(i:Nat){v:Value}{T:TypeId}{sz:Nat}{rows:List (List D)}(hi:hp[i]? = some (aN v T sz rows))(h:∀ ad cp,v=.slice ad rows.length cp→awp P n c Q ⟨env,ps,hp⟩):awp P n c Q ⟨env,ps,hp⟩:=fun w S fp a hst he hn hd=>by
 obtain ⟨ad,cp,e⟩:=adF (hst.res i _ hi)
 exact h ad cp e w S fp a hst he hn hd
end Go.Sy
namespace Go.Proofs.YtebnelfdimiifaaGreatDoor
open Go.RowKit Go.Lp Go.Sy
end Go.Proofs.YtebnelfdimiifaaGreatDoor

namespace Go.Proofs
open Go.Shelf
def Tryz.lays189_ren:Go.Shelf.Ren:=⟨fun | 189=>203 | 125=>176 | 257=>216 | 128=>192 | 129=>193 | 294=>218 | 295=>219 | 296=>220 | 297=>221 | 298=>222 | 299=>223 | 216=>224 | 300=>225 | 301=>226 | 328=>227 | 329=>207 | 330=>208 | 331=>228 | 332=>229 | 215=>177 | 343=>230 | n=>n,fun | 28=>25 | 3=>3 | 46=>206 | 0=>0 | 51=>256 | 53=>135 | 4=>4 | 183=>282 | 182=>281 | 131=>47 | 5=>5 | 9=>9 | 218=>302 | 222=>90 | 228=>319 | 229=>320 | n=>n,fun | n=>n⟩
theorem Tryz.lays189:Go.Proofs.Lays.n189 Tryz.prog Tryz.lays189_ren := {
 mixed:=by kernel_rfl
 f125:=Tryz.func176.trans (congrArg some (by kernel_rfl))
 f128:=Tryz.func192.trans (congrArg some (by kernel_rfl))
 f129:=Tryz.func193.trans (congrArg some (by kernel_rfl))
 f189:=Tryz.func203.trans (congrArg some (by kernel_rfl))
 f215:=Tryz.func177.trans (congrArg some (by kernel_rfl))
 f216:=Tryz.func224.trans (congrArg some (by kernel_rfl))
 f257:=Tryz.func216.trans (congrArg some (by kernel_rfl))
 f294:=Tryz.func218.trans (congrArg some (by kernel_rfl))
 f295:=Tryz.func219.trans (congrArg some (by kernel_rfl))
 f296:=Tryz.func220.trans (congrArg some (by kernel_rfl))
 f297:=Tryz.func221.trans (congrArg some (by kernel_rfl))
 f298:=Tryz.func222.trans (congrArg some (by kernel_rfl))
 f299:=Tryz.func223.trans (congrArg some (by kernel_rfl))
 f300:=Tryz.func225.trans (congrArg some (by kernel_rfl))
 f301:=Tryz.func226.trans (congrArg some (by kernel_rfl))
 f328:=Tryz.func227.trans (congrArg some (by kernel_rfl))
 f329:=Tryz.func207.trans (congrArg some (by kernel_rfl))
 f330:=Tryz.func208.trans (congrArg some (by kernel_rfl))
 f331:=Tryz.func228.trans (congrArg some (by kernel_rfl))
 f332:=Tryz.func229.trans (congrArg some (by kernel_rfl))
 f343:=Tryz.func230.trans (congrArg some (by kernel_rfl))
 t0:=Tryz.underlying0
 a0:=Tryz.isAgg0
 z0:=Tryz.sizeOf0
 v0:=Tryz.zeroValue0
 t3:=Tryz.underlying3
 a3:=Tryz.isAgg3
 z3:=Tryz.sizeOf3
 v3:=Tryz.zeroValue3
 t4:=Tryz.underlying4
 a4:=Tryz.isAgg4
 z4:=Tryz.sizeOf4
 v4:=Tryz.zeroValue4
 t5:=Tryz.underlying5
 a5:=Tryz.isAgg5
 z5:=Tryz.sizeOf5
 v5:=Tryz.zeroValue5
 t9:=Tryz.underlying9
 a9:=Tryz.isAgg9
 z9:=Tryz.sizeOf9
 v9:=Tryz.zeroValue9
 t28:=Tryz.underlying25
 a28:=Tryz.isAgg25
 z28:=Tryz.sizeOf25
 v28:=Tryz.zeroValue25
 t46:=Tryz.underlying206
 a46:=Tryz.isAgg206
 z46:=Tryz.sizeOf206
 v46:=Tryz.zeroValue206
 t51:=Tryz.underlying256
 a51:=Tryz.isAgg256
 z51:=Tryz.sizeOf256
 v51:=Tryz.zeroValue256
 t53:=Tryz.underlying135
 a53:=Tryz.isAgg135
 z53:=Tryz.sizeOf135
 v53:=Tryz.zeroValue135
 t131:=Tryz.underlying47
 a131:=Tryz.isAgg47
 z131:=Tryz.sizeOf47
 v131:=Tryz.zeroValue47
 t182:=Tryz.underlying281
 a182:=Tryz.isAgg281
 z182:=Tryz.sizeOf281
 v182:=Tryz.zeroValue281
 t183:=Tryz.underlying282
 a183:=Tryz.isAgg282
 z183:=Tryz.sizeOf282
 v183:=Tryz.zeroValue282
 t218:=Tryz.underlying302
 a218:=Tryz.isAgg302
 z218:=Tryz.sizeOf302
 v218:=Tryz.zeroValue302
 t222:=Tryz.underlying90
 a222:=Tryz.isAgg90
 z222:=Tryz.sizeOf90
 v222:=Tryz.zeroValue90
 t228:=Tryz.underlying319
 a228:=Tryz.isAgg319
 z228:=Tryz.sizeOf319
 v228:=Tryz.zeroValue319
 t229:=Tryz.underlying320
 a229:=Tryz.isAgg320
 z229:=Tryz.sizeOf320
 v229:=Tryz.zeroValue320 }
def Tryz.lays20_ren:Go.Shelf.Ren:=⟨fun | 20=>204 | n=>n,fun | 22=>25 | 3=>3 | 4=>4 | 0=>0 | n=>n,fun | n=>n⟩
theorem Tryz.lays20:Go.Proofs.Lays2.n20 Tryz.prog Tryz.lays20_ren := {
 mixed:=by kernel_rfl
 f20:=Tryz.func204.trans (congrArg some (by kernel_rfl))
 t0:=Tryz.underlying0
 a0:=Tryz.isAgg0
 z0:=Tryz.sizeOf0
 v0:=Tryz.zeroValue0
 t3:=Tryz.underlying3
 a3:=Tryz.isAgg3
 z3:=Tryz.sizeOf3
 v3:=Tryz.zeroValue3
 t4:=Tryz.underlying4
 a4:=Tryz.isAgg4
 z4:=Tryz.sizeOf4
 v4:=Tryz.zeroValue4
 t22:=Tryz.underlying25
 a22:=Tryz.isAgg25
 z22:=Tryz.sizeOf25
 v22:=Tryz.zeroValue25
 i3:=by kernel_rfl }
def Tryz.lays112_ren:Go.Shelf.Ren:=⟨fun | 112=>205 | n=>n,fun | 28=>25 | 3=>3 | 4=>4 | 0=>0 | n=>n,fun | n=>n⟩
theorem Tryz.lays112:Go.Proofs.Lays.n112 Tryz.prog Tryz.lays112_ren := {
 mixed:=by kernel_rfl
 f112:=Tryz.func205.trans (congrArg some (by kernel_rfl))
 t0:=Tryz.underlying0
 a0:=Tryz.isAgg0
 z0:=Tryz.sizeOf0
 v0:=Tryz.zeroValue0
 t3:=Tryz.underlying3
 a3:=Tryz.isAgg3
 z3:=Tryz.sizeOf3
 v3:=Tryz.zeroValue3
 t4:=Tryz.underlying4
 a4:=Tryz.isAgg4
 z4:=Tryz.sizeOf4
 v4:=Tryz.zeroValue4
 t28:=Tryz.underlying25
 a28:=Tryz.isAgg25
 z28:=Tryz.sizeOf25
 v28:=Tryz.zeroValue25 }
end Go.Proofs

namespace Go.Sy
open Go.RowKit Go.Lp
section
variable {P:Program} {n:Fr} {env:Env} {ps:List Per} {hp:List Res} {ty:TypeId} {pos:String} {af:Array Edge} {gd:Option (Nat × Bool)} {d:Option Tmp} {E T:TypeId} {sz:Nat} {x y:Operand} {c:Code} {Q:Exit→Sta→Prop}
theorem fW{B m cp:Nat}(k:Nat)(hel:elB P T E sz=true)(hx:ev env x=some (true,.slice (some ⟨B,0,none⟩) m cp)){z:Int}(hy:ev env y=some (true,.int .i64 z))(hz:z=(k:Int))(hk:k<m) :
   Quiet P n ⟨d,.indexAddr T x y,ty,pos,af,gd⟩ ⟨env,ps,hp⟩ (.pointer (some ⟨B,k*sz,none⟩)):=fun w S fp a hst he hn=>by
 subst hz
 obtain ⟨hT,it,hit,_,hsz,_⟩:=dF hel
 have h1:=he.val hx rfl
 have h2:=he.val hy rfl
 have:(execOp a.eval ⟨d,.indexAddr T x y,ty,pos,af,gd⟩).run P w=.ok (.value (.pointer (some ⟨B,k*sz,none⟩))) w:=by
   unfold execOp;dsimp only;rw [h1,h2]
   show ((Instr.indexAt T (.slice (some ⟨B,0,none⟩) m cp) (.int .i64 k)).bind fun r=>Sem.pure (Next.value r)).run P w=_
   have hE:P.elem T=E:=by unfold Program.elem;rw [hT]
   rw [Sem.run_bind',run_indexAt_slice _ _ _ _ _ _ _ (by rw [hE];exact hT),if_pos (by omega),hE,db hit,hsz]
   simp only [Result.andThen,Int.toNat_natCast]
   unfold Addr.add
   split
   · rename_i h0;rw [h0];rfl
   · simp only [Nat.zero_add];rfl
 rw [this];exact cg _ _
theorem fm(i:Nat){v:Value}{rows:List (List D)}(hi:hp[i]? = some (aN v E sz rows))(h0:rows≠[])(h:∀ B cp,v=.slice (some ⟨B,0,none⟩) rows.length cp→awp P n c Q ⟨env,ps,hp⟩):awp P n c Q ⟨env,ps,hp⟩ :=
 fK (φ:=∃ B cp,v=.slice (some ⟨B,0,none⟩) rows.length cp) i hi (fun w S F hh=>by
   rcases hh with ⟨_,h1,_⟩ | ⟨B,cp,h1,_⟩
   · exact (h0 h1).elim
   · exact ⟨B,cp,h1⟩) (fun ⟨B,cp,e⟩=>h B cp e)
end
end Go.Sy
namespace Go.Proofs.YtebnelfdimiifaaGreatDoor
open Go.RowKit Go.Lp Go.Sy Go.Sort Go.Shelf
abbrev encI(z:Int):Value:=.int .i64 z
def fT(zs:List Int):List Int:=zs.mergeSort fun x y=>decide (x≤y)
end Go.Proofs.YtebnelfdimiifaaGreatDoor

namespace Go.Proofs.YtebnelfdimiifaaGreatDoor
open Go.RowKit Go.Lp Go.Sy
def gn(L:List (List Int))(a:dm):List (List Int):=L.set a.from_.toNat (L.getD a.from_.toNat []++[a.to_])
def dZ(N:Nat)(l:List dm):List (List Int):=l.foldl gn (List.replicate N [])
theorem mb(L:List (List Int))(a:dm):(gn L a).length=L.length:=by simp [gn]
theorem oI(l:List dm):∀ L:List (List Int),(l.foldl gn L).length=L.length:=by
 induction l with
 | nil=>intro L;rfl
 | cons a l ih=>intro L;rw [List.foldl_cons,ih,mb]
theorem dB(N:Nat)(l:List dm):(dZ N l).length=N:=by unfold dZ;rw [oI];simp
theorem w6(N:Nat)(l:List dm){k:Nat}{a:dm}(h:l[k]? = some a):dZ N (l.take (k+1))=gn (dZ N (l.take k)) a:=by
 unfold dZ;rw [List.take_add_one,h,List.foldl_append];rfl
theorem pT(l:List dm):∀ (L:List (List Int)) (m:Nat),(∀ r∈L,r.length≤m)→∀ r∈l.foldl gn L,r.length≤m+l.length:=by
 induction l with
 | nil=>intro L m h r hr;exact h r hr
 | cons a l ih =>
   intro L m h r hr
   rw [List.foldl_cons] at hr
   have:=ih (gn L a) (m+1) (fun r hr=>by
     unfold gn at hr
     rcases List.mem_or_eq_of_mem_set hr with h1 | rfl
     · exact Nat.le_succ_of_le (h r h1)
     · have:(L.getD a.from_.toNat []).length≤m:=by
         by_cases hlt:a.from_.toNat<L.length
         · rw [show L.getD a.from_.toNat []=L[a.from_.toNat] by simp [List.getD,hlt]];exact h _ (List.getElem_mem hlt)
         · rw [show L.getD a.from_.toNat []=[] by simp [List.getD,Nat.not_lt.1 hlt]];exact Nat.zero_le _
       rw [List.length_append,List.length_singleton];omega) r hr
   rw [List.length_cons];omega
theorem tD(N:Nat)(l:List dm){r:List Int}(h:r∈dZ N l):r.length≤l.length:=by
 have:=pT l (List.replicate N []) 0 (fun r hr=>by rw [(List.mem_replicate.1 hr).2];exact Nat.le_refl _) r h
 omega
def dx(zs:List Int):List Int:=Lib.compact (fT zs)
def dv(N:Nat)(l:List dm):List (List Int):=(dZ N l).map dx
def gG(L:List (List Int))(k:Nat):List (List Int):=(L.take k).map dx++L.drop k
theorem mx(L:List (List Int))(k:Nat)(h:k≤L.length):(gG L k).length=L.length:=by simp [gG];omega
theorem y7{L:List (List Int)}{k:Nat}{x:List Int}(h:L[k]? = some x):(gG L k)[k]? = some x:=by
 have hk:=(List.getElem?_eq_some_iff.1 h).1
 unfold gG
 rw [List.getElem?_append_right (by simp;omega)]
 simp only [List.length_map,List.length_take,List.getElem?_drop]
 rw [show k+(k-min k L.length)=k by omega];exact h
theorem xa{L:List (List Int)}{k:Nat}{x:List Int}(h:L[k]? = some x):(gG L k).set k (dx x)=gG L (k+1):=by
 have hk:=(List.getElem?_eq_some_iff.1 h).1
 unfold gG
 rw [List.set_append_right _ _ (by simp;omega),List.take_add_one,h,List.map_append,List.append_assoc]
 congr 1
 rw [List.length_map,List.length_take,show k-min k L.length=0 by omega,List.drop_eq_getElem_cons hk,List.set_cons_zero]
 rfl
theorem lW(vs:List Value)(k:Nat)(v:Value):dy (vs.set k v)=(dy vs).set k [.v v]:=by simp [dy,List.map_set]
theorem aaH{P:Program}{n:Fr}{env:Env}{ps:List Per}{hp:List Res}{c:Code}{Q:Exit→Sta→Prop}{α:Type}{enc:α→Value}{vo:Value}{T E:TypeId}{l:List (List α)}(i:Nat)(hi:hp[i]? = some (kz vo T E enc l))(h:∀ ad cp,vo=.slice ad l.length cp→awp P n c Q ⟨env,ps,hp⟩):awp P n c Q ⟨env,ps,hp⟩ :=
 fK (φ:=∃ ad cp,vo=.slice ad l.length cp) i hi (fun w S F hh=>by
   obtain ⟨vs,hl,G,H,hG,hH,_,e⟩:=hh
   rcases hG with ⟨h1,h2,_⟩ | ⟨B,cp,h1,_⟩
   · refine ⟨none,0,?_⟩
     have:vs=[]:=by simpa [dy] using h2
     subst this
     rw [← hl];exact h1
   · exact ⟨_,cp,by rw [h1,lV,hl]⟩) (fun ⟨ad,cp,e⟩=>h ad cp e)
end Go.Proofs.YtebnelfdimiifaaGreatDoor

namespace Go.Sy
open Go.RowKit Go.Lp Go.Sort
section
variable {P:Program} {n:Fr} {env:Env} {ps:List Per} {hp:List Res} {s:Sta} {d:Option Tmp} {ty:TypeId} {pos:String} {af:Array Edge} {gd:Option (Nat × Bool)} {x y:Operand} {K:Sta→Prop}
theorem iM{T E:TypeId}{sz m c B o:Nat}{kk:IntKind}{z:Int}(k:Nat)(hel:elB P T E sz=true)(hx:ev s.env x=some (true,.slice (some ⟨B,o,none⟩) m c))
   (hy:ev s.env y=some (true,.int kk z)) (hz:z=(k:Int)) (hk:k≤m) (hm:m≤c) :
   Quiet P n ⟨d,.slice T x none (some y) none,ty,pos,af,gd⟩ s (.slice (some ⟨B,o,none⟩) k c):=fun w S fp a hst he hn=>by
 have h1:=he.val hx rfl
 subst hz
 have h2:=he.val hy rfl
 obtain ⟨hT,it,hi,_,hsz,_⟩:=dF hel
 have hE:P.elem T=E:=by unfold Program.elem;rw [hT]
 have hrun:∀ w1,(execOp a.eval ⟨d,.slice T x none (some y) none,ty,pos,af,gd⟩).run P w1=.ok (.value (sliced (some ⟨B,o,none⟩) 0 k c sz)) w1:=fun w1=>by
   unfold execOp;dsimp only;simp only [Option.map_some,Option.map_none];rw [h1,h2]
   show ((Instr.sliceAt T (.slice (some ⟨B,o,none⟩) m c) none (some (.int kk k)) none).bind fun r=>Sem.pure (Next.value r)).run P w1=_
   have hT':P.underlying T=some (.slice (P.elem T)):=by rw [hT,hE]
   rw [Sem.run_bind',run_sliceAt_slice w1 T _ _ _ _ hT',run_slice_h w1 T _ m c hT' kk k (by omega) (by omega),hE,db hi,hsz]
   rfl
 have e:sliced (some ⟨B,o,none⟩) 0 k c sz=.slice (some ⟨B,o,none⟩) k c:=by
   unfold sliced
   simp only [Nat.sub_zero]
   congr 1
   split
   · rfl
   · simp [tZ]
 rw [hrun,e];exact cg _ _
theorem oN{T E:TypeId}{sz m c B o:Nat}{kk:IntKind}{z:Int}(k m' o':Nat)(hel:elB P T E sz=true)(hx:ev s.env x=some (true,.slice (some ⟨B,o,none⟩) m c))
   (hy:ev s.env y=some (true,.int kk z)) (hz:z=(k:Int)) (hk:k<m) (hm:m≤c) (hm':m-k=m') (ho:o+k*sz=o') :
   Quiet P n ⟨d,.slice T x (some y) none none,ty,pos,af,gd⟩ s (.slice (some ⟨B,o',none⟩) m' (c-k)):=fun w S fp a hst he hn=>by
 have h1:=he.val hx rfl
 subst hz
 have h2:=he.val hy rfl
 obtain ⟨hT,it,hi,_,hsz,_⟩:=dF hel
 have hE:P.elem T=E:=by unfold Program.elem;rw [hT]
 have hrun:∀ w1,(execOp a.eval ⟨d,.slice T x (some y) none none,ty,pos,af,gd⟩).run P w1=.ok (.value (sliced (some ⟨B,o,none⟩) k m c sz)) w1:=fun w1=>by
   unfold execOp;dsimp only;simp only [Option.map_some,Option.map_none];rw [h1,h2]
   show ((Instr.sliceAt T (.slice (some ⟨B,o,none⟩) m c) (some (.int kk k)) none none).bind fun r=>Sem.pure (Next.value r)).run P w1=_
   have hT':P.underlying T=some (.slice (P.elem T)):=by rw [hT,hE]
   rw [Sem.run_bind',run_sliceAt_slice w1 T _ _ _ _ hT',run_slice_l w1 T _ m c hT' kk k (by omega) (by omega),hE,db hi,hsz]
   rfl
 have e:sliced (some ⟨B,o,none⟩) k m c sz=.slice (some ⟨B,o',none⟩) m' (c-k):=by
   unfold sliced
   rw [← hm',← ho,if_neg (by omega)]
   simp [tZ]
 rw [hrun,e];exact cg _ _
end
section
variable {α:Type} [Inhabited α] {enc:α→Value}
variable {P:Program} {n:Fr} {env:Env} {ps:List Per} {hp:List Res} {ty:TypeId} {pos:String} {af:Array Edge} {gd:Option (Nat × Bool)} {K:Sta→Prop}
theorem aan{d:Option Tmp}{x y:Operand}{T T2 E:TypeId}{sz sl sc dc:Nat}{da sa:Option Addr}{s:Sta}(hel:elB P T E sz=true)(hx:ev s.env x=some (true,.slice da 0 dc))(hy:ev s.env y=some (true,.slice sa sl sc)) :
   Quiet P n ⟨d,.call ⟨.builtin .copy,#[x,y],#[T,T2]⟩,ty,pos,af,gd⟩ s (.int .i64 0):=fun w S fp a hst he hn=>by
 have h1:=he.val hx rfl
 have h2:=he.val hy rfl
 obtain ⟨hT,it,hi,_,hsz,_⟩:=dF hel
 have:(execOp a.eval ⟨d,.call ⟨.builtin .copy,#[x,y],#[T,T2]⟩,ty,pos,af,gd⟩).run P w=.ok (.value (.int .i64 0)) w:=by
   show ((Builtin.copy_ #[T,T2] ty (#[x,y].map a.eval)).bind fun r=>Sem.pure (Next.value r)).run P w=_
   have hargs : #[x,y].map a.eval = #[.slice da 0 dc,.slice sa sl sc]:=by simp [h1,h2]
   rw [hargs,Sem.run_bind']
   have:(Builtin.copy_ #[T,T2] ty #[.slice da 0 dc,.slice sa sl sc]).run P w=.ok (goInt 0) w:=by
     cases da<;>cases sa<;>simp [Builtin.copy_,run_underlying hT,Builtin.lenOf,Builtin.firstCells,sizeOf,typeInfo,hi,storeCells,loadCells,loadCellsFrom]<;>rfl
   rw [this];rfl
 rw [this];exact cg _ _
theorem acW{t:Nat}{x y:Operand}{T T2 E:TypeId}{B N o dl dc cp sl sc:Nat}{sa:Option Addr}{zs cs:List α}(i:Nat)(hel:elB P T E 1=true)(hone:∀ x:α,(enc x).oneCell'=true)
   (hx:ev env x=some (true,.slice (some ⟨B,o,none⟩) dl dc)) (hy:ev env y=some (true,.slice sa sl sc)) (ht:fits n (some t)=true)
   (hi:hp[i]? = some (aN (.slice (some ⟨B,0,none⟩) N cp) E 1 (cD enc zs))) (hN:zs.length=N) (hlen:cs.length=min sl dl) (hfit:o+cs.length≤zs.length)
   (hsrc:∀ w S fp sp,St w S fp ps hp→w.heap[B]? = some (.cells (zs.map enc++sp).toArray E (0,0))→∃ sb:Addr,sa=some sb∧∀ j c,cs[j]? = some c→w.cell? (sb.add j)=some (enc c))
   (zs':List α) (hz':zs.take o++cs++zs.drop (o+cs.length)=zs') (m:Int) (hm:m=cs.length)
   (hK:K ⟨(t,true,.int .i64 m)::env,ps,hp.set i (aN (.slice (some ⟨B,0,none⟩) N cp) E 1 (cD enc zs'))⟩) :
   Eff P n ⟨some t,.call ⟨.builtin .copy,#[x,y],#[T,T2]⟩,ty,pos,af,gd⟩ ⟨env,ps,hp⟩ false K:=.change i hi fun w S fp a hst he hn hR=>by
 subst hN
 have h1:=he.val hx rfl
 have h2:=he.val hy rfl
 obtain ⟨hT,it,hit,_,hsz,_⟩:=dF hel
 rcases aak hR with ⟨hv,_⟩ | ⟨b,cap,sp,hv,hb,hcap,hcm,hF,hH⟩
 · simp at hv
 · obtain ⟨rfl,rfl⟩:B=b∧cp=cap:=by simpa using hv
   obtain ⟨sb,rfl,hcell⟩:=hsrc w S fp sp hst hb
   have hlz:zs'.length=zs.length:=by rw [← hz'];simp;omega
   have hrun:(Builtin.copy_ #[T,T2] ty #[.slice (some ⟨B,o,none⟩) dl dc,.slice (some sb) sl sc]).run P w=.ok (goInt cs.length) (w.setRow B (zs'.map enc++sp).toArray):=by
     have:=run_copy_row (P:=P) w T T2 ty E B o dl dc sb sl sc _ E (cs.map enc) hT (by rw [hit];exact congrArg some hsz) hb (by simpa using hlen)
       (fun j v hj=>by
         rw [List.getElem?_map,Option.map_eq_some_iff] at hj
         obtain ⟨c,hc,rfl⟩:=hj
         exact hcell j c hc)
       (by simp;omega) (fun v hv=>by obtain ⟨c,_,rfl⟩:=List.mem_map.1 hv;exact hone c)
     rw [this,List.length_map]
     congr 3
     rw [← hz']
     simp only [List.map_append,List.map_take,List.map_drop]
     rw [List.take_append_of_le_length (by simp;omega),List.drop_append_of_le_length (by simp;omega)]
     simp
   have:(execOp a.eval ⟨some t,.call ⟨.builtin .copy,#[x,y],#[T,T2]⟩,ty,pos,af,gd⟩).run P w=.ok (.value (.int .i64 m)) (w.setRow B (zs'.map enc++sp).toArray):=by
     show ((Builtin.copy_ #[T,T2] ty (#[x,y].map a.eval)).bind fun r=>Sem.pure (Next.value r)).run P w=_
     have hargs : #[x,y].map a.eval = #[.slice (some ⟨B,o,none⟩) dl dc,.slice (some sb) sl sc]:=by simp [h1,h2]
     rw [hargs,Sem.run_bind',hrun,hm];rfl
   rw [this]
   have hbS:¬ S B:=(hst.lt i (List.getElem?_eq_some_iff.1 hi).1 B ((hF B).2 rfl)).2
   refine ⟨aN _ E 1 (cD enc zs'),_,hK,rfl,rfl,he.put (g:=true) (by rw [hn];simpa [fits] using ht) _,?_,rfl,rfl,⟨rfl,rfl⟩,by simp [World.setRow],fun b' hb' hne=>setRow_other _ _ _ _ (fun h=>hne ((hF b').2 h))⟩
   refine .inr ⟨B,cp,by rw [dG,hlz],⟨zs'.map enc,sp,setRow_heap _ _ _ _ _ _ hb,?_,by rw [Nat.mul_one,← hcap,List.length_append,List.length_map,hlz],by rw [dG,hlz];omega,hcm⟩,hF⟩
   refine ⟨by simp [cD],fun i r hi => ?_,fun u hu => ?_,fun i j r d h1 h2 => ?_⟩
   · simp only [cD,List.getElem?_map,Option.map_eq_some_iff] at hi
     obtain ⟨x,_,rfl⟩:=hi;rfl
   · obtain ⟨x,_,rfl⟩:=List.mem_map.1 hu;exact hone x
   · simp only [cD,List.getElem?_map,Option.map_eq_some_iff] at h1
     obtain ⟨x,hx,rfl⟩:=h1
     cases j with
     | zero =>
       simp only [List.getElem?_cons_zero,Option.some.injEq] at h2
       subst h2
       exact ⟨enc x,by simp [hx],.v _⟩
     | succ j=>simp at h2
theorem aeH{t:Nat}{x y:Operand}{T T2 E:TypeId}{B N o dl dc cp sl sc:Nat}{sa:Option Addr}{zs xs:List α}(i:Nat)(hel:elB P T E 1=true)(hone:∀ x:α,(enc x).oneCell'=true)
   (hx:ev env x=some (true,.slice (some ⟨B,o,none⟩) dl dc)) (hy:ev env y=some (true,.slice sa sl sc)) (ht:fits n (some t)=true)
   (hi:hp[i]? = some (aN (.slice (some ⟨B,0,none⟩) N cp) E 1 (cD enc zs))) (hN:zs.length=N) (hs:Sh (.slice sa sl sc) (.sl (cD enc xs))∈ps) (h0:xs≠[]) (hle:xs.length≤dl) (hfit:o+xs.length≤zs.length)
   (zs':List α) (hz':zs.take o++xs++zs.drop (o+xs.length)=zs') (hsl:sl=xs.length)
   (hK:K ⟨(t,true,.int .i64 xs.length)::env,ps,hp.set i (aN (.slice (some ⟨B,0,none⟩) N cp) E 1 (cD enc zs'))⟩) :
   Eff P n ⟨some t,.call ⟨.builtin .copy,#[x,y],#[T,T2]⟩,ty,pos,af,gd⟩ ⟨env,ps,hp⟩ false K:=by
 refine acW (cs:=xs) i hel hone hx hy ht hi hN (by rw [hsl];omega) hfit (fun w S fp sp hst _ => ?_) zs' hz' _ rfl hK
 have hrep:=hst.per _ hs
 generalize hrows:cD enc xs=rows at hrep
 cases hrep with
 | e a c hc=>simp [cD] at hrows;exact (h0 hrows).elim
 | sl b o c sz _ us hb hn' hc hrl hcell hd =>
     subst hrows
     have hg:∀ (j:Nat) c,xs[j]? = some c→(cD enc xs)[j]? = some [D.v (enc c)]:=fun j c hj=>by simp [cD,hj]
     have hsz:sz=1:=by
       obtain ⟨c0,hc0⟩:∃ c,xs[0]? = some c:=⟨_,List.getElem?_eq_getElem (List.length_pos_iff.2 h0)⟩
       have:=hrl 0 _ (hg 0 c0 hc0);simpa using this.symm
     subst hsz
     refine ⟨_,rfl,fun j c hj => ?_⟩
     have h1:=(hcell j 0 _ _ (hg j c hj) rfl).1
     rw [jt (hd j 0 _ _ (hg j c hj) rfl),Nat.mul_one,Nat.add_zero] at h1
     rw [tZ];exact h1
theorem aeG{t:Nat}{x y:Operand}{T T2 E:TypeId}{B N o dl dc cp sl sc:Nat}{zs:List α}(i:Nat)(hel:elB P T E 1=true)(hone:∀ x:α,(enc x).oneCell'=true)
   (hx:ev env x=some (true,.slice (some ⟨B,o,none⟩) dl dc)) (hy:ev env y=some (true,.slice (some ⟨B,0,none⟩) sl sc)) (ht:fits n (some t)=true)
   (hi:hp[i]? = some (aN (.slice (some ⟨B,0,none⟩) N cp) E 1 (cD enc zs))) (hN:zs.length=N) (k:Nat) (hk:k=min sl dl) (hfit:o+k≤zs.length)
   (zs':List α) (hz':zs.take o++zs.take k++zs.drop (o+k)=zs')
   (hK:K ⟨(t,true,.int .i64 k)::env,ps,hp.set i (aN (.slice (some ⟨B,0,none⟩) N cp) E 1 (cD enc zs'))⟩) :
   Eff P n ⟨some t,.call ⟨.builtin .copy,#[x,y],#[T,T2]⟩,ty,pos,af,gd⟩ ⟨env,ps,hp⟩ false K:=by
 have hl:(zs.take k).length=k:=by rw [List.length_take];omega
 refine acW (cs:=zs.take k) i hel hone hx hy ht hi hN (by rw [hl,hk]) (by rw [hl];exact hfit) (fun w S fp sp hst hb=>⟨_,rfl,fun j c hj => ?_⟩) zs' (by rw [hl];exact hz') k (by rw [hl]) hK
 have hj':j<zs.length:=by
   have:=(List.getElem?_eq_some_iff.1 hj).1
   rw [hl] at this;omega
 rw [tZ,Nat.zero_add,ec hb,List.getElem?_append_left (by simpa using hj'),List.getElem?_map]
 rw [List.getElem?_take] at hj
 split at hj
 · rw [hj];rfl
 · cases hj
end
end Go.Sy

namespace Go.Proofs
open Go.Shelf
def Tryz.lays212_ren:Go.Shelf.Ren:=⟨fun | 212=>117 | 263=>163 | 264=>164 | n=>n,fun | 46=>206 | 51=>256 | 146=>257 | 53=>135 | 148=>259 | n=>n,fun | n=>n⟩
theorem Tryz.lays212:Go.Proofs.Lays.n212 Tryz.prog Tryz.lays212_ren := {
 mixed:=by kernel_rfl
 f212:=Tryz.func117.trans (congrArg some (by kernel_rfl))
 f263:=Tryz.func163.trans (congrArg some (by kernel_rfl))
 f264:=Tryz.func164.trans (congrArg some (by kernel_rfl))
 t46:=Tryz.underlying206
 a46:=Tryz.isAgg206
 z46:=Tryz.sizeOf206
 v46:=Tryz.zeroValue206
 t51:=Tryz.underlying256
 a51:=Tryz.isAgg256
 z51:=Tryz.sizeOf256
 v51:=Tryz.zeroValue256
 t53:=Tryz.underlying135
 a53:=Tryz.isAgg135
 z53:=Tryz.sizeOf135
 v53:=Tryz.zeroValue135
 t146:=Tryz.underlying257
 a146:=Tryz.isAgg257
 z146:=Tryz.sizeOf257
 v146:=Tryz.zeroValue257
 t148:=Tryz.underlying259
 a148:=Tryz.isAgg259
 z148:=Tryz.sizeOf259
 v148:=Tryz.zeroValue259 }
end Go.Proofs


